/-
  Texts of this claim, put together: Does2, Does3, Begin, Begin2, Is, Plays, Plays2, Open.
-/
import Derived.Laws.BitsLemmas
import Derived.Deep.RegionHeld3
import Derived.Deep.Slices
import Derived.Deep.Fields
import Derived.ChangeSame
import Derived.Carry
import Derived.ProofKit
import Derived.OpenShut
import Derived.Test.YtkhihpmadmmeaaaMPl4
set_option linter.unusedSimpArgs false
set_option linter.unusedVariables false
set_option maxHeartbeats 2000000
set_option maxRecDepth 100000
namespace Go.Proofs.Ytkhihpmadmmeaaa
open Go.RowKit Go.Hs

theorem extDrawn {w w' : World} (h : Go.Proofs.YtkhihpmadmmeaaaW.PrintWords.Drawn0 w w') : Ext [] w w' := by
  obtain ⟨n, rfl⟩ := h
  exact (Ext.refl _ _).drewN n
/-- At most n bytes. -/
def cutB (s : ByteArray) (n : Nat) : ByteArray := if n < s.size then s.extract 0 n else s
theorem cutB_size (s : ByteArray) (n : Nat) : (cutB s n).size ≤ n := by
  unfold cutB
  split
  · simp [ByteArray.size_extract]; omega
  · omega
theorem cutB_f (s : ByteArray) (n : Nat) (hn : (n : Int) < 1000000) : PSc.hindsightlaw01_Cut.f s n = some (cutB s n) := by
  unfold PSc.hindsightlaw01_Cut.f cutB
  by_cases h : n < s.size
  · rw [if_pos (by omega), if_pos (by omega), if_pos (by omega), if_pos h]; rfl
  · rw [if_neg (by omega), if_neg h]
theorem does_none (B : Nat) (y : Lay) (r : RLay) (lv : Value) (s : Sys) (n : Nat) (kind who : Int) (raw : ByteArray) (w : World) (hP : PAt B w.heap y lv s) (hX : XAt B w.heap y r s.P s.S s.ref) (hI : SInv s n) (hn : n < 100000) (hB : B ≤ w.heap.size)
    {x : PSt} (hx : s.L[whoOf who s.P]? = some x) (hk1 : ¬ kind = 1) (hk2 : ¬ kind = 2) (hk3 : ¬ kind = 3) :
    Calls Try.prog 16 #[.agg (stCells y r s), .agg #[.int .i64 kind, .int .i64 who, .string raw]] w fun e w' =>
      DoesPost B y lv w e w' s .no := by
  have hlen := hI.hL
  have hPp := hI.hP
  have hSs := hI.hS
  have hil := whoOf_lt who hPp.1
  obtain ⟨c, hc1, hc2, hc3, hc4⟩ := whoOf_eq who s.P
  generalize whoOf who s.P = i at *
  obtain ⟨b, m, hb, hm, hIp⟩ := hP.pr i x hx
  have hrp : s.ref.P[i]? = some (rpOf x) := by simp [Sys.ref, hx]
  have hcore := hI.core i x hx
  have hphs := hI.ph i x hx
  have hmb := lt_of_heap hP.me.hb
  have hmc := lt_of_heap hP.me.hc
  obtain ⟨hA, hD, hC, hZ, hE, hsz⟩ := alloc_four w (.cells #[.int .i64 s.P, .int .i64 s.S, .pointer (some ⟨y.mb, 0, none⟩), .slice (some ⟨y.lg, 0, none⟩) s.P y.lcap, .slice r.sao s.S r.scap, .slice r.wao s.P r.wcap, .slice (some ⟨r.pg, 0, none⟩) s.P r.pcap] 39) (.cells #[.int .i64 kind, .int .i64 who, .string raw] 46) (.cells #[.int .i64 0, .int .i64 0, .pointer none, .slice none 0 0, .slice none 0 0, .slice none 0 0, .slice none 0 0] 39) (.cells #[.bool false, .bool false, .int .i64 0] 42)
  have hP1 := hP.ext0 hE
  have hX1 := hX.ext0 hE
  have hI1 := hIp.ext hE (by simp) (by simp)
  have k1 : (kind == 1) = false := by simpa using hk1
  have k2 : (kind == 2) = false := by simpa using hk2
  have k3 : (kind == 3) = false := by simpa using hk3
  clear hk1 hk2 hk3
  unfold stCells
  go_enter Try.func16, Try.ntmps16
  go_upto_region 1 with fail
  generalize ((((w.alloc (.cells #[.int .i64 s.P, .int .i64 s.S, .pointer (some ⟨y.mb, 0, none⟩), .slice (some ⟨y.lg, 0, none⟩) s.P y.lcap, .slice r.sao s.S r.scap, .slice r.wao s.P r.wcap, .slice (some ⟨r.pg, 0, none⟩) s.P r.pcap] 39)).alloc (.cells #[.int .i64 kind, .int .i64 who, .string raw] 46)).alloc (.cells #[.int .i64 0, .int .i64 0, .pointer none, .slice none 0 0, .slice none 0 0, .slice none 0 0, .slice none 0 0] 39)).alloc (.cells #[.bool false, .bool false, .int .i64 0] 42)) = W at *
  have hAlt := lt_of_heap hA
  generalize hAA : w.heap.size = A at *
  have HAA := Hs.hid hAA
  clear hAA
  obtain ⟨q0, q1, q2, q3, q4, q5⟩ := hX1.rf.at hrp
  have a0 := cellAt hA 0
  have a1 := cellAt hA 1
  have a2 := cellAt hA 2
  have a3 := cellAt hA 3
  have a4 := cellAt hA 4
  have a5 := cellAt hA 5
  have a6 := cellAt hA 6
  have d0 := cellAt hD 0
  have d1 := cellAt hD 1
  have d2 := cellAt hD 2
  simp at a0 a1 a2 a3 a4 a5 a6 d0 d1 d2
  have l0 := Own.cells (w := W) rfl hP1.lb (g := y.lg) rfl i (.pointer (some ⟨b, 0, none⟩)) (by simp [hb])
  rw [add_off'] at l0
  simp only [rpOf] at q0
  clear q1 q2 q3 q4 q5
  have g1 : (1 : Int) ≤ s.P := by omega
  have g2 : (i : Int) < s.P := by omega
  have HX := Hs.hid hx
  have HI := Hs.hid hI
  have HB := Hs.hid (And.intro hb hm)
  have HE := Hs.hid hE
  have HN := Hs.hid (And.intro hn (And.intro hSs (And.intro hlen hmc)))
  have HRP := Hs.hid hrp
  have HSZ := Hs.hid hsz
  clear hx hI hb hm hE hn hSs hlen hmc hrp hsz hmb
  have hP6 := hP1
  have hX6 := hX1
  have hC6 := hC
  have hZ6 := hZ
  have hE6 : Ext (y.fixed ++ lv.ownBlock.toList) w W := HE.out.mono (F' := y.fixed ++ lv.ownBlock.toList) (by simp)
  generalize W = W6 at *
  have c0 := cellAt hC6 0
  have c1 := cellAt hC6 1
  have c2 := cellAt hC6 2
  have c3 := cellAt hC6 3
  have c4 := cellAt hC6 4
  have c5 := cellAt hC6 5
  have c6 := cellAt hC6 6
  have z0 := cellAt hZ6 0
  have z1 := cellAt hZ6 1
  have z2 := cellAt hZ6 2
  simp at c0 c1 c2 c3 c4 c5 c6 z0 z1 z2
  have cf := freeAt hC6
  have zf := freeAt hZ6
  have mem1 : A + 1 + 1 ∈ [A + 1 + 1, A + 1 + 1 + 1] := by simp
  have mem2 : A + 1 + 1 + 1 ∈ [A + 1 + 1, A + 1 + 1 + 1] := by simp
  go_wp2_with fail
  all_goals
    refine bodyPost_ret (v := .tuple #[.agg (stCells y r s), .agg #[.bool false, .bool false, .int .i64 0], .bool true]) (by simp [results, Try.results16, go_sem, stCells, c0, c1, c2, c3, c4, c5, c6, z0, z1, z2]) rfl ?_
    refine (fun (hx : Ext [A + 1 + 1, A + 1 + 1 + 1] W6 _) => ⟨r, lv, rfl, hP6.extT hx ?_, hX6.extT hx ?_, hE6.trans hx ?_⟩) ?_
    · repeat (first | (with_reducible exact Ext.refl _ _) | (with_reducible refine Ext.drew ?_) | (with_reducible refine Ext.set' mem1 ?_ _ _) | (with_reducible refine Ext.set' mem2 ?_ _ _))
    · intro g hg
      simp at hg
      rcases hg with rfl | rfl
      · exact ⟨_, _, _, hC6, by decide, by decide, by decide, by decide, by decide⟩
      · exact ⟨_, _, _, hZ6, by decide, by decide, by decide, by decide, by decide⟩
    · intro g hg
      simp at hg
      rcases hg with rfl | rfl
      · exact ⟨_, _, _, hC6, by decide, by decide⟩
      · exact ⟨_, _, _, hZ6, by decide, by decide⟩
    · intro g hg
      have := HAA.out
      simp at hg; omega
theorem does_begin0 (B : Nat) (y : Lay) (r : RLay) (lv : Value) (s : Sys) (n : Nat) (who : Int) (raw : ByteArray) (w : World) (hP : PAt B w.heap y lv s) (hX : XAt B w.heap y r s.P s.S s.ref) (hI : SInv s n) (hn : n < 100000) (hB : B ≤ w.heap.size)
    {x : PSt} (hx : s.L[whoOf who s.P]? = some x) (hph : x.phase = 0) :
    Calls Try.prog 16 #[.agg (stCells y r s), .agg #[.int .i64 2, .int .i64 who, .string raw]] w fun e w' =>
      DoesPost B y lv w e w' { s with L := s.L.set (whoOf who s.P) (x.doBegin (cutB raw 20)).2 } .no := by
  have hlen := hI.hL
  have hPp := hI.hP
  have hSs := hI.hS
  have hil := whoOf_lt who hPp.1
  obtain ⟨c, hc1, hc2, hc3, hc4⟩ := whoOf_eq who s.P
  generalize whoOf who s.P = i at *
  obtain ⟨b, m, hb, hm, hIp⟩ := hP.pr i x hx
  have hrp : s.ref.P[i]? = some (rpOf x) := by simp [Sys.ref, hx]
  have hcore := hI.core i x hx
  have hphs := hI.ph i x hx
  have hmb := lt_of_heap hP.me.hb
  have hmc := lt_of_heap hP.me.hc
  obtain ⟨hA, hD, hC, hZ, hE, hsz⟩ := alloc_four w (.cells #[.int .i64 s.P, .int .i64 s.S, .pointer (some ⟨y.mb, 0, none⟩), .slice (some ⟨y.lg, 0, none⟩) s.P y.lcap, .slice r.sao s.S r.scap, .slice r.wao s.P r.wcap, .slice (some ⟨r.pg, 0, none⟩) s.P r.pcap] 39) (.cells #[.int .i64 2, .int .i64 who, .string raw] 46) (.cells #[.int .i64 0, .int .i64 0, .pointer none, .slice none 0 0, .slice none 0 0, .slice none 0 0, .slice none 0 0] 39) (.cells #[.bool false, .bool false, .int .i64 0] 42)
  have hP1 := hP.ext0 hE
  have hX1 := hX.ext0 hE
  have hI1 := hIp.ext hE (by simp) (by simp)
  have hok := okOf hI hn hil hcore hphs
  have hcut : PSc.hindsightlaw01_Cut.f raw 20 = some (cutB raw 20) := cutB_f raw 20 (by decide)
  have hsz20 := cutB_size raw 20
  have hact := begin_any b m x (cutB raw 20)
  have hd : (x.doBegin (cutB raw 20)) = (0, { x with phase := 1, mwho := x.who, seq := x.seq + 1, body := cutB raw 20 }) := by unfold PSt.doBegin; rw [if_pos hph, if_pos (by omega)]
  have hsim : ({ s.ref with P := s.ref.P.set i { rpOf x with who := i, seq := x.seq + 1, body := cutB raw 20, next := 1 } } : RW) = ({ s with L := s.L.set i (x.doBegin (cutB raw 20)).2 } : Sys).ref := by
    rw [hd]
    simp only [Sys.ref, map_rp]
    simp only [rpOf, hcore.who]
  have hsim' : ({ s.ref with P := s.ref.P.set i { rpOf x with who := i, seq := (rpOf x).seq + 1, body := cutB raw 20, next := 1 } } : RW) = ({ s with L := s.L.set i (x.doBegin (cutB raw 20)).2 } : Sys).ref := hsim
  have hrs := fun w hR => refBegin_any s.S s.P r.sao r.scap r.wao r.wcap r.pg r.pcap s.ref i (cutB raw 20) (rpOf x) w hR hrp (by omega) (by show (x.seq : Int) < 1000000000; have := hok.seq; omega)
  rw [hsim'] at hrs
  have hphb : (x.phase != 0) = false := by simp [hph]
  have hd1 : (x.doBegin (cutB raw 20)).1 = 0 := by rw [hd]
  rw [hd1] at hact
  generalize (x.doBegin (cutB raw 20)).2 = x' at *
  have HRS := Hs.hid hrs
  have HA := Hs.hid hact
  have HC := Hs.hid (And.intro hcore (And.intro hphs hok))
  clear hact hcore hphs hok hd hd1 hph hrs hsim hsim'
  have HCUT := Hs.hid hcut
  clear hcut
  unfold stCells
  go_enter Try.func16, Try.ntmps16
  go_upto_region 1 with fail
  generalize ((((w.alloc (.cells #[.int .i64 s.P, .int .i64 s.S, .pointer (some ⟨y.mb, 0, none⟩), .slice (some ⟨y.lg, 0, none⟩) s.P y.lcap, .slice r.sao s.S r.scap, .slice r.wao s.P r.wcap, .slice (some ⟨r.pg, 0, none⟩) s.P r.pcap] 39)).alloc (.cells #[.int .i64 2, .int .i64 who, .string raw] 46)).alloc (.cells #[.int .i64 0, .int .i64 0, .pointer none, .slice none 0 0, .slice none 0 0, .slice none 0 0, .slice none 0 0] 39)).alloc (.cells #[.bool false, .bool false, .int .i64 0] 42)) = W at *
  have hAlt := lt_of_heap hA
  generalize hAA : w.heap.size = A at *
  have HAA := Hs.hid hAA
  clear hAA
  obtain ⟨q0, q1, q2, q3, q4, q5⟩ := hX1.rf.at hrp
  have a0 := cellAt hA 0
  have a1 := cellAt hA 1
  have a2 := cellAt hA 2
  have a3 := cellAt hA 3
  have a4 := cellAt hA 4
  have a5 := cellAt hA 5
  have a6 := cellAt hA 6
  have d0 := cellAt hD 0
  have d1 := cellAt hD 1
  have d2 := cellAt hD 2
  simp at a0 a1 a2 a3 a4 a5 a6 d0 d1 d2
  have l0 := Own.cells (w := W) rfl hP1.lb (g := y.lg) rfl i (.pointer (some ⟨b, 0, none⟩)) (by simp [hb])
  rw [add_off'] at l0
  simp only [rpOf] at q0
  clear q1 q2 q3 q4 q5
  have g1 : (1 : Int) ≤ s.P := by omega
  have g2 : (i : Int) < s.P := by omega
  have HX := Hs.hid hx
  have HI := Hs.hid hI
  have HB := Hs.hid (And.intro hb hm)
  have HE := Hs.hid hE
  have HN := Hs.hid (And.intro hn (And.intro hSs (And.intro hlen hmc)))
  have HRP := Hs.hid hrp
  have HSZ := Hs.hid hsz
  clear hx hI hb hm hE hn hSs hlen hmc hrp hsz hmb
  go_upto_region 13 with (first | (go_at_call 32; (refine (PSc.hindsightlaw01_Cut.calls raw 20 _ _ HCUT.out).mono ?_); rintro e w0 ⟨rfl, hb0⟩; have hx0 := extDrawn hb0; have hP1' := hP1.ext0 hx0; have hX1' := hX1.ext0 hx0; have hI1' := hI1.ext hx0 (by simp) (by simp)) | (go_at_call 22; (refine (HA.out _ hI1' (by have := HC.out.2.2.seq; omega)).mono ?_); rintro e w1 ⟨rfl, hI2, hx1⟩))
  have hx1' := hx1.mono (F' := [b, m] ++ foot y.mb y.mc y.mm lv) (by simp)
  have hA := hx0.same hA (by simp)
  have hC := hx0.same hC (by simp)
  have hZ := hx0.same hZ (by simp)
  have hPM2 := (hP1'.pm HB.out.1 HB.out.2 hI1').moved hI2 (hx1.mono (by simp))
  have hP2 := hP1'.moved HX.out HB.out.1 HB.out.2 hI1' hPM2 hx1' (fun g h => h)
  have hX2 := XAt.stepped hP1' hX1' HB.out.1 HB.out.2 hI1' hx1' (fun g h => h)
  have hA2 := hx1'.same hA (hP1'.far HB.out.1 HB.out.2 hI1' hA (by decide) (by decide) (by decide) (fun h => absurd h (by decide)))
  have hC2 := hx1'.same hC (hP1'.far HB.out.1 HB.out.2 hI1' hC (by decide) (by decide) (by decide) (fun h => absurd h (by decide)))
  have hZ2 := hx1'.same hZ (hP1'.far HB.out.1 HB.out.2 hI1' hZ (by decide) (by decide) (by decide) (fun h => absurd h (by decide)))
  have hE2 : Ext (y.fixed ++ lv.ownBlock.toList) w w1 := ((HE.out.trans0 hx0).mono (F' := y.fixed ++ lv.ownBlock.toList) (by simp)).trans hx1' (fun g hg => .inl (foot_fixed HB.out.1 HB.out.2 g hg))
  have hsz1 := hx1.size
  have hsz0 := hx0.size
  have a4 := cellAt hA2 4
  have a5 := cellAt hA2 5
  have a6 := cellAt hA2 6
  have af := freeAt hA2
  simp at a4 a5 a6
  clear hP1 hX1 hA hC hZ hD hIp hI1 hPM2 hx1 d0 d1 d2 l0 q0 a0 a1 a2 a3 hP1' hX1' hI1' hx0 hb0
  go_upto_region 16 with (go_at_call 33; (refine (HRS.out _ hX2.rf).mono ?_); rintro e w4 ⟨pg2, pcap2, rfl, hR4, hx4, hk4⟩; have hA4 := hx4.same hA2 (by simp); clear a4 a5 a6 af; have a4 := cellAt hA4 4; have a5 := cellAt hA4 5; have a6 := cellAt hA4 6; have af := freeAt hA4; simp at a4 a5 a6)
  have hX4 : XAt B w4.heap y ⟨r.sao, r.scap, r.wao, r.wcap, pg2, pcap2⟩ s.P s.S ({ P := s.P, S := s.S, L := s.L.set i x', M := s.M } : Sys).ref := hX2.kept (by have := HSZ.out; omega) (by have := HN.out.2.2.2; have := HSZ.out; omega) hR4 (.inl rfl) (.inl rfl) (.inr hk4)
  have hP5 := hP2.ext0 hx4
  have hX5 := hX4
  have hA5 := hA4
  have hC5 := hx4.same hC2 (by simp)
  have hZ5 := hx4.same hZ2 (by simp)
  have hE5 := hE2.trans0 hx4
  generalize w4 = W5 at *
  have hA6 := heap_set (heap_set (heap_set hA5 4 (.slice r.sao s.S r.scap)) 5 (.slice r.wao s.P r.wcap)) 6 (.slice (some ⟨pg2, 0, none⟩) s.P pcap2)
  have hx6 : Ext [A] W5 (((W5.setCell ⟨A, 4, none⟩ (.slice r.sao s.S r.scap)).setCell ⟨A, 5, none⟩ (.slice r.wao s.P r.wcap)).setCell ⟨A, 6, none⟩ (.slice (some ⟨pg2, 0, none⟩) s.P pcap2)) := Ext.set' (by simp) (Ext.set' (by simp) (Ext.set' (by simp) (Ext.refl _ _) _ _) _ _) _ _
  have hP6 := hP5.extT hx6 (by intro g hg; simp at hg; subst hg; exact ⟨_, _, _, hA5, by decide, by decide, by decide, by decide, by decide⟩)
  have hX6 := hX5.extT hx6 (by intro g hg; simp at hg; subst hg; exact ⟨_, _, _, hA5, by decide, by decide⟩)
  have hC6 := hx6.same hC5 (by simp; omega)
  have hZ6 := hx6.same hZ5 (by simp; omega)
  have hE6 : Ext (y.fixed ++ lv.ownBlock.toList) w _ := hE5.trans hx6 (fun g hg => .inr (by simp at hg; subst hg; exact Nat.le_of_eq HAA.out))
  clear hP5 hX5 hA5 hC5 hZ5 hE5 hx6 hX4 hR4 hx4 hA4 hA2 hC2 hZ2 hE2 hP2 hX2 af a4 a5 a6 hc1 hc3 hc4
  generalize ((W5.setCell ⟨A, 4, none⟩ (.slice r.sao s.S r.scap)).setCell ⟨A, 5, none⟩ (.slice r.wao s.P r.wcap)).setCell ⟨A, 6, none⟩ (.slice (some ⟨pg2, 0, none⟩) s.P pcap2) = W6 at *
  simp at hA6
  have a0 := cellAt hA6 0
  have a1 := cellAt hA6 1
  have a2 := cellAt hA6 2
  have a3 := cellAt hA6 3
  have a4 := cellAt hA6 4
  have a5 := cellAt hA6 5
  have a6 := cellAt hA6 6
  simp at a0 a1 a2 a3 a4 a5 a6
  have c0 := cellAt hC6 0
  have c1 := cellAt hC6 1
  have c2 := cellAt hC6 2
  have c3 := cellAt hC6 3
  have c4 := cellAt hC6 4
  have c5 := cellAt hC6 5
  have c6 := cellAt hC6 6
  have z0 := cellAt hZ6 0
  have z1 := cellAt hZ6 1
  have z2 := cellAt hZ6 2
  simp at c0 c1 c2 c3 c4 c5 c6 z0 z1 z2
  have cf := freeAt hC6
  have zf := freeAt hZ6
  have mem1 : A + 1 + 1 ∈ [A + 1 + 1, A + 1 + 1 + 1] := by simp
  have mem2 : A + 1 + 1 + 1 ∈ [A + 1 + 1, A + 1 + 1 + 1] := by simp
  go_wp2_with fail
  all_goals
    refine bodyPost_ret (v := .tuple #[.agg (stCells y ⟨r.sao, r.scap, r.wao, r.wcap, pg2, pcap2⟩ { P := s.P, S := s.S, L := s.L.set i x', M := s.M }), .agg #[.bool false, .bool false, .int .i64 0], .bool true]) (by simp [results, Try.results16, go_sem, stCells, c0, c1, c2, c3, c4, c5, c6, z0, z1, z2]) rfl ?_
    refine (fun (hx : Ext [A + 1 + 1, A + 1 + 1 + 1] W6 _) => ⟨⟨r.sao, r.scap, r.wao, r.wcap, pg2, pcap2⟩, lv, rfl, hP6.extT hx ?_, hX6.extT hx ?_, hE6.trans hx ?_⟩) ?_
    · repeat (first | (with_reducible exact Ext.refl _ _) | (with_reducible refine Ext.drew ?_) | (with_reducible refine Ext.set' mem1 ?_ _ _) | (with_reducible refine Ext.set' mem2 ?_ _ _))
    · intro g hg
      simp at hg
      rcases hg with rfl | rfl
      · exact ⟨_, _, _, hC6, by decide, by decide, by decide, by decide, by decide⟩
      · exact ⟨_, _, _, hZ6, by decide, by decide, by decide, by decide, by decide⟩
    · intro g hg
      simp at hg
      rcases hg with rfl | rfl
      · exact ⟨_, _, _, hC6, by decide, by decide⟩
      · exact ⟨_, _, _, hZ6, by decide, by decide⟩
    · intro g hg
      have := HAA.out
      simp at hg; omega
theorem does_begin1 (B : Nat) (y : Lay) (r : RLay) (lv : Value) (s : Sys) (n : Nat) (who : Int) (raw : ByteArray) (w : World) (hP : PAt B w.heap y lv s) (hX : XAt B w.heap y r s.P s.S s.ref) (hI : SInv s n) (hn : n < 100000) (hB : B ≤ w.heap.size)
    {x : PSt} (hx : s.L[whoOf who s.P]? = some x) (hph : ¬ x.phase = 0) :
    Calls Try.prog 16 #[.agg (stCells y r s), .agg #[.int .i64 2, .int .i64 who, .string raw]] w fun e w' =>
      DoesPost B y lv w e w' s .no := by
  have hlen := hI.hL
  have hPp := hI.hP
  have hSs := hI.hS
  have hil := whoOf_lt who hPp.1
  obtain ⟨c, hc1, hc2, hc3, hc4⟩ := whoOf_eq who s.P
  generalize whoOf who s.P = i at *
  obtain ⟨b, m, hb, hm, hIp⟩ := hP.pr i x hx
  have hrp : s.ref.P[i]? = some (rpOf x) := by simp [Sys.ref, hx]
  have hcore := hI.core i x hx
  have hphs := hI.ph i x hx
  have hmb := lt_of_heap hP.me.hb
  have hmc := lt_of_heap hP.me.hc
  obtain ⟨hA, hD, hC, hZ, hE, hsz⟩ := alloc_four w (.cells #[.int .i64 s.P, .int .i64 s.S, .pointer (some ⟨y.mb, 0, none⟩), .slice (some ⟨y.lg, 0, none⟩) s.P y.lcap, .slice r.sao s.S r.scap, .slice r.wao s.P r.wcap, .slice (some ⟨r.pg, 0, none⟩) s.P r.pcap] 39) (.cells #[.int .i64 2, .int .i64 who, .string raw] 46) (.cells #[.int .i64 0, .int .i64 0, .pointer none, .slice none 0 0, .slice none 0 0, .slice none 0 0, .slice none 0 0] 39) (.cells #[.bool false, .bool false, .int .i64 0] 42)
  have hP1 := hP.ext0 hE
  have hX1 := hX.ext0 hE
  have hI1 := hIp.ext hE (by simp) (by simp)
  have hok := okOf hI hn hil hcore hphs
  have hcut : PSc.hindsightlaw01_Cut.f raw 20 = some (cutB raw 20) := cutB_f raw 20 (by decide)
  have hsz20 := cutB_size raw 20
  have hact := begin_any b m x (cutB raw 20)
  have hd : (x.doBegin (cutB raw 20)) = (20, x) := by unfold PSt.doBegin; rw [if_neg hph]
  rw [hd] at hact
  have hphb : (x.phase != 0) = true := by simpa using hph
  have HA := Hs.hid hact
  have HC := Hs.hid (And.intro hcore (And.intro hphs hok))
  clear hact hcore hphs hok hd hph
  have HCUT := Hs.hid hcut
  clear hcut
  unfold stCells
  go_enter Try.func16, Try.ntmps16
  go_upto_region 1 with fail
  generalize ((((w.alloc (.cells #[.int .i64 s.P, .int .i64 s.S, .pointer (some ⟨y.mb, 0, none⟩), .slice (some ⟨y.lg, 0, none⟩) s.P y.lcap, .slice r.sao s.S r.scap, .slice r.wao s.P r.wcap, .slice (some ⟨r.pg, 0, none⟩) s.P r.pcap] 39)).alloc (.cells #[.int .i64 2, .int .i64 who, .string raw] 46)).alloc (.cells #[.int .i64 0, .int .i64 0, .pointer none, .slice none 0 0, .slice none 0 0, .slice none 0 0, .slice none 0 0] 39)).alloc (.cells #[.bool false, .bool false, .int .i64 0] 42)) = W at *
  have hAlt := lt_of_heap hA
  generalize hAA : w.heap.size = A at *
  have HAA := Hs.hid hAA
  clear hAA
  obtain ⟨q0, q1, q2, q3, q4, q5⟩ := hX1.rf.at hrp
  have a0 := cellAt hA 0
  have a1 := cellAt hA 1
  have a2 := cellAt hA 2
  have a3 := cellAt hA 3
  have a4 := cellAt hA 4
  have a5 := cellAt hA 5
  have a6 := cellAt hA 6
  have d0 := cellAt hD 0
  have d1 := cellAt hD 1
  have d2 := cellAt hD 2
  simp at a0 a1 a2 a3 a4 a5 a6 d0 d1 d2
  have l0 := Own.cells (w := W) rfl hP1.lb (g := y.lg) rfl i (.pointer (some ⟨b, 0, none⟩)) (by simp [hb])
  rw [add_off'] at l0
  simp only [rpOf] at q0
  clear q1 q2 q3 q4 q5
  have g1 : (1 : Int) ≤ s.P := by omega
  have g2 : (i : Int) < s.P := by omega
  have HX := Hs.hid hx
  have HI := Hs.hid hI
  have HB := Hs.hid (And.intro hb hm)
  have HE := Hs.hid hE
  have HN := Hs.hid (And.intro hn (And.intro hSs (And.intro hlen hmc)))
  have HRP := Hs.hid hrp
  have HSZ := Hs.hid hsz
  clear hx hI hb hm hE hn hSs hlen hmc hrp hsz hmb
  go_upto_region 13 with (first | (go_at_call 32; (refine (PSc.hindsightlaw01_Cut.calls raw 20 _ _ HCUT.out).mono ?_); rintro e w0 ⟨rfl, hb0⟩; have hx0 := extDrawn hb0; have hP1' := hP1.ext0 hx0; have hX1' := hX1.ext0 hx0; have hI1' := hI1.ext hx0 (by simp) (by simp)) | (go_at_call 22; (refine (HA.out _ hI1' (by have := HC.out.2.2.seq; omega)).mono ?_); rintro e w1 ⟨rfl, hI2, hx1⟩))
  have hx1' := hx1.mono (F' := [b, m] ++ foot y.mb y.mc y.mm lv) (by simp)
  have hA := hx0.same hA (by simp)
  have hC := hx0.same hC (by simp)
  have hZ := hx0.same hZ (by simp)
  have hPM2 := (hP1'.pm HB.out.1 HB.out.2 hI1').moved hI2 (hx1.mono (by simp))
  have hP2 := hP1'.moved HX.out HB.out.1 HB.out.2 hI1' hPM2 hx1' (fun g h => h)
  have hX2 := XAt.stepped hP1' hX1' HB.out.1 HB.out.2 hI1' hx1' (fun g h => h)
  have hA2 := hx1'.same hA (hP1'.far HB.out.1 HB.out.2 hI1' hA (by decide) (by decide) (by decide) (fun h => absurd h (by decide)))
  have hC2 := hx1'.same hC (hP1'.far HB.out.1 HB.out.2 hI1' hC (by decide) (by decide) (by decide) (fun h => absurd h (by decide)))
  have hZ2 := hx1'.same hZ (hP1'.far HB.out.1 HB.out.2 hI1' hZ (by decide) (by decide) (by decide) (fun h => absurd h (by decide)))
  have hE2 : Ext (y.fixed ++ lv.ownBlock.toList) w w1 := ((HE.out.trans0 hx0).mono (F' := y.fixed ++ lv.ownBlock.toList) (by simp)).trans hx1' (fun g hg => .inl (foot_fixed HB.out.1 HB.out.2 g hg))
  have hsz1 := hx1.size
  have hsz0 := hx0.size
  have hself : ({ P := s.P, S := s.S, L := s.L.set i x, M := s.M } : Sys) = s := by
    have : s.L.set i x = s.L := by
      obtain ⟨h1, h2⟩ := List.getElem?_eq_some_iff.1 HX.out
      rw [← h2]; exact List.set_getElem_self h1
    rw [this]
  have hP6 := hP2
  rw [hself] at hP6
  have hX6 := hX2
  have hC6 := hC2
  have hZ6 := hZ2
  have hE6 := hE2
  have a0 := cellAt hA2 0
  have a1 := cellAt hA2 1
  have a2 := cellAt hA2 2
  have a3 := cellAt hA2 3
  have a4 := cellAt hA2 4
  have a5 := cellAt hA2 5
  have a6 := cellAt hA2 6
  simp at a0 a1 a2 a3 a4 a5 a6
  clear hP1 hX1 hA hC hZ hD hIp hI1 hPM2 hx1 d0 d1 d2 l0 q0 hP2 hX2 hC2 hZ2 hE2 hc1 hc3 hc4 hself hP1' hX1' hI1' hx0 hb0
  generalize w1 = W6 at *
  have c0 := cellAt hC6 0
  have c1 := cellAt hC6 1
  have c2 := cellAt hC6 2
  have c3 := cellAt hC6 3
  have c4 := cellAt hC6 4
  have c5 := cellAt hC6 5
  have c6 := cellAt hC6 6
  have z0 := cellAt hZ6 0
  have z1 := cellAt hZ6 1
  have z2 := cellAt hZ6 2
  simp at c0 c1 c2 c3 c4 c5 c6 z0 z1 z2
  have cf := freeAt hC6
  have zf := freeAt hZ6
  have mem1 : A + 1 + 1 ∈ [A + 1 + 1, A + 1 + 1 + 1] := by simp
  have mem2 : A + 1 + 1 + 1 ∈ [A + 1 + 1, A + 1 + 1 + 1] := by simp
  go_wp2_with fail
  all_goals
    refine bodyPost_ret (v := .tuple #[.agg (stCells y r s), .agg #[.bool false, .bool false, .int .i64 0], .bool true]) (by simp [results, Try.results16, go_sem, stCells, c0, c1, c2, c3, c4, c5, c6, z0, z1, z2]) rfl ?_
    refine (fun (hx : Ext [A + 1 + 1, A + 1 + 1 + 1] W6 _) => ⟨r, lv, rfl, hP6.extT hx ?_, hX6.extT hx ?_, hE6.trans hx ?_⟩) ?_
    · repeat (first | (with_reducible exact Ext.refl _ _) | (with_reducible refine Ext.drew ?_) | (with_reducible refine Ext.set' mem1 ?_ _ _) | (with_reducible refine Ext.set' mem2 ?_ _ _))
    · intro g hg
      simp at hg
      rcases hg with rfl | rfl
      · exact ⟨_, _, _, hC6, by decide, by decide, by decide, by decide, by decide⟩
      · exact ⟨_, _, _, hZ6, by decide, by decide, by decide, by decide, by decide⟩
    · intro g hg
      simp at hg
      rcases hg with rfl | rfl
      · exact ⟨_, _, _, hC6, by decide, by decide⟩
      · exact ⟨_, _, _, hZ6, by decide, by decide⟩
    · intro g hg
      have := HAA.out
      simp at hg; omega
theorem does_head0 (B : Nat) (y : Lay) (r : RLay) (lv : Value) (s : Sys) (n : Nat) (who : Int) (raw : ByteArray) (w : World) (hP : PAt B w.heap y lv s) (hX : XAt B w.heap y r s.P s.S s.ref) (hI : SInv s n) (hn : n < 100000) (hB : B ≤ w.heap.size)
    {x : PSt} (hx : s.L[whoOf who s.P]? = some x) (hph : x.phase = 0) :
    Calls Try.prog 16 #[.agg (stCells y r s), .agg #[.int .i64 3, .int .i64 who, .string raw]] w fun e w' =>
      DoesPost B y lv w e w' { s with L := s.L.set (whoOf who s.P) x.doHead.2 } .no := by
  have hlen := hI.hL
  have hPp := hI.hP
  have hSs := hI.hS
  have hil := whoOf_lt who hPp.1
  obtain ⟨c, hc1, hc2, hc3, hc4⟩ := whoOf_eq who s.P
  generalize whoOf who s.P = i at *
  obtain ⟨b, m, hb, hm, hIp⟩ := hP.pr i x hx
  have hrp : s.ref.P[i]? = some (rpOf x) := by simp [Sys.ref, hx]
  have hcore := hI.core i x hx
  have hphs := hI.ph i x hx
  have hmb := lt_of_heap hP.me.hb
  have hmc := lt_of_heap hP.me.hc
  obtain ⟨hA, hD, hC, hZ, hE, hsz⟩ := alloc_four w (.cells #[.int .i64 s.P, .int .i64 s.S, .pointer (some ⟨y.mb, 0, none⟩), .slice (some ⟨y.lg, 0, none⟩) s.P y.lcap, .slice r.sao s.S r.scap, .slice r.wao s.P r.wcap, .slice (some ⟨r.pg, 0, none⟩) s.P r.pcap] 39) (.cells #[.int .i64 3, .int .i64 who, .string raw] 46) (.cells #[.int .i64 0, .int .i64 0, .pointer none, .slice none 0 0, .slice none 0 0, .slice none 0 0, .slice none 0 0] 39) (.cells #[.bool false, .bool false, .int .i64 0] 42)
  have hP1 := hP.ext0 hE
  have hX1 := hX.ext0 hE
  have hI1 := hIp.ext hE (by simp) (by simp)
  have hok := okOf hI hn hil hcore hphs
  have hact := head_any b m x
  have hd : x.doHead = (0, { x with phase := 5 }) := by unfold PSt.doHead; rw [if_pos hph]
  have hsim : ({ s.ref with P := s.ref.P.set i { rpOf x with next := 5 } } : RW) = ({ s with L := s.L.set i x.doHead.2 } : Sys).ref := by
    rw [hd]
    simp only [Sys.ref, map_rp]
    simp only [rpOf, hcore.who]
  have hsim' : ({ s.ref with P := s.ref.P.set i { rpOf x with next := 5 } } : RW) = ({ s with L := s.L.set i x.doHead.2 } : Sys).ref := hsim
  have hrs := fun w hR => refHead_any s.S s.P r.sao r.scap r.wao r.wcap r.pg r.pcap s.ref i (rpOf x) w hR hrp (by omega)
  rw [hsim'] at hrs
  have hphb : (x.phase != 0) = false := by simp [hph]
  have hd1 : x.doHead.1 = 0 := by rw [hd]
  rw [hd1] at hact
  generalize x.doHead.2 = x' at *
  have HRS := Hs.hid hrs
  have HA := Hs.hid hact
  have HC := Hs.hid (And.intro hcore (And.intro hphs hok))
  clear hact hcore hphs hok hd hd1 hph hrs hsim hsim'
  unfold stCells
  go_enter Try.func16, Try.ntmps16
  go_upto_region 1 with fail
  generalize ((((w.alloc (.cells #[.int .i64 s.P, .int .i64 s.S, .pointer (some ⟨y.mb, 0, none⟩), .slice (some ⟨y.lg, 0, none⟩) s.P y.lcap, .slice r.sao s.S r.scap, .slice r.wao s.P r.wcap, .slice (some ⟨r.pg, 0, none⟩) s.P r.pcap] 39)).alloc (.cells #[.int .i64 3, .int .i64 who, .string raw] 46)).alloc (.cells #[.int .i64 0, .int .i64 0, .pointer none, .slice none 0 0, .slice none 0 0, .slice none 0 0, .slice none 0 0] 39)).alloc (.cells #[.bool false, .bool false, .int .i64 0] 42)) = W at *
  have hAlt := lt_of_heap hA
  generalize hAA : w.heap.size = A at *
  have HAA := Hs.hid hAA
  clear hAA
  obtain ⟨q0, q1, q2, q3, q4, q5⟩ := hX1.rf.at hrp
  have a0 := cellAt hA 0
  have a1 := cellAt hA 1
  have a2 := cellAt hA 2
  have a3 := cellAt hA 3
  have a4 := cellAt hA 4
  have a5 := cellAt hA 5
  have a6 := cellAt hA 6
  have d0 := cellAt hD 0
  have d1 := cellAt hD 1
  have d2 := cellAt hD 2
  simp at a0 a1 a2 a3 a4 a5 a6 d0 d1 d2
  have l0 := Own.cells (w := W) rfl hP1.lb (g := y.lg) rfl i (.pointer (some ⟨b, 0, none⟩)) (by simp [hb])
  rw [add_off'] at l0
  simp only [rpOf] at q0
  clear q1 q2 q3 q4 q5
  have g1 : (1 : Int) ≤ s.P := by omega
  have g2 : (i : Int) < s.P := by omega
  have HX := Hs.hid hx
  have HI := Hs.hid hI
  have HB := Hs.hid (And.intro hb hm)
  have HE := Hs.hid hE
  have HN := Hs.hid (And.intro hn (And.intro hSs (And.intro hlen hmc)))
  have HRP := Hs.hid hrp
  have HSZ := Hs.hid hsz
  clear hx hI hb hm hE hn hSs hlen hmc hrp hsz hmb
  go_upto_region 19 with (go_at_call 26; (refine (HA.out _ hI1).mono ?_); rintro e w1 ⟨rfl, hI2, hx1⟩)
  have hx1' := hx1.mono (F' := [b, m] ++ foot y.mb y.mc y.mm lv) (by simp)
  have hPM2 := (hP1.pm HB.out.1 HB.out.2 hI1).moved hI2 (hx1.mono (by simp))
  have hP2 := hP1.moved HX.out HB.out.1 HB.out.2 hI1 hPM2 hx1' (fun g h => h)
  have hX2 := XAt.stepped hP1 hX1 HB.out.1 HB.out.2 hI1 hx1' (fun g h => h)
  have hA2 := hx1'.same hA (hP1.far HB.out.1 HB.out.2 hI1 hA (by decide) (by decide) (by decide) (fun h => absurd h (by decide)))
  have hC2 := hx1'.same hC (hP1.far HB.out.1 HB.out.2 hI1 hC (by decide) (by decide) (by decide) (fun h => absurd h (by decide)))
  have hZ2 := hx1'.same hZ (hP1.far HB.out.1 HB.out.2 hI1 hZ (by decide) (by decide) (by decide) (fun h => absurd h (by decide)))
  have hE2 : Ext (y.fixed ++ lv.ownBlock.toList) w w1 := (HE.out.mono (F' := y.fixed ++ lv.ownBlock.toList) (by simp)).trans hx1' (fun g hg => .inl (foot_fixed HB.out.1 HB.out.2 g hg))
  have hsz1 := hx1.size
  have a4 := cellAt hA2 4
  have a5 := cellAt hA2 5
  have a6 := cellAt hA2 6
  have af := freeAt hA2
  simp at a4 a5 a6
  clear hP1 hX1 hA hC hZ hD hIp hI1 hPM2 hx1 d0 d1 d2 l0 q0 a0 a1 a2 a3
  go_upto_region 22 with (go_at_call 34; (refine (HRS.out _ hX2.rf).mono ?_); rintro e w4 ⟨pg2, pcap2, rfl, hR4, hx4, hk4⟩; have hA4 := hx4.same hA2 (by simp); clear a4 a5 a6 af; have a4 := cellAt hA4 4; have a5 := cellAt hA4 5; have a6 := cellAt hA4 6; have af := freeAt hA4; simp at a4 a5 a6)
  have hX4 : XAt B w4.heap y ⟨r.sao, r.scap, r.wao, r.wcap, pg2, pcap2⟩ s.P s.S ({ P := s.P, S := s.S, L := s.L.set i x', M := s.M } : Sys).ref := hX2.kept (by have := HSZ.out; omega) (by have := HN.out.2.2.2; have := HSZ.out; omega) hR4 (.inl rfl) (.inl rfl) (.inr hk4)
  have hP5 := hP2.ext0 hx4
  have hX5 := hX4
  have hA5 := hA4
  have hC5 := hx4.same hC2 (by simp)
  have hZ5 := hx4.same hZ2 (by simp)
  have hE5 := hE2.trans0 hx4
  generalize w4 = W5 at *
  have hA6 := heap_set (heap_set (heap_set hA5 4 (.slice r.sao s.S r.scap)) 5 (.slice r.wao s.P r.wcap)) 6 (.slice (some ⟨pg2, 0, none⟩) s.P pcap2)
  have hx6 : Ext [A] W5 (((W5.setCell ⟨A, 4, none⟩ (.slice r.sao s.S r.scap)).setCell ⟨A, 5, none⟩ (.slice r.wao s.P r.wcap)).setCell ⟨A, 6, none⟩ (.slice (some ⟨pg2, 0, none⟩) s.P pcap2)) := Ext.set' (by simp) (Ext.set' (by simp) (Ext.set' (by simp) (Ext.refl _ _) _ _) _ _) _ _
  have hP6 := hP5.extT hx6 (by intro g hg; simp at hg; subst hg; exact ⟨_, _, _, hA5, by decide, by decide, by decide, by decide, by decide⟩)
  have hX6 := hX5.extT hx6 (by intro g hg; simp at hg; subst hg; exact ⟨_, _, _, hA5, by decide, by decide⟩)
  have hC6 := hx6.same hC5 (by simp; omega)
  have hZ6 := hx6.same hZ5 (by simp; omega)
  have hE6 : Ext (y.fixed ++ lv.ownBlock.toList) w _ := hE5.trans hx6 (fun g hg => .inr (by simp at hg; subst hg; exact Nat.le_of_eq HAA.out))
  clear hP5 hX5 hA5 hC5 hZ5 hE5 hx6 hX4 hR4 hx4 hA4 hA2 hC2 hZ2 hE2 hP2 hX2 af a4 a5 a6 hc1 hc3 hc4
  generalize ((W5.setCell ⟨A, 4, none⟩ (.slice r.sao s.S r.scap)).setCell ⟨A, 5, none⟩ (.slice r.wao s.P r.wcap)).setCell ⟨A, 6, none⟩ (.slice (some ⟨pg2, 0, none⟩) s.P pcap2) = W6 at *
  simp at hA6
  have a0 := cellAt hA6 0
  have a1 := cellAt hA6 1
  have a2 := cellAt hA6 2
  have a3 := cellAt hA6 3
  have a4 := cellAt hA6 4
  have a5 := cellAt hA6 5
  have a6 := cellAt hA6 6
  simp at a0 a1 a2 a3 a4 a5 a6
  have c0 := cellAt hC6 0
  have c1 := cellAt hC6 1
  have c2 := cellAt hC6 2
  have c3 := cellAt hC6 3
  have c4 := cellAt hC6 4
  have c5 := cellAt hC6 5
  have c6 := cellAt hC6 6
  have z0 := cellAt hZ6 0
  have z1 := cellAt hZ6 1
  have z2 := cellAt hZ6 2
  simp at c0 c1 c2 c3 c4 c5 c6 z0 z1 z2
  have cf := freeAt hC6
  have zf := freeAt hZ6
  have mem1 : A + 1 + 1 ∈ [A + 1 + 1, A + 1 + 1 + 1] := by simp
  have mem2 : A + 1 + 1 + 1 ∈ [A + 1 + 1, A + 1 + 1 + 1] := by simp
  go_wp2_with fail
  all_goals
    refine bodyPost_ret (v := .tuple #[.agg (stCells y ⟨r.sao, r.scap, r.wao, r.wcap, pg2, pcap2⟩ { P := s.P, S := s.S, L := s.L.set i x', M := s.M }), .agg #[.bool false, .bool false, .int .i64 0], .bool true]) (by simp [results, Try.results16, go_sem, stCells, c0, c1, c2, c3, c4, c5, c6, z0, z1, z2]) rfl ?_
    refine (fun (hx : Ext [A + 1 + 1, A + 1 + 1 + 1] W6 _) => ⟨⟨r.sao, r.scap, r.wao, r.wcap, pg2, pcap2⟩, lv, rfl, hP6.extT hx ?_, hX6.extT hx ?_, hE6.trans hx ?_⟩) ?_
    · repeat (first | (with_reducible exact Ext.refl _ _) | (with_reducible refine Ext.drew ?_) | (with_reducible refine Ext.set' mem1 ?_ _ _) | (with_reducible refine Ext.set' mem2 ?_ _ _))
    · intro g hg
      simp at hg
      rcases hg with rfl | rfl
      · exact ⟨_, _, _, hC6, by decide, by decide, by decide, by decide, by decide⟩
      · exact ⟨_, _, _, hZ6, by decide, by decide, by decide, by decide, by decide⟩
    · intro g hg
      simp at hg
      rcases hg with rfl | rfl
      · exact ⟨_, _, _, hC6, by decide, by decide⟩
      · exact ⟨_, _, _, hZ6, by decide, by decide⟩
    · intro g hg
      have := HAA.out
      simp at hg; omega
theorem does_head1 (B : Nat) (y : Lay) (r : RLay) (lv : Value) (s : Sys) (n : Nat) (who : Int) (raw : ByteArray) (w : World) (hP : PAt B w.heap y lv s) (hX : XAt B w.heap y r s.P s.S s.ref) (hI : SInv s n) (hn : n < 100000) (hB : B ≤ w.heap.size)
    {x : PSt} (hx : s.L[whoOf who s.P]? = some x) (hph : ¬ x.phase = 0) :
    Calls Try.prog 16 #[.agg (stCells y r s), .agg #[.int .i64 3, .int .i64 who, .string raw]] w fun e w' =>
      DoesPost B y lv w e w' s .no := by
  have hlen := hI.hL
  have hPp := hI.hP
  have hSs := hI.hS
  have hil := whoOf_lt who hPp.1
  obtain ⟨c, hc1, hc2, hc3, hc4⟩ := whoOf_eq who s.P
  generalize whoOf who s.P = i at *
  obtain ⟨b, m, hb, hm, hIp⟩ := hP.pr i x hx
  have hrp : s.ref.P[i]? = some (rpOf x) := by simp [Sys.ref, hx]
  have hcore := hI.core i x hx
  have hphs := hI.ph i x hx
  have hmb := lt_of_heap hP.me.hb
  have hmc := lt_of_heap hP.me.hc
  obtain ⟨hA, hD, hC, hZ, hE, hsz⟩ := alloc_four w (.cells #[.int .i64 s.P, .int .i64 s.S, .pointer (some ⟨y.mb, 0, none⟩), .slice (some ⟨y.lg, 0, none⟩) s.P y.lcap, .slice r.sao s.S r.scap, .slice r.wao s.P r.wcap, .slice (some ⟨r.pg, 0, none⟩) s.P r.pcap] 39) (.cells #[.int .i64 3, .int .i64 who, .string raw] 46) (.cells #[.int .i64 0, .int .i64 0, .pointer none, .slice none 0 0, .slice none 0 0, .slice none 0 0, .slice none 0 0] 39) (.cells #[.bool false, .bool false, .int .i64 0] 42)
  have hP1 := hP.ext0 hE
  have hX1 := hX.ext0 hE
  have hI1 := hIp.ext hE (by simp) (by simp)
  have hok := okOf hI hn hil hcore hphs
  have hact := head_any b m x
  have hd : x.doHead = (20, x) := by unfold PSt.doHead; rw [if_neg hph]
  rw [hd] at hact
  have hphb : (x.phase != 0) = true := by simpa using hph
  have HA := Hs.hid hact
  have HC := Hs.hid (And.intro hcore (And.intro hphs hok))
  clear hact hcore hphs hok hd hph
  unfold stCells
  go_enter Try.func16, Try.ntmps16
  go_upto_region 1 with fail
  generalize ((((w.alloc (.cells #[.int .i64 s.P, .int .i64 s.S, .pointer (some ⟨y.mb, 0, none⟩), .slice (some ⟨y.lg, 0, none⟩) s.P y.lcap, .slice r.sao s.S r.scap, .slice r.wao s.P r.wcap, .slice (some ⟨r.pg, 0, none⟩) s.P r.pcap] 39)).alloc (.cells #[.int .i64 3, .int .i64 who, .string raw] 46)).alloc (.cells #[.int .i64 0, .int .i64 0, .pointer none, .slice none 0 0, .slice none 0 0, .slice none 0 0, .slice none 0 0] 39)).alloc (.cells #[.bool false, .bool false, .int .i64 0] 42)) = W at *
  have hAlt := lt_of_heap hA
  generalize hAA : w.heap.size = A at *
  have HAA := Hs.hid hAA
  clear hAA
  obtain ⟨q0, q1, q2, q3, q4, q5⟩ := hX1.rf.at hrp
  have a0 := cellAt hA 0
  have a1 := cellAt hA 1
  have a2 := cellAt hA 2
  have a3 := cellAt hA 3
  have a4 := cellAt hA 4
  have a5 := cellAt hA 5
  have a6 := cellAt hA 6
  have d0 := cellAt hD 0
  have d1 := cellAt hD 1
  have d2 := cellAt hD 2
  simp at a0 a1 a2 a3 a4 a5 a6 d0 d1 d2
  have l0 := Own.cells (w := W) rfl hP1.lb (g := y.lg) rfl i (.pointer (some ⟨b, 0, none⟩)) (by simp [hb])
  rw [add_off'] at l0
  simp only [rpOf] at q0
  clear q1 q2 q3 q4 q5
  have g1 : (1 : Int) ≤ s.P := by omega
  have g2 : (i : Int) < s.P := by omega
  have HX := Hs.hid hx
  have HI := Hs.hid hI
  have HB := Hs.hid (And.intro hb hm)
  have HE := Hs.hid hE
  have HN := Hs.hid (And.intro hn (And.intro hSs (And.intro hlen hmc)))
  have HRP := Hs.hid hrp
  have HSZ := Hs.hid hsz
  clear hx hI hb hm hE hn hSs hlen hmc hrp hsz hmb
  go_upto_region 19 with (go_at_call 26; (refine (HA.out _ hI1).mono ?_); rintro e w1 ⟨rfl, hI2, hx1⟩)
  have hx1' := hx1.mono (F' := [b, m] ++ foot y.mb y.mc y.mm lv) (by simp)
  have hPM2 := (hP1.pm HB.out.1 HB.out.2 hI1).moved hI2 (hx1.mono (by simp))
  have hP2 := hP1.moved HX.out HB.out.1 HB.out.2 hI1 hPM2 hx1' (fun g h => h)
  have hX2 := XAt.stepped hP1 hX1 HB.out.1 HB.out.2 hI1 hx1' (fun g h => h)
  have hA2 := hx1'.same hA (hP1.far HB.out.1 HB.out.2 hI1 hA (by decide) (by decide) (by decide) (fun h => absurd h (by decide)))
  have hC2 := hx1'.same hC (hP1.far HB.out.1 HB.out.2 hI1 hC (by decide) (by decide) (by decide) (fun h => absurd h (by decide)))
  have hZ2 := hx1'.same hZ (hP1.far HB.out.1 HB.out.2 hI1 hZ (by decide) (by decide) (by decide) (fun h => absurd h (by decide)))
  have hE2 : Ext (y.fixed ++ lv.ownBlock.toList) w w1 := (HE.out.mono (F' := y.fixed ++ lv.ownBlock.toList) (by simp)).trans hx1' (fun g hg => .inl (foot_fixed HB.out.1 HB.out.2 g hg))
  have hsz1 := hx1.size
  have hself : ({ P := s.P, S := s.S, L := s.L.set i x, M := s.M } : Sys) = s := by
    have : s.L.set i x = s.L := by
      obtain ⟨h1, h2⟩ := List.getElem?_eq_some_iff.1 HX.out
      rw [← h2]; exact List.set_getElem_self h1
    rw [this]
  have hP6 := hP2
  rw [hself] at hP6
  have hX6 := hX2
  have hC6 := hC2
  have hZ6 := hZ2
  have hE6 := hE2
  have a0 := cellAt hA2 0
  have a1 := cellAt hA2 1
  have a2 := cellAt hA2 2
  have a3 := cellAt hA2 3
  have a4 := cellAt hA2 4
  have a5 := cellAt hA2 5
  have a6 := cellAt hA2 6
  simp at a0 a1 a2 a3 a4 a5 a6
  clear hP1 hX1 hA hC hZ hD hIp hI1 hPM2 hx1 d0 d1 d2 l0 q0 hP2 hX2 hC2 hZ2 hE2 hc1 hc3 hc4 hself
  generalize w1 = W6 at *
  have c0 := cellAt hC6 0
  have c1 := cellAt hC6 1
  have c2 := cellAt hC6 2
  have c3 := cellAt hC6 3
  have c4 := cellAt hC6 4
  have c5 := cellAt hC6 5
  have c6 := cellAt hC6 6
  have z0 := cellAt hZ6 0
  have z1 := cellAt hZ6 1
  have z2 := cellAt hZ6 2
  simp at c0 c1 c2 c3 c4 c5 c6 z0 z1 z2
  have cf := freeAt hC6
  have zf := freeAt hZ6
  have mem1 : A + 1 + 1 ∈ [A + 1 + 1, A + 1 + 1 + 1] := by simp
  have mem2 : A + 1 + 1 + 1 ∈ [A + 1 + 1, A + 1 + 1 + 1] := by simp
  go_wp2_with fail
  all_goals
    refine bodyPost_ret (v := .tuple #[.agg (stCells y r s), .agg #[.bool false, .bool false, .int .i64 0], .bool true]) (by simp [results, Try.results16, go_sem, stCells, c0, c1, c2, c3, c4, c5, c6, z0, z1, z2]) rfl ?_
    refine (fun (hx : Ext [A + 1 + 1, A + 1 + 1 + 1] W6 _) => ⟨r, lv, rfl, hP6.extT hx ?_, hX6.extT hx ?_, hE6.trans hx ?_⟩) ?_
    · repeat (first | (with_reducible exact Ext.refl _ _) | (with_reducible refine Ext.drew ?_) | (with_reducible refine Ext.set' mem1 ?_ _ _) | (with_reducible refine Ext.set' mem2 ?_ _ _))
    · intro g hg
      simp at hg
      rcases hg with rfl | rfl
      · exact ⟨_, _, _, hC6, by decide, by decide, by decide, by decide, by decide⟩
      · exact ⟨_, _, _, hZ6, by decide, by decide, by decide, by decide, by decide⟩
    · intro g hg
      simp at hg
      rcases hg with rfl | rfl
      · exact ⟨_, _, _, hC6, by decide, by decide⟩
      · exact ⟨_, _, _, hZ6, by decide, by decide⟩
    · intro g hg
      have := HAA.out
      simp at hg; omega
end Go.Proofs.Ytkhihpmadmmeaaa
set_option linter.unusedSimpArgs false
set_option linter.unusedVariables false
namespace Go.Proofs.Ytkhihpmadmmeaaa
open Go.RowKit Go.Hs

/-- An act of process i. -/
noncomputable def Sys.does (s : Sys) (kind : Int) (i : Nat) (raw : ByteArray) : Sys × EndR :=
  match s.L[i]? with
  | none => (s, .no)
  | some x => if kind = 1 then s.step i x else if kind = 2 then ({ s with L := s.L.set i (x.doBegin (cutB raw 20)).2 }, .no) else if kind = 3 then ({ s with L := s.L.set i x.doHead.2 }, .no) else (s, .no)
theorem SInv.some {s : Sys} {n i : Nat} (h : SInv s n) (hi : i < s.P) : ∃ x, s.L[i]? = some x := ⟨s.L[i]'(by rw [h.hL]; exact hi), List.getElem?_eq_getElem _⟩
theorem SInv.mono {s : Sys} {n m : Nat} (h : SInv s n) (hm : n ≤ m) : SInv s m := ⟨h.hP, h.hS, h.cells, Nat.le_trans h.log hm, h.hL, fun i x hi => (h.core i x hi).mono hm, h.ph⟩
theorem set_self {L : List PSt} {i : Nat} {x : PSt} (h : L[i]? = some x) : L.set i x = L := by
  obtain ⟨h1, h2⟩ := List.getElem?_eq_some_iff.1 h
  rw [← h2]; exact List.set_getElem_self h1
theorem does_any (B : Nat) (y : Lay) (r : RLay) (lv : Value) (s : Sys) (n : Nat) (kind who : Int) (raw : ByteArray) (w : World) (hP : PAt B w.heap y lv s) (hX : XAt B w.heap y r s.P s.S s.ref) (hI : SInv s n) (hn : n < 100000) (hB : B ≤ w.heap.size) :
    Calls Try.prog 16 #[.agg (stCells y r s), .agg #[.int .i64 kind, .int .i64 who, .string raw]] w fun e w' =>
      DoesPost B y lv w e w' (s.does kind (whoOf who s.P) raw).1 (s.does kind (whoOf who s.P) raw).2 := by
  obtain ⟨x, hx⟩ := hI.some (whoOf_lt who hI.hP.1)
  unfold Sys.does
  rw [hx]
  simp only []
  by_cases h1 : kind = 1
  · subst h1
    rw [if_pos rfl]
    exact does_step B y r lv s n who raw w hP hX hI hn hB hx
  · rw [if_neg h1]
    by_cases h2 : kind = 2
    · subst h2
      rw [if_pos rfl]
      by_cases hph : x.phase = 0
      · exact does_begin0 B y r lv s n who raw w hP hX hI hn hB hx hph
      · have hd : (x.doBegin (cutB raw 20)).2 = x := by unfold PSt.doBegin; rw [if_neg hph]
        rw [hd, set_self hx]
        exact does_begin1 B y r lv s n who raw w hP hX hI hn hB hx hph
    · rw [if_neg h2]
      by_cases h3 : kind = 3
      · subst h3
        rw [if_pos rfl]
        by_cases hph : x.phase = 0
        · exact does_head0 B y r lv s n who raw w hP hX hI hn hB hx hph
        · have hd : x.doHead.2 = x := by unfold PSt.doHead; rw [if_neg hph]
          rw [hd, set_self hx]
          exact does_head1 B y r lv s n who raw w hP hX hI hn hB hx hph
      · rw [if_neg h3]
        exact does_none B y r lv s n kind who raw w hP hX hI hn hB hx h1 h2 h3
theorem SInv.setL {s : Sys} {n i : Nat} {y : PSt} (h : SInv s n) (hc : PCore s.P s.S (n + 1) s.M.cells i y) (hp : PPh s.S i y) : SInv { s with L := s.L.set i y } (n + 1) := by
  have := h.upd (i := i) (y := y) (M' := s.M) (Grow.refl _ _) (by have := h.log; omega) hc hp
  exact this
theorem inv_does {s : Sys} {n : Nat} (h : SInv s n) (kind : Int) (i : Nat) (raw : ByteArray) : SInv (s.does kind i raw).1 (n + 1) := by
  unfold Sys.does
  cases hx : s.L[i]? with
  | none => exact h.mono (Nat.le_succ n)
  | some x =>
    have hc := h.core i x hx
    have hc' := hc.mono (Nat.le_succ n)
    have hp := h.ph i x hx
    simp only []
    split
    · exact inv_step h hx
    · split
      · refine h.setL ?_ ?_
        · unfold PSt.doBegin
          split
          · split
            · exact ⟨hc.hP, hc.hS, hc.who, hc.at_, by have := hc.seq; show x.seq + 1 ≤ n + 1; omega, by have := cutB_size raw 20; show (cutB raw 20).size ≤ 1024; omega, hc.seen, hc.dec⟩
            · exact hc'
          · exact hc'
        · unfold PSt.doBegin
          split
          · split
            · exact ⟨.inr (.inl rfl), (fun g => by rcases g with g | g | g <;> cases g), .inl hc.who, fun g => by cases g⟩
            · exact hp
          · exact hp
      · split
        · refine h.setL ?_ ?_
          · unfold PSt.doHead
            split
            · exact hc'.same rfl rfl rfl rfl rfl rfl rfl
            · exact hc'
          · unfold PSt.doHead
            split
            · rename_i e
              refine ⟨.inr (.inr (.inr (.inr (.inr rfl)))), (fun g => by rcases g with g | g | g <;> cases g), ?_, fun g => by cases g⟩
              rcases hp.mwho with g | ⟨g, _⟩
              · exact .inl g
              · exact .inr ⟨g, .inr rfl⟩
            · exact hp
        · exact h.mono (Nat.le_succ n)
theorem does_P (s : Sys) (kind : Int) (i : Nat) (raw : ByteArray) : (s.does kind i raw).1.P = s.P ∧ (s.does kind i raw).1.S = s.S := by
  unfold Sys.does
  split
  · exact ⟨rfl, rfl⟩
  · split
    · exact ⟨rfl, rfl⟩
    · split
      · exact ⟨rfl, rfl⟩
      · split <;> exact ⟨rfl, rfl⟩
/-- The new system. -/
def Sys.new (P S : Nat) : Sys := ⟨P, S, (List.range P).map (PSt.new P S), MSt.new (P + S)⟩
theorem ref_new (P S : Nat) : (Sys.new P S).ref = RW.new P S := by
  simp only [Sys.ref, Sys.new, MSt.new, RW.new]
  congr 1
  · simp
  · simp
  · rw [List.map_map]; rfl
theorem new_get {P S i : Nat} {x : PSt} (h : (Sys.new P S).L[i]? = some x) : i < P ∧ x = PSt.new P S i := by
  have h' : ((List.range P).map (PSt.new P S))[i]? = some x := h
  rw [List.getElem?_map] at h'
  by_cases hi : i < P
  · rw [List.getElem?_range hi] at h'
    exact ⟨hi, (Option.some.inj h').symm⟩
  · rw [List.getElem?_eq_none (by simpa using hi)] at h'
    cases h'
theorem known_nil (r : Int) : knownF [] r = 0 := rfl
theorem inv_new {P S : Nat} (hP : 1 ≤ P ∧ P ≤ 5) (hS : S ≤ 20) : SInv (Sys.new P S) 0 := by
  refine ⟨hP, hS, by simp [Sys.new, MSt.new], Nat.le_refl _, by simp [Sys.new], fun i x hi => ?_, fun i x hi => ?_⟩
  · obtain ⟨_, rfl⟩ := new_get hi
    exact ⟨rfl, rfl, rfl, Nat.zero_le _, Nat.le_refl _, Nat.zero_le _, fun r => by simp [PSt.new, known_nil], fun k hk => absurd hk (Nat.not_lt_zero _)⟩
  · obtain ⟨_, rfl⟩ := new_get hi
    exact ⟨.inl rfl, (fun g => by rcases g with g | g | g <;> cases g), .inr ⟨rfl, .inl rfl⟩, fun g => by cases g⟩
end Go.Proofs.Ytkhihpmadmmeaaa
set_option linter.unusedSimpArgs false
set_option linter.unusedVariables false
set_option maxHeartbeats 2000000
set_option maxRecDepth 100000
namespace Go.Proofs.Ytkhihpmadmmeaaa
open Go.RowKit Go.Hs

abbrev zeroState : Array Value := #[.int .i64 0, .int .i64 0, .pointer none, .slice none 0 0, .slice none 0 0, .slice none 0 0, .slice none 0 0]
structure BegMid (w wx : World) (R Pb V P S k lcap : Nat) (lao : Option Addr) (y : Lay) (lv : Value) (r : RLay) : Prop where
  hV : wx.heap[V]? = some (.cells #[.int .i64 P, .int .i64 S, .pointer (some ⟨y.mb, 0, none⟩), .slice lao k lcap, .slice r.sao S r.scap, .slice r.wao P r.wcap, .slice (some ⟨r.pg, 0, none⟩) P r.pcap] 39 (0, 0))
  hPb : wx.heap[Pb]? = some (.cells #[.int .i64 P, .int .i64 S] 23 (0, 0))
  hR : wx.heap[R]? = some (.cells #[.int .i64 0, .int .i64 0, .pointer none, .slice none 0 0, .slice none 0 0, .slice none 0 0, .slice none 0 0] 39 (0, 0))
  me : IsMem wx.heap y.mb y.mc y.mm lv (MSt.new (P + S))
  lb : Own wx.heap 48 1 (.slice lao k lcap) k (y.bs.map fun b => Value.pointer (some ⟨b, 0, none⟩))
  pr : ∀ (i : Nat), i < k → ∃ b m, y.bs[i]? = some b ∧ y.ms[i]? = some m ∧ IsProc wx.heap b m (PSt.new P S i)
  lm : y.ms.length = k
  nb : y.bs.Nodup
  nm : y.ms.Nodup ∧ y.mm ∉ y.ms
  lo : ∀ g ∈ y.fixed, w.heap.size ≤ g ∧ g < wx.heap.size
  ll : ∀ g, (Value.slice lao k lcap).ownBlock = some g → w.heap.size ≤ g
  xa : XAt w.heap.size wx.heap y r P S (RW.new P S)
  ext : Ext [] w wx
  loc : w.heap.size ≤ R ∧ R < V ∧ R ≠ Pb ∧ V ≠ Pb
theorem own_ext0 {w w' : World} {e : TypeId} {size n : Nat} {v : Value} {xs : List Value} (o : Own w.heap e size v n xs) (hx : Ext [] w w') : Own w'.heap e size v n xs := own_ext o hx (by simp)
/-- A new process, appended. -/
theorem BegMid.next {w wr w1 w2 : World} {R Pb V P S k lcap cap2 b m : Nat} {lao ao : Option Addr} {y : Lay} {lv : Value} {r : RLay} {X : Obj} (h : BegMid w wr R Pb V P S k lcap lao y lv r)
    (hIp : IsProc w1.heap b m (PSt.new P S k)) (hx1 : Ext [] wr w1) (hb : wr.heap.size ≤ b) (hm : wr.heap.size ≤ m)
    (hl2 : Own w2.heap 48 1 (.slice ao (k + 1) cap2) (k + 1) (y.bs.map (fun b => Value.pointer (some ⟨b, 0, none⟩)) ++ [.pointer (some ⟨b, 0, none⟩)])) (hx2 : Ext (Value.slice lao k lcap).ownBlock.toList (w1.alloc X) w2)
    (hf2 : ∀ g, (Value.slice ao (k + 1) cap2).ownBlock = some g → (Value.slice lao k lcap).ownBlock = some g ∨ w1.heap.size ≤ g) :
    BegMid w (w2.setCell ⟨V, 3, none⟩ (.slice ao (k + 1) cap2)) R Pb V P S (k + 1) cap2 ao { y with bs := y.bs ++ [b], ms := y.ms ++ [m] } lv r := by
  have hlen : y.bs.length = k := by have := h.lb.1; simpa using this
  have hxa : Ext [] wr (w1.alloc X) := (hx1.alloc X)
  have hs1 := hx1.size
  have lb1 := own_ext0 h.lb hxa
  have hV2 := hx2.same (hxa.same h.hV (by simp)) (own_far lb1 (hxa.same h.hV (by simp)) (by decide))
  have hPb2 := hx2.same (hxa.same h.hPb (by simp)) (own_far lb1 (hxa.same h.hPb (by simp)) (by decide))
  have hR2 := hx2.same (hxa.same h.hR (by simp)) (own_far lb1 (hxa.same h.hR (by simp)) (by decide))
  have hset : Ext [V] w2 (w2.setCell ⟨V, 3, none⟩ (.slice ao (k + 1) cap2)) := Ext.set' (by simp) (Ext.refl _ _) _ _
  -- all that is no block of pointers, and not V, is as it was
  have hall : Ext ((Value.slice lao k lcap).ownBlock.toList ++ [V]) (w1.alloc X) (w2.setCell ⟨V, 3, none⟩ (.slice ao (k + 1) cap2)) := (hx2.mono (fun g hg => .inl (List.mem_append_left _ hg))).trans hset (fun g hg => .inl (List.mem_append_right _ hg))
  have hVlt := lt_of_heap h.hV
  have hVa := hxa.same h.hV (by simp)
  have farC : ∀ {g : Nat} {cs : Array Value} {t : TypeId} {f : Nat × Nat}, (w1.alloc X).heap[g]? = some (.cells cs t f) → t ≠ 48 → t ≠ 39 → g ∉ (Value.slice lao k lcap).ownBlock.toList ++ [V] := by
    intro g cs t f hg h1 h2 hmm
    rcases List.mem_append.1 hmm with q | q
    · exact own_far lb1 hg h1 q
    · simp at q; subst q
      rw [hVa] at hg
      simp at hg
      exact h2 hg.2.1.symm
  have farM : ∀ {κ ν : Type} [DecidableEq κ] {enc : κ → Value} {venc : ν → Value} {l : List (κ × ν)} {g : Nat}, MapAt enc venc (w1.alloc X).heap g l → g ∉ (Value.slice lao k lcap).ownBlock.toList ++ [V] := by
    intro κ ν _ enc venc l g hg hmm
    rcases List.mem_append.1 hmm with q | q
    · obtain ⟨cur, hc⟩ := lb1.block (by simpa using q)
      exact absurd rfl (hg.ne hc)
    · simp at q; subst q
      exact absurd rfl (hg.ne hVa)
  have me1 := h.me.ext0 hxa
  have xa1 := h.xa.ext0 hxa
  obtain ⟨cnt, hcnt⟩ := me1.hm
  have hIp1 : IsProc (w1.alloc X).heap b m (PSt.new P S k) := hIp.ext (w' := (w1.alloc X)) ((Ext.refl [] w1).alloc X) (by simp) (by simp)
  have hsz := hall.size
  have hsa : w1.heap.size ≤ (w1.alloc X).heap.size := by show w1.heap.size ≤ (w1.alloc X).heap.size; simp
  have hblt := lt_of_heap hIp.hb
  have hmlt := hIp.hm.lt
  have hfb : ∀ g ∈ y.bs, g < wr.heap.size := fun g hg => (h.lo g (by simp [Lay.fixed, hg])).2
  have hfm : ∀ g ∈ y.ms, g < wr.heap.size := fun g hg => (h.lo g (by simp [Lay.fixed, hg])).2
  have hfmm : y.mm < wr.heap.size := (h.lo y.mm (by simp [Lay.fixed])).2
  refine ⟨?_, hset.same hPb2 (by simpa using Ne.symm h.loc.2.2.2), hset.same hR2 (by simp; have := h.loc; omega), me1.ext hall (fun g hg => ?_), ?_, fun i hi => ?_, by simp [h.lm], ?_, ⟨?_, ?_⟩, fun g hg => ?_, fun g hg => ?_, ?_, ?_, h.loc⟩
  · rw [heap_set hV2]; simp
  · simp [foot] at hg
    rcases hg with rfl | rfl | rfl | hg
    · exact farC me1.hb (by decide) (by decide)
    · exact farC me1.hc (by decide) (by decide)
    · exact farM hcnt
    · obtain ⟨cur, hc⟩ := me1.hl.block hg
      exact farC hc (by decide) (by decide)
  · refine own_ext ?_ hset (fun g hg => ?_)
    · simpa using hl2
    · obtain ⟨cur, hc⟩ := hl2.block hg
      simpa using ne_block hc hV2 (by simp)
  · by_cases e : i = k
    · subst e
      exact ⟨b, m, by simp [← hlen], by simp [← h.lm], hIp1.ext hall (farC hIp1.hb (by decide) (by decide)) (farM hIp1.hm)⟩
    · obtain ⟨b', m', g1, g2, g3⟩ := h.pr i (by omega)
      have g3' : IsProc (w1.alloc X).heap b' m' (PSt.new P S i) := g3.ext hxa (by simp) (by simp)
      exact ⟨b', m', by rw [List.getElem?_append_left (by omega)]; exact g1, by rw [List.getElem?_append_left (by rw [h.lm]; omega)]; exact g2, g3'.ext hall (farC g3'.hb (by decide) (by decide)) (farM g3'.hm)⟩
  · refine List.nodup_append.2 ⟨h.nb, by simp, fun a ha c hc e => ?_⟩
    simp at hc; subst hc; subst e
    have := hfb _ ha; omega
  · refine List.nodup_append.2 ⟨h.nm.1, by simp, fun a ha c hc e => ?_⟩
    simp at hc; subst hc; subst e
    have := hfm _ ha; omega
  · intro hmm
    rcases List.mem_append.1 hmm with q | q
    · exact h.nm.2 q
    · simp at q; omega
  · have hB := h.ext.size
    have : g = b ∨ g = m ∨ g ∈ y.fixed := by
      simp [Lay.fixed] at hg ⊢
      rcases hg with g1 | g1 | g1 | g1 | g1 | g1 | g1
      all_goals simp [g1]
    rcases this with rfl | rfl | q
    · exact ⟨by omega, by omega⟩
    · exact ⟨by omega, by omega⟩
    · have := h.lo g q
      exact ⟨by omega, by omega⟩
  · rcases hf2 g hg with q | q
    · exact h.ll g q
    · have := h.ext.size; omega
  · refine ⟨xa1.rf.ext hall fun g hg => ?_, xa1.ns, xa1.nw, xa1.np⟩
    rcases hg with hg | hg | rfl
    · obtain ⟨cur, hc⟩ := xa1.rf.s.block hg
      exact farC hc (by decide) (by decide)
    · obtain ⟨cur, hc⟩ := xa1.rf.w.block hg
      exact farC hc (by decide) (by decide)
    · obtain ⟨cur, hc⟩ := xa1.rf.p.block (g := r.pg) rfl
      exact farC hc (by decide) (by decide)
  · refine (h.ext.trans0 hxa).trans hall (fun g hg => .inr ?_)
    rcases List.mem_append.1 hg with q | q
    · exact h.ll g (by simpa using q)
    · simp at q; have := h.loc; omega
end Go.Proofs.Ytkhihpmadmmeaaa
set_option linter.unusedSimpArgs false
set_option linter.unusedVariables false
set_option maxHeartbeats 20000000
set_option maxRecDepth 100000
namespace Go.Proofs.Ytkhihpmadmmeaaa
open Go.RowKit Go.Hs

def beginP (procs : Int) : Nat := 1 + (procs % 256).toNat % 5
def beginS (slots : Int) : Nat := (slots % 256).toNat % 21
theorem begin_nums (n : Int) (k : Nat) : ∃ c : Nat, Go.bits .and .i64 n 255 = (c : Int) ∧ c < 256 ∧ c = (n % 256).toNat := ⟨(n % 256).toNat, by rw [and255]; omega, by omega, rfl⟩
theorem BegMid.done {w wx : World} {R Pb V P S lcap : Nat} {lao : Option Addr} {y : Lay} {lv : Value} {r : RLay} (h : BegMid w wx R Pb V P S P lcap lao y lv r) (hP : 1 ≤ P) {w' : World} (hx : Ext [R] wx w') :
    ∃ lg, lao = some ⟨lg, 0, none⟩ ∧ PAt w.heap.size w'.heap { y with lg := lg, lcap := lcap } lv (Sys.new P S) ∧ XAt w.heap.size w'.heap { y with lg := lg, lcap := lcap } r P S (Sys.new P S).ref ∧ Ext [] w w' := by
  obtain ⟨lg, cap, cur, hv, hg, _⟩ := own_some h.lb (by omega)
  simp only [Value.slice.injEq] at hv
  obtain ⟨rfl, _, rfl⟩ := hv
  have hlen : y.bs.length = P := by have := h.lb.1; simpa using this
  have hP0 : PAt w.heap.size wx.heap { y with lg := lg, lcap := lcap } lv (Sys.new P S) := by
    refine ⟨h.me, h.lb, fun i x hi => ?_, by simp [Sys.new], h.lm, h.nb, h.nm, fun g hg => ?_⟩
    · obtain ⟨hi', rfl⟩ := new_get hi
      exact h.pr i hi'
    · rcases hg with hg | rfl
      · exact (h.lo g hg).1
      · exact h.ll _ rfl
  have hX0 : XAt w.heap.size wx.heap { y with lg := lg, lcap := lcap } r P S (Sys.new P S).ref := by
    rw [ref_new]
    exact ⟨h.xa.rf, h.xa.ns, h.xa.nw, h.xa.np⟩
  refine ⟨lg, rfl, hP0.extT hx ?_, hX0.extT hx ?_, h.ext.trans hx (fun g hg => .inr (by simp at hg; have := h.loc; omega))⟩
  · intro g hg
    simp at hg; subst hg
    exact ⟨_, _, _, h.hR, by decide, by decide, by decide, by decide, by decide⟩
  · intro g hg
    simp at hg; subst hg
    exact ⟨_, _, _, h.hR, by decide, by decide⟩
theorem mem_over {w1 wF : World} {V mb mc mm : Nat} {lv : Value} {M : MSt} (hM : IsMem w1.heap mb mc mm lv M) (hx : Ext [V] w1 wF) (hv : w1.heap.size ≤ V ∨ ∃ cs f, w1.heap[V]? = some (.cells cs 39 f)) : IsMem wF.heap mb mc mm lv M := by
  obtain ⟨cnt, hcnt⟩ := hM.hm
  refine hM.ext hx fun g hg hgV => ?_
  simp at hgV; subst hgV
  have hlt := hM.lt g hg
  rcases hv with hv | ⟨cs, f, hv⟩
  · omega
  · simp [foot] at hg
    rcases hg with rfl | rfl | rfl | hg
    · exact absurd rfl (ne_block hM.hb hv (by simp))
    · exact absurd rfl (ne_block hM.hc hv (by simp))
    · exact absurd rfl (hcnt.ne hv)
    · obtain ⟨cur, hc⟩ := hM.hl.block hg
      exact absurd rfl (ne_block hc hv (by simp))
theorem ref_over {w1 wF : World} {V S P : Nat} {sao wao : Option Addr} {scap wcap pg pcap : Nat} {X : RW} (hR : RefV w1.heap S P sao scap wao wcap pg pcap X) (hx : Ext [V] w1 wF) (hv : w1.heap.size ≤ V ∨ ∃ cs f, w1.heap[V]? = some (.cells cs 39 f)) : RefV wF.heap S P sao scap wao wcap pg pcap X := by
  refine hR.ext hx fun g hg hgV => ?_
  simp at hgV; subst hgV
  have hex : ∃ cur t, w1.heap[g]? = some (.cells cur t (0, 0)) ∧ t ≠ 39 := by
    rcases hg with hg | hg | rfl
    · obtain ⟨cur, hc⟩ := hR.s.block hg; exact ⟨cur, _, hc, by decide⟩
    · obtain ⟨cur, hc⟩ := hR.w.block hg; exact ⟨cur, _, hc, by decide⟩
    · obtain ⟨cur, hc⟩ := hR.p.block (g := g) rfl; exact ⟨cur, _, hc, by decide⟩
  obtain ⟨cur, t, hc, ht⟩ := hex
  rcases hv with hv | ⟨cs, f, hv⟩
  · have := lt_of_heap hc; omega
  · rw [hv] at hc
    simp at hc
    exact ht hc.2.1.symm
theorem begMid_first {w w1 w2 wF : World} {R Pb V P S mb mc mm s0 w0 pg pcap : Nat} {lv : Value} (hM : IsMem w1.heap mb mc mm lv (MSt.new (P + S))) (hf : ∀ g ∈ foot mb mc mm lv, w.heap.size ≤ g) (hR : RefV w2.heap S P (some ⟨s0, 0, none⟩) S (some ⟨w0, 0, none⟩) P pg pcap (RW.new P S))
    (hx1 : Ext [V] w1 wF) (hx2 : Ext [V] w2 wF) (hv1 : w1.heap.size ≤ V ∨ ∃ cs f, w1.heap[V]? = some (.cells cs 39 f)) (hv2 : w2.heap.size ≤ V ∨ ∃ cs f, w2.heap[V]? = some (.cells cs 39 f))
    (hs0 : w.heap.size ≤ s0) (hw0 : w.heap.size ≤ w0) (hpg : w.heap.size ≤ pg) (hsm : s0 ≠ mc) (hwm : w0 ≠ mc)
    (hV : wF.heap[V]? = some (.cells #[.int .i64 P, .int .i64 S, .pointer (some ⟨mb, 0, none⟩), .slice none 0 0, .slice (some ⟨s0, 0, none⟩) S S, .slice (some ⟨w0, 0, none⟩) P P, .slice (some ⟨pg, 0, none⟩) P pcap] 39 (0, 0)))
    (hPb : wF.heap[Pb]? = some (.cells #[.int .i64 P, .int .i64 S] 23 (0, 0)))
    (hRR : wF.heap[R]? = some (.cells #[.int .i64 0, .int .i64 0, .pointer none, .slice none 0 0, .slice none 0 0, .slice none 0 0, .slice none 0 0] 39 (0, 0)))
    (hE : Ext [] w wF) (hloc : w.heap.size ≤ R ∧ R < V ∧ R ≠ Pb ∧ V ≠ Pb) :
    BegMid w wF R Pb V P S 0 0 none ⟨mb, mc, mm, 0, 0, [], []⟩ lv ⟨some ⟨s0, 0, none⟩, S, some ⟨w0, 0, none⟩, P, pg, pcap⟩ := by
  have hM' := mem_over hM hx1 hv1
  have hR' := ref_over hR hx2 hv2
  refine ⟨hV, hPb, hRR, hM', ⟨rfl, .inl ⟨rfl, rfl⟩⟩, fun i hi => absurd hi (Nat.not_lt_zero _), rfl, by simp, by simp, fun g hg => ?_, by simp [Value.ownBlock], ⟨hR', fun g hg => ?_, fun g hg => ?_, hpg⟩, hE, hloc⟩
  · simp [Lay.fixed] at hg
    have : g ∈ foot mb mc mm lv := by rcases hg with h | h | h <;> simp [foot, h]
    exact ⟨hf g this, hM'.lt g this⟩
  · simp [Value.ownBlock] at hg; subst hg; exact ⟨hsm, hs0⟩
  · simp [Value.ownBlock] at hg; subst hg; exact ⟨hwm, hw0⟩
theorem drew_size (w : World) : w.drew.heap.size = w.heap.size := rfl
theorem alloc_size (w : World) (o : Obj) : (w.alloc o).heap.size = w.heap.size + 1 := by simp
theorem zcells {w : World} {V : Nat} (h : w.heap[V]? = some (.cells zeroState 39 (0, 0))) : w.cell? ⟨V, 0, none⟩ = some (.int .i64 0) ∧ w.cell? ⟨V, 1, none⟩ = some (.int .i64 0) ∧ w.cell? ⟨V, 2, none⟩ = some (.pointer none) ∧
    w.cell? ⟨V, 3, none⟩ = some (.slice none 0 0) ∧ w.cell? ⟨V, 4, none⟩ = some (.slice none 0 0) ∧ w.cell? ⟨V, 5, none⟩ = some (.slice none 0 0) ∧ w.cell? ⟨V, 6, none⟩ = some (.slice none 0 0) ∧ (∀ o, w.frozen? ⟨V, o, none⟩ = false) :=
  ⟨cellAt h 0, cellAt h 1, cellAt h 2, cellAt h 3, cellAt h 4, cellAt h 5, cellAt h 6, freeAt h⟩
theorem pcells {w : World} {A P S : Nat} (h : w.heap[A]? = some (.cells #[.int .i64 P, .int .i64 S] 23 (0, 0))) : w.cell? ⟨A, 0, none⟩ = some (.int .i64 P) ∧ w.cell? ⟨A, 1, none⟩ = some (.int .i64 S) := ⟨cellAt h 0, cellAt h 1⟩
theorem heap_drew {w : World} {b : Nat} {x : Obj} (h : w.heap[b]? = some x) : w.drew.heap[b]? = some x := h
theorem infoPtr : (Try.prog.info? 48).map (fun i => (i.zero, i.size, i.bytes)) = some (some (.pointer none), 1, 8) := by kernel_rfl
theorem begin_law (procs slots : Int) (w : World) : Calls Try.prog 15 #[.int .i64 procs, .int .i64 slots] w fun e w' =>
    ∃ y r lv, e = .returned (.agg (stCells y r (Sys.new (beginP procs) (beginS slots)))) ∧ PAt w.heap.size w'.heap y lv (Sys.new (beginP procs) (beginS slots)) ∧
      XAt w.heap.size w'.heap y r (beginP procs) (beginS slots) (Sys.new (beginP procs) (beginS slots)).ref ∧ Ext [] w w' := by
  obtain ⟨c1, h1, h2, h3⟩ := begin_nums procs 5
  obtain ⟨c2, h4, h5, h6⟩ := begin_nums slots 21
  have hP : beginP procs = 1 + c1 % 5 := by unfold beginP; rw [h3]
  have hS : beginS slots = c2 % 21 := by unfold beginS; rw [h6]
  have hPb : 1 ≤ beginP procs ∧ beginP procs ≤ 5 := by omega
  have hSb : beginS slots ≤ 20 := by omega
  have e1 : (1 : Int) + (c1 : Int) % 5 = (beginP procs : Int) := by omega
  have e2 : (c2 : Int) % 21 = (beginS slots : Int) := by omega
  have e3 : Int.tmod (c1 : Int) 5 = (c1 : Int) % 5 := Int.tmod_eq_emod_of_nonneg (by omega)
  have e4 : Int.tmod (c2 : Int) 21 = (c2 : Int) % 21 := Int.tmod_eq_emod_of_nonneg (by omega)
  clear h3 h6 hP hS
  generalize beginP procs = P at *
  generalize beginS slots = S at *
  obtain ⟨hR, hPl, hE, hsz⟩ := alloc_two w (.cells zeroState 39) (.cells #[.int .i64 P, .int .i64 S] 23)
  have hPi : (1 : Int) ≤ P := by omega
  have hPi5 : (P : Int) ≤ 5 := by omega
  have hSi : (0 : Int) ≤ S := by omega
  have hSi5 : (S : Int) ≤ 20 := by omega
  go_enter Try.func15, Try.ntmps15
  go_upto_region 2 with fail
  generalize (w.alloc (.cells zeroState 39)).alloc (.cells #[.int .i64 P, .int .i64 S] 23) = W at *
  have p0 := cellAt hPl 0
  have p1 := cellAt hPl 1
  simp at p0 p1
  have hcast : ((P + S : Nat) : Int) = (P : Int) + S := by simp
  have HCAST := Hs.hid hcast
  have HPb := Hs.hid (And.intro hPb hSb)
  have CB := Hs.hid (show (0 : Int) ≤ P ∧ (P : Int) ≤ 100000 ∧ (0 : Int) ≤ S ∧ (S : Int) ≤ 100000 by omega)
  have CN := Hs.hid (show P + S ≤ 65536 by omega)
  have CR := Hs.hid (show 1 ≤ P ∧ P ≤ 1000 ∧ S ≤ 1000 by omega)
  have HE := Hs.hid hE
  have HSZ := Hs.hid hsz
  clear hcast hPb hSb hE hsz h1 h2 h4 h5 e1 e2 e3 e4
  generalize hBB : w.heap.size = R at *
  have HBB := Hs.hid hBB
  clear hBB
  have hlt0 := lt_of_heap hPl
  go_cut [6] (fun s wx => ∃ V y lv r, s = .pointer (some ⟨V, 0, none⟩) ∧ BegMid w wx R (R + 1) V P S 0 0 none y lv r)
  case first =>
    go_region_held3 (fun w' => w'.cell? ⟨R + 1, 0, none⟩ = some (.int .i64 ↑P) ∧ w'.cell? ⟨R + 1, 1, none⟩ = some (.int .i64 ↑S))
      (first
        | (with_reducible exact pcells hPl)
        | (with_reducible exact pcells (heap_drew hPl))
        | (with_reducible exact pcells (heap_old' _ _ hPl))
        | (with_reducible exact pcells (heap_drew (heap_old' _ _ hPl)))
        | (with_reducible exact pcells (heap_old' _ _ (heap_drew hPl)))
        | (refine pcells ?_; (repeat (refine (heap_set_ne _ _ _ (by (first | (exact Nat.ne_of_gt hlt0) | (exact Nat.ne_of_gt hlt1) | (exact Nat.ne_of_gt hlt2) | (exact Nat.ne_of_gt hlt3)))).trans ?_)); first | (with_reducible exact hPl) | (with_reducible exact heap_drew hPl) | (with_reducible exact heap_old' _ _ hPl) | (with_reducible exact heap_drew (heap_old' _ _ hPl)) | (with_reducible exact heap_old' _ _ (heap_drew hPl)))
        | go_keep)
      (first
        | (go_at_call 13; (with_reducible refine (cells_any P S _ CB.out.1 CB.out.2.1 CB.out.2.2.1 CB.out.2.2.2).mono ?_); rintro e w3 ⟨rfl, hx3⟩; have hPl := hx3.same (by first | (with_reducible exact hPl) | (with_reducible exact heap_drew hPl) | (with_reducible exact heap_old' _ _ hPl) | (with_reducible exact heap_drew (heap_old' _ _ hPl)) | (with_reducible exact heap_old' _ _ (heap_drew hPl))) (List.not_mem_nil); have hR := hx3.same (by first | (with_reducible exact hR) | (with_reducible exact heap_drew hR) | (with_reducible exact heap_old' _ _ hR) | (with_reducible exact heap_drew (heap_old' _ _ hR)) | (with_reducible exact heap_old' _ _ (heap_drew hR))) (List.not_mem_nil); clear p0 p1; obtain ⟨p0, p1⟩ := pcells hPl; have hlt3 := lt_of_heap hPl; (try (have hVz := hx3.same (by first | (with_reducible exact hVz) | (with_reducible exact heap_drew hVz) | (with_reducible exact heap_old' _ _ hVz) | (with_reducible exact heap_drew (heap_old' _ _ hVz)) | (with_reducible exact heap_old' _ _ (heap_drew hVz))) (List.not_mem_nil); clear v0 v1 v2 v3 v4 v5 v6 vf; obtain ⟨v0, v1, v2, v3, v4, v5, v6, vf⟩ := zcells hVz; have hVz3 := hVz)); (try (have hVz := hx3.same (by first | (with_reducible exact heap_new _ _) | (with_reducible exact heap_drew (heap_new _ _))) (List.not_mem_nil); obtain ⟨v0, v1, v2, v3, v4, v5, v6, vf⟩ := zcells hVz; have hVz3 := hVz)))
        | (go_at_call 20; (with_reducible refine (cellsNew_int (P + S) _ HCAST.out.symm CN.out _).mono ?_); rintro e w1 ⟨mb, mc, mm, lv, rfl, hM1, hx1, hf1⟩; have hPl := hx1.same (by first | (with_reducible exact hPl) | (with_reducible exact heap_drew hPl) | (with_reducible exact heap_old' _ _ hPl) | (with_reducible exact heap_drew (heap_old' _ _ hPl)) | (with_reducible exact heap_old' _ _ (heap_drew hPl))) (List.not_mem_nil); have hR := hx1.same (by first | (with_reducible exact hR) | (with_reducible exact heap_drew hR) | (with_reducible exact heap_old' _ _ hR) | (with_reducible exact heap_drew (heap_old' _ _ hR)) | (with_reducible exact heap_old' _ _ (heap_drew hR))) (List.not_mem_nil); clear p0 p1; obtain ⟨p0, p1⟩ := pcells hPl; have hlt1 := lt_of_heap hPl; (try (have hVz := hx1.same (by first | (with_reducible exact hVz) | (with_reducible exact heap_drew hVz) | (with_reducible exact heap_old' _ _ hVz) | (with_reducible exact heap_drew (heap_old' _ _ hVz)) | (with_reducible exact heap_old' _ _ (heap_drew hVz))) (List.not_mem_nil); clear v0 v1 v2 v3 v4 v5 v6 vf; obtain ⟨v0, v1, v2, v3, v4, v5, v6, vf⟩ := zcells hVz; have hVz1 := hVz)); (try (have hVz := hx1.same (by first | (with_reducible exact heap_new _ _) | (with_reducible exact heap_drew (heap_new _ _))) (List.not_mem_nil); obtain ⟨v0, v1, v2, v3, v4, v5, v6, vf⟩ := zcells hVz; have hVz1 := hVz)))
        | (go_at_call 30; (with_reducible refine (refNew_any P S CR.out.1 CR.out.2.1 CR.out.2.2 _).mono ?_); rintro e w2 ⟨s0, w0, pg, pcap, rfl, hR2, hx2, hs0, hw0, hpg, hne⟩; have hPl := hx2.same (by first | (with_reducible exact hPl) | (with_reducible exact heap_drew hPl) | (with_reducible exact heap_old' _ _ hPl) | (with_reducible exact heap_drew (heap_old' _ _ hPl)) | (with_reducible exact heap_old' _ _ (heap_drew hPl))) (List.not_mem_nil); have hR := hx2.same (by first | (with_reducible exact hR) | (with_reducible exact heap_drew hR) | (with_reducible exact heap_old' _ _ hR) | (with_reducible exact heap_drew (heap_old' _ _ hR)) | (with_reducible exact heap_old' _ _ (heap_drew hR))) (List.not_mem_nil); clear p0 p1; obtain ⟨p0, p1⟩ := pcells hPl; have hlt2 := lt_of_heap hPl; (try (have hVz := hx2.same (by first | (with_reducible exact hVz) | (with_reducible exact heap_drew hVz) | (with_reducible exact heap_old' _ _ hVz) | (with_reducible exact heap_drew (heap_old' _ _ hVz)) | (with_reducible exact heap_old' _ _ (heap_drew hVz))) (List.not_mem_nil); clear v0 v1 v2 v3 v4 v5 v6 vf; obtain ⟨v0, v1, v2, v3, v4, v5, v6, vf⟩ := zcells hVz; have hVz2 := hVz)); (try (have hVz := hx2.same (by first | (with_reducible exact heap_new _ _) | (with_reducible exact heap_drew (heap_new _ _))) (List.not_mem_nil); obtain ⟨v0, v1, v2, v3, v4, v5, v6, vf⟩ := zcells hVz; have hVz2 := hVz))))
    all_goals go_wp2_with fail
    all_goals go_meet
    all_goals
      have z1 := hx1.size
      have z2 := hx2.size
      have z3 := hx3.size
      have z4 := hM1.lt mc (by simp [foot])
      have z5 := hf1 mc (by simp [foot])
      have z6 := hR2.s.lt (g := s0) rfl
      have z7 := hR2.w.lt (g := w0) rfl
      have z8 := HSZ.out
      have z9 := HBB.out
      try simp only [drew_size, alloc_size] at z1
      try simp only [drew_size, alloc_size] at z2
      try simp only [drew_size, alloc_size] at z3
      try simp only [drew_size, alloc_size] at z5
      try simp only [drew_size, alloc_size] at hs0
      try simp only [drew_size, alloc_size] at hw0
      try simp only [drew_size, alloc_size] at hpg
      refine ⟨_, _, _, _, rfl, begMid_first hM1 ?_ hR2 ?_ ?_ ?_ ?_ ?_ ?_ ?_ ?_ ?_ ?_ ?_ ?_ ?_ ?_⟩
      · intro g hg
        have z := hf1 g hg
        try simp only [drew_size, alloc_size] at z
        omega
      · repeat (first | (with_reducible exact Ext.refl _ _) | (with_reducible refine Ext.drew ?_) | (with_reducible refine Ext.set' (List.mem_singleton.2 rfl) ?_ _ _) | (with_reducible refine Ext.trans0 ?_ hx1) | (with_reducible refine Ext.trans0 ?_ hx2) | (with_reducible refine Ext.trans0 ?_ hx3) | (with_reducible refine Ext.alloc ?_ _))
      · repeat (first | (with_reducible exact Ext.refl _ _) | (with_reducible refine Ext.drew ?_) | (with_reducible refine Ext.set' (List.mem_singleton.2 rfl) ?_ _ _) | (with_reducible refine Ext.trans0 ?_ hx1) | (with_reducible refine Ext.trans0 ?_ hx2) | (with_reducible refine Ext.trans0 ?_ hx3) | (with_reducible refine Ext.alloc ?_ _))
      · first | exact .inr ⟨_, _, hVz1⟩ | exact .inl (by try simp only [drew_size, alloc_size]
                                                         omega)
      · first | exact .inr ⟨_, _, hVz2⟩ | exact .inl (by try simp only [drew_size, alloc_size]
                                                         omega)
      · omega
      · omega
      · omega
      · omega
      · omega
      · first | (with_reducible exact heap_new _ _) | (with_reducible exact heap_drew (heap_new _ _)) | exact (heap_set (heap_set (heap_set (heap_set (heap_set (heap_set (heap_set hVz 0 _) 1 _) 2 _) 3 _) 4 _) 5 _) 6 _)
      · (repeat (refine (heap_set_ne _ _ _ (by (first | (exact Nat.ne_of_gt hlt0) | (exact Nat.ne_of_gt hlt1) | (exact Nat.ne_of_gt hlt2) | (exact Nat.ne_of_gt hlt3)))).trans ?_))
        first | (with_reducible exact hPl) | (with_reducible exact heap_drew hPl) | (with_reducible exact heap_old' _ _ hPl) | (with_reducible exact heap_drew (heap_old' _ _ hPl)) | (with_reducible exact heap_old' _ _ (heap_drew hPl))
      · (repeat (refine (heap_set_ne _ _ _ (by (first | (exact Nat.ne_of_gt (Nat.lt_of_succ_lt hlt0)) | (exact Nat.ne_of_gt (Nat.lt_of_succ_lt hlt1)) | (exact Nat.ne_of_gt (Nat.lt_of_succ_lt hlt2)) | (exact Nat.ne_of_gt (Nat.lt_of_succ_lt hlt3))))).trans ?_))
        first | (with_reducible exact hR) | (with_reducible exact heap_drew hR) | (with_reducible exact heap_old' _ _ hR) | (with_reducible exact heap_drew (heap_old' _ _ hR)) | (with_reducible exact heap_old' _ _ (heap_drew hR))
      · repeat (first | (with_reducible exact HE.out) | (with_reducible refine Ext.drew ?_) | (with_reducible refine Ext.setN (by omega) ?_ _ _) | (with_reducible refine Ext.trans0 ?_ hx1) | (with_reducible refine Ext.trans0 ?_ hx2) | (with_reducible refine Ext.trans0 ?_ hx3) | (with_reducible refine Ext.alloc ?_ _))
      · (try simp only [drew_size, alloc_size])
        omega
  case rest =>
    obtain ⟨V, y, lv, r, rfl, hB⟩ := hcut
    clear hR hPl p0 p1 hlt0
    obtain ⟨p0, p1⟩ := pcells hB.hPb
    go_upto_region 4 with fail
    clear p0 p1
    go_loopw [28] (fun i wr => ∃ k y' lcap lao, k ≤ P ∧ i = .int .i64 (k : Nat) ∧ BegMid w wr R (R + 1) V P S k lcap lao y' lv r) (fun i _ => P - (intOf i).toNat)
    case atStart => exact ⟨0, y, 0, none, Nat.zero_le _, rfl, hB⟩
    case round =>
      obtain ⟨k, y', lcap, lao, hk, rfl, hN⟩ := hrel
      by_cases hkn : k < P
      · have hki : (k : Int) < P := by omega
        have hki2 : (k : Int) < 5 := by omega
        have hki0 : (0 : Int) ≤ k := by omega
        obtain ⟨p0, p1⟩ := pcells hN.hPb
        have v3 : wr.cell? ⟨V, 3, none⟩ = some (.slice lao k lcap) := cellAt hN.hV 3
        have HN := Hs.hid hN
        have HK := Hs.hid (And.intro hk hkn)
        clear hN hk hkn
        have hm1 : k + 1 ≤ maxLen := by have := HK.out; simp [maxLen]; omega
        have hm2 : (k + 1) * 8 ≤ 140737488355328 := by have := HK.out; omega
        obtain ⟨i0, hi, hz0, hz1, hz2⟩ := info_parts infoPtr
        go_upto_region 6 with fail
        go_region_law (first
          | (refine step_append_own rfl (.tmp 32) (.tmp 36) 33 rfl 48 i0 _ 1 8 Try.underlying33 hi hz0 hz1 hz2 rfl (by decide) (.slice lao k lcap) k _ (by simp [Act.eval, Act.put]) (hlb1.alloc _) ⟨w1.heap.size, 0, none⟩ 1 1 [.pointer (some ⟨b, 0, none⟩)] (by simp [Act.eval, Act.put]) rfl (news_new w1 _ _) (by simp [Value.oneCell']) hm1 hm2 ?_; intro ao cap2 w2 hl2 hx2 hf2; have hV2 := hx2.same (heap_old' _ _ hV1) (own_far hlb1 hV1 (by decide)); have v3' : w2.cell? ⟨V, 3, none⟩ = some (.slice lao k lcap) := cellAt hV2 3; have vf' := freeAt hV2)
          | (go_simp; go_at_call 21; (with_reducible refine (procNew_any P S k _).mono ?_); rintro e w1 ⟨b, m, rfl, hI1, hx1, hb1, hmm1⟩; have hx1' : Ext [] wr w1 := (by first | exact hx1 | exact ((Ext.refl [] wr).drew).trans0 hx1); have hV1 := hx1'.same HN.out.hV (List.not_mem_nil); have hlb1 := own_ext0 HN.out.lb hx1'; have hVl := lt_of_heap hV1; have v3' : w1.cell? ⟨V, 3, none⟩ = some (.slice lao k lcap) := cellAt hV1 3))
        all_goals
          have hx2' : Ext (Value.slice lao k lcap).ownBlock.toList (w1.alloc (.cells #[.pointer (some ⟨b, 0, none⟩)] 48)) w2 := by first | exact hx2 | exact ((Ext.refl _ _).drew).trans' hx2
          have hnext := HN.out.next hI1 hx1' hb1 hmm1 hl2 hx2' (fun g hg => (hf2 g hg).imp id (fun h => by simp only [drew_size, alloc_size] at h; omega))
          go_wp2_with fail
          go_round
          case rel => exact ⟨k + 1, _, cap2, ao, by have := HK.out; omega, by go_num, hnext⟩
          case measure => have := HK.out; simp [intOf]; omega
      · obtain rfl : k = P := by omega
        have HN := Hs.hid hN
        have v0 := cellAt hN.hV 0
        have v1 := cellAt hN.hV 1
        have v2 := cellAt hN.hV 2
        have v3 := cellAt hN.hV 3
        have v4 := cellAt hN.hV 4
        have v5 := cellAt hN.hV 5
        have v6 := cellAt hN.hV 6
        simp at v0 v1 v2 v3 v4 v5 v6
        obtain ⟨r0, r1, r2, r3, r4, r5, r6, rf⟩ := zcells hN.hR
        clear hN hk hkn
        go_wp2_with fail
        have hset : Ext [R] wr (((((((wr.setCell ⟨R, 0, none⟩ (.int .i64 k)).setCell ⟨R, 1, none⟩ (.int .i64 S)).setCell ⟨R, 2, none⟩ (.pointer (some ⟨y'.mb, 0, none⟩))).setCell ⟨R, 3, none⟩ (.slice lao k lcap)).setCell ⟨R, 4, none⟩ (.slice r.sao S r.scap)).setCell ⟨R, 5, none⟩ (.slice r.wao k r.wcap)).setCell ⟨R, 6, none⟩ (.slice (some ⟨r.pg, 0, none⟩) k r.pcap)) := by
          repeat (first | (with_reducible exact Ext.refl _ _) | (with_reducible refine Ext.set' (List.mem_singleton.2 rfl) ?_ _ _))
        obtain ⟨lg, hlg, h1, h2, h3⟩ := HN.out.done HPb.out.1.1 hset
        refine bodyPost_ret (v := .agg #[.int .i64 k, .int .i64 S, .pointer (some ⟨y'.mb, 0, none⟩), .slice lao k lcap, .slice r.sao S r.scap, .slice r.wao k r.wcap, .slice (some ⟨r.pg, 0, none⟩) k r.pcap]) (by simp [results, Try.results15, go_sem, r0, r1, r2, r3, r4, r5, r6]) rfl ⟨{ y' with lg := lg, lcap := lcap }, r, lv, ?_, h1, h2, h3⟩
        rw [hlg]
        rfl
end Go.Proofs.Ytkhihpmadmmeaaa
set_option linter.unusedSimpArgs false
set_option linter.unusedVariables false
set_option maxHeartbeats 2000000
set_option maxRecDepth 100000
namespace Go.Proofs.Ytkhihpmadmmeaaa
open Go.RowKit Go.Hs

abbrev stCellsX (y : Lay) (r : RLay) (s : Sys) : Array Value :=
  #[.int .i64 s.P, .int .i64 s.S, .pointer (some ⟨y.mb, 0, none⟩), .slice (some ⟨y.lg, 0, none⟩) s.P y.lcap, .slice r.sao s.S r.scap, .slice r.wao s.P r.wcap, .slice (some ⟨r.pg, 0, none⟩) s.P r.pcap]
/-- What Is has of the world. -/
structure IsAt (B : Nat) (w wr : World) (A : Nat) (y : Lay) (r : RLay) (lv : Value) (s : Sys) : Prop where
  pa : PAt B wr.heap y lv s
  xa : XAt B wr.heap y r s.P s.S s.ref
  bx : wr.heap[A]? = some (.cells #[.int .i64 s.P, .int .i64 s.S, .pointer (some ⟨y.mb, 0, none⟩), .slice (some ⟨y.lg, 0, none⟩) s.P y.lcap, .slice r.sao s.S r.scap, .slice r.wao s.P r.wcap, .slice (some ⟨r.pg, 0, none⟩) s.P r.pcap] 39 (0, 0))
  ext : Ext [] w wr
theorem IsAt.ext0 {B : Nat} {w wr w' : World} {A : Nat} {y : Lay} {r : RLay} {lv : Value} {s : Sys} (h : IsAt B w wr A y r lv s) (hx : Ext [] wr w') : IsAt B w w' A y r lv s :=
  ⟨h.pa.ext0 hx, h.xa.ext0 hx, hx.same h.bx (by simp), h.ext.trans0 hx⟩
theorem IsAt.drew {B : Nat} {w wr : World} {A : Nat} {y : Lay} {r : RLay} {lv : Value} {s : Sys} (h : IsAt B w wr A y r lv s) : IsAt B w wr.drew A y r lv s := h.ext0 ((Ext.refl _ _).drew)
theorem bcells {w : World} {A P S mb lg lcap scap wcap pg pcap : Nat} {sao wao : Option Addr} {f : Nat × Nat} (h : w.heap[A]? = some (.cells #[.int .i64 P, .int .i64 S, .pointer (some ⟨mb, 0, none⟩), .slice (some ⟨lg, 0, none⟩) P lcap, .slice sao S scap, .slice wao P wcap, .slice (some ⟨pg, 0, none⟩) P pcap] 39 f)) :
    w.cell? ⟨A, 0, none⟩ = some (.int .i64 P) ∧ w.cell? ⟨A, 1, none⟩ = some (.int .i64 S) ∧ w.cell? ⟨A, 2, none⟩ = some (.pointer (some ⟨mb, 0, none⟩)) ∧ w.cell? ⟨A, 3, none⟩ = some (.slice (some ⟨lg, 0, none⟩) P lcap) ∧ w.cell? ⟨A, 4, none⟩ = some (.slice sao S scap) ∧
    w.cell? ⟨A, 5, none⟩ = some (.slice wao P wcap) ∧ w.cell? ⟨A, 6, none⟩ = some (.slice (some ⟨pg, 0, none⟩) P pcap) := ⟨cellAt h 0, cellAt h 1, cellAt h 2, cellAt h 3, cellAt h 4, cellAt h 5, cellAt h 6⟩
theorem is_any (B : Nat) (y : Lay) (r : RLay) (lv : Value) (s : Sys) (n : Nat) (w : World) (hP : PAt B w.heap y lv s) (hX : XAt B w.heap y r s.P s.S s.ref) (hI : SInv s n) :
    Calls Try.prog 27 #[.agg (stCells y r s)] w fun e w' => e = .returned (.int .i64 0) ∧ Ext [] w w' := by
  have hPp := hI.hP
  have hSs := hI.hS
  have hE : Ext [] w (w.alloc (.cells (stCellsX y r s) 39)) := (Ext.refl _ _).alloc _
  have h0 : IsAt B w (w.alloc (.cells (stCellsX y r s) 39)) w.heap.size y r lv s := ⟨hP.ext0 hE, hX.ext0 hE, heap_new _ _, hE⟩
  have HI := Hs.hid hI
  have HB := Hs.hid (And.intro hPp hSs)
  have g1 : (1 : Int) ≤ s.P := by omega
  have g2 : (s.P : Int) ≤ 5 := by omega
  have g3 : (s.S : Int) ≤ 20 := by omega
  have g4 : (0 : Int) ≤ s.S := by omega
  unfold stCells
  clear hP hX hE hI hPp hSs
  go_enter Try.func27, Try.ntmps27
  go_upto_region 1 with fail
  generalize w.alloc (.cells (stCellsX y r s) 39) = W at *
  generalize w.heap.size = A at *
  obtain ⟨a0, a1, a2, a3, a4, a5, a6⟩ := bcells h0.bx
  go_upto_region 2 with fail
  clear a0 a1 a2 a3 a4 a5 a6
  go_loopw [13] (fun i wr => ∃ k : Nat, k ≤ s.S ∧ i = .int .i64 k ∧ IsAt B w wr A y r lv s) (fun i _ => s.S - (intOf i).toNat)
  case atStart => exact ⟨0, Nat.zero_le _, rfl, h0⟩
  case round =>
    obtain ⟨k, hk, rfl, h⟩ := hrel
    by_cases hlt : k < s.S
    · have hki : (k : Int) < s.S := by omega
      have hki20 : (k : Int) < 20 := by omega
      have hki0 : (0 : Int) ≤ k := by omega
      have hslen : (s.M.cells.drop s.P).length = s.S := by rw [List.length_drop, HI.out.cells]; omega
      obtain ⟨sg, hsao, hcell, _⟩ := str_at h.xa.rf.s (k := k) (t := (s.M.cells.drop s.P).getD k ⟨#[]⟩) (getD_some (L := s.M.cells.drop s.P) (by rw [hslen]; exact hlt))
      have hat := slot_at s.M s.P k
      have HK := Hs.hid hlt
      have HS := Hs.hid (show (0 : Int) ≤ s.P ∧ (s.P : Int) ≤ 100000 ∧ (0 : Int) ≤ k ∧ (k : Int) ≤ 100000 by omega)
      have HK0 := Hs.hid (show (0 : Int) ≤ s.P + k by omega)
      have HAT := Hs.hid hat
      rw [hsao]
      clear hk hlt hat hslen
      generalize (s.M.cells.drop s.P).getD k ⟨#[]⟩ = t at *
      obtain ⟨a0, a1, a2, a3, a4, a5, a6⟩ := bcells h.bx
      go_upto_region 4 with fail
      go_region_held3 (fun w' => w'.cell? ⟨A, 0, none⟩ = some (.int .i64 ↑s.P) ∧ w'.cell? ⟨A, 1, none⟩ = some (.int .i64 ↑s.S) ∧ w'.cell? ⟨A, 2, none⟩ = some (.pointer (some ⟨y.mb, 0, none⟩)))
        (first
          | exact ⟨a0, a1, a2⟩
          | go_keep)
        (first
          | (go_at_call 12; (with_reducible refine (slot_any s.P s.S k _ HS.out.1 HS.out.2.1 HS.out.2.2.1 HS.out.2.2.2).mono ?_); rintro e w1 ⟨rfl, hx1⟩; have h := h.ext0 (show Ext [] wr w1 from (by first | exact hx1 | exact ((Ext.refl [] _).drew).trans0 hx1)); clear a0 a1 a2 a3 a4 a5 a6; obtain ⟨a0, a1, a2, a3, a4, a5, a6⟩ := bcells h.bx)
          | (go_at_call 17; (refine (memLook_any y.mb y.mc y.mm lv s.M (s.P + k) HK0.out _ h.pa.me).mono ?_); rintro e w8 ⟨rfl, rfl⟩; rw [HAT.out]))
      all_goals go_wp2_with fail
      all_goals go_round
      case rel => exact ⟨k + 1, HK.out, by go_num, h⟩
      case measure => have := HK.out; simp [intOf]; omega
    · obtain rfl : k = s.S := by omega
      obtain ⟨a0, a1, a2, a3, a4, a5, a6⟩ := bcells h.bx
      clear hk hlt h0
      go_upto_region 8 with fail
      clear a0 a1 a2 a3 a4 a5 a6
      go_loopw [32] (fun i wr => ∃ k : Nat, k ≤ s.P ∧ i = .int .i64 k ∧ IsAt B w wr A y r lv s) (fun i _ => s.P - (intOf i).toNat)
      case atStart => exact ⟨0, Nat.zero_le _, rfl, h⟩
      case round =>
        clear h
        obtain ⟨i, hi, rfl, h⟩ := hrel
        by_cases hlt : i < s.P
        · have hii : (i : Int) < s.P := by omega
          have hii5 : (i : Int) < 5 := by omega
          have hii0 : (0 : Int) ≤ i := by omega
          have hwlen : (s.M.cells.take s.P).length = s.P := by rw [List.length_take, HI.out.cells]; omega
          obtain ⟨wg, hwao, hcell, _⟩ := str_at h.xa.rf.w (k := i) (t := (s.M.cells.take s.P).getD i ⟨#[]⟩) (getD_some (L := s.M.cells.take s.P) (by rw [hwlen]; exact hlt))
          have hat := wish_at s.M s.P i hlt
          obtain ⟨x, hx⟩ := HI.out.some hlt
          obtain ⟨b, m, hb, hm, hIp⟩ := h.pa.pr i x hx
          have hrp : s.ref.P[i]? = some (rpOf x) := by simp [Sys.ref, hx]
          obtain ⟨q0, q1, q2, q3, q4, q5⟩ := h.xa.rf.at hrp
          simp only [rpOf] at q0 q1 q2 q3 q4 q5
          have l0 := Own.cells (w := wr) rfl h.pa.lb (g := y.lg) rfl i (.pointer (some ⟨b, 0, none⟩)) (by simp [hb])
          rw [add_off'] at l0
          have HK := Hs.hid hlt
          have HK0 := Hs.hid hii0
          have HAT := Hs.hid hat
          rw [hwao]
          clear hi hlt hat hwlen hx hb hm hrp
          generalize (s.M.cells.take s.P).getD i ⟨#[]⟩ = t at *
          obtain ⟨a0, a1, a2, a3, a4, a5, a6⟩ := bcells h.bx
          go_upto_region 10 with fail
          have hlt0 := lt_of_heap h.bx
          have hlt1 := h.xa.rf.p.lt (g := r.pg) rfl
          have hlt2 := h.pa.lb.lt (g := y.lg) rfl
          go_cut [7, 8] (fun s7 s8 wx => ∃ D, s7 = .pointer (some ⟨b, 0, none⟩) ∧ s8 = .pointer (some ⟨D, 0, none⟩) ∧ wx.heap[D]? = some (.cells #[.int .i64 x.phase, .int .i64 x.at_, .int .i64 x.who, .int .i64 x.seq, .string x.body, .string x.offer] 62 (0, 0)) ∧ Ext [] wr wx)
          case first =>
            go_region
            all_goals go_wp2_with fail
            all_goals go_meet
            all_goals exact ⟨_, rfl, rfl, heap_new _ _, ((Ext.refl _ _).alloc _).drew⟩
          case rest =>
            obtain ⟨D, rfl, rfl, hD, hxD⟩ := hcut
            have h := h.ext0 hxD
            have hIp := hIp.ext hxD (by simp) (by simp)
            clear a0 a1 a2 a3 a4 a5 a6 q0 q1 q2 q3 q4 q5 l0 hlt0 hlt1 hlt2 hxD hcell hwao
            obtain ⟨a0, a1, a2, a3, a4, a5, a6⟩ := bcells h.bx
            have d0 : wc.cell? ⟨D, 0, none⟩ = some (.int .i64 x.phase) := cellAt hD 0
            have d1 : wc.cell? ⟨D, 1, none⟩ = some (.int .i64 x.at_) := cellAt hD 1
            have d3 : wc.cell? ⟨D, 3, none⟩ = some (.int .i64 x.seq) := cellAt hD 3
            go_upto_region 11 with fail
            go_region_held3 (fun w' => w'.cell? ⟨A, 0, none⟩ = some (.int .i64 ↑s.P) ∧ w'.cell? ⟨A, 1, none⟩ = some (.int .i64 ↑s.S) ∧ w'.cell? ⟨A, 2, none⟩ = some (.pointer (some ⟨y.mb, 0, none⟩)) ∧ w'.cell? ⟨D, 0, none⟩ = some (.int .i64 x.phase) ∧ w'.cell? ⟨D, 1, none⟩ = some (.int .i64 x.at_) ∧ w'.cell? ⟨D, 3, none⟩ = some (.int .i64 x.seq))
              (first
                | exact ⟨a0, a1, a2, d0, d1, d3⟩
                | go_keep)
              (first
                | (go_at_call 11; (with_reducible refine (wish_any s.P s.S i _).mono ?_); rintro e w1 ⟨rfl, hx1⟩; have hx1' : Ext [] wc w1 := (by first | exact hx1 | exact ((Ext.refl [] _).drew).trans0 hx1); have h := h.ext0 hx1'; have hIp := hIp.ext hx1' (by simp) (by simp); have hD := hx1'.same hD (by simp); clear a0 a1 a2 a3 a4 a5 a6 d0 d1 d3; obtain ⟨a0, a1, a2, a3, a4, a5, a6⟩ := bcells h.bx; have d0 : w1.cell? ⟨D, 0, none⟩ = some (.int .i64 x.phase) := cellAt hD 0; have d1 : w1.cell? ⟨D, 1, none⟩ = some (.int .i64 x.at_) := cellAt hD 1; have d3 : w1.cell? ⟨D, 3, none⟩ = some (.int .i64 x.seq) := cellAt hD 3)
                | (go_at_call 17; (refine (memLook_any y.mb y.mc y.mm lv s.M i HK0.out _ h.pa.me).mono ?_); rintro e w8 ⟨rfl, rfl⟩; rw [HAT.out])
                | (go_at_call 23; (refine (idle_any b m x _ hIp).mono ?_); rintro e w8 ⟨rfl, rfl⟩)
                | (go_at_call 45; (refine (at_any b m x _ hIp).mono ?_); rintro e w8 ⟨rfl, rfl⟩)
                | (go_at_call 18; (refine (seq_any b m x _ hIp).mono ?_); rintro e w8 ⟨rfl, rfl⟩))
            all_goals go_wp2_with fail
            all_goals go_round
            case rel => exact ⟨i + 1, HK.out, by go_num, h⟩
            case measure => have := HK.out; simp [intOf]; omega
        · have hd : ¬ (i : Int) < s.P := by omega
          clear hi hlt
          have hE := h.ext
          go_wp2_with fail
          go_ret
          exact ⟨rfl, hE⟩
end Go.Proofs.Ytkhihpmadmmeaaa
set_option linter.unusedSimpArgs false
set_option linter.unusedVariables false
set_option maxHeartbeats 4000000
set_option maxRecDepth 100000
namespace Go.Proofs.Ytkhihpmadmmeaaa
open Go.RowKit Go.Hs

structure ActR where
  kind : Int
  who : Int
  raw : ByteArray
/-- An argument that is acts. -/
def ActsAt (w : World) (ao : Option Addr) (len cap : Nat) (L : List ActR) : Prop :=
  L.length = len ∧ len ≤ maxLen ∧ ∀ (k : Nat) (x : ActR), L[k]? = some x → ∃ a, ao = some a ∧ a.block < w.heap.size ∧
    w.cell? (a.add (k * 3)) = some (.int .i64 x.kind) ∧ w.cell? ⟨(a.add (k * 3)).block, (a.add (k * 3)).off + 1, none⟩ = some (.int .i64 x.who) ∧ w.cell? ⟨(a.add (k * 3)).block, (a.add (k * 3)).off + 2, none⟩ = some (.string x.raw)
theorem add_block (a : Addr) (n : Nat) : (a.add n).block = a.block := by unfold Addr.add; split <;> rfl
theorem ActsAt.ext0 {w w' : World} {ao : Option Addr} {len cap : Nat} {L : List ActR} (h : ActsAt w ao len cap L) (hx : Ext [] w w') : ActsAt w' ao len cap L := by
  refine ⟨h.1, h.2.1, fun k x hk => ?_⟩
  obtain ⟨a, h1, h2, h3, h4, h5⟩ := h.2.2 k x hk
  have hb := hx.below
  refine ⟨a, h1, Nat.lt_of_lt_of_le h2 hx.size, ?_, ?_, ?_⟩
  · rw [hb.cell (p := a.add (k * 3)) (by rw [add_block]; exact h2)]; exact h3
  · rw [hb.cell (p := ⟨(a.add (k * 3)).block, (a.add (k * 3)).off + 1, none⟩) (by show (a.add (k * 3)).block < _; rw [add_block]; exact h2)]; exact h4
  · rw [hb.cell (p := ⟨(a.add (k * 3)).block, (a.add (k * 3)).off + 2, none⟩) (by show (a.add (k * 3)).block < _; rw [add_block]; exact h2)]; exact h5
theorem ActsAt.cells {w : World} {a : Addr} {len cap : Nat} {L : List ActR} (h : ActsAt w (some a) len cap L) {k : Nat} {x : ActR} (hk : L[k]? = some x) : a.block < w.heap.size ∧
    w.cell? (a.add (k * 3)) = some (.int .i64 x.kind) ∧ w.cell? ⟨(a.add (k * 3)).block, (a.add (k * 3)).off + 1, none⟩ = some (.int .i64 x.who) ∧ w.cell? ⟨(a.add (k * 3)).block, (a.add (k * 3)).off + 2, none⟩ = some (.string x.raw) := by
  obtain ⟨a', h1, h2⟩ := h.2.2 k x hk
  cases h1
  exact h2
theorem ActsAt.some {w : World} {ao : Option Addr} {len cap : Nat} {L : List ActR} (h : ActsAt w ao len cap L) {k : Nat} (hk : k < len) : ∃ a x, ao = some a ∧ L[k]? = some x := by
  have hl : k < L.length := by rw [h.1]; exact hk
  obtain ⟨a, h1, _⟩ := h.2.2 k _ (List.getElem?_eq_getElem hl)
  exact ⟨a, _, h1, List.getElem?_eq_getElem hl⟩
/-- A State in a variable, and the world about it. -/
structure StAt (w wr : World) (V : Nat) (y : Lay) (r : RLay) (lv : Value) (s : Sys) (n : Nat) : Prop where
  pa : PAt w.heap.size wr.heap y lv s
  xa : XAt w.heap.size wr.heap y r s.P s.S s.ref
  inv : SInv s n
  bx : wr.heap[V]? = some (.cells #[.int .i64 s.P, .int .i64 s.S, .pointer (some ⟨y.mb, 0, none⟩), .slice (some ⟨y.lg, 0, none⟩) s.P y.lcap, .slice r.sao s.S r.scap, .slice r.wao s.P r.wcap, .slice (some ⟨r.pg, 0, none⟩) s.P r.pcap] 39 (0, 0))
  ext : Ext [] w wr
  lo : w.heap.size ≤ V
theorem StAt.ext0 {w wr w' : World} {V : Nat} {y : Lay} {r : RLay} {lv : Value} {s : Sys} {n : Nat} (h : StAt w wr V y r lv s n) (hx : Ext [] wr w') : StAt w w' V y r lv s n :=
  ⟨h.pa.ext0 hx, h.xa.ext0 hx, h.inv, hx.same h.bx (by simp), h.ext.trans0 hx, h.lo⟩
/-- Blocks that are of no kind of a State's stay as they are behind Does. -/
theorem fixed_far {B : Nat} {h : Array Obj} {y : Lay} {lv : Value} {s : Sys} (hP : PAt B h y lv s) {g : Nat} {cs : Array Value} {t : TypeId} {f : Nat × Nat}
    (hg : h[g]? = some (.cells cs t f)) (h1 : t ≠ 75) (h2 : t ≠ 73) (h3 : t ≠ 85) (h4 : t ≠ 9) : g ∉ y.fixed ++ lv.ownBlock.toList := by
  intro hm
  have hl1 : y.bs.length = s.L.length := by have := hP.lb.1; rw [hP.len]; simpa using this
  have hl2 : y.ms.length = s.L.length := by rw [hP.len]; exact hP.lms
  have hex : ∀ i < s.L.length, ∃ b m x, y.bs[i]? = some b ∧ y.ms[i]? = some m ∧ IsProc h b m x := by
    intro i hi
    obtain ⟨b, m, q1, q2, q3⟩ := hP.pr i _ (List.getElem?_eq_getElem hi)
    exact ⟨b, m, _, q1, q2, q3⟩
  obtain ⟨cnt, hcnt⟩ := hP.me.hm
  rcases List.mem_append.1 hm with hm | hm
  · simp [Lay.fixed] at hm
    rcases hm with hm | hm | rfl | rfl | rfl
    · obtain ⟨i, hi⟩ := List.getElem?_of_mem hm
      have hlt := (List.getElem?_eq_some_iff.1 hi).1
      obtain ⟨b, m, x, q1, q2, q3⟩ := hex i (by omega)
      rw [hi] at q1; cases q1
      have := q3.hb
      rw [hg] at this
      simp at this
      exact h1 this.2.1
    · obtain ⟨i, hi⟩ := List.getElem?_of_mem hm
      have hlt := (List.getElem?_eq_some_iff.1 hi).1
      obtain ⟨b, m, x, q1, q2, q3⟩ := hex i (by omega)
      rw [hi] at q2; cases q2
      exact absurd rfl (q3.hm.ne hg)
    · have := hP.me.hb
      rw [hg] at this
      simp at this
      exact h2 this.2.1
    · have := hP.me.hc
      rw [hg] at this
      simp at this
      exact h4 this.2.1
    · exact absurd rfl (hcnt.ne hg)
  · obtain ⟨cur, hc⟩ := hP.me.hl.block (by simpa using hm)
    rw [hg] at hc
    simp at hc
    exact h3 hc.2.1
theorem PAt.lower {B B' : Nat} {h : Array Obj} {y : Lay} {lv : Value} {s : Sys} (hP : PAt B h y lv s) (hB : B' ≤ B) : PAt B' h y lv s :=
  ⟨hP.me, hP.lb, hP.pr, hP.len, hP.lms, hP.nb, hP.nm, fun g hg => Nat.le_trans hB (hP.lo g hg)⟩
theorem XAt.lower {B B' : Nat} {h : Array Obj} {y : Lay} {r : RLay} {P S : Nat} {X : RW} (hX : XAt B h y r P S X) (hB : B' ≤ B) : XAt B' h y r P S X :=
  ⟨hX.rf, fun g hg => ⟨(hX.ns g hg).1, Nat.le_trans hB (hX.ns g hg).2⟩, fun g hg => ⟨(hX.nw g hg).1, Nat.le_trans hB (hX.nw g hg).2⟩, Nat.le_trans hB hX.np⟩
theorem begin_lit (procs slots : Int) (w : World) : Calls Try.prog 15 #[.int .i64 procs, .int .i64 slots] w fun e w' =>
    ∃ y r lv s, e = .returned (.agg #[.int .i64 s.P, .int .i64 s.S, .pointer (some ⟨y.mb, 0, none⟩), .slice (some ⟨y.lg, 0, none⟩) s.P y.lcap, .slice r.sao s.S r.scap, .slice r.wao s.P r.wcap, .slice (some ⟨r.pg, 0, none⟩) s.P r.pcap]) ∧ Hid (s = Sys.new (beginP procs) (beginS slots)) ∧ PAt w.heap.size w'.heap y lv s ∧ XAt w.heap.size w'.heap y r s.P s.S s.ref ∧ SInv s 0 ∧ Ext [] w w' := by
  refine (begin_law procs slots w).mono fun e w' ⟨y, r, lv, h1, h2, h3, h4⟩ => ?_
  exact ⟨y, r, lv, _, h1, Hs.hid rfl, h2, h3, inv_new (by unfold beginP; omega) (by unfold beginS; omega), h4⟩
/-- Behind Does: the new State, ahead of the store into its variable. -/
structure DidAt (w wr w' : World) (V : Nat) (y : Lay) (r r' : RLay) (lv lv' : Value) (s s' : Sys) (n : Nat) : Prop where
  pa : PAt w.heap.size w'.heap y lv' s'
  xa : XAt w.heap.size w'.heap y r' s'.P s'.S s'.ref
  inv : SInv s' (n + 1)
  bx : w'.heap[V]? = some (.cells #[.int .i64 s.P, .int .i64 s.S, .pointer (some ⟨y.mb, 0, none⟩), .slice (some ⟨y.lg, 0, none⟩) s.P y.lcap, .slice r.sao s.S r.scap, .slice r.wao s.P r.wcap, .slice (some ⟨r.pg, 0, none⟩) s.P r.pcap] 39 (0, 0))
  ext : Ext [] w w'
  lo : w.heap.size ≤ V
  frame : Ext (y.fixed ++ lv.ownBlock.toList) wr w'
theorem does_lit (w wr : World) (V : Nat) (y : Lay) (r : RLay) (lv : Value) (s : Sys) (n : Nat) (kind who : Int) (raw : ByteArray) (h : StAt w wr V y r lv s n) (hn : n < 100000) :
    Calls Try.prog 16 #[.agg #[.int .i64 s.P, .int .i64 s.S, .pointer (some ⟨y.mb, 0, none⟩), .slice (some ⟨y.lg, 0, none⟩) s.P y.lcap, .slice r.sao s.S r.scap, .slice r.wao s.P r.wcap, .slice (some ⟨r.pg, 0, none⟩) s.P r.pcap], .agg #[.int .i64 kind, .int .i64 who, .string raw]] wr fun e w' =>
      ∃ r' lv' s' d f sl, e = .returned (.tuple #[.agg #[.int .i64 s'.P, .int .i64 s'.S, .pointer (some ⟨y.mb, 0, none⟩), .slice (some ⟨y.lg, 0, none⟩) s'.P y.lcap, .slice r'.sao s'.S r'.scap, .slice r'.wao s'.P r'.wcap, .slice (some ⟨r'.pg, 0, none⟩) s'.P r'.pcap], .agg #[.bool d, .bool f, .int .i64 sl], .bool true]) ∧ Hid (s.does kind (whoOf who s.P) raw = (s', ⟨d, f, sl⟩)) ∧ DidAt w wr w' V y r r' lv lv' s s' n := by
  refine (does_any w.heap.size y r lv s n kind who raw wr h.pa h.xa h.inv hn (h.ext.size)).mono fun e w' ⟨r', lv', h1, h2, h3, h4⟩ => ?_
  refine ⟨r', lv', _, _, _, _, h1, Hs.hid rfl, ?_⟩
  refine ⟨h2, h3, inv_does h.inv kind (whoOf who s.P) raw, h4.same h.bx (fixed_far h.pa h.bx (by decide) (by decide) (by decide) (by decide)), h.ext.trans h4 (fun g hg => .inr (h.pa.foot_lo g hg)), h.lo, h4⟩
theorem DidAt.store {w wr w' : World} {V : Nat} {y : Lay} {r r' : RLay} {lv lv' : Value} {s s' : Sys} {n : Nat} (h : DidAt w wr w' V y r r' lv lv' s s' n) :
    StAt w (((((((w'.setCell ⟨V, 0, none⟩ (.int .i64 s'.P)).setCell ⟨V, 1, none⟩ (.int .i64 s'.S)).setCell ⟨V, 2, none⟩ (.pointer (some ⟨y.mb, 0, none⟩))).setCell ⟨V, 3, none⟩ (.slice (some ⟨y.lg, 0, none⟩) s'.P y.lcap)).setCell ⟨V, 4, none⟩ (.slice r'.sao s'.S r'.scap)).setCell ⟨V, 5, none⟩ (.slice r'.wao s'.P r'.wcap)).setCell ⟨V, 6, none⟩ (.slice (some ⟨r'.pg, 0, none⟩) s'.P r'.pcap)) V y r' lv' s' (n + 1) := by
  have hx : Ext [V] w' (((((((w'.setCell ⟨V, 0, none⟩ (.int .i64 s'.P)).setCell ⟨V, 1, none⟩ (.int .i64 s'.S)).setCell ⟨V, 2, none⟩ (.pointer (some ⟨y.mb, 0, none⟩))).setCell ⟨V, 3, none⟩ (.slice (some ⟨y.lg, 0, none⟩) s'.P y.lcap)).setCell ⟨V, 4, none⟩ (.slice r'.sao s'.S r'.scap)).setCell ⟨V, 5, none⟩ (.slice r'.wao s'.P r'.wcap)).setCell ⟨V, 6, none⟩ (.slice (some ⟨r'.pg, 0, none⟩) s'.P r'.pcap)) := by
    repeat (first | (with_reducible exact Ext.refl _ _) | (with_reducible refine Ext.set' (List.mem_singleton.2 rfl) ?_ _ _))
  refine ⟨h.pa.extT hx ?_, h.xa.extT hx ?_, h.inv, ?_, h.ext.trans hx (fun g hg => .inr (by simp at hg; have := h.lo; omega)), h.lo⟩
  · intro g hg
    simp at hg; subst hg
    exact ⟨_, _, _, h.bx, by decide, by decide, by decide, by decide, by decide⟩
  · intro g hg
    simp at hg; subst hg
    exact ⟨_, _, _, h.bx, by decide, by decide⟩
  · exact (heap_set (heap_set (heap_set (heap_set (heap_set (heap_set (heap_set h.bx 0 _) 1 _) 2 _) 3 _) 4 _) 5 _) 6 _)
theorem is_lit (w wr : World) (V : Nat) (y : Lay) (r : RLay) (lv : Value) (s : Sys) (n : Nat) (h : StAt w wr V y r lv s n) :
    Calls Try.prog 27 #[.agg #[.int .i64 s.P, .int .i64 s.S, .pointer (some ⟨y.mb, 0, none⟩), .slice (some ⟨y.lg, 0, none⟩) s.P y.lcap, .slice r.sao s.S r.scap, .slice r.wao s.P r.wcap, .slice (some ⟨r.pg, 0, none⟩) s.P r.pcap]] wr fun e w' => e = .returned (.int .i64 0) ∧ Ext [] wr w' :=
  is_any w.heap.size y r lv s n wr h.pa h.xa h.inv
end Go.Proofs.Ytkhihpmadmmeaaa
set_option linter.unusedSimpArgs false
set_option linter.unusedVariables false
set_option maxHeartbeats 4000000
set_option maxRecDepth 100000
namespace Go.Proofs.Ytkhihpmadmmeaaa
open Go.RowKit Go.Hs

theorem plays_any (procs slots : Int) (ao : Option Addr) (len cap : Nat) (L : List ActR) (w : World) (hL : ActsAt w ao len cap L) :
    Calls Try.prog 6 #[.int .i64 procs, .int .i64 slots, .slice ao len cap] w fun e w' => e = .returned (.bool true) ∧ Ext [] w w' := by
  have hlm := hL.2.1
  simp only [maxLen] at hlm
  have hlmi : (len : Int) ≤ 9223372036854775807 := by omega
  go_enter Try.func6, Try.ntmps6
  go_upto_region 4 with (first
    | (go_at_call 9; refine (awake_any _).mono ?_; rintro e w0 ⟨rfl, hx0⟩)
    | (go_at_call 15; refine (begin_lit procs slots _).mono ?_; rintro e w1 ⟨y, r, lv, s, rfl, hs, hP1, hX1, hI1, hx1⟩))
  have hE1 := (hx0.trans0 hx1).alloc (.cells #[.int .i64 s.P, .int .i64 s.S, .pointer (some ⟨y.mb, 0, none⟩), .slice (some ⟨y.lg, 0, none⟩) s.P y.lcap, .slice r.sao s.S r.scap, .slice r.wao s.P r.wcap, .slice (some ⟨r.pg, 0, none⟩) s.P r.pcap] 39)
  have hS : StAt w (w1.alloc (.cells #[.int .i64 s.P, .int .i64 s.S, .pointer (some ⟨y.mb, 0, none⟩), .slice (some ⟨y.lg, 0, none⟩) s.P y.lcap, .slice r.sao s.S r.scap, .slice r.wao s.P r.wcap, .slice (some ⟨r.pg, 0, none⟩) s.P r.pcap] 39)) w1.heap.size y r lv s 0 := by
    have ha : Ext [] w1 (w1.alloc (.cells #[.int .i64 s.P, .int .i64 s.S, .pointer (some ⟨y.mb, 0, none⟩), .slice (some ⟨y.lg, 0, none⟩) s.P y.lcap, .slice r.sao s.S r.scap, .slice r.wao s.P r.wcap, .slice (some ⟨r.pg, 0, none⟩) s.P r.pcap] 39)) := (Ext.refl _ _).alloc _
    have hz0 := hx0.size
    have hz1 := hx1.size
    refine ⟨(hP1.lower hz0).ext0 ha, (hX1.lower hz0).ext0 ha, hI1, heap_new _ _, hE1, by omega⟩
  have HL := Hs.hid hL
  clear hP1 hX1 hI1 hx1 hE1 hs hx0 hL
  generalize w1.alloc (.cells #[.int .i64 s.P, .int .i64 s.S, .pointer (some ⟨y.mb, 0, none⟩), .slice (some ⟨y.lg, 0, none⟩) s.P y.lcap, .slice r.sao s.S r.scap, .slice r.wao s.P r.wcap, .slice (some ⟨r.pg, 0, none⟩) s.P r.pcap] 39) = W at *
  generalize w1.heap.size = V at *
  go_upto_region 5 with fail
  go_loopw [8] (fun i wr => ∃ k r lv s, k ≤ len ∧ k ≤ 150 ∧ i = .int .i64 (k : Nat) ∧ StAt w wr V y r lv s k) (fun i _ => len - (intOf i).toNat)
  case atStart => exact ⟨0, r, lv, s, Nat.zero_le _, Nat.zero_le _, rfl, hS⟩
  case round =>
    clear hS
    obtain ⟨k, r, lv, s, hk, hk2, rfl, hS⟩ := hrel
    have hki : (k : Int) ≤ 150 := by omega
    have hki0 : (0 : Int) ≤ k := by omega
    by_cases hlt : k < len ∧ k < 150
    · obtain ⟨hlt1, hlt2⟩ := hlt
      have hl1 : (k : Int) < len := by omega
      have hl2 : (k : Int) < 150 := by omega
      obtain ⟨a, x, rfl, hx⟩ := HL.out.some hlt1
      obtain ⟨_, c0, c1, c2⟩ := (HL.out.ext0 hS.ext).cells hx
      have hne1 : ¬ (a.add (k * 3)).block = V := by rw [add_block]; have := (HL.out.cells hx).1; have := hS.lo; omega
      have hne2 : ¬ V = (a.add (k * 3)).block := fun e => hne1 e.symm
      have HX := Hs.hid hx
      clear hx
      have HK := Hs.hid (And.intro hlt1 hlt2)
      clear hlt1 hlt2 hk hk2
      obtain ⟨v0, v1, v2, v3, v4, v5, v6⟩ := bcells hS.bx
      go_upto_region 8 with fail
      go_cut [9] (fun s9 wx => ∃ r' lv' s', s9 = .bool true ∧ StAt w wx V y r' lv' s' (k + 1))
      case first =>
        go_region_law (first
            | (go_simp; go_at_call 16; (refine (does_lit w _ V y r lv s k x.kind x.who x.raw (by first | exact hS | exact hS.ext0 ((Ext.refl [] _).drew)) (by have := HK.out; omega)).mono ?_); rintro e w2 ⟨r', lv', s', d, f, sl, rfl, hdoes, hD⟩; obtain ⟨g0, g1, g2, g3, g4, g5, g6⟩ := bcells hD.bx; have gf := freeAt hD.bx))
        all_goals go_wp2_with fail
        all_goals go_meet
        all_goals exact ⟨r', lv', s', rfl, hD.store⟩
      case rest =>
        clear hS v0 v1 v2 v3 v4 v5 v6 c0 c1 c2
        obtain ⟨r', lv', s', rfl, hS⟩ := hcut
        obtain ⟨v0, v1, v2, v3, v4, v5, v6⟩ := bcells hS.bx
        go_wp2_with (go_at_call 27; (refine (is_lit w _ V y r' lv' s' (k + 1) hS).mono ?_); rintro e w3 ⟨rfl, hx3⟩)
        have hS3 := hS.ext0 hx3
        go_round
        case rel => exact ⟨k + 1, r', lv', s', HK.out.1, HK.out.2, by go_num, hS3⟩
        case measure => have := HK.out; simp [intOf]; omega
    · have hPp := hS.inv.hP
      have hSs := hS.inv.hS
      have hcl := hS.inv.cells
      have hnl : ¬ ((k : Int) < len ∧ (k : Int) < 150) := by omega
      obtain ⟨v0, v1, v2, v3, v4, v5, v6⟩ := bcells hS.bx
      have hchk := fun w => check_any s.P s.S w
      rw [if_neg (by omega)] at hchk
      have HC := Hs.hid hchk
      have hlen : ((s.M.cells.length : Nat) : Int) = (s.P : Int) + s.S := by rw [hcl]; simp
      have HLN := Hs.hid hlen
      have HB := Hs.hid (show (0 : Int) ≤ s.P ∧ (s.P : Int) ≤ 100000 ∧ (0 : Int) ≤ s.S ∧ (s.S : Int) ≤ 100000 by omega)
      clear hchk hPp hSs hcl hlen
      have hdec : k < len → ¬ k < 150 := by intro h1 h2; exact hlt ⟨h1, h2⟩
      have hex : (decide (k < len) = false) ∨ (decide (k < len) = true ∧ decide ((k : Int) < 150) = false) := by
        by_cases h1 : k < len
        · right; have := hdec h1; simp; omega
        · left; simp; omega
      clear hlt hnl hdec hk hk2 hki
      rcases hex with hex | ⟨hex, hex2⟩
      all_goals
        go_upto_region 11 with fail
        go_region_law (first
            | (go_simp; go_at_call 10; (refine (HC.out _).mono ?_); rintro e w3 ⟨rfl, hx3⟩; have hS := hS.ext0 (show Ext [] wr w3 from (by first | exact hx3 | exact ((Ext.refl [] _).drew).trans0 hx3)); clear v0 v1 v2 v3 v4 v5 v6; obtain ⟨v0, v1, v2, v3, v4, v5, v6⟩ := bcells hS.bx)
            | (go_simp; go_at_call 28; (refine (memLen_any _ _ _ _ _ _ hS.pa.me).mono ?_); rintro e w4 ⟨rfl, rfl⟩; rw [HLN.out])
            | (go_simp; go_at_call 13; (refine (cells_any s.P s.S _ HB.out.1 HB.out.2.1 HB.out.2.2.1 HB.out.2.2.2).mono ?_); rintro e w5 ⟨rfl, hx5⟩; have hS5 := hS.ext0 hx5; clear v0 v1 v2 v3 v4 v5 v6; obtain ⟨v0, v1, v2, v3, v4, v5, v6⟩ := bcells hS5.bx))
        all_goals go_wp2_with fail
        all_goals go_ret
        all_goals exact ⟨rfl, hS5.ext⟩
end Go.Proofs.Ytkhihpmadmmeaaa
set_option linter.unusedSimpArgs false
set_option linter.unusedVariables false
namespace Go.Proofs.Ytkhihpmadmmeaaa
open Go.ChangeShapes Go.WideShapes Go.Deep Go.RowKit Go.Hs

section
variable {H : Type} {enc : TypeId × Value → H} {P : Program} {w : World} {base : Nat} {spare : Nat → Bool} {held : Bool}
theorem open_slice_fields {t e : TypeId} {fs : Array Field} {fuel : Nat} {cs : List Value} {x : DataW H × List MemPlace} (ht : P.underlying t = some (.slice e)) (he : P.underlying e = some (.struct fs))
    (hone : oneCellFields P fs = true) (hC : P.cellsOf e = fs.size) (h : DataW.trod enc P w base spare held fuel t cs = some x) :
    (cs = [.slice none 0 0] ∧ x = (.nil, [])) ∨
    ∃ (a : Addr) (len cap m : Nat) (D : Nat → DataW H) (Pl : Nat → List MemPlace), cs = [.slice (some a) len cap] ∧ base ≤ a.block ∧ len ≤ cap ∧ cap ≤ maxLen ∧ m = (if spare a.block then cap else len) ∧
      x = (.slice ((List.range len).map D) ((List.range (m - len)).map fun j => D (len + j)), MemPlace.row a (m * fs.size) ++ (List.range m).flatMap Pl) ∧
      ∀ i, i < m → ∃ (ys : List (DataW H × List MemPlace)) (n : Nat), D i = .agg (ys.map (·.1)) ∧ Pl i = ys.flatMap (·.2) ∧ ys.length = fs.size ∧
        ∀ (j : Nat) (f : Field), fs[j]? = some f → ∃ (v : Value) (y : DataW H × List MemPlace), w.cell? (a.add (i * fs.size + j)) = some v ∧ ys[j]? = some y ∧ DataW.trod enc P w base spare held n f.type [v] = some y := by
  rcases open_slice ht h with h0 | ⟨a, len, cap, m, n, D, Pl, hcs, hb, hl, hm, hmm, hx, hi⟩
  · exact .inl h0
  · refine .inr ⟨a, len, cap, m, D, Pl, hcs, hb, hl, hm, hmm, by rw [hC] at hx; exact hx, fun i him => ?_⟩
    obtain ⟨cs', hc, ht'⟩ := hi i him
    rw [hC] at hc
    obtain ⟨ys, n', hn', hy, hlen, hyl, hf⟩ := DataW.trod_struct he ht'
    obtain ⟨_, hcl, hat⟩ := World.cells?_some hc
    simp only [Prod.mk.injEq] at hy
    refine ⟨ys, n', hy.1, hy.2, hyl, fun j f hj => ?_⟩
    obtain ⟨ho, hk⟩ := hone_of hone j f hj
    have hjl : j < fs.size := (Array.getElem?_eq_some_iff.1 hj).1
    have hcell := hat j hjl
    have hv : cs'[j]? = some (cs'[j]'(by omega)) := List.getElem?_eq_getElem (by omega)
    have h1 := hf j f hj
    rw [ho, hk] at h1
    have hone' : (cs'.drop j).take 1 = [cs'[j]'(by omega)] := by
      rw [List.drop_eq_getElem_cons (by omega)]
      rfl
    rw [hone'] at h1
    have hys : ys[j]? = some (ys[j]'(by omega)) := List.getElem?_eq_getElem (by omega)
    refine ⟨_, _, ?_, hys, h1.trans hys⟩
    rw [← Go.Deep.add_add, hcell, hv]
end

theorem cell_lt {w : World} {a : Addr} {v : Value} (h : w.cell? a = some v) : a.block < w.heap.size := by
  by_cases hb : a.block < w.heap.size
  · exact hb
  · have : w.heap[a.block]? = none := Array.getElem?_eq_none (by omega)
    unfold World.cell? at h
    simp [this] at h
theorem add_at (a : Addr) (i j : Nat) (hj : 0 < j) : a.add (i + j) = ⟨(a.add i).block, (a.add i).off + j, none⟩ := by
  rw [← Go.Deep.add_add]
  generalize a.add i = b
  unfold Addr.add
  rw [if_neg (by omega)]
theorem underAct : ∃ f0 f1 f2 : Field, Try.prog.underlying 46 = some (.struct #[f0, f1, f2]) ∧ f0.type = 3 ∧ f1.type = 3 ∧ f2.type = 9 ∧ oneCellFields Try.prog #[f0, f1, f2] = true ∧ Try.prog.cellsOf 46 = 3 := by
  refine ⟨_, _, _, Try.underlying46, rfl, rfl, rfl, by kernel_rfl, by kernel_rfl⟩
theorem open_acts {H : Type} {enc : TypeId × Value → H} {w : World} {base : Nat} {spare : Nat → Bool} {held : Bool} {ao : Option Addr} {len cap : Nat} {d : DataW H} {p : List MemPlace}
    (h : DataW.Trod enc Try.prog w base spare held 31 (.slice ao len cap) d p) : ∃ L, ActsAt w ao len cap L := by
  obtain ⟨f0, f1, f2, hu, t0, t1, t2, hone, hC⟩ := underAct
  obtain ⟨fuel, hf⟩ := h
  rcases open_slice_fields Try.underlying31 hu hone hC hf with ⟨hcs, hx⟩ | ⟨a, len', cap', m, D, Pl, hcs, hb, hl, hm, hmm, hx, hi⟩
  · simp [Value.cells] at hcs
    obtain ⟨rfl, rfl, rfl⟩ := hcs
    exact ⟨[], rfl, Nat.zero_le _, fun k x hk => by simp at hk⟩
  · simp [Value.cells] at hcs
    obtain ⟨rfl, rfl, rfl⟩ := hcs
    have hex : ∀ k, k < len → ∃ x : ActR, a.block < w.heap.size ∧ w.cell? (a.add (k * 3)) = some (.int .i64 x.kind) ∧ w.cell? ⟨(a.add (k * 3)).block, (a.add (k * 3)).off + 1, none⟩ = some (.int .i64 x.who) ∧ w.cell? ⟨(a.add (k * 3)).block, (a.add (k * 3)).off + 2, none⟩ = some (.string x.raw) := by
      intro k hk
      have hkm : k < m := by rw [hmm]; split <;> omega
      obtain ⟨ys, n, _, _, _, hj⟩ := hi k hkm
      obtain ⟨v0, y0, c0, _, e0⟩ := hj 0 f0 rfl
      obtain ⟨v1, y1, c1, _, e1⟩ := hj 1 f1 rfl
      obtain ⟨v2, y2, c2, _, e2⟩ := hj 2 f2 rfl
      rw [t0] at e0
      rw [t1] at e1
      rw [t2] at e2
      obtain ⟨n0, q0, _, _⟩ := DataW.trod_int Try.underlying3 e0
      obtain ⟨n1, q1, _, _⟩ := DataW.trod_int Try.underlying3 e1
      obtain ⟨s2, q2, _, _⟩ := DataW.trod_string Try.underlying9 e2
      simp at q0 q1 q2
      subst q0; subst q1; subst q2
      simp only [List.size_toArray, List.length_cons, List.length_nil] at c0 c1 c2
      rw [add_at _ _ 1 (by decide)] at c1
      rw [add_at _ _ 2 (by decide)] at c2
      refine ⟨⟨n0, n1, s2⟩, ?_, c0, c1, c2⟩
      have := cell_lt c0
      rwa [add_block] at this
    have : ∃ L : List ActR, L.length = len ∧ ∀ (k : Nat) (x : ActR), L[k]? = some x → a.block < w.heap.size ∧ w.cell? (a.add (k * 3)) = some (.int .i64 x.kind) ∧ w.cell? ⟨(a.add (k * 3)).block, (a.add (k * 3)).off + 1, none⟩ = some (.int .i64 x.who) ∧ w.cell? ⟨(a.add (k * 3)).block, (a.add (k * 3)).off + 2, none⟩ = some (.string x.raw) := by
      clear hx hi hf hmm hl
      induction len with
      | zero => exact ⟨[], rfl, fun k x hk => by simp at hk⟩
      | succ n ih =>
        obtain ⟨L, h1, h2⟩ := ih (fun k hk => hex k (by omega))
        obtain ⟨x, hx⟩ := hex n (by omega)
        refine ⟨L ++ [x], by simp [h1], fun k z hk => ?_⟩
        by_cases hkl : k < L.length
        · rw [List.getElem?_append_left hkl] at hk
          exact h2 k z hk
        · have hk' : k = n := by
            have := (List.getElem?_eq_some_iff.1 hk).1
            simp at this; omega
          subst hk'
          rw [← h1] at hk
          simp at hk
          subst hk
          exact hx
    obtain ⟨L, h1, h2⟩ := this
    exact ⟨L, h1, by omega, fun k x hk => ⟨a, rfl, h2 k x hk⟩⟩
end Go.Proofs.Ytkhihpmadmmeaaa
