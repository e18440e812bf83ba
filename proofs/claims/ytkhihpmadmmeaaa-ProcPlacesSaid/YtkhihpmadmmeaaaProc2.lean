/-
  proc.Proc, a step: what each of its parts does.
-/
import Derived.Test.YtkhihpmadmmeaaaProc
import Derived.Test.YtkhihpmadmmeaaaParse
import Derived.Laws.ResultCell
import Derived.Deep.RegionHeld3
set_option linter.unusedSimpArgs false
set_option linter.unusedVariables false
set_option maxHeartbeats 1000000
set_option maxRecDepth 100000
namespace Go.Proofs.Ytkhihpmadmmeaaa
open Go.RowKit Go.Hs

open Go.Proofs.Ytkhihpmadmmeaaa.PSc in
theorem parse_some (s : ByteArray) : ∃ r : Int × Int × ByteArray × Int, (∃ k, proc_Parse.f k s = some r) ∧ 0 ≤ r.1 ∧ r.1 ≤ 63 ∧ 0 ≤ r.2.1 ∧ r.2.1 ≤ 1099511627776 ∧ r.2.2.1.size ≤ 1024 := by
  obtain ⟨k, r1, r2, r3, r4, h1, _, h3, h4, h5, h6, h7⟩ := parse_all s
  exact ⟨(r1, r2, r3, r4), ⟨k, h1⟩, h3, h4, h5, h6, h7⟩
/-- What a text says as a record: its process, its number, its body, the error. -/
noncomputable def parseR (s : ByteArray) : Int × Int × ByteArray × Int := Classical.choose (parse_some s)
theorem parse_any (s : ByteArray) (r1 r2 r4 : Int) (r3 : ByteArray) (h : parseR s = (r1, r2, r3, r4)) (w : World) :
    Calls Try.prog 42 #[.string s] w fun e w' => e = .returned (.tuple #[.agg #[.int .i64 r1, .int .i64 r2, .string r3], .int .i64 r4]) ∧ Ext [] w w' := by
  obtain ⟨⟨k, hk⟩, _⟩ := Classical.choose_spec (parse_some s)
  have hk' : PSc.proc_Parse.f k s = some (r1, r2, r3, r4) := by rw [← h]; exact hk
  exact (PSc.proc_Parse.calls k s r1 r2 r3 r4 w hk').mono fun e w' ⟨h1, h2⟩ => ⟨h1, Ext.ofBelow h2⟩

def PSt.ph (x : PSt) (k : Int) : PSt := { x with phase := k }
theorem IsProc.phase {w : World} {b m : Nat} {x : PSt} (hI : IsProc w.heap b m x) (k : Int) : IsProc (w.setCell ⟨b, 3, none⟩ (.int .i64 k)).heap b m (x.ph k) :=
  ⟨by rw [heap_set hI.hb]; simp [PSt.cells, PSt.ph], hI.hm.same (heap_set_ne _ _ _ (hI.hm.ne hI.hb))⟩
theorem IsProc.alloc {w : World} {b m : Nat} {x : PSt} (hI : IsProc w.heap b m x) (o : Obj) : IsProc (w.alloc o).heap b m x := ⟨heap_old' _ _ hI.hb, hI.hm.same (heap_old _ _ hI.hm.lt)⟩
theorem end_any (b m : Nat) (x : PSt) (d f : Bool) (sl : Int) (w : World) (hI : IsProc w.heap b m x) :
    Calls Try.prog 40 #[.pointer (some ⟨b, 0, none⟩), .agg #[.bool d, .bool f, .int .i64 sl]] w fun e w' =>
      e = .returned (.agg #[.bool d, .bool f, .int .i64 sl]) ∧ IsProc w'.heap b m (x.ph 0) ∧ Ext [b] w w' := by
  have hI' := hI.hb
  simp only [PSt.cells] at hI'
  have hlt := lt_of_heap hI'
  have hlt2 : b ≠ w.heap.size := by omega
  have f3 := freeAt hI' 3
  have c3 := cellAt hI' 3
  simp at c3
  go_enter Try.func40, Try.ntmps40
  go_wp2
  refine bodyPost_ret (v := .agg #[.bool d, .bool f, .int .i64 sl]) (by simp [results, Try.results40, go_sem]) rfl ⟨rfl, ?_, ?_⟩
  · exact ((hI.phase 0).alloc _).alloc _
  · exact (((Ext.refl _ _).set' (List.mem_singleton.2 rfl) _ _).alloc _).alloc _

/-- What it has seen, behind one record more. -/
def PSt.see (x : PSt) (r1 r2 r4 : Int) : List (Int × Int) := if r4 = 0 then mput x.seen r1 (if (mlook x.seen r1).getD 0 < r2 then r2 else (mlook x.seen r1).getD 0) else x.seen
noncomputable def PSt.decide (x : PSt) (s : ByteArray) : PSt := { x with seen := x.see (parseR s).1 (parseR s).2.1 (parseR s).2.2.2, at_ := x.at_ + 1, phase := 2 }
abbrev PSt.mine (x : PSt) : ByteArray := recText x.mwho x.seq x.body
structure PSt.Ok (x : PSt) : Prop where
  who : x.who < 1000
  mwho : x.mwho < 1000
  seq : x.seq < 1000000000
  body : x.body.size ≤ 1024
  at_ : x.at_ ≤ 1000
  P : 1 ≤ x.P ∧ x.P ≤ 1000
  S : x.S ≤ 1000

theorem decided_fin {w wr w2 : World} {b m : Nat} {x y : PSt} {sn : List (Int × Int)} (hd : y = { x with seen := sn, at_ := x.at_ + 1, phase := 2 })
    (hIr : IsProc wr.heap b m { x with seen := sn }) (hEr : Ext [b, m] w wr) (hx2 : Ext [] ((wr.setCell ⟨b, 4, none⟩ (.int .i64 (x.at_ + 1))).setCell ⟨b, 3, none⟩ (.int .i64 2)) w2) :
    IsProc w2.heap b m y ∧ Ext [b, m] w w2 := by
  subst hd
  have h1 : IsProc ((wr.setCell ⟨b, 4, none⟩ (.int .i64 (x.at_ + 1))).setCell ⟨b, 3, none⟩ (.int .i64 2)).heap b m { x with seen := sn, at_ := x.at_ + 1, phase := 2 } := by
    refine ⟨?_, ?_⟩
    · refine Eq.trans (heap_set (heap_set hIr.hb 4 _) 3 _) ?_
      simp [PSt.cells]
    · exact hIr.hm.same (by rw [heap_set_ne _ _ _ (hIr.hm.ne hIr.hb), heap_set_ne _ _ _ (hIr.hm.ne hIr.hb)])
  exact ⟨h1.ext hx2 (by simp) (by simp), (Ext.set' (by simp) (Ext.set' (by simp) hEr _ _) _ _).trans hx2 (by simp)⟩

theorem decided_any (b m : Nat) (x : PSt) (s : ByteArray) (w : World) (hI : IsProc w.heap b m x) (hx : x.Ok) :
    Calls Try.prog 55 #[.pointer (some ⟨b, 0, none⟩), .string s] w fun e w' =>
      e = .returned (.bool (s.toList == x.mine.toList)) ∧ IsProc w'.heap b m (x.decide s) ∧ Ext [b, m] w w' := by
  obtain ⟨r1, r2, r3, r4, hr⟩ : ∃ r1 r2 r3 r4, parseR s = (r1, r2, r3, r4) := ⟨_, _, _, _, rfl⟩
  have hd : x.decide s = { x with seen := x.see r1 r2 r4, at_ := x.at_ + 1, phase := 2 } := by simp [PSt.decide, hr]
  have HD := Hs.hid hd; clear hd
  go_enter Try.func55, Try.ntmps55
  by_cases h4 : r4 = 0
  · subst h4
    have HR := Hs.hid hr; clear hr
    go_upto_region 3 with (first | (go_at_call 42; refine (parse_any s r1 r2 0 r3 HR.out _).mono ?_; rintro e w1 ⟨rfl, hx1⟩))
    have hI1 := (hI.ext hx1 (by simp) (by simp)).alloc (.cells #[.int .i64 r1, .int .i64 r2, .string r3] 50)
    have hA := heap_new w1 (.cells #[.int .i64 r1, .int .i64 r2, .string r3] 50)
    have hE1 : Ext [b, m] w (w1.alloc (.cells #[.int .i64 r1, .int .i64 r2, .string r3] 50)) := (hx1.mono (by simp)).alloc _
    have hAm : w1.heap.size ≠ m := hI1.hm.ne hA
    generalize w1.alloc (.cells #[.int .i64 r1, .int .i64 r2, .string r3] 50) = W at *
    generalize w1.heap.size = A at *
    clear hx1
    go_cut [] (fun wx => IsProc wx.heap b m { x with seen := x.see r1 r2 0 } ∧ Ext [b, m] w wx)
    case first =>
      have hI' := hI1.hb
      simp only [PSt.cells] at hI'
      have c5 := cellAt hI' 5
      simp at c5
      have a0 := cellAt hA 0
      have a1 := cellAt hA 1
      simp at a0 a1
      have hlk := run_lookup (P := Try.prog) (w := W.drew) (t := 27) keyInt Try.underlying27 (d := (0 : Int)) (zeroInt _) hI1.hm r1 false
      obtain ⟨w2, hup, hm2, hx2⟩ := run_mapUpdate (P := Try.prog) (w := W.drew) (t := 27) (venc := Value.int .i64) keyInt Try.underlying27 hI1.hm r1 (if (mlook x.seen r1).getD 0 < r2 then r2 else (mlook x.seen r1).getD 0)
      simp only [Bool.false_eq_true, if_false] at hlk
      have HM := Hs.hid hm2; clear hm2
      have HX := Hs.hid hx2; clear hx2
      go_region
      all_goals go_wp2_with fail
      all_goals
        go_meet
        refine ⟨⟨HX.out.same hI1.hb (by simpa using fun e => hI1.hm.ne hI1.hb e), by simpa [PSt.see] using HM.out⟩, hE1.drew.trans HX.out (by simp)⟩
    case rest =>
      obtain ⟨hIr, hEr⟩ := hcut
      have hI' := hIr.hb
      simp only [PSt.cells] at hI'
      have c3 := cellAt hI' 3
      have c4 := cellAt hI' 4
      have c6 := cellAt hI' 6
      have c7 := cellAt hI' 7
      have c8 := cellAt hI' 8
      have f := freeAt hI'
      simp at c3 c4 c6 c7 c8
      have hat : (x.at_ : Int) ≤ 1000 := by have := hx.at_; omega
      go_wp2_with (first | (go_at_call 19; (with_reducible refine (recText_any x.mwho x.seq x.body _ (by have := hx.mwho; omega) (by have := hx.seq; omega) (by have := hx.body; omega)).mono ?_); rintro e w2 ⟨rfl, hx2⟩))
      go_ret
      obtain ⟨hP, hE⟩ := decided_fin HD.out hIr hEr hx2
      exact ⟨rfl, hP, hE⟩
  · have HR := Hs.hid hr; clear hr
    have h4b : (r4 == 0) = false := by simpa using h4
    have hs4 : x.see r1 r2 r4 = x.seen := by simp [PSt.see, h4]
    rw [hs4] at HD
    clear hs4 h4
    go_upto_region 4 with (first | (go_at_call 42; refine (parse_any s r1 r2 r4 r3 HR.out _).mono ?_; rintro e w1 ⟨rfl, hx1⟩))
    have hIr := (hI.ext hx1 (by simp) (by simp)).alloc (.cells #[.int .i64 r1, .int .i64 r2, .string r3] 50)
    have hEr : Ext [b, m] w (w1.alloc (.cells #[.int .i64 r1, .int .i64 r2, .string r3] 50)) := (hx1.mono (by simp)).alloc _
    generalize w1.alloc (.cells #[.int .i64 r1, .int .i64 r2, .string r3] 50) = W at *
    clear hx1
    have hI' := hIr.hb
    simp only [PSt.cells] at hI'
    have c3 := cellAt hI' 3
    have c4 := cellAt hI' 4
    have c6 := cellAt hI' 6
    have c7 := cellAt hI' 7
    have c8 := cellAt hI' 8
    have f := freeAt hI'
    simp at c3 c4 c6 c7 c8
    have hat : (x.at_ : Int) ≤ 1000 := by have := hx.at_; omega
    go_wp2_with (first | (go_at_call 19; (with_reducible refine (recText_any x.mwho x.seq x.body _ (by have := hx.mwho; omega) (by have := hx.seq; omega) (by have := hx.body; omega)).mono ?_); rintro e w2 ⟨rfl, hx2⟩))
    go_ret
    obtain ⟨hP, hE⟩ := decided_fin HD.out hIr hEr hx2
    exact ⟨rfl, hP, hE⟩
end Go.Proofs.Ytkhihpmadmmeaaa
