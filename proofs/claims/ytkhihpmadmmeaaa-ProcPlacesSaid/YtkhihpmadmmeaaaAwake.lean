/-
  The answers that the document fixes.
-/
import Derived.Test.YtkhihpmadmmeaaaFresh
set_option linter.unusedSimpArgs false
set_option linter.unusedVariables false
set_option maxHeartbeats 2000000
set_option maxRecDepth 100000
namespace Go.Proofs.Ytkhihpmadmmeaaa
open Go.RowKit Go.Hs

theorem cellsNew_int (n : Nat) (k : Int) (hk : k = n) (hn : n ≤ 65536) (w : World) :
    Calls Try.prog 20 #[.int .i64 k] w fun e w' => ∃ mb mc mm lv, e = .returned (.pointer (some ⟨mb, 0, none⟩)) ∧ IsMem w'.heap mb mc mm lv (MSt.new n) ∧ Ext [] w w' ∧ (∀ g ∈ foot mb mc mm lv, w.heap.size ≤ g) := by
  subst hk; exact cellsNew_any n hn w
theorem procNew_int (P S who : Nat) (p s o : Int) (h1 : p = P) (h2 : s = S) (h3 : o = who) (w : World) :
    Calls Try.prog 21 #[.agg #[.int .i64 p, .int .i64 s], .int .i64 o] w fun e w' => ∃ b m, e = .returned (.pointer (some ⟨b, 0, none⟩)) ∧ IsProc w'.heap b m (PSt.new P S who) ∧ Ext [] w w' ∧ w.heap.size ≤ b ∧ w.heap.size ≤ m := by
  subst h1; subst h2; subst h3; exact procNew_any P S who w
/-- A process and a memory, both new. -/
theorem pm_new {w1 w2 : World} {b m mb mc mm : Nat} {lv : Value} {x : PSt} {M : MSt} (hM : IsMem w1.heap mb mc mm lv M) (hI : IsProc w2.heap b m x) (hx : Ext [] w1 w2) (hb : w1.heap.size ≤ b) (hm : w1.heap.size ≤ m) : PM w2.heap b m x mb mc mm lv M :=
  ⟨hI, hM.ext0 hx, fun e => by have := hM.lt mm (by simp [foot]); omega⟩
theorem PM.lt {h : Array Obj} {b m : Nat} {x : PSt} {mb mc mm : Nat} {lv : Value} {M : MSt} (hP : PM h b m x mb mc mm lv M) : ∀ g ∈ [b, m] ++ foot mb mc mm lv, g < h.size := by
  intro g hg
  rcases List.mem_append.1 hg with hg | hg
  · simp at hg
    rcases hg with rfl | rfl
    · exact lt_of_heap hP.pr.hb
    · exact hP.pr.hm.lt
  · exact hP.me.lt g hg
theorem foot_ge {h : Array Obj} {mb mc mm B : Nat} {lv : Value} {M : MSt} (hM : IsMem h mb mc mm lv M) (hb : B ≤ mb) (hc : B ≤ mc) (hm : B ≤ mm) : ∀ g ∈ foot mb mc mm lv, B ≤ g := by
  intro g hg
  simp [foot] at hg
  rcases hg with rfl | rfl | rfl | hg
  · exact hb
  · exact hc
  · exact hm
  · have := hM.hg g hg; omega
theorem extBase {F : List Nat} {a w w' : World} (hE : Ext [] a w) (hx : Ext F w w') (hF : ∀ g ∈ F, a.heap.size ≤ g) : Ext [] a w' := hE.trans hx (fun g hg => .inr (hF g hg))
theorem PSt.Ok.same {x y : PSt} (hx : x.Ok) (h1 : y.who = x.who) (h2 : y.mwho = x.mwho) (h3 : y.seq = x.seq) (h4 : y.body = x.body) (h5 : y.at_ = x.at_) (h6 : y.P = x.P) (h7 : y.S = x.S) : y.Ok :=
  ⟨h1 ▸ hx.who, h2 ▸ hx.mwho, h3 ▸ hx.seq, h4 ▸ hx.body, h5 ▸ hx.at_, h6 ▸ hx.P, h7 ▸ hx.S⟩
theorem freshP_ok {x : PSt} (M : MSt) (hx : x.Ok) (k : Nat) : (freshP x M k).Ok := by
  obtain ⟨o, ph, h⟩ := freshP_same x M k
  rw [h]
  exact hx.same rfl rfl rfl rfl rfl rfl rfl
theorem fresh_step_any (x : PSt) (M : MSt) (h : Fresh x M) (hx : x.Ok) (k : Nat) (hk : k < 3) (b m mb mc mm : Nat) (lv : Value) (w : World) (hP : PM w.heap b m (freshP x M k) mb mc mm lv (freshM x M k)) :
    Calls Try.prog 24 #[.pointer (some ⟨b, 0, none⟩), .pointer (some ⟨mb, 0, none⟩)] w fun e w' =>
      ∃ lv', e = .returned (.agg #[.bool false, .bool false, .int .i64 0]) ∧ PM w'.heap b m (freshP x M (k + 1)) mb mc mm lv' (freshM x M (k + 1)) ∧ Ext ([b, m] ++ foot mb mc mm lv) w w' := by
  have h1 := freshM_len x M k
  have h2 : M.log.length = 0 := by rw [h.log]; rfl
  have h3 := h.ph k (by omega)
  have h5 : M.cells.length = x.P + x.S := by rw [h.cells]; simp
  obtain ⟨o, ph, hsame⟩ := freshP_same x M k
  have h4 := step_any b m (freshP x M k) mb mc mm lv (freshM x M k) w hP (freshP_ok M hx k) (by rw [hsame]; exact h.who) (by rw [h1.1, h5, hsame]) (by omega)
    (by rw [h3]; omega) (fun _ => by rw [hsame]; have := h.at_; have := h.S; show x.at_ < x.S; omega)
  rw [h.step k hk] at h4
  exact h4.mono fun e w' ⟨lv', g1, g2, g3⟩ => ⟨lv', g1, g2, g3⟩
theorem fresh_last_any (x : PSt) (M : MSt) (h : Fresh x M) (hx : x.Ok) (hP1 : x.P = 1) : ∃ y N, y.phase = 0 ∧ N.at 1 = x.mine ∧ ∀ (b m mb mc mm : Nat) (lv : Value) (w : World) (hP : PM w.heap b m (freshP x M 3) mb mc mm lv (freshM x M 3)),
    Calls Try.prog 24 #[.pointer (some ⟨b, 0, none⟩), .pointer (some ⟨mb, 0, none⟩)] w fun e w' =>
      ∃ lv', e = .returned (.agg #[.bool true, .bool false, .int .i64 0]) ∧ PM w'.heap b m y mb mc mm lv' N ∧ Ext ([b, m] ++ foot mb mc mm lv) w w' := by
  obtain ⟨y, N, hst, hy, hN⟩ := h.step4 hP1
  refine ⟨y, N, hy, hN, fun b m mb mc mm lv w hP => ?_⟩
  have h1 := freshM_len x M 3
  have h2 : M.log.length = 0 := by rw [h.log]; rfl
  have h3 := h.ph 3 (by omega)
  have h5 : M.cells.length = x.P + x.S := by rw [h.cells]; simp
  obtain ⟨o, ph, hsame⟩ := freshP_same x M 3
  have h4 := step_any b m (freshP x M 3) mb mc mm lv (freshM x M 3) w hP (freshP_ok M hx 3) (by rw [hsame]; exact h.who) (by rw [h1.1, h5, hsame]) (by omega)
    (by rw [h3]; omega) (fun _ => by rw [hsame]; have := h.at_; have := h.S; show x.at_ < x.S; omega)
  rw [hst] at h4
  exact h4.mono fun e w' ⟨lv', g1, g2, g3⟩ => ⟨lv', g1, g2, g3⟩
def bodyA : ByteArray := ⟨#[97]⟩
def awP : PSt := { PSt.new 1 1 0 with phase := 1, seq := 1, body := bodyA }
theorem awFresh : Fresh awP (MSt.new 2) := ⟨rfl, rfl, by decide, by decide, rfl, rfl⟩
theorem awOk : awP.Ok := ⟨by decide, by decide, by decide, by decide, by decide, by decide, by decide⟩
theorem awBegin : (PSt.new 1 1 0).doBegin bodyA = (0, awP) := by
  unfold PSt.doBegin
  rw [if_pos (show (PSt.new 1 1 0).phase = 0 from rfl), if_pos (show bodyA.size ≤ 1024 by decide)]
  rfl
theorem awBegin_any (b m : Nat) (w : World) (hI : IsProc w.heap b m (PSt.new 1 1 0)) :
    Calls Try.prog 22 #[.pointer (some ⟨b, 0, none⟩), .string bodyA] w fun e w' => e = .returned (.int .i64 0) ∧ IsProc w'.heap b m awP ∧ Ext [b] w w' := by
  have := begin_any b m (PSt.new 1 1 0) bodyA w hI (by decide)
  rw [awBegin] at this
  exact this
theorem awake_any (w : World) : Calls Try.prog 9 #[] w fun e w' => e = .returned (.bool true) ∧ Ext [] w w' := by
  have hA := heap_new w (.cells #[.int .i64 1, .int .i64 1] 23)
  go_enter Try.func9, Try.ntmps9
  go_upto_region 2 with fail
  have hE : Ext [] w (w.alloc (.cells #[.int .i64 1, .int .i64 1] 23)) := (Ext.refl _ _).alloc _
  generalize w.alloc (.cells #[.int .i64 1, .int .i64 1] 23) = W0 at *
  have hAlt := lt_of_heap hA
  generalize w.heap.size = A at *
  have p0 := cellAt hA 0
  have p1 := cellAt hA 1
  simp at p0 p1
  go_upto_region 6 with (first
    | (go_at_call 20; refine (cellsNew_int 2 _ rfl (by omega) _).mono ?_; rintro e w1 ⟨mb, mc, mm, lv, rfl, hM1, hx1, hf1⟩; have hA1 := hx1.same hA (by simp); clear p0 p1; have p0 := cellAt hA1 0; have p1 := cellAt hA1 1; simp at p0 p1)
    | (go_at_call 21; refine (procNew_int 1 1 0 _ _ _ rfl rfl rfl _).mono ?_; rintro e w2 ⟨b, m, rfl, hI2, hx2, hb2, hm2⟩; have hA2 := hx2.same hA1 (by simp); clear p0 p1; have p0 := cellAt hA2 0; have p1 := cellAt hA2 1; simp at p0 p1)
    | (go_at_call 13; (refine (cells_any 1 1 _ (by decide) (by decide) (by decide) (by decide)).mono ?_); rintro e w3 ⟨rfl, hx3⟩; have hI3 := hI2.ext hx3 (by simp) (by simp))
    | (go_at_call 22; (refine (awBegin_any b m _ hI3).mono ?_); rintro e w4 ⟨rfl, hI4, hx4⟩))
  have hx3' := (hx2.trans0 hx3)
  have hP4 := (pm_new hM1 (hI2.ext hx3 (by simp) (by simp)) hx3' hb2 hm2).moved hI4 (hx4.mono (by simp))
  have hE4 : Ext [] w w4 := (((hE.trans0 hx1).trans0 hx2).trans0 hx3).trans hx4 (fun g hg => .inr (by have h1 := hE.size; have h2 := hx1.size; simp at hg; omega))
  have hnew : ∀ g ∈ [b, m] ++ foot mb mc mm lv, W0.heap.size ≤ g := by
    intro g hg
    have := hx1.size
    rcases List.mem_append.1 hg with hg | hg
    · simp at hg; omega
    · exact hf1 g hg
  have hnew' : ∀ g ∈ [b, m] ++ foot mb mc mm lv, w.heap.size ≤ g := fun g hg => Nat.le_trans hE.size (hnew g hg)
  have HN := Hs.hid hnew'
  clear hnew hnew' hM1 hI2 hx1 hx2 hf1 hA1 hE hA hI3 hI4 hx3 hx4 hx3' hA2 p0 p1 hAlt hb2 hm2
  go_wp2_with fail
  go_loopw [25] (fun i wr => ∃ k : Nat, k ≤ 3 ∧ i = .int .i64 k ∧ ∃ lv', PM wr.heap b m (freshP awP (MSt.new 2) k) mb mc mm lv' (freshM awP (MSt.new 2) k) ∧ Ext [] w wr ∧ (∀ g ∈ foot mb mc mm lv', w.heap.size ≤ g)) (fun i _ => 3 - (intOf i).toNat)
  case atStart => exact ⟨0, by omega, rfl, lv, hP4, hE4, fun g hg => HN.out g (List.mem_append_right _ hg)⟩
  case round =>
    obtain ⟨k, hk, rfl, lv', hP, hE, hf⟩ := hrel
    by_cases hk3 : k < 3
    · have hk3b : decide ((k : Int) < 3) = true := by simp; omega
      have hki : (k : Int) < 3 := by omega
      have HK := Hs.hid (And.intro hk hk3)
      clear hk hk3
      go_wp2_with (go_at_call 24; (refine (fresh_step_any awP (MSt.new 2) awFresh awOk k HK.out.2 b m mb mc mm lv' _ hP).mono ?_); rintro e w5 ⟨lv5, rfl, hP5, hx5⟩)
      have hE5 := extBase hE hx5 (fun g hg => (List.mem_append.1 hg).elim (fun h => HN.out g (List.mem_append_left _ h)) (hf g))
      rename_i hKs
      refine hKs _ _ ?_
      clear hKs
      go_wp2
      go_round
      case rel => exact ⟨k + 1, by have := HK.out.2; omega, by go_num, lv5, hP5, hE5, foot_ge hP5.me (HN.out mb (by simp [foot])) (HN.out mc (by simp [foot])) (HN.out mm (by simp [foot]))⟩
      case measure => have := HK.out.2; simp [intOf]; omega
    · have hk4 : k = 3 := by omega
      subst hk4
      clear hk3 hk
      obtain ⟨y, N, hy, hN, hstep⟩ := fresh_last_any awP (MSt.new 2) awFresh awOk rfl
      have hyb : (y.phase == 0) = true := by simp [hy]
      have hmine : awP.mine = recText 0 1 bodyA := rfl
      rw [hmine] at hN
      have HS := Hs.hid hstep
      clear hstep hmine hy
      go_upto_region 12 with (go_at_call 24; (refine (HS.out b m mb mc mm lv' _ hP).mono ?_); rintro e w5 ⟨lv5, rfl, hP5, hx5⟩)
      have hE5 := (extBase hE hx5 (fun g hg => (List.mem_append.1 hg).elim (fun h => HN.out g (List.mem_append_left _ h)) (hf g))).alloc (.cells #[.bool true, .bool false, .int .i64 0] 42)
      have hP6 := hP5.alloc (.cells #[.bool true, .bool false, .int .i64 0] 42)
      have hR := heap_new w5 (.cells #[.bool true, .bool false, .int .i64 0] 42)
      generalize w5.alloc (.cells #[.bool true, .bool false, .int .i64 0] 42) = W6 at *
      generalize w5.heap.size = B at *
      have r0 := cellAt hR 0
      have r1 := cellAt hR 1
      have r2 := cellAt hR 2
      simp at r0 r1 r2
      go_wp2_with (first
        | (go_at_call 23; refine (idle_any b m y _ hP6.pr).mono ?_; rintro e w7 ⟨rfl, rfl⟩)
        | (go_at_call 17; refine (memLook_any mb mc mm lv5 N 1 (by decide) _ hP6.me).mono ?_; rintro e w8 ⟨rfl, rfl⟩; rw [hN])
        | (go_at_call 19; refine (recText_any 0 1 bodyA _ (by decide) (by decide) (by decide)).mono ?_; rintro e w9 ⟨rfl, hx9⟩))
      go_ret
      exact ⟨rfl, hE5.trans0 hx9⟩
end Go.Proofs.Ytkhihpmadmmeaaa
