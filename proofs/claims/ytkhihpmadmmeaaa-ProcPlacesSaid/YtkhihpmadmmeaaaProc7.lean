/-
  proc.Proc: Step, helping; Step whole.
-/
import Derived.Test.YtkhihpmadmmeaaaProc6
import Derived.Deep.QuietTactic
import Derived.BigQuiet
set_option linter.unusedSimpArgs false
set_option linter.unusedVariables false
set_option maxHeartbeats 4000000
set_option maxRecDepth 100000
namespace Go.Proofs.Ytkhihpmadmmeaaa
open Go.RowKit Go.Hs
theorem PM.picked {w : World} {b m : Nat} {x : PSt} {mb mc mm : Nat} {lv : Value} {M : MSt} (hP : PM w.heap b m x mb mc mm lv M) (k : Int) : PM (w.setCell ⟨b, 3, none⟩ (.int .i64 k)).heap b m (x.ph k) mb mc mm lv M := hP.decided (w' := w) (y := x) k

theorem step_help (b m : Nat) (x : PSt) (mb mc mm : Nat) (lv : Value) (M : MSt) (w : World) (hP : PM w.heap b m x mb mc mm lv M) (hx : x.Ok) (hw : x.who < x.P) (hc : M.cells.length = x.P + x.S) (hn : M.log.length < 1000000) (hph : x.phase = 3) :
    Calls Try.prog 24 #[.pointer (some ⟨b, 0, none⟩), .pointer (some ⟨mb, 0, none⟩)] w fun e w' =>
      Stepped w b m mb mc mm lv e w' (x.step M).1 (x.step M).2.1 (x.step M).2.2 := by
  have htm : Int.tmod (↑x.at_) (↑x.P) = x.helpC := by
    unfold PSt.helpC; rw [Int.tmod_eq_emod_of_nonneg (Int.natCast_nonneg _)]; rfl
  have hhc : 0 ≤ x.helpC ∧ x.helpC < x.P := by
    unfold PSt.helpC; have := hx.P; have := Nat.mod_lt x.at_ (show x.P > 0 by omega); omega
  obtain ⟨hc0, hc1⟩ := hhc
  have hat := hx.at_
  have hxP := hx.P
  have hxS := hx.S
  have hxw := hx.who
  have hati : (x.at_ : Int) ≤ 1000 := by omega
  have hati0 : (0 : Int) ≤ x.at_ := by omega
  have hPi : (x.P : Int) ≤ 1000 := by omega
  have hPi0 : (1 : Int) ≤ x.P := by omega
  have hAP : w.heap.size ∉ ([b, m] ++ foot mb mc mm lv) := by
    intro h
    rcases List.mem_append.1 h with h | h
    · exact notIn2 hP.pr h
    · have := hP.me.lt _ h; omega
  have hA0 := heap_new w (.cells #[.bool false, .bool false, .int .i64 0] 42)
  have hP0 := hP.alloc (.cells #[.bool false, .bool false, .int .i64 0] 42)
  have hE0 : Ext ([b, m] ++ foot mb mc mm lv) w (w.alloc (.cells #[.bool false, .bool false, .int .i64 0] 42)) := (Ext.refl _ _).alloc _
  have hne : w.heap.size ≠ b := fun e => hAP (by rw [e]; simp)
  have hbE : b ∈ ([b, m] ++ foot mb mc mm lv) := by simp
  have hd : x.step M = (.no, (x.withOffer (x.pick (M.at x.helpC))).ph 4, M.act (PSt.rd x.helpC)) := by unfold PSt.step; simp [hph] <;> rfl
  have HD := Hs.hid hd; clear hd
  have c3 := cellAt hP.pr.hb 3
  simp [PSt.cells, hph] at c3
  have hblt := lt_of_heap hP.pr.hb
  go_enter Try.func24, Try.ntmps24
  go_upto_region 10 with fail
  have HW := Hs.hid (rfl : w.heap.size = w.heap.size)
  generalize w.alloc (.cells #[.bool false, .bool false, .int .i64 0] 42) = W at *
  clear c3
  have hPz : ¬ (x.P : Int) = 0 := by omega
  have hPn : ¬ x.P = 0 := by omega
  have hPb : ((x.P : Int) == 0) = false := by simpa using hPn
  have htw : IntKind.i64.wrap x.helpC = x.helpC := IntWalk.i64_in _ (by omega)
  have hq := hP0.pr.hb; simp only [PSt.cells] at hq; have k0 := cellAt hq 0; have k1 := cellAt hq 1; have k2 := cellAt hq 2; have k4 := cellAt hq 4; simp at k0 k1 k2 k4
  go_cut [5] (fun s5 wx => ∃ lv', s5 = .string (M.at x.helpC) ∧ PM wx.heap b m x mb mc mm lv' (M.act (PSt.rd x.helpC)) ∧ Ext ([b, m] ++ foot mb mc mm lv) w wx ∧ wx.heap[w.heap.size]? = some (.cells #[.bool false, .bool false, .int .i64 0] 42 (0, 0)))
  case first =>
    go_region_held3 (fun w' => w'.cell? ⟨b, 0, none⟩ = some (.int .i64 ↑x.P) ∧ w'.cell? ⟨b, 1, none⟩ = some (.int .i64 ↑x.S) ∧ w'.cell? ⟨b, 2, none⟩ = some (.int .i64 ↑x.who) ∧ w'.cell? ⟨b, 4, none⟩ = some (.int .i64 ↑x.at_))
      (first
        | go_keep
        | exact ⟨k0, k1, k2, k4⟩)
      (first
          | (go_at_call 11; (with_reducible refine (wish_any x.P x.S x.helpC _).mono ?_); rintro e w1 ⟨rfl, hx1⟩; have hP1 := PM.ext0 (w := World.drew W) hP0 hx1; clear k0 k1 k2 k4 hq; have hq := hP1.pr.hb; simp only [PSt.cells] at hq; have k0 := cellAt hq 0; have k1 := cellAt hq 1; have k2 := cellAt hq 2; have k4 := cellAt hq 4; simp at k0 k1 k2 k4)
          | (go_at_call 38; (with_reducible refine (do_any mb mc mm lv M x.who 1 x.helpC noText noText _ ?_ (by omega) (by omega) (by omega) ?_ hn ?_).mono ?_); exact hP1.me; (rw [hc]; omega); (rw [hc]; omega); rintro e w8 ⟨lv2, rfl, hM2, hx8⟩; have hP8 := hP1.acted hM2 hx8; clear k0 k1 k2 k4 hq; have hq := hP8.pr.hb; simp only [PSt.cells] at hq; have k0 := cellAt hq 0; have k1 := cellAt hq 1; have k2 := cellAt hq 2; have k4 := cellAt hq 4; simp at k0 k1 k2 k4))
    all_goals
      go_wp2_with fail
      go_meet
      exact ⟨lv2, rfl, hP8, ((hE0.drew).trans0 hx1).trans hx8 (fun g hg => .inl (List.mem_append_right _ hg)), hx8.same (hx1.same hA0 (by simp)) (fun h => hAP (List.mem_append_right _ h))⟩
  case rest =>
    obtain ⟨lv2, rfl, hP2, hE2, hA2⟩ := hcut
    have r0 := cellAt hA2 0
    have r1 := cellAt hA2 1
    have r2 := cellAt hA2 2
    have rf := freeAt hA2
    simp at r0 r1 r2
    clear k0 k1 k2 k4 hq
    clear htm htw
    have f9 := freeAt hP2.pr.hb 9
    have c6 := cellAt hP2.pr.hb 6
    have c7 := cellAt hP2.pr.hb 7
    have c8 := cellAt hP2.pr.hb 8
    simp [PSt.cells] at c6 c7 c8
    obtain ⟨r1, r2, r3, r4, hr⟩ : ∃ r1 r2 r3 r4, parseR (M.at x.helpC) = (r1, r2, r3, r4) := ⟨_, _, _, _, rfl⟩
    have hpk : x.pick (M.at x.helpC) = if r4 = 0 ∧ (mlook x.seen r1).getD 0 < r2 then M.at x.helpC else x.mine := by unfold PSt.pick; rw [hr]
    rw [hpk] at HD
    have HR := Hs.hid hr; clear hr hpk
    go_upto_region 13 with (first
      | (go_at_call 19; (with_reducible refine (recText_any x.mwho x.seq x.body _ (by have := hx.mwho; omega) (by have := hx.seq; omega) (by have := hx.body; omega)).mono ?_); rintro e w3 ⟨rfl, hx3⟩; have hP3 := hP2.ext0 hx3; clear f9; have f9 := freeAt hP3.pr.hb 9; have c9 := cellAt hP3.pr.hb 9; simp [PSt.cells] at c9)
      | (go_at_call 42; (with_reducible refine (parse_any (M.at x.helpC) r1 r2 r4 r3 HR.out _).mono ?_); rintro e w4 ⟨rfl, hx4⟩))
    have hP4 := ((hP3.offer x.mine).ext0 hx4).alloc (.cells #[.int .i64 r1, .int .i64 r2, .string r3] 50)
    have hR4 := heap_new w4 (.cells #[.int .i64 r1, .int .i64 r2, .string r3] 50)
    have hA4 : (w4.alloc (.cells #[.int .i64 r1, .int .i64 r2, .string r3] 50)).heap[w.heap.size]? = some (.cells #[.bool false, .bool false, .int .i64 0] 42 (0, 0)) := (heap_old' _ _ (hx4.same ((heap_set_ne _ ⟨b, 9, none⟩ _ hne.symm).trans (hx3.same hA2 (by simp))) (by simp)))
    have hE4 : Ext ([b, m] ++ foot mb mc mm lv) w (w4.alloc (.cells #[.int .i64 r1, .int .i64 r2, .string r3] 50)) := ((Ext.set' hbE (hE2.trans0 hx3) 9 (.string x.mine)).trans0 hx4).alloc _
    clear hP3 hx3 hx4 c9 f9
    generalize w4.alloc (.cells #[.int .i64 r1, .int .i64 r2, .string r3] 50) = W4 at *
    generalize w4.heap.size = A at *
    have hq := hP4.pr.hb
    simp only [PSt.cells, PSt.withOffer] at hq
    have c3 := cellAt hq 3
    have c5 := cellAt hq 5
    have c9 := cellAt hq 9
    have f3 := freeAt hq
    simp [hph] at c3 c5 c9
    have a0 := cellAt hR4 0
    have a1 := cellAt hR4 1
    simp at a0 a1
    have t0 := cellAt hA4 0
    have t1 := cellAt hA4 1
    have t2 := cellAt hA4 2
    have tf := freeAt hA4
    simp at t0 t1 t2
    have hlk : ∀ n, _ := fun n => run_lookup (P := Try.prog) (w := W4.drewN n) (t := 27) keyInt Try.underlying27 (d := (0 : Int)) (zeroInt _) hP4.pr.hm r1 false
    simp only [Bool.false_eq_true, if_false, PSt.withOffer] at hlk
    by_cases h4 : r4 = 0
    · subst h4
      by_cases h2 : (mlook x.seen r1).getD 0 < r2
      · -- offer the wish
        rw [if_pos (⟨rfl, h2⟩)] at HD
        go_quiet (fail)
        go_wp2
        refine bodyPost_ret (v := EndR.no.val) (by simp [results, Try.results24, go_sem, t0, t1, t2, EndR.val, EndR.no]) rfl ⟨lv2, by rw [HD.out], ?_, ?_⟩
        · rw [HD.out]
          exact PM.res (w := ((W4.drewN _).setCell ⟨b, 9, none⟩ (.string (M.at x.helpC))).setCell ⟨b, 3, none⟩ (.int .i64 4)) ((PM.offer (w := W4.drewN _) hP4 (M.at x.helpC)).picked 4) ((heap_set_ne _ ⟨b, 3, none⟩ _ hne.symm).trans ((heap_set_ne _ ⟨b, 9, none⟩ _ hne.symm).trans hA4)) _ _ _
        · repeat (refine Ext.setN (Nat.le_refl _) ?_ _ _)
          exact Ext.set' hbE (Ext.set' hbE (hE4.drewN _) _ _) _ _
  
      · -- not new
        rw [if_neg (fun h => h2 h.2)] at HD
        have h2b : decide ((mlook x.seen r1).getD 0 < r2) = false := decide_eq_false h2
        go_quiet (fail)
        go_wp2
        refine bodyPost_ret (v := EndR.no.val) (by simp [results, Try.results24, go_sem, t0, t1, t2, EndR.val, EndR.no]) rfl ⟨lv2, by rw [HD.out], ?_, ?_⟩
        · rw [HD.out]
          exact PM.res (w := (W4.drewN _).setCell ⟨b, 3, none⟩ (.int .i64 4)) (PM.picked (w := W4.drewN _) hP4 4) ((heap_set_ne _ ⟨b, 3, none⟩ _ hne.symm).trans hA4) _ _ _
        · repeat (refine Ext.setN (Nat.le_refl _) ?_ _ _)
          exact Ext.set' hbE (hE4.drewN _) _ _
  
    · -- no record
      rw [if_neg (fun h => h4 h.1)] at HD
      have h4b : (r4 == 0) = false := by simpa using h4
      go_quiet (fail)
      go_wp2
      refine bodyPost_ret (v := EndR.no.val) (by simp [results, Try.results24, go_sem, t0, t1, t2, EndR.val, EndR.no]) rfl ⟨lv2, by rw [HD.out], ?_, ?_⟩
      · rw [HD.out]
        exact PM.res (w := (W4.drewN _).setCell ⟨b, 3, none⟩ (.int .i64 4)) (PM.picked (w := W4.drewN _) hP4 4) ((heap_set_ne _ ⟨b, 3, none⟩ _ hne.symm).trans hA4) _ _ _
      · repeat (refine Ext.setN (Nat.le_refl _) ?_ _ _)
        exact Ext.set' hbE (hE4.drewN _) _ _
end Go.Proofs.Ytkhihpmadmmeaaa
