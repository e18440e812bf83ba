/-
  proc.Proc: head and Step, by phase.
-/
import Derived.Test.YtkhihpmadmmeaaaProc4
set_option linter.unusedSimpArgs false
set_option linter.unusedVariables false
set_option maxHeartbeats 2000000
set_option maxRecDepth 100000
namespace Go.Proofs.Ytkhihpmadmmeaaa
open Go.RowKit Go.Hs

noncomputable def PSt.head (x : PSt) (M : MSt) : EndR × PSt × Acc :=
  if x.S ≤ x.at_ then (⟨true, false, x.at_⟩, x.ph 0, PSt.rd x.who)
  else if (M.at (x.P + x.at_)).toList = [] then (⟨true, false, x.at_⟩, x.ph 0, PSt.rd (x.P + x.at_))
  else (.no, (x.decide (M.at (x.P + x.at_))).ph 5, PSt.rd (x.P + x.at_))
theorem PM.decided {w w' : World} {b m : Nat} {x y : PSt} {mb mc mm : Nat} {lv : Value} {M : MSt} (hP : PM w.heap b m x mb mc mm lv M) (k : Int) : PM (w.setCell ⟨b, 3, none⟩ (.int .i64 k)).heap b m (x.ph k) mb mc mm lv M :=
  hP.moved (hP.pr.phase k) (Ext.set' (by simp) (Ext.refl _ _) _ _)
theorem head_step (b m : Nat) (x : PSt) (mb mc mm : Nat) (lv : Value) (M : MSt) (w : World) (hP : PM w.heap b m x mb mc mm lv M) (hx : x.Ok) (hw : x.who < x.P) (hc : M.cells.length = x.P + x.S) (hn : M.log.length < 1000000) :
    Calls Try.prog 44 #[.pointer (some ⟨b, 0, none⟩), .pointer (some ⟨mb, 0, none⟩)] w fun e w' =>
      Stepped w b m mb mc mm lv e w' (x.head M).1 (x.head M).2.1 (M.act (x.head M).2.2) := by
  have hat := hx.at_
  have hxP := hx.P
  have hxS := hx.S
  have hxw := hx.who
  have hati : (x.at_ : Int) ≤ 1000 := by omega
  have hati0 : (0 : Int) ≤ x.at_ := by omega
  have hPi : (x.P : Int) ≤ 1000 := by omega
  have hPi0 : (1 : Int) ≤ x.P := by omega
  have hAP : w.heap.size ∉ ([b, m] ++ foot mb mc mm lv) := by
    intro h
    rcases List.mem_append.1 h with h | h
    · exact notIn2 hP.pr h
    · have := hP.me.lt _ h; omega
  have hA0 := heap_new w (.cells #[.bool false, .bool false, .int .i64 0] 42)
  have hP0 := hP.alloc (.cells #[.bool false, .bool false, .int .i64 0] 42)
  have hE0 : Ext ([b, m] ++ foot mb mc mm lv) w (w.alloc (.cells #[.bool false, .bool false, .int .i64 0] 42)) := (Ext.refl _ _).alloc _
  have hne : w.heap.size ≠ b := fun e => hAP (by rw [e]; simp)
  have hbE : b ∈ ([b, m] ++ foot mb mc mm lv) := by simp
  by_cases hf : x.S ≤ x.at_
  · have hd : x.head M = (⟨true, false, x.at_⟩, x.ph 0, PSt.rd x.who) := by unfold PSt.head; rw [if_pos hf]
    have HD := Hs.hid hd; clear hd
    have hfb : decide (x.S ≤ x.at_) = true := decide_eq_true hf
    go_enter Try.func44, Try.ntmps44
    go_upto_region 2 with (go_at_call 39; (with_reducible refine (full_any b m x _ hP0.pr).mono ?_); rintro e w9 ⟨rfl, n9, rfl⟩)
    have hP0' : PM ((w.alloc (.cells #[.bool false, .bool false, .int .i64 0] 42)).drewN n9).heap b m x mb mc mm lv M := hP0
    have hA0' : ((w.alloc (.cells #[.bool false, .bool false, .int .i64 0] 42)).drewN n9).heap[w.heap.size]? = some (.cells #[.bool false, .bool false, .int .i64 0] 42 (0, 0)) := hA0
    have hE0' := hE0.drewN n9
    generalize (w.alloc (.cells #[.bool false, .bool false, .int .i64 0] 42)).drewN n9 = W at *
    have hq := hP0'.pr.hb; simp only [PSt.cells] at hq; have k0 := cellAt hq 0; have k1 := cellAt hq 1; have k2 := cellAt hq 2; simp at k0 k1 k2
    go_cut [] (fun  wx => ∃ lv', PM wx.heap b m x mb mc mm lv' (M.act (PSt.rd x.who)) ∧ Ext ([b, m] ++ foot mb mc mm lv) w wx ∧ wx.heap[w.heap.size]? = some (.cells #[.bool false, .bool false, .int .i64 0] 42 (0, 0)))
    case first =>
      go_region_held3 (fun w' => w'.cell? ⟨b, 0, none⟩ = some (.int .i64 ↑x.P) ∧ w'.cell? ⟨b, 1, none⟩ = some (.int .i64 ↑x.S) ∧ w'.cell? ⟨b, 2, none⟩ = some (.int .i64 ↑x.who))
        (first
          | go_keep
          | exact ⟨k0, k1, k2⟩)
        (first
            | (go_at_call 11; (with_reducible refine (wish_any x.P x.S x.who _).mono ?_); rintro e w1 ⟨rfl, hx1⟩; have hP1 := PM.ext0 (w := World.drew W) hP0' hx1; clear k0 k1 k2 hq; have hq := hP1.pr.hb; simp only [PSt.cells] at hq; have k0 := cellAt hq 0; have k1 := cellAt hq 1; have k2 := cellAt hq 2; simp at k0 k1 k2)
            | (go_at_call 38; (with_reducible refine (do_any mb mc mm lv M x.who 1 x.who noText noText _ ?_ (by omega) (by omega) (by omega) ?_ hn ?_).mono ?_); exact hP1.me; (rw [hc]; omega); (rw [hc]; omega); rintro e w8 ⟨lv2, rfl, hM2, hx8⟩; have hP8 := hP1.acted hM2 hx8; clear k0 k1 k2 hq; have hq := hP8.pr.hb; simp only [PSt.cells] at hq; have k0 := cellAt hq 0; have k1 := cellAt hq 1; have k2 := cellAt hq 2; simp at k0 k1 k2))
      all_goals
        go_wp2_with fail
        go_meet
        exact ⟨lv2, hP8, ((hE0'.drew).trans0 hx1).trans hx8 (fun g hg => .inl (List.mem_append_right _ hg)), hx8.same (hx1.same hA0' (by simp)) (fun h => hAP (List.mem_append_right _ h))⟩
    case rest =>
      obtain ⟨lv2, hP2, hE2, hA2⟩ := hcut
      have r0 := cellAt hA2 0
      have r1 := cellAt hA2 1
      have r2 := cellAt hA2 2
      have rf := freeAt hA2
      simp at r0 r1 r2
      clear k0 k1 k2 hq
      have c4 := cellAt hP2.pr.hb 4
      simp [PSt.cells] at c4
      go_wp2_with (go_at_call 40; (with_reducible refine (end_any b m x true false x.at_ _ hP2.pr).mono ?_); rintro e w3 ⟨rfl, hI3, hx3⟩; have hA3 := hx3.same hA2 (fun h => hAP (List.mem_append_left _ (List.mem_cons.2 (.inl (List.mem_singleton.1 h))))); have t0 := cellAt hA3 0; have t1 := cellAt hA3 1; have t2 := cellAt hA3 2; have tf := freeAt hA3; simp at t0 t1 t2)
      refine bodyPost_ret (v := .agg #[.bool true, .bool false, .int .i64 x.at_]) (by simp [results, Try.results44, go_sem, t0, t1, t2, EndR.val, EndR.no]) rfl ⟨lv2, by rw [HD.out]; rfl, ?_, ?_⟩
      · rw [HD.out]
        exact (hP2.moved hI3 (hx3.mono (by simp))).res hA3 _ _ _
      · repeat (refine Ext.setN (Nat.le_refl _) ?_ _ _)
        exact hE2.trans hx3 (fun g hg => .inl (List.mem_append_left _ (List.mem_cons.2 (.inl (List.mem_singleton.1 hg)))))
  · have hfb : decide (x.S ≤ x.at_) = false := decide_eq_false hf
    go_enter Try.func44, Try.ntmps44
    go_upto_region 4 with (go_at_call 39; (with_reducible refine (full_any b m x _ hP0.pr).mono ?_); rintro e w9 ⟨rfl, n9, rfl⟩)
    have hP0' : PM ((w.alloc (.cells #[.bool false, .bool false, .int .i64 0] 42)).drewN n9).heap b m x mb mc mm lv M := hP0
    have hA0' : ((w.alloc (.cells #[.bool false, .bool false, .int .i64 0] 42)).drewN n9).heap[w.heap.size]? = some (.cells #[.bool false, .bool false, .int .i64 0] 42 (0, 0)) := hA0
    have hE0' := hE0.drewN n9
    generalize (w.alloc (.cells #[.bool false, .bool false, .int .i64 0] 42)).drewN n9 = W at *
    have hq := hP0'.pr.hb; simp only [PSt.cells] at hq; have k0 := cellAt hq 0; have k1 := cellAt hq 1; have k2 := cellAt hq 2; have k4 := cellAt hq 4; simp at k0 k1 k2 k4
    go_cut [5] (fun s5 wx => ∃ lv', s5 = .string (M.at (x.P + x.at_)) ∧ PM wx.heap b m x mb mc mm lv' (M.act (PSt.rd (x.P + x.at_))) ∧ Ext ([b, m] ++ foot mb mc mm lv) w wx ∧ wx.heap[w.heap.size]? = some (.cells #[.bool false, .bool false, .int .i64 0] 42 (0, 0)))
    case first =>
      go_region_held3 (fun w' => w'.cell? ⟨b, 0, none⟩ = some (.int .i64 ↑x.P) ∧ w'.cell? ⟨b, 1, none⟩ = some (.int .i64 ↑x.S) ∧ w'.cell? ⟨b, 2, none⟩ = some (.int .i64 ↑x.who) ∧ w'.cell? ⟨b, 4, none⟩ = some (.int .i64 ↑x.at_))
        (first
          | go_keep
          | exact ⟨k0, k1, k2, k4⟩)
        (first
            | (go_at_call 12; (with_reducible refine (slot_any x.P x.S x.at_ _ (by omega) (by omega) (by omega) (by omega)).mono ?_); rintro e w1 ⟨rfl, hx1⟩; have hP1 := PM.ext0 (w := World.drew W) hP0' hx1; clear k0 k1 k2 k4 hq; have hq := hP1.pr.hb; simp only [PSt.cells] at hq; have k0 := cellAt hq 0; have k1 := cellAt hq 1; have k2 := cellAt hq 2; have k4 := cellAt hq 4; simp at k0 k1 k2 k4)
            | (go_at_call 38; (with_reducible refine (do_any mb mc mm lv M x.who 1 (x.P + x.at_) noText noText _ ?_ (by omega) (by omega) (by omega) ?_ hn ?_).mono ?_); exact hP1.me; (rw [hc]; omega); (rw [hc]; omega); rintro e w8 ⟨lv2, rfl, hM2, hx8⟩; have hP8 := hP1.acted hM2 hx8; clear k0 k1 k2 k4 hq; have hq := hP8.pr.hb; simp only [PSt.cells] at hq; have k0 := cellAt hq 0; have k1 := cellAt hq 1; have k2 := cellAt hq 2; have k4 := cellAt hq 4; simp at k0 k1 k2 k4))
      all_goals
        go_wp2_with fail
        go_meet
        exact ⟨lv2, rfl, hP8, ((hE0'.drew).trans0 hx1).trans hx8 (fun g hg => .inl (List.mem_append_right _ hg)), hx8.same (hx1.same hA0' (by simp)) (fun h => hAP (List.mem_append_right _ h))⟩
    case rest =>
      obtain ⟨lv2, rfl, hP2, hE2, hA2⟩ := hcut
      have r0 := cellAt hA2 0
      have r1 := cellAt hA2 1
      have r2 := cellAt hA2 2
      have rf := freeAt hA2
      simp at r0 r1 r2
      clear k0 k1 k2 k4 hq
      have c4 := cellAt hP2.pr.hb 4
      simp [PSt.cells] at c4
      by_cases hs : (M.at (x.P + x.at_)).toList = []
      · have hd : x.head M = (⟨true, false, x.at_⟩, x.ph 0, PSt.rd (x.P + x.at_)) := by unfold PSt.head; rw [if_neg hf, if_pos hs]
        have HD := Hs.hid hd; clear hd
        have hse : (M.at (x.P + x.at_)).toList.isEmpty = true := by simp [hs]
        go_wp2_with (go_at_call 40; (with_reducible refine (end_any b m x true false x.at_ _ hP2.pr).mono ?_); rintro e w3 ⟨rfl, hI3, hx3⟩; have hA3 := hx3.same hA2 (fun h => hAP (List.mem_append_left _ (List.mem_cons.2 (.inl (List.mem_singleton.1 h))))); have t0 := cellAt hA3 0; have t1 := cellAt hA3 1; have t2 := cellAt hA3 2; have tf := freeAt hA3; simp at t0 t1 t2)
        refine bodyPost_ret (v := .agg #[.bool true, .bool false, .int .i64 x.at_]) (by simp [results, Try.results44, go_sem, t0, t1, t2, EndR.val, EndR.no]) rfl ⟨lv2, by rw [HD.out]; rfl, ?_, ?_⟩
        · rw [HD.out]
          exact (hP2.moved hI3 (hx3.mono (by simp))).res hA3 _ _ _
        · repeat (refine Ext.setN (Nat.le_refl _) ?_ _ _)
          exact hE2.trans hx3 (fun g hg => .inl (List.mem_append_left _ (List.mem_cons.2 (.inl (List.mem_singleton.1 hg)))))
      · have hd : x.head M = (.no, (x.decide (M.at (x.P + x.at_))).ph 5, PSt.rd (x.P + x.at_)) := by unfold PSt.head; rw [if_neg hf, if_neg hs]
        have HD := Hs.hid hd; clear hd
        have hse : (M.at (x.P + x.at_)).toList.isEmpty = false := by simp [hs]
        go_wp2_with (go_at_call 55; (with_reducible refine (decided_any b m x (M.at (x.P + x.at_)) _ hP2.pr hx).mono ?_); rintro e w3 ⟨rfl, hI3, hx3⟩; have hA3 := hx3.same hA2 (fun h => hAP (List.mem_append_left _ h)); have t0 := cellAt hA3 0; have t1 := cellAt hA3 1; have t2 := cellAt hA3 2; have tf := freeAt hA3; have f3 := freeAt hI3.hb 3; have c3 := cellAt hI3.hb 3; simp [PSt.cells, PSt.decide] at t0 t1 t2 c3)
        refine bodyPost_ret (v := EndR.no.val) (by simp [results, Try.results44, go_sem, t0, t1, t2, EndR.val, EndR.no]) rfl ⟨lv2, by rw [HD.out], ?_, ?_⟩
        · rw [HD.out]
          exact ((hP2.moved hI3 hx3).decided (w' := w) (y := x) 5).res ((heap_set_ne _ _ _ hne.symm).trans hA3) _ _ _
        · repeat (refine Ext.setN (Nat.le_refl _) ?_ _ _)
          exact Ext.set' hbE (hE2.trans hx3 (fun g hg => .inl (List.mem_append_left _ hg))) _ _
end Go.Proofs.Ytkhihpmadmmeaaa
