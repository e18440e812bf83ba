/-
  proc.Proc: Step, by phase.
-/
import Derived.Test.YtkhihpmadmmeaaaProc5
set_option linter.unusedSimpArgs false
set_option linter.unusedVariables false
set_option maxHeartbeats 4000000
set_option maxRecDepth 100000
namespace Go.Proofs.Ytkhihpmadmmeaaa
open Go.RowKit Go.Hs

/-- What it offers, of the wish that it has read. -/
noncomputable def PSt.pick (x : PSt) (s : ByteArray) : ByteArray :=
  if (parseR s).2.2.2 = 0 ∧ (mlook x.seen (parseR s).1).getD 0 < (parseR s).2.1 then s else x.mine
def PSt.wishA (x : PSt) : Acc := ⟨2, x.who, noText, x.mine⟩
def PSt.swapA (x : PSt) : Acc := ⟨3, x.P + x.at_, noText, x.offer⟩
def PSt.helpC (x : PSt) : Int := ((x.at_ % x.P : Nat) : Int)
noncomputable def PSt.step (x : PSt) (M : MSt) : EndR × PSt × MSt :=
  if x.phase = 1 then (if x.S ≤ x.at_ then (⟨true, true, 0⟩, x.ph 0, M.act x.wishA) else (.no, x.ph 2, M.act x.wishA))
  else if x.phase = 2 then ((x.look M).1, (x.look M).2, M.act (PSt.rd (x.P + x.at_)))
  else if x.phase = 3 then (.no, { x with offer := x.pick (M.at x.helpC), phase := 4 }, M.act (PSt.rd x.helpC))
  else if x.phase = 4 then ((x.after (if (M.at (x.P + x.at_)).toList = [] then x.offer else M.at (x.P + x.at_))).1, (x.after (if (M.at (x.P + x.at_)).toList = [] then x.offer else M.at (x.P + x.at_))).2, M.act x.swapA)
  else if x.phase = 5 then ((x.head M).1, (x.head M).2.1, M.act (x.head M).2.2)
  else (.no, x, M)
theorem ph_ph (x : PSt) (i j : Int) : (x.ph i).ph j = x.ph j := rfl
def PSt.withOffer (x : PSt) (o : ByteArray) : PSt := { x with offer := o }
theorem PM.offer {w : World} {b m : Nat} {x : PSt} {mb mc mm : Nat} {lv : Value} {M : MSt} (hP : PM w.heap b m x mb mc mm lv M) (o : ByteArray) : PM (w.setCell ⟨b, 9, none⟩ (.string o)).heap b m (x.withOffer o) mb mc mm lv M :=
  hP.moved ⟨by rw [heap_set hP.pr.hb]; simp [PSt.cells, PSt.withOffer], hP.pr.hm.same (heap_set_ne _ _ _ (hP.pr.hm.ne hP.pr.hb))⟩ (Ext.set' (by simp) (Ext.refl _ _) _ _)

theorem step_idle (b m : Nat) (x : PSt) (mb mc mm : Nat) (lv : Value) (M : MSt) (w : World) (hP : PM w.heap b m x mb mc mm lv M) (hx : x.Ok) (hph : x.phase = 0) :
    Calls Try.prog 24 #[.pointer (some ⟨b, 0, none⟩), .pointer (some ⟨mb, 0, none⟩)] w fun e w' =>
      Stepped w b m mb mc mm lv e w' .no x M := by
  have hA0 := heap_new w (.cells #[.bool false, .bool false, .int .i64 0] 42)
  have hP0 := hP.alloc (.cells #[.bool false, .bool false, .int .i64 0] 42)
  have c3 := cellAt hP.pr.hb 3
  simp [PSt.cells, hph] at c3
  have hblt := lt_of_heap hP.pr.hb
  go_enter Try.func24, Try.ntmps24
  go_wp2
  refine bodyPost_ret (v := EndR.no.val) (by simp [results, Try.results24, go_sem, EndR.val, EndR.no]) rfl ⟨lv, rfl, ?_, ?_⟩
  · exact hP0
  · exact (Ext.refl _ _).alloc _

theorem step_wish (b m : Nat) (x : PSt) (mb mc mm : Nat) (lv : Value) (M : MSt) (w : World) (hP : PM w.heap b m x mb mc mm lv M) (hx : x.Ok) (hw : x.who < x.P) (hc : M.cells.length = x.P + x.S) (hn : M.log.length < 1000000) (hph : x.phase = 1) :
    Calls Try.prog 24 #[.pointer (some ⟨b, 0, none⟩), .pointer (some ⟨mb, 0, none⟩)] w fun e w' =>
      Stepped w b m mb mc mm lv e w' (x.step M).1 (x.step M).2.1 (x.step M).2.2 := by
  have hat := hx.at_
  have hxP := hx.P
  have hxS := hx.S
  have hxw := hx.who
  have hati : (x.at_ : Int) ≤ 1000 := by omega
  have hati0 : (0 : Int) ≤ x.at_ := by omega
  have hPi : (x.P : Int) ≤ 1000 := by omega
  have hPi0 : (1 : Int) ≤ x.P := by omega
  have hAP : w.heap.size ∉ ([b, m] ++ foot mb mc mm lv) := by
    intro h
    rcases List.mem_append.1 h with h | h
    · exact notIn2 hP.pr h
    · have := hP.me.lt _ h; omega
  have hA0 := heap_new w (.cells #[.bool false, .bool false, .int .i64 0] 42)
  have hP0 := hP.alloc (.cells #[.bool false, .bool false, .int .i64 0] 42)
  have hE0 : Ext ([b, m] ++ foot mb mc mm lv) w (w.alloc (.cells #[.bool false, .bool false, .int .i64 0] 42)) := (Ext.refl _ _).alloc _
  have hne : w.heap.size ≠ b := fun e => hAP (by rw [e]; simp)
  have hbE : b ∈ ([b, m] ++ foot mb mc mm lv) := by simp
  have hd : x.step M = (if x.S ≤ x.at_ then (⟨true, true, 0⟩, x.ph 0, M.act x.wishA) else (.no, x.ph 2, M.act x.wishA)) := by unfold PSt.step; simp [hph]
  have HD := Hs.hid hd; clear hd
  have c3 := cellAt hP.pr.hb 3
  simp [PSt.cells, hph] at c3
  have hblt := lt_of_heap hP.pr.hb
  go_enter Try.func24, Try.ntmps24
  go_upto_region 3 with fail
  have HW := Hs.hid (rfl : w.heap.size = w.heap.size)
  generalize w.alloc (.cells #[.bool false, .bool false, .int .i64 0] 42) = W at *
  clear c3
  have hq := hP0.pr.hb; simp only [PSt.cells] at hq; have k0 := cellAt hq 0; have k1 := cellAt hq 1; have k2 := cellAt hq 2; have k6 := cellAt hq 6; have k7 := cellAt hq 7; have k8 := cellAt hq 8; simp at k0 k1 k2 k6 k7 k8
  go_cut [] (fun  wx => ∃ lv', PM wx.heap b m x mb mc mm lv' (M.act (x.wishA)) ∧ Ext ([b, m] ++ foot mb mc mm lv) w wx ∧ wx.heap[w.heap.size]? = some (.cells #[.bool false, .bool false, .int .i64 0] 42 (0, 0)))
  case first =>
    go_region_held3 (fun w' => w'.cell? ⟨b, 0, none⟩ = some (.int .i64 ↑x.P) ∧ w'.cell? ⟨b, 1, none⟩ = some (.int .i64 ↑x.S) ∧ w'.cell? ⟨b, 2, none⟩ = some (.int .i64 ↑x.who) ∧ w'.cell? ⟨b, 6, none⟩ = some (.int .i64 ↑x.mwho) ∧ w'.cell? ⟨b, 7, none⟩ = some (.int .i64 ↑x.seq) ∧ w'.cell? ⟨b, 8, none⟩ = some (.string x.body))
      (first
        | go_keep
        | exact ⟨k0, k1, k2, k6, k7, k8⟩)
      (first
          | (go_at_call 11; (with_reducible refine (wish_any x.P x.S x.who _).mono ?_); rintro e w1 ⟨rfl, hx1⟩; have hP1 := PM.ext0 (w := World.drew W) hP0 hx1; clear k0 k1 k2 k6 k7 k8 hq; have hq := hP1.pr.hb; simp only [PSt.cells] at hq; have k0 := cellAt hq 0; have k1 := cellAt hq 1; have k2 := cellAt hq 2; have k6 := cellAt hq 6; have k7 := cellAt hq 7; have k8 := cellAt hq 8; simp at k0 k1 k2 k6 k7 k8)
          | (go_at_call 19; (with_reducible refine (recText_any x.mwho x.seq x.body _ (by have := hx.mwho; omega) (by have := hx.seq; omega) (by have := hx.body; omega)).mono ?_); rintro e w2 ⟨rfl, hx2⟩; have hP2 := PM.ext0 (w := w1) hP1 hx2; clear k0 k1 k2 k6 k7 k8 hq; have hq := hP2.pr.hb; simp only [PSt.cells] at hq; have k0 := cellAt hq 0; have k1 := cellAt hq 1; have k2 := cellAt hq 2; have k6 := cellAt hq 6; have k7 := cellAt hq 7; have k8 := cellAt hq 8; simp at k0 k1 k2 k6 k7 k8)
          | (go_at_call 38; (with_reducible refine (do_any mb mc mm lv M x.who 2 x.who noText x.mine _ ?_ (by omega) (by omega) (by omega) ?_ hn ?_).mono ?_); exact hP2.me; (rw [hc]; omega); (rw [hc]; omega); rintro e w8 ⟨lv2, rfl, hM2, hx8⟩; have hP8 := hP2.acted hM2 hx8; clear k0 k1 k2 k6 k7 k8 hq; have hq := hP8.pr.hb; simp only [PSt.cells] at hq; have k0 := cellAt hq 0; have k1 := cellAt hq 1; have k2 := cellAt hq 2; have k6 := cellAt hq 6; have k7 := cellAt hq 7; have k8 := cellAt hq 8; simp at k0 k1 k2 k6 k7 k8))
    all_goals
      go_wp2_with fail
      go_meet
      exact ⟨lv2, hP8, (((hE0.drew).trans0 hx1).trans0 hx2).trans hx8 (fun g hg => .inl (List.mem_append_right _ hg)), hx8.same (hx2.same (hx1.same hA0 (by simp)) (by simp)) (fun h => hAP (List.mem_append_right _ h))⟩
  case rest =>
    obtain ⟨lv2, hP2, hE2, hA2⟩ := hcut
    have r0 := cellAt hA2 0
    have r1 := cellAt hA2 1
    have r2 := cellAt hA2 2
    have rf := freeAt hA2
    simp at r0 r1 r2
    clear k0 k1 k2 k6 k7 k8 hq
    have f3 := freeAt hP2.pr.hb 3
    have c3 := cellAt hP2.pr.hb 3
    simp [PSt.cells, hph] at c3
    have hP3 := hP2.decided (w' := w) (y := x) 2
    have hA3 := (heap_set_ne wc ⟨b, 3, none⟩ (.int .i64 2) hne.symm).trans hA2
    by_cases hf : x.S ≤ x.at_
    · rw [if_pos hf] at HD
      have hfb : decide ((x.ph 2).S ≤ (x.ph 2).at_) = true := decide_eq_true hf
      go_wp2_with (first
        | (go_at_call 39; (with_reducible refine (full_any b m (x.ph 2) _ hP3.pr).mono ?_); rintro e w9 ⟨rfl, n9, rfl⟩)
        | (go_at_call 40; (with_reducible refine (end_any b m (x.ph 2) true true 0 _ ?_).mono ?_); exact hP3.pr; rintro e w3 ⟨rfl, hI4, hx4⟩; have hA4 := hx4.same hA3 (fun h => hAP (List.mem_append_left _ (List.mem_cons.2 (.inl (List.mem_singleton.1 h))))); have t0 := cellAt hA4 0; have t1 := cellAt hA4 1; have t2 := cellAt hA4 2; have tf := freeAt hA4; simp at t0 t1 t2))
      refine bodyPost_ret (v := .agg #[.bool true, .bool true, .int .i64 0]) (by simp [results, Try.results24, go_sem, t0, t1, t2, EndR.val, EndR.no]) rfl ⟨lv2, by rw [HD.out]; rfl, ?_, ?_⟩
      · rw [HD.out]
        exact (PM.moved (w := (wc.setCell ⟨b, 3, none⟩ (.int .i64 2)).drewN n9) hP3 hI4 (hx4.mono (by simp))).res hA4 _ _ _
      · repeat (refine Ext.setN (Nat.le_refl _) ?_ _ _)
        exact ((Ext.set' hbE hE2 _ _).drewN n9).trans hx4 (fun g hg => .inl (List.mem_append_left _ (List.mem_cons.2 (.inl (List.mem_singleton.1 hg)))))
    · rw [if_neg hf] at HD
      have hfb : decide ((x.ph 2).S ≤ (x.ph 2).at_) = false := decide_eq_false hf
      go_wp2_with (first
        | (go_at_call 39; (with_reducible refine (full_any b m (x.ph 2) _ hP3.pr).mono ?_); rintro e w9 ⟨rfl, n9, rfl⟩))
      refine bodyPost_ret (v := EndR.no.val) (by simp [results, Try.results24, go_sem, r0, r1, r2, EndR.val, EndR.no]) rfl ⟨lv2, by rw [HD.out], ?_, ?_⟩
      · rw [HD.out]
        exact PM.res (w := (wc.setCell ⟨b, 3, none⟩ (.int .i64 2)).drewN n9) hP3 hA3 _ _ _
      · repeat (refine Ext.setN (Nat.le_refl _) ?_ _ _)
        exact (Ext.set' hbE hE2 _ _).drewN n9

theorem step_swap (b m : Nat) (x : PSt) (mb mc mm : Nat) (lv : Value) (M : MSt) (w : World) (hP : PM w.heap b m x mb mc mm lv M) (hx : x.Ok) (hw : x.who < x.P) (hc : M.cells.length = x.P + x.S) (hn : M.log.length < 1000000) (hph : x.phase = 4) (hS : x.at_ < x.S) :
    Calls Try.prog 24 #[.pointer (some ⟨b, 0, none⟩), .pointer (some ⟨mb, 0, none⟩)] w fun e w' =>
      Stepped w b m mb mc mm lv e w' (x.step M).1 (x.step M).2.1 (x.step M).2.2 := by
  have hat := hx.at_
  have hxP := hx.P
  have hxS := hx.S
  have hxw := hx.who
  have hati : (x.at_ : Int) ≤ 1000 := by omega
  have hati0 : (0 : Int) ≤ x.at_ := by omega
  have hPi : (x.P : Int) ≤ 1000 := by omega
  have hPi0 : (1 : Int) ≤ x.P := by omega
  have hAP : w.heap.size ∉ ([b, m] ++ foot mb mc mm lv) := by
    intro h
    rcases List.mem_append.1 h with h | h
    · exact notIn2 hP.pr h
    · have := hP.me.lt _ h; omega
  have hA0 := heap_new w (.cells #[.bool false, .bool false, .int .i64 0] 42)
  have hP0 := hP.alloc (.cells #[.bool false, .bool false, .int .i64 0] 42)
  have hE0 : Ext ([b, m] ++ foot mb mc mm lv) w (w.alloc (.cells #[.bool false, .bool false, .int .i64 0] 42)) := (Ext.refl _ _).alloc _
  have hne : w.heap.size ≠ b := fun e => hAP (by rw [e]; simp)
  have hbE : b ∈ ([b, m] ++ foot mb mc mm lv) := by simp
  have hd : x.step M = ((x.after (if (M.at (x.P + x.at_)).toList = [] then x.offer else M.at (x.P + x.at_))).1, (x.after (if (M.at (x.P + x.at_)).toList = [] then x.offer else M.at (x.P + x.at_))).2, M.act x.swapA) := by unfold PSt.step; simp [hph]
  have HD := Hs.hid hd; clear hd
  have c3 := cellAt hP.pr.hb 3
  simp [PSt.cells, hph] at c3
  have hblt := lt_of_heap hP.pr.hb
  go_enter Try.func24, Try.ntmps24
  go_upto_region 17 with fail
  have HW := Hs.hid (rfl : w.heap.size = w.heap.size)
  generalize w.alloc (.cells #[.bool false, .bool false, .int .i64 0] 42) = W at *
  clear c3
  have hq := hP0.pr.hb; simp only [PSt.cells] at hq; have k0 := cellAt hq 0; have k1 := cellAt hq 1; have k2 := cellAt hq 2; have k4 := cellAt hq 4; have k9 := cellAt hq 9; simp at k0 k1 k2 k4 k9
  go_cut [10, 11] (fun s10 s11 wx => ∃ lv', s10 = .string (M.at (x.P + x.at_)) ∧ s11 = .bool (M.done x.swapA) ∧ PM wx.heap b m x mb mc mm lv' (M.act (x.swapA)) ∧ Ext ([b, m] ++ foot mb mc mm lv) w wx ∧ wx.heap[w.heap.size]? = some (.cells #[.bool false, .bool false, .int .i64 0] 42 (0, 0)))
  case first =>
    go_region_held3 (fun w' => w'.cell? ⟨b, 0, none⟩ = some (.int .i64 ↑x.P) ∧ w'.cell? ⟨b, 1, none⟩ = some (.int .i64 ↑x.S) ∧ w'.cell? ⟨b, 2, none⟩ = some (.int .i64 ↑x.who) ∧ w'.cell? ⟨b, 4, none⟩ = some (.int .i64 ↑x.at_) ∧ w'.cell? ⟨b, 9, none⟩ = some (.string x.offer))
      (first
        | go_keep
        | exact ⟨k0, k1, k2, k4, k9⟩)
      (first
          | (go_at_call 12; (with_reducible refine (slot_any x.P x.S x.at_ _ (by omega) (by omega) (by omega) (by omega)).mono ?_); rintro e w1 ⟨rfl, hx1⟩; have hP1 := PM.ext0 (w := World.drew W) hP0 hx1; clear k0 k1 k2 k4 k9 hq; have hq := hP1.pr.hb; simp only [PSt.cells] at hq; have k0 := cellAt hq 0; have k1 := cellAt hq 1; have k2 := cellAt hq 2; have k4 := cellAt hq 4; have k9 := cellAt hq 9; simp at k0 k1 k2 k4 k9)
          | (go_at_call 38; (with_reducible refine (do_any mb mc mm lv M x.who 3 (x.P + x.at_) noText x.offer _ ?_ (by omega) (by omega) (by omega) ?_ hn ?_).mono ?_); exact hP1.me; (rw [hc]; omega); (rw [hc]; omega); rintro e w8 ⟨lv2, rfl, hM2, hx8⟩; have hP8 := hP1.acted hM2 hx8; clear k0 k1 k2 k4 k9 hq; have hq := hP8.pr.hb; simp only [PSt.cells] at hq; have k0 := cellAt hq 0; have k1 := cellAt hq 1; have k2 := cellAt hq 2; have k4 := cellAt hq 4; have k9 := cellAt hq 9; simp at k0 k1 k2 k4 k9))
    all_goals
      go_wp2_with fail
      go_meet
      exact ⟨lv2, rfl, rfl, hP8, ((hE0.drew).trans0 hx1).trans hx8 (fun g hg => .inl (List.mem_append_right _ hg)), hx8.same (hx1.same hA0 (by simp)) (fun h => hAP (List.mem_append_right _ h))⟩
  case rest =>
    obtain ⟨lv2, rfl, rfl, hP2, hE2, hA2⟩ := hcut
    have r0 := cellAt hA2 0
    have r1 := cellAt hA2 1
    have r2 := cellAt hA2 2
    have rf := freeAt hA2
    simp at r0 r1 r2
    clear k0 k1 k2 k4 k9 hq
    have c9 := cellAt hP2.pr.hb 9
    simp [PSt.cells] at c9
    have hdn : M.done x.swapA = ((M.at (x.P + x.at_)).toList == []) := by
      unfold MSt.done PSt.swapA; simp
    by_cases hs : (M.at (x.P + x.at_)).toList = []
    · have hdt : M.done x.swapA = true := by rw [hdn]; simp [hs]
      rw [if_pos hs] at HD
      clear hdn
      rw [hdt]
      clear hdt
      obtain ⟨d, f, sl, y, hay⟩ : ∃ d f sl y, x.after x.offer = (⟨d, f, sl⟩, y) := ⟨_, _, _, _, rfl⟩
      rw [hay] at HD
      have HY := Hs.hid hay; clear hay
      go_wp2_with (go_at_call 43; (with_reducible refine (after_at b m x x.offer _ hP2.pr hx HY.out).mono ?_); rintro e w3 ⟨rfl, hI3, hx3⟩; have hA3 := hx3.same hA2 (fun h => hAP (List.mem_append_left _ h)); have t0 := cellAt hA3 0; have t1 := cellAt hA3 1; have t2 := cellAt hA3 2; have tf := freeAt hA3; simp at t0 t1 t2)
      refine bodyPost_ret (v := .agg #[.bool d, .bool f, .int .i64 sl]) (by simp [results, Try.results24, go_sem, t0, t1, t2, EndR.val, EndR.no]) rfl ⟨lv2, by rw [HD.out]; rfl, ?_, ?_⟩
      · rw [HD.out]
        exact (hP2.moved hI3 hx3).res hA3 _ _ _
      · repeat (refine Ext.setN (Nat.le_refl _) ?_ _ _)
        exact hE2.trans hx3 (fun g hg => .inl (List.mem_append_left _ hg))
    · have hdt : M.done x.swapA = false := by rw [hdn]; simpa using hs
      rw [if_neg hs] at HD
      clear hdn
      rw [hdt]
      clear hdt
      obtain ⟨d, f, sl, y, hay⟩ : ∃ d f sl y, x.after (M.at (x.P + x.at_)) = (⟨d, f, sl⟩, y) := ⟨_, _, _, _, rfl⟩
      rw [hay] at HD
      have HY := Hs.hid hay; clear hay
      go_wp2_with (go_at_call 43; (with_reducible refine (after_at b m x (M.at (x.P + x.at_)) _ hP2.pr hx HY.out).mono ?_); rintro e w3 ⟨rfl, hI3, hx3⟩; have hA3 := hx3.same hA2 (fun h => hAP (List.mem_append_left _ h)); have t0 := cellAt hA3 0; have t1 := cellAt hA3 1; have t2 := cellAt hA3 2; have tf := freeAt hA3; simp at t0 t1 t2)
      refine bodyPost_ret (v := .agg #[.bool d, .bool f, .int .i64 sl]) (by simp [results, Try.results24, go_sem, t0, t1, t2, EndR.val, EndR.no]) rfl ⟨lv2, by rw [HD.out]; rfl, ?_, ?_⟩
      · rw [HD.out]
        exact (hP2.moved hI3 hx3).res hA3 _ _ _
      · repeat (refine Ext.setN (Nat.le_refl _) ?_ _ _)
        exact hE2.trans hx3 (fun g hg => .inl (List.mem_append_left _ hg))

theorem step_look (b m : Nat) (x : PSt) (mb mc mm : Nat) (lv : Value) (M : MSt) (w : World) (hP : PM w.heap b m x mb mc mm lv M) (hx : x.Ok) (hw : x.who < x.P) (hc : M.cells.length = x.P + x.S) (hn : M.log.length < 1000000) (hph : x.phase = 2) (hS : x.at_ < x.S) :
    Calls Try.prog 24 #[.pointer (some ⟨b, 0, none⟩), .pointer (some ⟨mb, 0, none⟩)] w fun e w' =>
      Stepped w b m mb mc mm lv e w' (x.step M).1 (x.step M).2.1 (x.step M).2.2 := by
  have hat := hx.at_
  have hxP := hx.P
  have hxS := hx.S
  have hxw := hx.who
  have hati : (x.at_ : Int) ≤ 1000 := by omega
  have hati0 : (0 : Int) ≤ x.at_ := by omega
  have hPi : (x.P : Int) ≤ 1000 := by omega
  have hPi0 : (1 : Int) ≤ x.P := by omega
  have hAP : w.heap.size ∉ ([b, m] ++ foot mb mc mm lv) := by
    intro h
    rcases List.mem_append.1 h with h | h
    · exact notIn2 hP.pr h
    · have := hP.me.lt _ h; omega
  have hA0 := heap_new w (.cells #[.bool false, .bool false, .int .i64 0] 42)
  have hP0 := hP.alloc (.cells #[.bool false, .bool false, .int .i64 0] 42)
  have hE0 : Ext ([b, m] ++ foot mb mc mm lv) w (w.alloc (.cells #[.bool false, .bool false, .int .i64 0] 42)) := (Ext.refl _ _).alloc _
  have hne : w.heap.size ≠ b := fun e => hAP (by rw [e]; simp)
  have hbE : b ∈ ([b, m] ++ foot mb mc mm lv) := by simp
  have hd : x.step M = ((x.look M).1, (x.look M).2, M.act (PSt.rd (x.P + x.at_))) := by unfold PSt.step; simp [hph]
  obtain ⟨d, f, sl, hE⟩ : ∃ d f sl, (x.look M).1 = ⟨d, f, sl⟩ := ⟨_, _, _, rfl⟩
  rw [hE] at hd
  have HD := Hs.hid hd; clear hd
  have HE := Hs.hid hE; clear hE
  have c3 := cellAt hP.pr.hb 3
  simp [PSt.cells, hph] at c3
  have hblt := lt_of_heap hP.pr.hb
  go_enter Try.func24, Try.ntmps24
  go_wp2_with (go_at_call 41; (with_reducible refine (look_any b m x mb mc mm lv M _ hP0 hx hS hc hn).mono ?_); rintro e w3 ⟨lv3, rfl, hP3, hx3⟩; rw [HE.out]; have hA3 := hx3.same hA0 hAP; have t0 := cellAt hA3 0; have t1 := cellAt hA3 1; have t2 := cellAt hA3 2; have tf := freeAt hA3; simp [EndR.val] at t0 t1 t2; unfold EndR.val)
  refine bodyPost_ret (v := .agg #[.bool d, .bool f, .int .i64 sl]) (by simp [results, Try.results24, go_sem, t0, t1, t2, EndR.val, EndR.no]) rfl ⟨lv3, by rw [HD.out]; rfl, ?_, ?_⟩
  · rw [HD.out]
    exact hP3.res hA3 _ _ _
  · repeat (refine Ext.setN (Nat.le_refl _) ?_ _ _)
    exact hE0.trans' hx3

theorem step_head (b m : Nat) (x : PSt) (mb mc mm : Nat) (lv : Value) (M : MSt) (w : World) (hP : PM w.heap b m x mb mc mm lv M) (hx : x.Ok) (hw : x.who < x.P) (hc : M.cells.length = x.P + x.S) (hn : M.log.length < 1000000) (hph : x.phase = 5) :
    Calls Try.prog 24 #[.pointer (some ⟨b, 0, none⟩), .pointer (some ⟨mb, 0, none⟩)] w fun e w' =>
      Stepped w b m mb mc mm lv e w' (x.step M).1 (x.step M).2.1 (x.step M).2.2 := by
  have hat := hx.at_
  have hxP := hx.P
  have hxS := hx.S
  have hxw := hx.who
  have hati : (x.at_ : Int) ≤ 1000 := by omega
  have hati0 : (0 : Int) ≤ x.at_ := by omega
  have hPi : (x.P : Int) ≤ 1000 := by omega
  have hPi0 : (1 : Int) ≤ x.P := by omega
  have hAP : w.heap.size ∉ ([b, m] ++ foot mb mc mm lv) := by
    intro h
    rcases List.mem_append.1 h with h | h
    · exact notIn2 hP.pr h
    · have := hP.me.lt _ h; omega
  have hA0 := heap_new w (.cells #[.bool false, .bool false, .int .i64 0] 42)
  have hP0 := hP.alloc (.cells #[.bool false, .bool false, .int .i64 0] 42)
  have hE0 : Ext ([b, m] ++ foot mb mc mm lv) w (w.alloc (.cells #[.bool false, .bool false, .int .i64 0] 42)) := (Ext.refl _ _).alloc _
  have hne : w.heap.size ≠ b := fun e => hAP (by rw [e]; simp)
  have hbE : b ∈ ([b, m] ++ foot mb mc mm lv) := by simp
  have hd : x.step M = ((x.head M).1, (x.head M).2.1, M.act (x.head M).2.2) := by unfold PSt.step; simp [hph]
  obtain ⟨d, f, sl, hE⟩ : ∃ d f sl, (x.head M).1 = ⟨d, f, sl⟩ := ⟨_, _, _, rfl⟩
  rw [hE] at hd
  have HD := Hs.hid hd; clear hd
  have HE := Hs.hid hE; clear hE
  have c3 := cellAt hP.pr.hb 3
  simp [PSt.cells, hph] at c3
  have hblt := lt_of_heap hP.pr.hb
  go_enter Try.func24, Try.ntmps24
  go_wp2_with (go_at_call 44; (with_reducible refine (head_step b m x mb mc mm lv M _ hP0 hx hw hc hn).mono ?_); rintro e w3 ⟨lv3, rfl, hP3, hx3⟩; rw [HE.out]; have hA3 := hx3.same hA0 hAP; have t0 := cellAt hA3 0; have t1 := cellAt hA3 1; have t2 := cellAt hA3 2; have tf := freeAt hA3; simp [EndR.val] at t0 t1 t2; unfold EndR.val)
  refine bodyPost_ret (v := .agg #[.bool d, .bool f, .int .i64 sl]) (by simp [results, Try.results24, go_sem, t0, t1, t2, EndR.val, EndR.no]) rfl ⟨lv3, by rw [HD.out]; rfl, ?_, ?_⟩
  · rw [HD.out]
    exact hP3.res hA3 _ _ _
  · repeat (refine Ext.setN (Nat.le_refl _) ?_ _ _)
    exact hE0.trans' hx3
end Go.Proofs.Ytkhihpmadmmeaaa
