-- PRINTED BY print.sh 35421559b90ae4d0a3588c463048766b98c2df88dd9212a6774a882060cdf62d: not written by this session
import Derived.Test.YtnjjbolbemlceaaDoorPKtx0
namespace Go.Proofs.YtnjjbolbemlceaaDoor.PKt
open Go.RowKit Go.Proofs.YtnjjbolbemlceaaDoorW.PrintWords Go.Proofs.YtnjjbolbemlceaaDoorW.PrintLast Go.Proofs.YtnjjbolbemlceaaDoorW.PrintMore
attribute [local go_sem] max2_int min2_int max_two min_two max_three min_three max_four min_four   -- for this text's walks alone
set_option linter.unusedVariables false
set_option linter.unusedSimpArgs false

/-! ### hindsightref09_Half: function 42 -/
def hindsightref09_Half.l0 : Nat → Int → Int → Int → Option (Int)
  | 0, _, _, _ => none
  | k + 1, x0, x3, x4 => if x4 < 62 then (if (wrap64 (2 * x3)) < x0 then (hindsightref09_Half.l0 k x0 (wrap64 (2 * x3)) (wrap64 (x4 + 1))) else (some x3)) else (some x3)
def hindsightref09_Half.f (k : Nat) (a0 : Int) : Option (Int) := hindsightref09_Half.l0 k a0 1 0
theorem hindsightref09_Half.mono_l : ∀ k, (∀ y0 y1 y2, LeO (hindsightref09_Half.l0 k y0 y1 y2) (hindsightref09_Half.l0 (k + 1) y0 y1 y2))
  | 0 => fun _ _ _ r h => by simp [hindsightref09_Half.l0] at h
  | k + 1 => by
    have ih0 := hindsightref09_Half.mono_l k
    · intro y0 y1 y2
      unfold hindsightref09_Half.l0
      repeat' first
      | (with_reducible exact ih0 _ _ _)
      | (with_reducible exact LeO.refl _)
      | (with_reducible exact LeO.none _)
      | (with_reducible refine LeO.ite ?_ ?_)
      | (with_reducible refine LeO.bind ?_ (fun _ => ?_))
      | exact ih0 _ _ _
      | exact LeO.none _
      | refine LeO.ite ?_ ?_
      | refine LeO.bind ?_ (fun _ => ?_)
theorem hindsightref09_Half.mono : ∀ a0 k, LeO (hindsightref09_Half.f k a0) (hindsightref09_Half.f (k + 1) a0) := by
  intro a0 k
  have ih0 := hindsightref09_Half.mono_l k
  unfold hindsightref09_Half.f
  repeat' first
      | (with_reducible exact ih0 _ _ _)
      | (with_reducible exact LeO.refl _)
      | (with_reducible exact LeO.none _)
      | (with_reducible refine LeO.ite ?_ ?_)
      | (with_reducible refine LeO.bind ?_ (fun _ => ?_))
      | exact ih0 _ _ _
      | exact LeO.none _
      | refine LeO.ite ?_ ?_
      | refine LeO.bind ?_ (fun _ => ?_)
set_option maxHeartbeats 8000000 in
set_option maxRecDepth 100000 in
theorem hindsightref09_Half.calls (k : Nat) (a0 : Int) (r : Int) (w : World) (h : hindsightref09_Half.f k a0 = some r) :
    Calls Tryd.prog 42 #[.int .i64 a0] w fun e w' => e = .returned (.int .i64 r) ∧ Drawn0 w w' := by
  have H : (hindsightref09_Half.l0 k a0 1 0) = some r := h
  clear h
  have H' := Aside0.mk H
  clear H
  go_enter Tryd.func42, Tryd.ntmps42
  go_wp2
  go_loopg [3, 4] k (fun kq v3 v4 w' => ∃ (x3_1 : Int) (x4_1 : Int), v3 = .int .i64 x3_1 ∧ v4 = .int .i64 x4_1 ∧ Aside0 (hindsightref09_Half.l0 kq a0 x3_1 x4_1 = some r) ∧ Aside0 (kq ≤ k) ∧ Drawn0 w w')
  case atStart => exact ⟨(1), (0), (by first | rfl | (simp; done) | (simp [*]; done)), (by first | rfl | (simp; done) | (simp [*]; done)), H', ⟨Nat.le_refl _⟩, by repeat (first | exact Drawn0.refl _ | apply Drawn0.step)⟩
  case round =>
    clear H'
    obtain ⟨x3_1, x4_1, rfl, rfl, HA, HK1, ⟨m1, rfl⟩⟩ := hrel
    cases gk with
    | zero => exact absurd HA.out (by simp [hindsightref09_Half.l0])
    | succ k1 =>
      have H := HA.out
      clear HA
      simp only [hindsightref09_Half.l0] at H
      by_cases c2 : x4_1 < 62
      · rw [if_pos c2] at H
        have c2b0 : decide (x4_1 < 62) = true := decide_eq_true c2
        clear c2
        by_cases c3 : (wrap64 (2 * x3_1)) < a0
        · rw [if_pos c3] at H
          have c3b0 : decide ((wrap64 (2 * x3_1)) < a0) = true := decide_eq_true c3
          clear c3
          have H' := Aside0.mk H
          clear H
          go_wp2
          go_roundg k1
          case measure => have := HK1.out; omega
          case rel => exact ⟨(wrap64 (2 * x3_1)), (wrap64 (x4_1 + 1)), (by first | rfl | (simp; done) | (simp [*]; done)), (by first | rfl | (simp; done) | (simp [*]; done)), H', ⟨by have := HK1.out; omega⟩, by repeat (first | exact Drawn0.refl _ | apply Drawn0.step)⟩
        · rw [if_neg c3] at H
          have c3b0 : decide ((wrap64 (2 * x3_1)) < a0) = false := decide_eq_false c3
          clear c3
          obtain rfl := Option.some.inj H
          go_wp2
          go_ret
          exact ⟨by first | rfl | (simp; done) | (simp [*]; done), by repeat (first | exact Drawn0.refl _ | apply Drawn0.step)⟩
      · rw [if_neg c2] at H
        have c2b0 : decide (x4_1 < 62) = false := decide_eq_false c2
        clear c2
        obtain rfl := Option.some.inj H
        go_wp2
        go_ret
        exact ⟨by first | rfl | (simp; done) | (simp [*]; done), by repeat (first | exact Drawn0.refl _ | apply Drawn0.step)⟩

end Go.Proofs.YtnjjbolbemlceaaDoor.PKt
