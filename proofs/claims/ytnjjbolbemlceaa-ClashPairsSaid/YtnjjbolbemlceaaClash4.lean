/-
  ClashPairs, walked.
-/
import Derived.Test.YtnjjbolbemlceaaClash3
set_option linter.unusedSimpArgs false
set_option linter.unusedVariables false
set_option maxHeartbeats 4000000
set_option maxRecDepth 100000
namespace Go.Proofs.Ytnjjbolbemlceaa
open Go.RowKit Go.Hs Go.Dg

theorem pairIs_v (a b : ByteArray) (v : Bool) (ha : a.size ≤ 100000) (hb : b.size ≤ 100000) (hv : isPair a b = v) (w : World) : Calls Try.prog 10 #[.agg #[.string a, .string b]] w fun e w' => e = .returned (.bool v) ∧ Ext [] w w' := by
  have := pairIs_any a b ha hb w
  rw [hv] at this
  exact this
theorem cut100 (s : ByteArray) (w : World) (hs : s.size ≤ maxLen) : Calls Try.prog 8 #[.string s, .int .i64 100] w fun e w' => ∃ t : ByteArray, e = .returned (.string t) ∧ t.size ≤ 100 ∧ w' = w := cut_any s 100 (by decide) w hs
theorem isPair_self (a : ByteArray) : isPair a a = false := by unfold isPair; simp
theorem clashPairs_any (a b : ByteArray) (w : World) (ha : a.size ≤ maxLen) (hb : b.size ≤ maxLen) : Calls Try.prog 3 #[.string a, .string b] w fun e w' => e = .returned (.bool true) ∧ Ext [] w w' := by
  have HM := Hs.hid (And.intro ha hb)
  clear ha hb
  go_enter Try.func3, Try.ntmps3
  go_upto_region 1 with fail
  go_cut [0, 1] (fun s0 s1 wx => ∃ x y : ByteArray, s0 = .string x ∧ s1 = .string y ∧ x.size ≤ 100 ∧ y.size ≤ 100 ∧ w = wx)
  case first =>
    go_wp2_with (first
      | (go_at_call 8; (with_reducible refine (cut100 a _ HM.out.1).mono ?_); rintro e w1 ⟨x, rfl, hx, rfl⟩)
      | (go_at_call 8; (with_reducible refine (cut100 b _ HM.out.2).mono ?_); rintro e w1 ⟨y, rfl, hy, rfl⟩))
    go_meet
    exact ⟨x, y, rfl, rfl, hx, hy, rfl⟩
  case rest =>
    obtain ⟨x, y, rfl, rfl, hx, hy, rfl⟩ := hcut
    have HS := Hs.hid (show x.size ≤ 100000 ∧ y.size ≤ 100000 ∧ x.size ≤ 100000000 ∧ y.size ≤ 100000000 by omega)
    clear hx hy
    by_cases hab : (x.toList == y.toList) = true
    · have hv : isPair x y = false := by unfold isPair; rw [hab]; rfl
      have hn : (!(x.toList == y.toList)) = false := by rw [hab]; rfl
      have HV := Hs.hid hv
      clear hv
      go_wp2_with (first
        | (go_at_call 9; refine (awake11_any _).mono ?_; rintro e w1 ⟨rfl, hx1⟩)
        | (go_at_call 10; (with_reducible refine (pairIs_v x y false HS.out.1 HS.out.2.1 HV.out _).mono ?_); rintro e w2 ⟨rfl, hx2⟩)
        | (go_at_call 10; (with_reducible refine (pairIs_v x x false HS.out.1 HS.out.1 (isPair_self x) _).mono ?_); rintro e w3 ⟨rfl, hx3⟩))
      go_ret
      exact ⟨rfl, (hx1.trans0 hx2).trans0 hx3⟩
    · have hab := Bool.eq_false_iff.2 hab
      have hv : isPair x y = decide (digN x = digN y) := by unfold isPair; rw [hab]; rfl
      have hn : (!(x.toList == y.toList)) = true := by rw [hab]; rfl
      have HV := Hs.hid hv
      clear hv
      go_wp2_with (first
        | (go_at_call 9; refine (awake11_any _).mono ?_; rintro e w1 ⟨rfl, hx1⟩)
        | (go_at_call 10; (with_reducible refine (pairIs_v x y _ HS.out.1 HS.out.2.1 HV.out _).mono ?_); rintro e w2 ⟨rfl, hx2⟩)
        | (go_at_call 11; (with_reducible refine (of_any x HS.out.2.2.1 _).mono ?_); rintro e w4 ⟨cs, rfl, hcs, hx4⟩)
        | (go_at_call 11; (with_reducible refine (of_any y HS.out.2.2.2 _).mono ?_); rintro e w5 ⟨ds, rfl, hds, hx5⟩; have hq := (show ∀ w, (Op.equalIn 10000 27 (.agg cs) (.agg ds)).run Try.prog w = .ok (decide (digN x = digN y)) w from fun w => (by rw [hcs.out, hds.out]; exact run_eq_dig x y w)))
        | (go_at_call 10; (with_reducible refine (pairIs_v x x false HS.out.1 HS.out.1 (isPair_self x) _).mono ?_); rintro e w3 ⟨rfl, hx3⟩))
      go_ret
      exact ⟨rfl, (((hx1.trans0 hx2).trans0 hx4).trans0 hx5).trans0 hx3⟩
end Go.Proofs.Ytnjjbolbemlceaa
