/-
  FaultApart.
-/
import Derived.Test.YtnjjbolbemlceaaDoorFault5
set_option linter.unusedSimpArgs false
set_option linter.unusedVariables false
set_option maxHeartbeats 4000000
set_option maxRecDepth 100000
namespace Go.Proofs.YtnjjbolbemlceaaDoor
open Go.RowKit Go.Extern.Stop Go.Stop Go.Extern Go.Hs

theorem faultApart_any (ao : Option Addr) (len cap : Nat) (bo : Option Addr) (blen bcap : Nat) (n m : Int) (w : World) (hg : Gd w) (hA : StepArg w ao len) (hB : StepArg w bo blen) :
    Calls Tryd.prog 7 #[.slice ao len cap, .slice bo blen bcap, .int .i64 n, .int .i64 m] w fun e w' => e = .returned (.bool true) ∧ Ext [] w w' := by
  go_enter Tryd.func7, Tryd.ntmps7
  go_upto_region 3 with (go_at_call 10; refine (awake3_any _ hg).mono ?_; rintro e w1 ⟨rfl, hx1⟩)
  have HG1 := Hs.hid (hg.ext hx1 (by simp))
  have HA1 := Hs.hid (hA.ext hx1)
  have HB1 := Hs.hid (hB.ext hx1)
  clear hA hB
  go_upto_region 4 with (go_at_call 11; refine (wrapped_any ao len cap n _ HG1.out HA1.out).mono ?_; rintro e w2 ⟨v1, k1, L1, a1, c1, rfl, hv1, hf1⟩)
  have HG2 := Hs.hid (HG1.out.ext hf1.ext (by simp))
  have HB2 := Hs.hid (HB1.out.ext hf1.ext)
  have HX2 := Hs.hid (hx1.trans' hf1.ext)
  have HV1 := Hs.hid hv1
  clear HA1 HB1 HG1 hx1 hv1 hf1
  go_upto_block 0 with (go_at_call 11; refine (wrapped_any bo blen bcap m _ HG2.out HB2.out).mono ?_; rintro e w3 ⟨v2, k2, L2, a2, c2, rfl, hv2, hf2⟩)
  have HG3 := Hs.hid (HG2.out.ext hf2.ext (by simp))
  have HX3 := Hs.hid (HX2.out.trans' hf2.ext)
  have HV13 := Hs.hid (HV1.out.ext0 hf2.ext)
  have HV2 := Hs.hid hv2
  have HF := Hs.hid hf2
  clear HB2 HG2 HX2 HV1 hv2
  have hk6 := hf2.six
  clear hf2
  go_wp2_with fail
  go_loopw [31] (fun iv wr => ∃ j : Nat, iv = .int .i64 j ∧ j ≤ k2 ∧ Ext [] w3 wr) (fun iv _ => k2 - (intOf iv).toNat)
  case atStart => exact ⟨0, rfl, Nat.zero_le _, Ext.refl _ _⟩
  case round =>
    obtain ⟨j, rfl, hj, hx⟩ := hrel
    by_cases hlt : j < k2
    · have hl1 : (j : Int) < k2 := by omega
      have hj0 : (0 : Int) ≤ j := by omega
      have hj6 : (j : Int) < 6 := by omega
      obtain ⟨g, p, rfl, hcap, hp, c0, c1⟩ := HF.out.cells hlt
      replace c0 := cell_same c0 (hx.block _ (cellIn c0) (by simp))
      replace c1 := cell_same c1 (hx.block _ (cellIn c1) (by simp))
      have hany : (L2.any fun q => decide (p.1 = q.1)) = true := by
        rw [List.any_eq_true]
        exact ⟨p, List.mem_of_getElem? hp, by simp⟩
      have HX := Hs.hid hx
      have HANY := Hs.hid hany
      have HLT := Hs.hid hlt
      clear hany hp hx hlt
      go_wp2_with (go_at_call 32; refine (within_any (numE m : Nat) p.1 L2 v2 _ ((HV2.out.ext0 HX.out).alloc _)).mono ?_; rw [HANY.out]; rintro e w4 ⟨rfl, hx4⟩)
      go_round
      case rel => exact ⟨j + 1, by go_num, HLT.out, (HX.out.alloc _).trans' hx4⟩
      case measure => have := HLT.out; simp [intOf]; omega
    · have hl1 : ¬ (j : Int) < k2 := by omega
      have HX := Hs.hid hx
      clear hx
      by_cases hq : numE n = numE m
      · have hq1 : ((numE m : Nat) : Int) = (numE n : Nat) := by omega
        have HQ : Hid (decide (((numE m : Nat) : Int) = ((numE n : Nat) : Int)) = true) := Hs.hid (by simp [hq])
        clear hq
        go_wp2_with (first
          | (go_at_call 12; with_reducible refine (number_any n _).mono ?_; rintro e w4 ⟨rfl, rfl⟩)
          | (go_at_call 12; with_reducible refine (number_any m _).mono ?_; rintro e w4 ⟨rfl, rfl⟩)
          | (go_at_call 33; with_reducible refine (has_any (numE n : Nat) (numE n : Nat) L1 v1 _ (HV13.out.ext0 HX.out)).mono ?_; rw [show decide (((numE n : Nat) : Int) = ((numE n : Nat) : Int)) = true by simp]; rintro e w5 ⟨rfl, hx5⟩; have HX5 := Hs.hid (HX.out.trans' hx5); clear hx5)
          | (go_at_call 17; with_reducible refine (faultOf_any (numE n : Nat) L1 v1 _ (HG3.out.ext HX5.out (by simp)) (HV13.out.ext0 HX5.out)).mono ?_; rintro e w6 ⟨rfl, hx6⟩; have HX6 := Hs.hid (HX5.out.trans' hx6); clear hx6)
          | (go_at_call 17; with_reducible refine (faultOf_any (numE m : Nat) L2 v2 _ (HG3.out.ext HX6.out (by simp)) (HV2.out.ext0 HX6.out)).mono ?_; rintro e w7 ⟨rfl, hx7⟩; have HX7 := Hs.hid (HX6.out.trans' hx7); clear hx7)
          | (go_at_call 33; with_reducible refine (has_any (numE m : Nat) (numE n : Nat) L2 v2 _ (HV2.out.ext0 HX7.out)).mono ?_; rw [HQ.out]; rintro e w8 ⟨rfl, hx8⟩; have HX8 := Hs.hid (HX7.out.trans' hx8); clear hx8))
        go_ret
        exact ⟨rfl, HX3.out.trans' HX8.out⟩
      · have hq1 : ¬ ((numE m : Nat) : Int) = (numE n : Nat) := by omega
        have hq2 : ¬ ((numE n : Nat) : Int) = (numE m : Nat) := by omega
        have HQ : Hid (decide (((numE m : Nat) : Int) = ((numE n : Nat) : Int)) = false) := Hs.hid (by simp [hq1])
        clear hq
        go_wp2_with (first
          | (go_at_call 12; with_reducible refine (number_any n _).mono ?_; rintro e w4 ⟨rfl, rfl⟩)
          | (go_at_call 12; with_reducible refine (number_any m _).mono ?_; rintro e w4 ⟨rfl, rfl⟩)
          | (go_at_call 33; with_reducible refine (has_any (numE n : Nat) (numE n : Nat) L1 v1 _ (HV13.out.ext0 HX.out)).mono ?_; rw [show decide (((numE n : Nat) : Int) = ((numE n : Nat) : Int)) = true by simp]; rintro e w5 ⟨rfl, hx5⟩; have HX5 := Hs.hid (HX.out.trans' hx5); clear hx5)
          | (go_at_call 17; with_reducible refine (faultOf_any (numE n : Nat) L1 v1 _ (HG3.out.ext HX5.out (by simp)) (HV13.out.ext0 HX5.out)).mono ?_; rintro e w6 ⟨rfl, hx6⟩; have HX6 := Hs.hid (HX5.out.trans' hx6); clear hx6)
          | (go_at_call 17; with_reducible refine (faultOf_any (numE m : Nat) L2 v2 _ (HG3.out.ext HX6.out (by simp)) (HV2.out.ext0 HX6.out)).mono ?_; rintro e w7 ⟨rfl, hx7⟩; have HX7 := Hs.hid (HX6.out.trans' hx7); clear hx7)
          | (go_at_call 33; with_reducible refine (has_any (numE m : Nat) (numE n : Nat) L2 v2 _ (HV2.out.ext0 HX7.out)).mono ?_; rw [HQ.out]; rintro e w8 ⟨rfl, hx8⟩; have HX8 := Hs.hid (HX7.out.trans' hx8); clear hx8))
        go_ret
        exact ⟨congrArg (fun z => Ending.returned (.bool z)) (show (!(((numE n : Nat) : Int) == ((numE m : Nat) : Int))) = true by simpa using hq2), HX3.out.trans' HX8.out⟩
end Go.Proofs.YtnjjbolbemlceaaDoor
