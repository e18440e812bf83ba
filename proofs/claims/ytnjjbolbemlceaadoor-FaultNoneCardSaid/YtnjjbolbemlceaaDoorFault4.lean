/-
  Layer 3's law: Error at small places, awake.
-/
import Derived.Test.YtnjjbolbemlceaaDoorFault3
import Derived.Test.YtnjjbolbemlceaaDoorStillS
import Derived.Deep.Cut
set_option linter.unusedSimpArgs false
set_option linter.unusedVariables false
set_option maxHeartbeats 4000000
set_option maxRecDepth 100000
namespace Go.Proofs.YtnjjbolbemlceaaDoor
open Go.RowKit Go.Extern.Stop Go.Stop Go.Extern Go.Hs

theorem awake3_any (w : World) (hg : Gd w) : Calls Tryd.prog 10 #[] w fun e w' => e = .returned (.bool true) ∧ Ext [] w w' := by
  have c1 := in_num ⟨#[99, 111, 109, 109, 97, 110, 100]⟩ 7 10 (by decide)
  have c2 := fun p => in_ep ⟨#[98, 114, 97, 110, 99, 104]⟩ 3 p
  unfold errN at c1
  go_enter Tryd.func10, Tryd.ntmps10
  go_upto_region 2 with (first
    | (go_at_call 30; with_reducible refine (c1 _).mono ?_; rintro e w1 ⟨v1, rfl, hv1, hw0⟩; subst hv1; have hw1 := Hs.hid hw0; clear hw0)
    | (go_at_call 30; with_reducible refine (c2 _ _).mono ?_; rintro e w2 ⟨v2, rfl, hv2, hw0⟩; subst hv2; have hw2 := Hs.hid hw0; clear hw0)
    | fail)
  have hA : w1.heap[w.heap.size]? = some (.cells #[.string ⟨#[99, 111, 109, 109, 97, 110, 100]⟩, .int .i64 7, errN 10] 68 (0, 0)) := by rw [hw1.out]; exact heap_new w _
  have EA : Ext [] w w1 := by rw [hw1.out]; exact (Ext.refl _ _).alloc _
  have hB : w2.heap[w1.heap.size]? = some (.cells #[.string ⟨#[98, 114, 97, 110, 99, 104]⟩, .int .i64 3, .iface 66 (.pointer (some ⟨w.heap.size, 0, none⟩))] 68 (0, 0)) := by rw [hw2.out]; exact heap_new w1 _
  have EB : Ext [] w1 w2 := by rw [hw2.out]; exact (Ext.refl _ _).alloc _
  have hA2 := EB.same hA (by simp)
  have hv : ErrV w2.heap (errN ((10 : Nat) : Int)) [(⟨#[98, 114, 97, 110, 99, 104]⟩, 3), (⟨#[99, 111, 109, 109, 97, 110, 100]⟩, 7)] (.iface 66 (.pointer (some ⟨w1.heap.size, 0, none⟩))) := ⟨_, _, rfl, hB, _, _, rfl, hA2, rfl⟩
  have hg2 := hg.ext (EA.trans' EB) (by simp)
  clear hw1 hw2 c1 c2
  have hp : pathB [(⟨#[98, 114, 97, 110, 99, 104]⟩, 3), (⟨#[99, 111, 109, 109, 97, 110, 100]⟩, 7)] 10 = ⟨#[98, 114, 97, 110, 99, 104, 47, 99, 111, 109, 109, 97, 110, 100, 47, 111, 118, 101, 114, 102, 108, 111, 119]⟩ := by decide +kernel
  have hc := path_any 10 (by decide) [(⟨#[98, 114, 97, 110, 99, 104]⟩, 3), (⟨#[99, 111, 109, 109, 97, 110, 100]⟩, 7)] (by decide) (by decide) _ w2 hg2 hv
  rw [hp] at hc
  have ht : (⟨#[98, 114, 97, 110, 99, 104]⟩ : ByteArray) ++ ⟨#[32]⟩ ++ ⟨#[51]⟩ ++ ⟨#[58, 32]⟩ ++ ((⟨#[99, 111, 109, 109, 97, 110, 100]⟩ : ByteArray) ++ ⟨#[32]⟩ ++ ⟨#[55]⟩ ++ ⟨#[58, 32]⟩ ++ errWord 10) = ⟨#[98, 114, 97, 110, 99, 104, 32, 51, 58, 32, 99, 111, 109, 109, 97, 110, 100, 32, 55, 58, 32, 111, 118, 101, 114, 102, 108, 111, 119]⟩ := by decide +kernel
  have hd : ∀ w3, Ext [] w2 w3 → Calls Tryd.prog 35 #[.pointer (some ⟨w1.heap.size, 0, none⟩)] w3 fun e w' => e = .returned (.string ⟨#[98, 114, 97, 110, 99, 104, 32, 51, 58, 32, 99, 111, 109, 109, 97, 110, 100, 32, 55, 58, 32, 111, 118, 101, 114, 102, 108, 111, 119]⟩) ∧ Ext [] w3 w' := fun w3 hx => by
    have h1 := error_ep w1.heap.size ⟨#[98, 114, 97, 110, 99, 104]⟩ ⟨#[51]⟩ 3 w.heap.size (⟨#[99, 111, 109, 109, 97, 110, 100]⟩ ++ ⟨#[32]⟩ ++ ⟨#[55]⟩ ++ ⟨#[58, 32]⟩ ++ errWord 10) (by decide +kernel) (by decide) (by decide) w3 (hx.same hB (by simp)) itoa3 (fun w4 hx4 => error_num w.heap.size ⟨#[99, 111, 109, 109, 97, 110, 100]⟩ ⟨#[55]⟩ 7 10 (by decide) (by decide) (by decide) w4 (hx4.same (hx.same hA2 (by simp)) (by simp)) itoa7)
    rw [ht] at h1
    exact h1
  have he := in_ok ⟨#[120]⟩ 1
  unfold errN at he
  have mP := methodErrorEP
  have HC := Hs.hid hc
  have HD := Hs.hid hd
  have HE := Hs.hid he
  clear hA hB hA2 hv ht hp hc hd he
  go_wp2_with (first
    | (go_at_call 15; refine HC.out.mono ?_; rintro e w3 ⟨rfl, hx3⟩)
    | (go_at_call 35; refine (HD.out _ hx3).mono ?_; rintro e w4 ⟨rfl, hx4⟩)
    | (go_at_call 30; refine (HE.out _).mono ?_; rintro e w5 ⟨rfl, hx5⟩))
  go_ret
  exact ⟨rfl, EA.trans' (EB.trans' (hx3.trans' (hx4.trans' hx5)))⟩
end Go.Proofs.YtnjjbolbemlceaaDoor
