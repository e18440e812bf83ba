/-
  Texts of this claim, put together: Awake9, Depth, OpenS.
-/
import Derived.SliceStrings
import Derived.ChangeSlices
import Derived.Deep.Slices
import Derived.Deep.Fields
import Derived.ChangeSame
import Derived.Carry
import Derived.ProofKit
import Derived.OpenShut
import Derived.Test.YtnjjbolbemlceaaMTd2
set_option linter.unusedSimpArgs false
set_option linter.unusedVariables false
set_option maxHeartbeats 2000000
set_option maxRecDepth 100000
namespace Go.Proofs.Ytnjjbolbemlceaa
open Go.RowKit Go.Hs Go.Dg

def sA : ByteArray := ⟨#[97]⟩
def sB : ByteArray := ⟨#[98]⟩
def sC : ByteArray := ⟨#[99]⟩
theorem half3 : halfN 3 = 2 := by decide +kernel
theorem half2 : halfN 2 = 1 := by decide +kernel
theorem awake_root : rootT [sA, sB, sC] 3 = nodeT (nodeT (leafT sA) (leafT sB)) (leafT sC) := by
  unfold rootT
  rw [if_neg (by decide), mthT_node (by decide), half3, mthT_node (by decide), half2, mthT_one, mthT_one, show 3 - 2 = 1 from rfl, mthT_one]
  rfl
theorem awake_path : pathT [sA, sB, sC] 2 3 0 = [nodeT (leafT sA) (leafT sB)] := by
  rw [pathT_right (by decide) half3 (by decide), pathT_one (by decide), mthT_node (by decide), half2, mthT_one, mthT_one]
  rfl
theorem awake9_any (w : World) : Calls Try.prog 12 #[] w fun e w' => e = .returned (.bool true) ∧ Ext [] w w' := by
  obtain ⟨i0, hi, hz0, hz1, hz2⟩ := info_parts infoStr
  have HI := Hs.hid (And.intro hi (And.intro hz0 (And.intro hz1 hz2)))
  clear hi hz0 hz1 hz2
  obtain ⟨ab, hab⟩ : ∃ ab, nodeT (leafT sA) (leafT sB) = ab := ⟨_, rfl⟩
  obtain ⟨rt, hrt⟩ : ∃ rt, nodeT ab (leafT sC) = rt := ⟨_, rfl⟩
  have HR := Hs.hid (And.intro hab (And.intro hrt (And.intro (show rootT [sA, sB, sC] 3 = rt by rw [awake_root, hab, hrt]) (show pathT [sA, sB, sC] 2 3 0 = [ab] by rw [awake_path, hab]))))
  clear hab hrt
  go_enter Try.func12, Try.ntmps12
  go_upto_region 4 with (go_at_call 14; refine (new_tr _).mono ?_; rintro e w1 ⟨T, M, rfl, t1, hx1, hT, hM, hTM⟩)
  have hTM' := Hs.hid (And.intro hT (And.intro hM hTM))
  clear hT hM hTM
  go_upto_region 5 with (first
    | (go_at_call 15; refine (append_tr (t1.ext0 ((Ext.refl [] w1).alloc (.cells #[.string sA, .string sB, .string sC] 9))) (ls := [sA, sB, sC]) (.inr ⟨w1.heap.size, 0, 3, _, _, _, rfl, heap_new _ _, fun k s h => by match k, h with | 0, h => simpa using h | 1, h => simpa using h | 2, h => simpa using h | k + 3, h => simp at h⟩) (Hs.hid (by decide)) (by decide)).mono ?_; rintro e w2 ⟨rfl, t2, hx2⟩))
  have hx2' : Ext [] w w2 := (hx1.alloc _).trans hx2 (fun g hg => .inr (by simp at hg; rcases hg with rfl | rfl; exact hTM'.out.1; exact hTM'.out.2.1))
  clear hx1 hx2 t1
  rw [List.nil_append] at t2
  go_upto_region 6 with (first
    | (go_at_call 26; (with_reducible refine (leaf_any ⟨#[97]⟩ (by decide) _).mono ?_); rintro e w3 ⟨ca, rfl, hca, hx3⟩)
    | (go_at_call 26; (with_reducible refine (leaf_any ⟨#[98]⟩ (by decide) _).mono ?_); rintro e w4 ⟨cb, rfl, hcb, hx4⟩; rw [hca.out, hcb.out])
    | (go_at_call 31; refine (dignode_any (leafT sA) (leafT sB) _).mono ?_; rintro e w5 ⟨cs, rfl, hcs, hx5⟩; rw [HR.out.1] at hcs; have hq := hcs.out; subst hq; have hA6 := zeroSum w5)
    | (refine wpList_store_row rfl 27 (.tmp 2) (.tmp 15) rfl _ (digV ab) rfl rfl _ _ hA6 (by rw [digV_size]; exact infoSum) (by rw [digV_size]; exact bytesL_size _) (digV_one _) ?_))
  have hA7 := setRow_heap _ _ _ (digV ab) _ _ hA6
  have hx7 : Ext [] w2 ((w5.alloc (.cells #[.int .u8 0, .int .u8 0, .int .u8 0, .int .u8 0, .int .u8 0, .int .u8 0, .int .u8 0, .int .u8 0, .int .u8 0, .int .u8 0, .int .u8 0, .int .u8 0, .int .u8 0, .int .u8 0, .int .u8 0, .int .u8 0, .int .u8 0, .int .u8 0, .int .u8 0, .int .u8 0, .int .u8 0, .int .u8 0, .int .u8 0, .int .u8 0, .int .u8 0, .int .u8 0, .int .u8 0, .int .u8 0, .int .u8 0, .int .u8 0, .int .u8 0, .int .u8 0] 27)).setRow w5.heap.size (digV ab)) := ((((Ext.refl [] w2).trans0 hx3).trans0 hx4).trans0 hx5 |>.alloc _).trans (setRow_ext _ _) (fun g hg => .inr (by simp at hg; have := hx3.size; have := hx4.size; have := hx5.size; omega))
  generalize (w5.alloc (.cells #[.int .u8 0, .int .u8 0, .int .u8 0, .int .u8 0, .int .u8 0, .int .u8 0, .int .u8 0, .int .u8 0, .int .u8 0, .int .u8 0, .int .u8 0, .int .u8 0, .int .u8 0, .int .u8 0, .int .u8 0, .int .u8 0, .int .u8 0, .int .u8 0, .int .u8 0, .int .u8 0, .int .u8 0, .int .u8 0, .int .u8 0, .int .u8 0, .int .u8 0, .int .u8 0, .int .u8 0, .int .u8 0, .int .u8 0, .int .u8 0, .int .u8 0, .int .u8 0] 27)).setRow w5.heap.size (digV ab) = W7 at hA7 hx7 ⊢
  generalize w5.heap.size = A at hA7 ⊢
  clear hA6 hx3 hx4 hx5 hca hcb
  have t7 := t2.ext0 hx7
  have hxw := hx2'.trans0 hx7
  clear t2 hx2' hx7
  go_upto_region 7 with (first
    | (go_at_call 16; refine (root_any 3 t7 (by decide) (by decide) (by decide)).mono ?_; rintro e w8 ⟨cs, rfl, hcs, hx8⟩; rw [HR.out.2.2.1] at hcs; have hq := hcs.out; subst hq; have hB8 := zeroSum w8)
    | (refine wpList_store_row rfl 27 (.tmp 3) (.tmp 19) rfl _ (digV rt) rfl rfl _ _ hB8 (by rw [digV_size]; exact infoSum) (by rw [digV_size]; exact bytesL_size _) (digV_one _) ?_))
  have hB9 := setRow_heap _ _ _ (digV rt) _ _ hB8
  have hx9 : Ext [] W7 ((w8.alloc (.cells #[.int .u8 0, .int .u8 0, .int .u8 0, .int .u8 0, .int .u8 0, .int .u8 0, .int .u8 0, .int .u8 0, .int .u8 0, .int .u8 0, .int .u8 0, .int .u8 0, .int .u8 0, .int .u8 0, .int .u8 0, .int .u8 0, .int .u8 0, .int .u8 0, .int .u8 0, .int .u8 0, .int .u8 0, .int .u8 0, .int .u8 0, .int .u8 0, .int .u8 0, .int .u8 0, .int .u8 0, .int .u8 0, .int .u8 0, .int .u8 0, .int .u8 0, .int .u8 0] 27)).setRow w8.heap.size (digV rt)) := (hx8.alloc _).trans (setRow_ext _ _) (fun g hg => .inr (by simp at hg; have := hx8.size; omega))
  generalize (w8.alloc (.cells #[.int .u8 0, .int .u8 0, .int .u8 0, .int .u8 0, .int .u8 0, .int .u8 0, .int .u8 0, .int .u8 0, .int .u8 0, .int .u8 0, .int .u8 0, .int .u8 0, .int .u8 0, .int .u8 0, .int .u8 0, .int .u8 0, .int .u8 0, .int .u8 0, .int .u8 0, .int .u8 0, .int .u8 0, .int .u8 0, .int .u8 0, .int .u8 0, .int .u8 0, .int .u8 0, .int .u8 0, .int .u8 0, .int .u8 0, .int .u8 0, .int .u8 0, .int .u8 0] 27)).setRow w8.heap.size (digV rt) = W9 at hB9 hx9 ⊢
  generalize w8.heap.size = R at hB9 ⊢
  clear hB8 hx8
  have hA9 := hx9.same hA7 (by simp)
  have t9 := t7.ext0 hx9
  have hxw9 := hxw.trans0 hx9
  clear hA7 t7 hxw hx9
  go_upto_region 8 with (first
    | (go_at_call 24; refine (incl_any 2 3 t9 (by decide) (by decide) (by decide) (by decide)).mono ?_; rintro e w10 ⟨v, rfl, hO, hOg, hx10⟩; rw [HR.out.2.2.2] at hO))
  have hA10 := hx10.same hA9 (by simp)
  have hB10 := hx10.same hB9 (by simp)
  have t10 := t9.ext0 hx10
  have hxw10 := hxw9.trans0 hx10
  clear hA9 hB9 t9 hxw9 hx10 hOg
  obtain ⟨g, cap, rfl⟩ : ∃ g cap, v = .slice (some ⟨g, 0, none⟩) 1 cap := by
    rcases hO.2 with ⟨_, h⟩ | ⟨g, cap, cur, h, _⟩
    · simp at h
    · exact ⟨g, cap, h⟩
  have eq1 := eqS_self rt
  have eq2 := eqS_self ab
  refine wp_region_noPanic ?_
  refine wp_region_held_drew (S := (fun w' => w'.heap[A]? = some (.cells (digV ab) 27 (0, 0)) ∧ w'.heap[R]? = some (.cells (digV rt) 27 (0, 0)) ∧ OwnS w'.heap (.slice (some ⟨g, 0, none⟩) 1 cap) [ab] ∧ Tr w'.heap T M [sA, sB, sC] 0)) (by kernel_rfl) ?_ (fun hHeld => ?_)
  · ((try dsimp only); exact ⟨hA10, hB10, hO, t10⟩)
  refine wpAnyH_take (i := 0) (v := ?_) rfl (by kernel_rfl) (by kernel_rfl) (by kernel_rfl) (fun _ _ _ h => h) (Or.inl ⟨by rfl, ?_⟩) (by assumption) ?_
  rotate_left
  · (intro w hSw; (try dsimp only at hSw); first | (go_simp; done) | (go_simp; with_reducible rfl))
  try simp only [Act.put, List.getElem_toArray, List.getElem_cons_succ, List.getElem_cons_zero, List.setIfInBounds_toArray, List.set_cons_zero, List.set_cons_succ]
  refine wpAnyH_take (i := 1) (v := ?_) rfl (by kernel_rfl) (by kernel_rfl) (by kernel_rfl) (fun _ _ _ h => h) (Or.inl ⟨by rfl, ?_⟩) (by assumption) ?_
  rotate_left
  · (intro w hSw; (try dsimp only at hSw); first | (go_simp; done) | (go_simp; with_reducible rfl))
  try simp only [Act.put, List.getElem_toArray, List.getElem_cons_succ, List.getElem_cons_zero, List.setIfInBounds_toArray, List.set_cons_zero, List.set_cons_succ]
  refine wpAnyH_take (i := 2) (v := ?_) rfl (by kernel_rfl) (by kernel_rfl) (by kernel_rfl) (fun _ _ _ h => h) (Or.inl ⟨by rfl, ?_⟩) (by assumption) ?_
  rotate_left
  · (intro w hSw; (try dsimp only at hSw); first | (go_simp; done) | (go_simp; with_reducible rfl))
  try simp only [Act.put, List.getElem_toArray, List.getElem_cons_succ, List.getElem_cons_zero, List.setIfInBounds_toArray, List.set_cons_zero, List.set_cons_succ]
  refine wpAnyH_take (i := 3) (v := ?_) rfl (by kernel_rfl) (by kernel_rfl) (by kernel_rfl) (fun _ _ _ h => h) (Or.inl ⟨by rfl, ?_⟩) (by assumption) ?_
  rotate_left
  · (intro w hSw; (try dsimp only at hSw); first | (go_simp; done) | (go_simp; with_reducible rfl))
  try simp only [Act.put, List.getElem_toArray, List.getElem_cons_succ, List.getElem_cons_zero, List.setIfInBounds_toArray, List.set_cons_zero, List.set_cons_succ]
  refine wpAnyH_take (i := 4) (v := ?_) rfl (by kernel_rfl) (by kernel_rfl) (by kernel_rfl) (fun _ _ _ h => h) (Or.inl ⟨by rfl, ?_⟩) (by assumption) ?_
  rotate_left
  · (intro w hSw; (try dsimp only at hSw); first | (go_simp; done) | (go_simp; with_reducible rfl))
  try simp only [Act.put, List.getElem_toArray, List.getElem_cons_succ, List.getElem_cons_zero, List.setIfInBounds_toArray, List.set_cons_zero, List.set_cons_succ]
  refine wpAnyH_take (i := 5) (v := ?_) rfl (by kernel_rfl) (by kernel_rfl) (by kernel_rfl) (fun _ _ _ h => h) (Or.inl ⟨by rfl, ?_⟩) (by assumption) ?_
  rotate_left
  · (intro w hSw; (try dsimp only at hSw); first | (go_simp; done) | (go_simp; with_reducible rfl))
  try simp only [Act.put, List.getElem_toArray, List.getElem_cons_succ, List.getElem_cons_zero, List.setIfInBounds_toArray, List.set_cons_zero, List.set_cons_succ]
  refine wpAnyH_take (i := 6) (v := ?_) rfl (by kernel_rfl) (by kernel_rfl) (by kernel_rfl) (fun _ _ _ h => h) (Or.inl ⟨by rfl, ?_⟩) (by assumption) ?_
  rotate_left
  · (intro w hSw; (try dsimp only at hSw); first | (go_simp; done) | (go_simp; with_reducible rfl))
  try simp only [Act.put, List.getElem_toArray, List.getElem_cons_succ, List.getElem_cons_zero, List.setIfInBounds_toArray, List.set_cons_zero, List.set_cons_succ]
  refine wpAnyH_take (i := 7) (v := _) rfl (by kernel_rfl) (by kernel_rfl) (by kernel_rfl) (fun _ _ _ h => h) (yieldsIf_of (.agg (digV rt)) (by rfl) (fun w h => exec_load_row _ rfl _ rfl rt w ⟨_, h.2.1⟩)) (by assumption) ?_
  try simp only [Act.put, List.getElem_toArray, List.getElem_cons_succ, List.getElem_cons_zero, List.setIfInBounds_toArray, List.set_cons_zero, List.set_cons_succ]
  refine wpAnyH_take (i := 8) (v := _) rfl (by kernel_rfl) (by kernel_rfl) (by kernel_rfl) (fun _ _ _ h => h) (yieldsIf_of (.agg (digV ab)) (by rfl) (fun w h => exec_load_row _ rfl _ rfl ab w ⟨_, h.1⟩)) (by assumption) ?_
  try simp only [Act.put, List.getElem_toArray, List.getElem_cons_succ, List.getElem_cons_zero, List.setIfInBounds_toArray, List.set_cons_zero, List.set_cons_succ]
  refine wpAnyH_ready (rs := [9]) (by kernel_rfl) (by simp) ?_
  refine AllReadyH.cons rfl (fun K hK => ?_) AllReadyH.nil
  go_simp
  (go_at_call 26; refine (leaf_any ⟨#[99]⟩ (by decide) _).mono ?_; rintro e w11 ⟨cc, rfl, hcc, hx11⟩; have hq := (show cc = digV (leafT sC) from hcc.out); subst hq)
  go_wp2_with fail
  refine hK.out _ _ ?_ (fun hHeld => ?_)
  · ((try dsimp only); exact ⟨hx11.same hHeld.1 List.not_mem_nil, hx11.same hHeld.2.1 List.not_mem_nil, hHeld.2.2.1.ext hx11 (by simp), hHeld.2.2.2.ext0 hx11⟩)
  clear hK K
  try simp only [Act.put, List.getElem_toArray, List.getElem_cons_succ, List.getElem_cons_zero, List.setIfInBounds_toArray, List.set_cons_zero, List.set_cons_succ]
  refine wpAnyH_ready (rs := [10]) (by kernel_rfl) (by simp) ?_
  refine AllReadyH.cons rfl (fun K hK => ?_) AllReadyH.nil
  go_simp
  (go_at_call 31; refine (dignode_any ab (leafT sC) _).mono ?_; rintro e w12 ⟨cs, rfl, hcs, hx12⟩; rw [HR.out.2.1] at hcs; have hq := hcs.out; subst hq)
  go_wp2_with fail
  refine hK.out _ _ ?_ (fun hHeld => ?_)
  · ((try dsimp only); exact ⟨hx12.same hHeld.1 List.not_mem_nil, hx12.same hHeld.2.1 List.not_mem_nil, hHeld.2.2.1.ext hx12 (by simp), hHeld.2.2.2.ext0 hx12⟩)
  clear hK K
  try simp only [Act.put, List.getElem_toArray, List.getElem_cons_succ, List.getElem_cons_zero, List.setIfInBounds_toArray, List.set_cons_zero, List.set_cons_succ]
  refine wpAnyH_take (i := 11) (v := _) rfl (by kernel_rfl) (by kernel_rfl) (by kernel_rfl) (fun _ _ _ h => h) (yieldsIf_of (.bool (eqS rt rt)) (by rfl) (fun w h => exec_eq_sum _ _ _ rfl rt rt rfl rfl w)) (by assumption) ?_
  try simp only [Act.put, List.getElem_toArray, List.getElem_cons_succ, List.getElem_cons_zero, List.setIfInBounds_toArray, List.set_cons_zero, List.set_cons_succ]
  refine wpAnyH_take (i := 12) (v := ?_) rfl (by kernel_rfl) (by kernel_rfl) (by kernel_rfl) (fun _ _ _ h => h) (Or.inl ⟨by rfl, ?_⟩) (by assumption) ?_
  rotate_left
  · (intro w hSw; (try dsimp only at hSw); first | (go_simp; done) | (go_simp; with_reducible rfl))
  try simp only [Act.put, List.getElem_toArray, List.getElem_cons_succ, List.getElem_cons_zero, List.setIfInBounds_toArray, List.set_cons_zero, List.set_cons_succ]
  refine wpAnyH_take (i := 13) (v := ?_) rfl (by kernel_rfl) (by kernel_rfl) (by kernel_rfl) (fun _ _ _ h => h) (Or.inl ⟨by rfl, ?_⟩) (by assumption) ?_
  rotate_left
  · (intro w hSw; (try dsimp only at hSw); first | (go_simp; done) | (go_simp; with_reducible rfl))
  try simp only [Act.put, List.getElem_toArray, List.getElem_cons_succ, List.getElem_cons_zero, List.setIfInBounds_toArray, List.set_cons_zero, List.set_cons_succ]
  refine wpAnyH_take (i := 14) (v := ?_) rfl (by kernel_rfl) (by kernel_rfl) (by kernel_rfl) (fun _ _ _ h => h) (Or.inl ⟨by rfl, ?_⟩) (by assumption) ?_
  rotate_left
  · (intro w hSw; (try dsimp only at hSw); first | (go_simp; done) | (go_simp; with_reducible rfl))
  try simp only [Act.put, List.getElem_toArray, List.getElem_cons_succ, List.getElem_cons_zero, List.setIfInBounds_toArray, List.set_cons_zero, List.set_cons_succ]
  refine wpAnyH_take (i := 15) (v := ?_) rfl (by kernel_rfl) (by kernel_rfl) (by kernel_rfl) (fun _ _ _ h => h) (Or.inl ⟨by rfl, ?_⟩) (by assumption) ?_
  rotate_left
  · (intro w hSw; (try dsimp only at hSw); first | (go_simp; done) | (go_simp; with_reducible rfl))
  try simp only [Act.put, List.getElem_toArray, List.getElem_cons_succ, List.getElem_cons_zero, List.setIfInBounds_toArray, List.set_cons_zero, List.set_cons_succ]
  refine wpAnyH_take (i := 16) (v := ?_) rfl (by kernel_rfl) (by kernel_rfl) (by kernel_rfl) (fun _ _ _ h => h) (Or.inl ⟨by rfl, ?_⟩) (by assumption) ?_
  rotate_left
  · (intro w hSw; (try dsimp only at hSw); first | (go_simp; done) | (go_simp; with_reducible rfl))
  try simp only [Act.put, List.getElem_toArray, List.getElem_cons_succ, List.getElem_cons_zero, List.setIfInBounds_toArray, List.set_cons_zero, List.set_cons_succ]
  refine wpAnyH_take (i := 17) (v := ?_) rfl (by kernel_rfl) (by kernel_rfl) (by kernel_rfl) (fun _ _ _ h => h) (Or.inl ⟨by rfl, ?_⟩) (by assumption) ?_
  rotate_left
  · (intro w hSw; (try dsimp only at hSw); first | (go_simp; done) | (go_simp; with_reducible rfl))
  try simp only [Act.put, List.getElem_toArray, List.getElem_cons_succ, List.getElem_cons_zero, List.setIfInBounds_toArray, List.set_cons_zero, List.set_cons_succ]
  refine wpAnyH_take (i := 18) (v := ?_) rfl (by kernel_rfl) (by kernel_rfl) (by kernel_rfl) (fun _ _ _ h => h) (Or.inl ⟨by rfl, ?_⟩) (by assumption) ?_
  rotate_left
  · (intro w hSw; (try dsimp only at hSw); first | (go_simp; done) | (go_simp; with_reducible rfl))
  try simp only [Act.put, List.getElem_toArray, List.getElem_cons_succ, List.getElem_cons_zero, List.setIfInBounds_toArray, List.set_cons_zero, List.set_cons_succ]
  refine wpAnyH_take (i := 19) (v := ?_) rfl (by kernel_rfl) (by kernel_rfl) (by kernel_rfl) (fun _ _ _ h => h) (Or.inl ⟨by rfl, ?_⟩) (by assumption) ?_
  rotate_left
  · (intro w hSw; (try dsimp only at hSw); first | (go_simp; done) | (go_simp; with_reducible rfl))
  try simp only [Act.put, List.getElem_toArray, List.getElem_cons_succ, List.getElem_cons_zero, List.setIfInBounds_toArray, List.set_cons_zero, List.set_cons_succ]
  refine wpAnyH_take (i := 20) (v := ?_) rfl (by kernel_rfl) (by kernel_rfl) (by kernel_rfl) (fun _ _ _ h => h) (Or.inl ⟨by rfl, ?_⟩) (by assumption) ?_
  rotate_left
  · (intro w hSw; (try dsimp only at hSw); first | (go_simp; done) | (go_simp; with_reducible rfl))
  try simp only [Act.put, List.getElem_toArray, List.getElem_cons_succ, List.getElem_cons_zero, List.setIfInBounds_toArray, List.set_cons_zero, List.set_cons_succ]
  refine wpAnyH_take (i := 21) (v := _) rfl (by kernel_rfl) (by kernel_rfl) (by kernel_rfl) (fun _ _ _ h => h) (yieldsIf_of (.agg (digV ab)) (by rfl) (fun w h => exec_load_mid _ rfl g 0 rfl ab w (by have := h.2.2.1.range (i := 0) (x := ab) rfl; simpa using this))) (by assumption) ?_
  try simp only [Act.put, List.getElem_toArray, List.getElem_cons_succ, List.getElem_cons_zero, List.setIfInBounds_toArray, List.set_cons_zero, List.set_cons_succ]
  refine wpAnyH_take (i := 22) (v := _) rfl (by kernel_rfl) (by kernel_rfl) (by kernel_rfl) (fun _ _ _ h => h) (yieldsIf_of (.agg (digV ab)) (by rfl) (fun w h => exec_load_row _ rfl _ rfl ab w ⟨_, h.1⟩)) (by assumption) ?_
  try simp only [Act.put, List.getElem_toArray, List.getElem_cons_succ, List.getElem_cons_zero, List.setIfInBounds_toArray, List.set_cons_zero, List.set_cons_succ]
  refine wpAnyH_take (i := 23) (v := _) rfl (by kernel_rfl) (by kernel_rfl) (by kernel_rfl) (fun _ _ _ h => h) (yieldsIf_of (.bool (eqS ab ab)) (by rfl) (fun w h => exec_eq_sum _ _ _ rfl ab ab rfl rfl w)) (by assumption) ?_
  try simp only [Act.put, List.getElem_toArray, List.getElem_cons_succ, List.getElem_cons_zero, List.setIfInBounds_toArray, List.set_cons_zero, List.set_cons_succ]
  refine wpAnyH_take (i := 24) (v := ?_) rfl (by kernel_rfl) (by kernel_rfl) (by kernel_rfl) (fun _ _ _ h => h) (Or.inl ⟨by rfl, ?_⟩) (by assumption) ?_
  rotate_left
  · (intro w hSw; (try dsimp only at hSw); first | (go_simp; done) | (go_simp; with_reducible rfl))
  try simp only [Act.put, List.getElem_toArray, List.getElem_cons_succ, List.getElem_cons_zero, List.setIfInBounds_toArray, List.set_cons_zero, List.set_cons_succ]
  refine wpAnyH_take (i := 25) (v := ?_) rfl (by kernel_rfl) (by kernel_rfl) (by kernel_rfl) (fun _ _ _ h => h) (Or.inl ⟨by rfl, ?_⟩) (by assumption) ?_
  rotate_left
  · (intro w hSw; (try dsimp only at hSw); first | (go_simp; done) | (go_simp; with_reducible rfl))
  try simp only [Act.put, List.getElem_toArray, List.getElem_cons_succ, List.getElem_cons_zero, List.setIfInBounds_toArray, List.set_cons_zero, List.set_cons_succ]
  refine wpAnyH_take (i := 26) (v := ?_) rfl (by kernel_rfl) (by kernel_rfl) (by kernel_rfl) (fun _ _ _ h => h) (Or.inl ⟨by rfl, ?_⟩) (by assumption) ?_
  rotate_left
  · (intro w hSw; (try dsimp only at hSw); first | (go_simp; done) | (go_simp; with_reducible rfl))
  try simp only [Act.put, List.getElem_toArray, List.getElem_cons_succ, List.getElem_cons_zero, List.setIfInBounds_toArray, List.set_cons_zero, List.set_cons_succ]
  refine wpAnyH_ready (rs := [27]) (by kernel_rfl) (by simp) ?_
  refine AllReadyH.cons rfl (fun K hK => ?_) AllReadyH.nil
  go_simp
  (go_at_call 18; refine (len_tr hHeld.2.2.2).mono ?_; rintro e w13 ⟨rfl, hw13⟩; subst w13)
  go_wp2_with fail
  refine hK.out _ _ ?_ (fun hHeld => ?_)
  · ((try dsimp only); exact hHeld)
  clear hK K
  try simp only [Act.put, List.getElem_toArray, List.getElem_cons_succ, List.getElem_cons_zero, List.setIfInBounds_toArray, List.set_cons_zero, List.set_cons_succ]
  refine wpAnyH_take (i := 28) (v := ?_) rfl (by kernel_rfl) (by kernel_rfl) (by kernel_rfl) (fun _ _ _ h => h) (Or.inl ⟨by rfl, ?_⟩) (by assumption) ?_
  rotate_left
  · (intro w hSw; (try dsimp only at hSw); first | (go_simp; done) | (go_simp; with_reducible rfl))
  try simp only [Act.put, List.getElem_toArray, List.getElem_cons_succ, List.getElem_cons_zero, List.setIfInBounds_toArray, List.set_cons_zero, List.set_cons_succ]
  refine wpAnyH_take (i := 29) (v := ?_) rfl (by kernel_rfl) (by kernel_rfl) (by kernel_rfl) (fun _ _ _ h => h) (Or.inl ⟨by rfl, ?_⟩) (by assumption) ?_
  rotate_left
  · (intro w hSw; (try dsimp only at hSw); first | (go_simp; done) | (go_simp; with_reducible rfl))
  try simp only [Act.put, List.getElem_toArray, List.getElem_cons_succ, List.getElem_cons_zero, List.setIfInBounds_toArray, List.set_cons_zero, List.set_cons_succ]
  refine wpAnyH_take (i := 30) (v := ?_) rfl (by kernel_rfl) (by kernel_rfl) (by kernel_rfl) (fun _ _ _ h => h) (Or.inl ⟨by rfl, ?_⟩) (by assumption) ?_
  rotate_left
  · (intro w hSw; (try dsimp only at hSw); first | (go_simp; done) | (go_simp; with_reducible rfl))
  try simp only [Act.put, List.getElem_toArray, List.getElem_cons_succ, List.getElem_cons_zero, List.setIfInBounds_toArray, List.set_cons_zero, List.set_cons_succ]
  refine wpAnyH_done (by kernel_rfl) ?_ _
  refine NoPanic.normal ?_
  go_wp2
  go_ret
  exact ⟨rfl, ((hxw10.drew).trans0 hx11).trans0 hx12⟩
end Go.Proofs.Ytnjjbolbemlceaa
set_option linter.unusedSimpArgs false
set_option linter.unusedVariables false
set_option maxHeartbeats 2000000
set_option maxRecDepth 100000
namespace Go.Proofs.Ytnjjbolbemlceaa
open Go.RowKit Go.Hs Go.Dg

theorem and255' (n : Int) : Go.bits .and .i64 n 255 = n % 256 := by
  have h127 : (BitVec.ofInt 64 255).toNat = 2 ^ 8 - 1 := by decide
  have key : (BitVec.ofInt 64 n &&& BitVec.ofInt 64 255).toNat = (n % ((2 ^ 64 : Nat) : Int)).toNat % 2 ^ 8 := by
    rw [BitVec.toNat_and, BitVec.toNat_ofInt, h127, Nat.and_two_pow_sub_one_eq_mod]
  show IntKind.i64.wrap ((BitVec.ofInt 64 n &&& BitVec.ofInt 64 255).toNat : Nat) = n % 256
  rw [key, IntKind.wrap_i64]
  omega
theorem pick_num (n : Int) (N : Nat) (h : 0 < N) : ∃ c q : Nat, Go.bits .and .i64 n 255 = (c : Int) ∧ c < 256 ∧ Int.tmod (c : Int) (N : Int) = (q : Int) ∧ (c : Int) % (N : Int) = (q : Int) ∧ q < N := by
  refine ⟨(n % 256).toNat, (n % 256).toNat % N, by rw [and255']; omega, by omega, ?_, ?_, Nat.mod_lt _ h⟩
  · rw [Int.tmod_eq_emod_of_nonneg (by omega)]; rfl
  · rfl
theorem OwnT.form {w : World} {v : Value} {ls : List ByteArray} (o : OwnT w.heap v ls) : ∃ ao cap, v = .slice ao ls.length cap := Own.form o
theorem OwnT.ext0 {w w' : World} {v : Value} {ls : List ByteArray} (o : OwnT w.heap v ls) (x : Ext [] w w') : OwnT w'.heap v ls := o.ext' x (by simp)
theorem treeDepth_any (ao : Option Addr) (len cap : Nat) (n i m : Int) (w : World) (ha : StrArg w ao len) : Calls Try.prog 7 #[.slice ao len cap, .int .i64 n, .int .i64 i, .int .i64 m] w fun e w' => e = .returned (.bool true) ∧ Ext [] w w' := by
  have HA := Hs.hid ha
  clear ha
  go_enter Try.func7, Try.ntmps7
  go_upto_region 4 with (first
    | (go_at_call 12; refine (awake9_any _).mono ?_; rintro e w1 ⟨rfl, hx1⟩)
    | (go_at_call 13; refine (leaves_any ao len cap n _ (HA.out.ext hx1)).mono ?_; rintro e w2 ⟨v, ls, rfl, hO, hL, hOg, hx2⟩))
  have hxw := hx1.trans0 hx2
  clear hx1 hx2 hOg
  obtain ⟨ao2, cap2, rfl⟩ := hO.form
  obtain ⟨N, hN⟩ : ∃ N, ls.length = N := ⟨_, rfl⟩
  have hN40 : N ≤ 40 := by have := hL.out.1; omega
  have hN40' : (N : Int) ≤ 40 := by omega
  rw [hN]
  have HN := Hs.hid hN
  clear hN
  by_cases h0 : N = 0
  · have h0' : ((N : Int) == 0) = true := by simp [h0]
    have H0 := Hs.hid h0
    clear h0
    go_wp2
    go_ret
    exact ⟨rfl, hxw⟩
  · have h0' : ((N : Int) == 0) = false := by simp; omega
    have h1N : (1 : Int) ≤ N := by omega
    have H0 := Hs.hid h0
    clear h0
    go_upto_region 8 with (first
      | (go_at_call 14; refine (new_tr _).mono ?_; rintro e w3 ⟨T, M, rfl, t1, hx1, hT, hM, hTM⟩)
      | (go_at_call 15; refine (append_tr t1 (v := .slice ao2 N cap2) (ls := ls) (by have := (hO.ext0 hx1).strs; rw [HN.out] at this; exact this) (Hs.hid (fun s hs => by have := hL.out.2 s hs; omega)) (by have h5 : (2 : Nat) ^ 30 = 1073741824 := (by decide); have := HN.out; simp; omega)).mono ?_; rintro e w4 ⟨rfl, t2, hx2⟩))
    have hx3 : Ext [] w2 w4 := hx1.trans hx2 (fun g hg => .inr (by simp at hg; rcases hg with rfl | rfl; exact hT; exact hM))
    have hxw4 := hxw.trans0 hx3
    rw [List.nil_append] at t2
    clear hx1 hx2 hx3 hT hM hTM t1 hO hxw
    have hw1 : IntKind.i64.wrap ((N : Int) - 1) = (N : Int) - 1 := IntWalk.i64_in _ (by omega)
    go_wp2_with fail
    go_loop [11, 12] (fun bv kv => ∃ b k : Nat, bv = .int .i64 b ∧ kv = .int .i64 k ∧ Hid (k = (N - 1) / 2 ^ b) ∧ b + k ≤ N) (fun _ kv => (intOf kv).toNat)
    case atStart => exact ⟨0, N - 1, rfl, by rw [show ((N - 1 : Nat) : Int) = (N : Int) - 1 by omega], Hs.hid (by simp), by omega⟩
    case round =>
      obtain ⟨b, k, rfl, rfl, HK, hbk⟩ := hrel
      by_cases hk : 0 < k
      · have hk2 : (0 : Int) < k := by omega
        go_wp2
        go_round
        case rel => exact ⟨b + 1, k / 2, by go_num, by go_num, Hs.hid (by rw [HK.out, Nat.pow_succ, Nat.div_div_eq_div_mul]), by omega⟩
        case measure => simp [intOf]; omega
      · have hk0 : k = 0 := by omega
        have hpow : N ≤ 2 ^ b := by
          have h1 := HK.out
          rw [hk0] at h1
          have h2 := Nat.two_pow_pos b
          have h3 := (Nat.div_eq_zero_iff_lt h2).1 h1.symm
          omega
        have HP := Hs.hid hpow
        clear hpow
        obtain ⟨c1, q1, e1, e2, e3, e4, e5⟩ := pick_num i N (by have := H0.out; omega)
        obtain ⟨c2, q2, f1, f2, f3, f4, f5⟩ := pick_num m (N + 1) (by omega)
        have f3' : Int.tmod (c2 : Int) ((N : Int) + 1) = (q2 : Int) := by exact_mod_cast f3
        have f4' : (c2 : Int) % ((N : Int) + 1) = (q2 : Int) := by exact_mod_cast f4
        have HQ := Hs.hid (And.intro e5 f5)
        have hp1 := pathT_len ls b q1 N 0 HP.out
        have hp2 : (consT ls q2 N).length ≤ b + 1 := by
          unfold consT
          split
          · simp
          · exact stepsT_len ls b q2 N 0 true HP.out
        clear f3 f4 e5 f5
        go_upto_region 15 with (go_at_call 24; refine (incl_any q1 N t2 (by have h5 : (2 : Nat) ^ 30 = 1073741824 := (by decide); have := HN.out; omega) (by have := HN.out; omega) HQ.out.1 (Nat.zero_le _)).mono ?_; rintro e w5 ⟨v, rfl, hO5, _, hx5⟩)
        obtain ⟨a5, c5, rfl⟩ := hO5.form
        obtain ⟨p1, hp1'⟩ : ∃ p, (pathT ls q1 N 0).length = p := ⟨_, rfl⟩
        rw [hp1'] at hp1 ⊢
        have t5 := t2.ext0 hx5
        have hxw5 := hxw4.trans0 hx5
        clear hp1' hO5 t2 hx5 hxw4
        go_upto_region 16 with (go_at_call 25; refine (cons_any q2 N t5 (by have h5 : (2 : Nat) ^ 30 = 1073741824 := (by decide); have := HN.out; omega) (by have := HN.out; omega) (by have := HQ.out.2; omega) (Nat.zero_le _)).mono ?_; rintro e w6 ⟨v, rfl, hO6, _, hx6⟩)
        obtain ⟨a6, c6, rfl⟩ := hO6.form
        obtain ⟨p2, hp2'⟩ : ∃ p, (consT ls q2 N).length = p := ⟨_, rfl⟩
        rw [hp2'] at hp2 ⊢
        have hxw6 := hxw5.trans0 hx6
        clear hp2' hO6 t5 hx6 hxw5
        have g1 : decide (p1 ≤ b) = true := by simp; omega
        have g2 : decide ((p2 : Int) ≤ (b : Int) + 1) = true := by simp; omega
        go_wp2
        go_ret
        exact ⟨rfl, hxw6⟩
end Go.Proofs.Ytnjjbolbemlceaa
set_option linter.unusedSimpArgs false
set_option linter.unusedVariables false
namespace Go.Proofs.Ytnjjbolbemlceaa
open Go.ChangeShapes Go.WideShapes Go.Deep Go.RowKit Go.Hs

theorem cell_lt' {w : World} {a : Addr} {v : Value} (h : w.cell? a = some v) : a.block < w.heap.size := by
  by_cases hb : a.block < w.heap.size
  · exact hb
  · have : w.heap[a.block]? = none := Array.getElem?_eq_none (by omega)
    unfold World.cell? at h
    simp [this] at h
theorem open_strs {H : Type} {enc : TypeId × Value → H} {w : World} {base : Nat} {spare : Nat → Bool} {held : Bool} {ao : Option Addr} {len cap : Nat} {d : DataW H} {p : List MemPlace}
    (h : DataW.Trod enc Try.prog w base spare held 30 (.slice ao len cap) d p) : StrArg w ao len := by
  obtain ⟨fuel, hf⟩ := h
  rcases open_strings Try.underlying30 Try.underlying9 (by kernel_rfl) hf with ⟨hcs, hx⟩ | ⟨a, len', cap', ss, hcs, hb, hl, hm, hss, hx, hi, hsz⟩
  · simp [Value.cells] at hcs
    obtain ⟨rfl, rfl, rfl⟩ := hcs
    exact ⟨by decide, fun k hk => by omega⟩
  · simp [Value.cells] at hcs
    obtain ⟨rfl, rfl, rfl⟩ := hcs
    have hle : len ≤ ss.length := by rw [hss]; split <;> omega
    refine ⟨by unfold maxLen at hm; omega, fun k hk => ⟨a, ss.getD k ByteArray.empty, rfl, ?_, hi k (by omega), ?_⟩⟩
    · have := cell_lt' (hi k (by omega))
      rwa [addr_block] at this
    · have hk' : k < ss.length := by omega
      rw [List.getD_eq_getElem?_getD, List.getElem?_eq_getElem hk']
      exact hsz _ (List.getElem_mem hk')
/-- An argument: a slice of numbers. -/
def IntArg (w : World) (ao : Option Addr) (len : Nat) : Prop := (len : Int) ≤ 9223372036854775807 ∧ ∀ k, k < len → ∃ a z, ao = some a ∧ a.block < w.heap.size ∧ w.cell? (a.add k) = some (.int .i64 z)
theorem IntArg.ext {w w' : World} {ao : Option Addr} {len : Nat} (h : IntArg w ao len) (x : Ext [] w w') : IntArg w' ao len := ⟨h.1, fun k hk => by
  obtain ⟨a, z, h1, h2, h3⟩ := h.2 k hk
  exact ⟨a, z, h1, Nat.lt_of_lt_of_le h2 x.size, by rw [x.below.cell (p := a.add k) (by rw [addr_block]; exact h2)]; exact h3⟩⟩
theorem open_nums {H : Type} {enc : TypeId × Value → H} {w : World} {base : Nat} {spare : Nat → Bool} {held : Bool} {ao : Option Addr} {len cap : Nat} {d : DataW H} {p : List MemPlace}
    (h : DataW.Trod enc Try.prog w base spare held 31 (.slice ao len cap) d p) : IntArg w ao len := by
  obtain ⟨fuel, hf⟩ := h
  rcases open_ints Try.underlying31 Try.underlying3 (by kernel_rfl) hf with ⟨hcs, hx⟩ | ⟨a, len', cap', zs, hcs, hb, hl, hm, hss, hx, hi, hsz⟩
  · simp [Value.cells] at hcs
    obtain ⟨rfl, rfl, rfl⟩ := hcs
    exact ⟨by decide, fun k hk => by omega⟩
  · simp [Value.cells] at hcs
    obtain ⟨rfl, rfl, rfl⟩ := hcs
    have hle : len ≤ zs.length := by rw [hss]; split <;> omega
    refine ⟨by unfold maxLen at hm; omega, fun k hk => ⟨a, zs.getD k 0, rfl, ?_, hi k (by omega)⟩⟩
    have := cell_lt' (hi k (by omega))
    rwa [addr_block] at this
end Go.Proofs.Ytnjjbolbemlceaa
