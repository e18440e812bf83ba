/-
  Layer 3's law: Error at small places, awake.
-/
import Derived.Test.YtnjjbolbemlceaaDoorFault2
import Derived.Test.YtnjjbolbemlceaaDoorStillS
import Derived.Deep.Cut
set_option linter.unusedSimpArgs false
set_option linter.unusedVariables false
set_option maxHeartbeats 4000000
set_option maxRecDepth 100000
namespace Go.Proofs.YtnjjbolbemlceaaDoor
open Go.RowKit Go.Extern.Stop Go.Stop Go.Extern Go.Hs

theorem itoa3 (w : World) : Calls Tryd.prog 52 #[.int .i64 3] w fun e w' => e = .returned (.string ⟨#[51]⟩) ∧ w' = w := by
  go_enter Tryd.func52, Tryd.ntmps52
  go_wp2
  go_ret
  exact ⟨rfl, rfl⟩
theorem itoa7 (w : World) : Calls Tryd.prog 52 #[.int .i64 7] w fun e w' => e = .returned (.string ⟨#[55]⟩) ∧ w' = w := by
  go_enter Tryd.func52, Tryd.ntmps52
  go_wp2
  go_ret
  exact ⟨rfl, rfl⟩
theorem error_num (b : Nat) (s t : ByteArray) (x : Int) (n : Nat) (hn : n < 21) (hs : s.size ≤ 100) (ht : t.size ≤ 100) (w : World) (hb : w.heap[b]? = some (.cells #[.string s, .int .i64 x, errN n] 68 (0, 0)))
    (hI : ∀ w, Calls Tryd.prog 52 #[.int .i64 x] w fun e w' => e = .returned (.string t) ∧ w' = w) :
    Calls Tryd.prog 35 #[.pointer (some ⟨b, 0, none⟩)] w fun e w' => e = .returned (.string (s ++ ⟨#[32]⟩ ++ t ++ ⟨#[58, 32]⟩ ++ errWord n)) ∧ Ext [] w w' := by
  have b0 := cellAt hb 0
  have b1 := cellAt hb 1
  have b2 := cellAt hb 2
  simp at b0 b1 b2
  unfold errN at b2
  have mN := methodErrorEN
  have hz := errWord_size n hn
  go_enter Tryd.func35, Tryd.ntmps35
  go_wp2_with (first
    | (go_at_call 14; refine (errno_any n hn _).mono ?_; rintro e w1 ⟨rfl, hx1⟩; have c0 := cell_same b0 (hx1.block b (lt_of_heap hb) (by simp)); have c1 := cell_same b1 (hx1.block b (lt_of_heap hb) (by simp)))
    | fail)
  have n1 : ¬ 9223372036854775807 < s.size + 1 := by omega
  have n2 : ¬ 9223372036854775807 < s.size + 1 + t.size := by omega
  have n3 : ¬ 9223372036854775807 < s.size + 1 + t.size + 2 := by omega
  have n4 : ¬ 9223372036854775807 < s.size + 1 + t.size + 2 + (errWord n).size := by omega
  clear b0 b1 b2 hz hs ht
  refine wp_region_stl (by kernel_rfl) (by kernel_rfl) ?_
  refine still_val (v := ?_) (by rfl) ?_ ?_
  rotate_left
  · first | (go_simp; done) | (go_simp; with_reducible rfl)
  try simp only [Act.put, List.getElem_toArray, List.getElem_cons_succ, List.getElem_cons_zero, List.setIfInBounds_toArray, List.set_cons_zero, List.set_cons_succ]
  refine still_val (v := ?_) (by rfl) ?_ ?_
  rotate_left
  · first | (go_simp; done) | (go_simp; with_reducible rfl)
  try simp only [Act.put, List.getElem_toArray, List.getElem_cons_succ, List.getElem_cons_zero, List.setIfInBounds_toArray, List.set_cons_zero, List.set_cons_succ]
  refine still_val (v := ?_) (by rfl) ?_ ?_
  rotate_left
  · first | (go_simp; done) | (go_simp; with_reducible rfl)
  try simp only [Act.put, List.getElem_toArray, List.getElem_cons_succ, List.getElem_cons_zero, List.setIfInBounds_toArray, List.set_cons_zero, List.set_cons_succ]
  refine still_val (v := ?_) (by rfl) ?_ ?_
  rotate_left
  · first | (go_simp; done) | (go_simp; with_reducible rfl)
  try simp only [Act.put, List.getElem_toArray, List.getElem_cons_succ, List.getElem_cons_zero, List.setIfInBounds_toArray, List.set_cons_zero, List.set_cons_succ]
  refine still_val (v := ?_) (by rfl) ?_ ?_
  rotate_left
  · first | (go_simp; done) | (go_simp; with_reducible rfl)
  try simp only [Act.put, List.getElem_toArray, List.getElem_cons_succ, List.getElem_cons_zero, List.setIfInBounds_toArray, List.set_cons_zero, List.set_cons_succ]
  refine still_val (v := ?_) (by rfl) ?_ ?_
  rotate_left
  · first | (go_simp; done) | (go_simp; with_reducible rfl)
  try simp only [Act.put, List.getElem_toArray, List.getElem_cons_succ, List.getElem_cons_zero, List.setIfInBounds_toArray, List.set_cons_zero, List.set_cons_succ]
  refine still_val (v := ?_) (by rfl) ?_ ?_
  rotate_left
  · first | (go_simp; done) | (go_simp; with_reducible rfl)
  try simp only [Act.put, List.getElem_toArray, List.getElem_cons_succ, List.getElem_cons_zero, List.setIfInBounds_toArray, List.set_cons_zero, List.set_cons_succ]
  refine still_val (v := ?_) (by rfl) ?_ ?_
  rotate_left
  · first | (go_simp; done) | (go_simp; with_reducible rfl)
  try simp only [Act.put, List.getElem_toArray, List.getElem_cons_succ, List.getElem_cons_zero, List.setIfInBounds_toArray, List.set_cons_zero, List.set_cons_succ]
  refine still_val (v := ?_) (by rfl) ?_ ?_
  rotate_left
  · first | (go_simp; done) | (go_simp; with_reducible rfl)
  try simp only [Act.put, List.getElem_toArray, List.getElem_cons_succ, List.getElem_cons_zero, List.setIfInBounds_toArray, List.set_cons_zero, List.set_cons_succ]
  refine still_call (by rfl) (by first | (go_simp; done) | (go_simp; with_reducible rfl)) (hI _) ?_
  try simp only [Act.put, List.getElem_toArray, List.getElem_cons_succ, List.getElem_cons_zero, List.setIfInBounds_toArray, List.set_cons_zero, List.set_cons_succ]
  refine still_val (v := ?_) (by rfl) ?_ ?_
  rotate_left
  · first | (go_simp; done) | (go_simp; with_reducible rfl)
  try simp only [Act.put, List.getElem_toArray, List.getElem_cons_succ, List.getElem_cons_zero, List.setIfInBounds_toArray, List.set_cons_zero, List.set_cons_succ]
  refine still_val (v := ?_) (by rfl) ?_ ?_
  rotate_left
  · first | (go_simp; done) | (go_simp; with_reducible rfl)
  try simp only [Act.put, List.getElem_toArray, List.getElem_cons_succ, List.getElem_cons_zero, List.setIfInBounds_toArray, List.set_cons_zero, List.set_cons_succ]
  refine still_val (v := ?_) (by rfl) ?_ ?_
  rotate_left
  · first | (go_simp; done) | (go_simp; with_reducible rfl)
  try simp only [Act.put, List.getElem_toArray, List.getElem_cons_succ, List.getElem_cons_zero, List.setIfInBounds_toArray, List.set_cons_zero, List.set_cons_succ]
  refine still_val (v := ?_) (by rfl) ?_ ?_
  rotate_left
  · first | (go_simp; done) | (go_simp; with_reducible rfl)
  try simp only [Act.put, List.getElem_toArray, List.getElem_cons_succ, List.getElem_cons_zero, List.setIfInBounds_toArray, List.set_cons_zero, List.set_cons_succ]
  refine still_val (v := ?_) (by rfl) ?_ ?_
  rotate_left
  · first | (go_simp; done) | (go_simp; with_reducible rfl)
  try simp only [Act.put, List.getElem_toArray, List.getElem_cons_succ, List.getElem_cons_zero, List.setIfInBounds_toArray, List.set_cons_zero, List.set_cons_succ]
  refine still_end ?_
  go_wp2
  go_ret
  exact ⟨rfl, hx1.drew⟩
theorem error_ep (b : Nat) (s t : ByteArray) (x : Int) (b2 : Nat) (word : ByteArray) (hn : word.size ≤ 200) (hs : s.size ≤ 100) (ht : t.size ≤ 100) (w : World) (hb : w.heap[b]? = some (.cells #[.string s, .int .i64 x, .iface 66 (.pointer (some ⟨b2, 0, none⟩))] 68 (0, 0)))
    (hI : ∀ w, Calls Tryd.prog 52 #[.int .i64 x] w fun e w' => e = .returned (.string t) ∧ w' = w)
    (hW : ∀ w1, Ext [] w w1 → Calls Tryd.prog 35 #[.pointer (some ⟨b2, 0, none⟩)] w1 fun e w' => e = .returned (.string word) ∧ Ext [] w1 w') :
    Calls Tryd.prog 35 #[.pointer (some ⟨b, 0, none⟩)] w fun e w' => e = .returned (.string (s ++ ⟨#[32]⟩ ++ t ++ ⟨#[58, 32]⟩ ++ word)) ∧ Ext [] w w' := by
  have b0 := cellAt hb 0
  have b1 := cellAt hb 1
  have bb2 := cellAt hb 2
  simp at b0 b1 bb2
  have mN := methodErrorEP
  have hz := hn
  go_enter Tryd.func35, Tryd.ntmps35
  go_wp2_with (first
    | (go_at_call 35; refine (hW w (Ext.refl _ _)).mono ?_; rintro e w1 ⟨rfl, hx1⟩; have c0 := cell_same b0 (hx1.block b (lt_of_heap hb) (by simp)); have c1 := cell_same b1 (hx1.block b (lt_of_heap hb) (by simp)))
    | fail)
  have n1 : ¬ 9223372036854775807 < s.size + 1 := by omega
  have n2 : ¬ 9223372036854775807 < s.size + 1 + t.size := by omega
  have n3 : ¬ 9223372036854775807 < s.size + 1 + t.size + 2 := by omega
  have n4 : ¬ 9223372036854775807 < s.size + 1 + t.size + 2 + (word).size := by omega
  clear b0 b1 bb2 hz hs ht
  refine wp_region_stl (by kernel_rfl) (by kernel_rfl) ?_
  refine still_val (v := ?_) (by rfl) ?_ ?_
  rotate_left
  · first | (go_simp; done) | (go_simp; with_reducible rfl)
  try simp only [Act.put, List.getElem_toArray, List.getElem_cons_succ, List.getElem_cons_zero, List.setIfInBounds_toArray, List.set_cons_zero, List.set_cons_succ]
  refine still_val (v := ?_) (by rfl) ?_ ?_
  rotate_left
  · first | (go_simp; done) | (go_simp; with_reducible rfl)
  try simp only [Act.put, List.getElem_toArray, List.getElem_cons_succ, List.getElem_cons_zero, List.setIfInBounds_toArray, List.set_cons_zero, List.set_cons_succ]
  refine still_val (v := ?_) (by rfl) ?_ ?_
  rotate_left
  · first | (go_simp; done) | (go_simp; with_reducible rfl)
  try simp only [Act.put, List.getElem_toArray, List.getElem_cons_succ, List.getElem_cons_zero, List.setIfInBounds_toArray, List.set_cons_zero, List.set_cons_succ]
  refine still_val (v := ?_) (by rfl) ?_ ?_
  rotate_left
  · first | (go_simp; done) | (go_simp; with_reducible rfl)
  try simp only [Act.put, List.getElem_toArray, List.getElem_cons_succ, List.getElem_cons_zero, List.setIfInBounds_toArray, List.set_cons_zero, List.set_cons_succ]
  refine still_val (v := ?_) (by rfl) ?_ ?_
  rotate_left
  · first | (go_simp; done) | (go_simp; with_reducible rfl)
  try simp only [Act.put, List.getElem_toArray, List.getElem_cons_succ, List.getElem_cons_zero, List.setIfInBounds_toArray, List.set_cons_zero, List.set_cons_succ]
  refine still_val (v := ?_) (by rfl) ?_ ?_
  rotate_left
  · first | (go_simp; done) | (go_simp; with_reducible rfl)
  try simp only [Act.put, List.getElem_toArray, List.getElem_cons_succ, List.getElem_cons_zero, List.setIfInBounds_toArray, List.set_cons_zero, List.set_cons_succ]
  refine still_val (v := ?_) (by rfl) ?_ ?_
  rotate_left
  · first | (go_simp; done) | (go_simp; with_reducible rfl)
  try simp only [Act.put, List.getElem_toArray, List.getElem_cons_succ, List.getElem_cons_zero, List.setIfInBounds_toArray, List.set_cons_zero, List.set_cons_succ]
  refine still_val (v := ?_) (by rfl) ?_ ?_
  rotate_left
  · first | (go_simp; done) | (go_simp; with_reducible rfl)
  try simp only [Act.put, List.getElem_toArray, List.getElem_cons_succ, List.getElem_cons_zero, List.setIfInBounds_toArray, List.set_cons_zero, List.set_cons_succ]
  refine still_val (v := ?_) (by rfl) ?_ ?_
  rotate_left
  · first | (go_simp; done) | (go_simp; with_reducible rfl)
  try simp only [Act.put, List.getElem_toArray, List.getElem_cons_succ, List.getElem_cons_zero, List.setIfInBounds_toArray, List.set_cons_zero, List.set_cons_succ]
  refine still_call (by rfl) (by first | (go_simp; done) | (go_simp; with_reducible rfl)) (hI _) ?_
  try simp only [Act.put, List.getElem_toArray, List.getElem_cons_succ, List.getElem_cons_zero, List.setIfInBounds_toArray, List.set_cons_zero, List.set_cons_succ]
  refine still_val (v := ?_) (by rfl) ?_ ?_
  rotate_left
  · first | (go_simp; done) | (go_simp; with_reducible rfl)
  try simp only [Act.put, List.getElem_toArray, List.getElem_cons_succ, List.getElem_cons_zero, List.setIfInBounds_toArray, List.set_cons_zero, List.set_cons_succ]
  refine still_val (v := ?_) (by rfl) ?_ ?_
  rotate_left
  · first | (go_simp; done) | (go_simp; with_reducible rfl)
  try simp only [Act.put, List.getElem_toArray, List.getElem_cons_succ, List.getElem_cons_zero, List.setIfInBounds_toArray, List.set_cons_zero, List.set_cons_succ]
  refine still_val (v := ?_) (by rfl) ?_ ?_
  rotate_left
  · first | (go_simp; done) | (go_simp; with_reducible rfl)
  try simp only [Act.put, List.getElem_toArray, List.getElem_cons_succ, List.getElem_cons_zero, List.setIfInBounds_toArray, List.set_cons_zero, List.set_cons_succ]
  refine still_val (v := ?_) (by rfl) ?_ ?_
  rotate_left
  · first | (go_simp; done) | (go_simp; with_reducible rfl)
  try simp only [Act.put, List.getElem_toArray, List.getElem_cons_succ, List.getElem_cons_zero, List.setIfInBounds_toArray, List.set_cons_zero, List.set_cons_succ]
  refine still_val (v := ?_) (by rfl) ?_ ?_
  rotate_left
  · first | (go_simp; done) | (go_simp; with_reducible rfl)
  try simp only [Act.put, List.getElem_toArray, List.getElem_cons_succ, List.getElem_cons_zero, List.setIfInBounds_toArray, List.set_cons_zero, List.set_cons_succ]
  refine still_end ?_
  go_wp2
  go_ret
  exact ⟨rfl, hx1.drew⟩
end Go.Proofs.YtnjjbolbemlceaaDoor
