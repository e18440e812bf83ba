/-
  Sums held against each other; clash.Pair.Is.
-/
import Derived.Test.YtnjjbolbemlceaaDig5
import Derived.ChangeKeysEq
import Derived.Deep.RegionHeld3
set_option linter.unusedSimpArgs false
set_option linter.unusedVariables false
set_option maxHeartbeats 2000000
set_option maxRecDepth 100000
namespace Go.Proofs.Ytnjjbolbemlceaa
open Go.RowKit Go.Hs Go.Dg

theorem run_eq_u8 (d : Nat) (a b : Int) (w : World) : (Op.equalIn (d + 1) 5 (.int .u8 a) (.int .u8 b)).run Try.prog w = .ok (a == b) w := by
  simp [Op.equalIn, run_underlying Try.underlying5]
theorem run_part_u8 {xs : Array Value} {i : Nat} {v : Value} (h : xs[i]? = some v) (w : World) : (part 5 xs i).run Try.prog w = .ok v w := by
  simp [part, isAgg, run_underlying Try.underlying5, h]
theorem run_eqItems_sum (d : Nat) (f g : Nat → Int) (w : World) : ∀ is : List Nat, (∀ i ∈ is, i < 32) → (Op.eqItems (d + 1) 5 1 (bytesL f) (bytesL g) is).run Try.prog w = .ok (is.all fun i => f i == g i) w
  | [], _ => by simp [Op.eqItems]
  | i :: is, h => by
    have hi := h i (List.mem_cons_self)
    have h1 := run_part_u8 (xs := bytesL f) (i := i * 1) (v := .int .u8 (f i)) (by rw [Nat.mul_one]; exact bytesL_get f hi) w
    have h2 := run_part_u8 (xs := bytesL g) (i := i * 1) (v := .int .u8 (g i)) (by rw [Nat.mul_one]; exact bytesL_get g hi) w
    simp only [Op.eqItems, Sem.run_bind, h1, h2, Result.andThen_ok, run_eq_u8, List.all_cons]
    cases hfg : (f i == g i)
    · simp
    · simp only [Bool.not_true, Bool.false_eq_true, if_false, Bool.true_and]
      exact run_eqItems_sum d f g w is fun j hj => h j (List.mem_cons_of_mem _ hj)
theorem infoU8 : (Try.prog.info? 5).map (fun i => (i.zero, i.size, i.bytes)) = some (some (.int .u8 0), 1, 1) := by kernel_rfl
theorem cellsU8 : Try.prog.cellsOf 5 = 1 := by kernel_rfl
theorem run_eq_sum (f g : Nat → Int) (w : World) : (Op.equal 27 (.agg (bytesL f)) (.agg (bytesL g))).run Try.prog w = .ok ((List.range 32).all fun i => f i == g i) w := by
  obtain ⟨i, hi, _⟩ := info_parts infoU8
  unfold Op.equal Op.maxDepth
  rw [show (10000 : Nat) = 9998 + 1 + 1 from rfl, run_equalIn_array (P := Try.prog) (w := w) (9998 + 1) (bytesL f) (bytesL g) Try.underlying27 hi, cellsU8, run_eqItems_sum 9998 f g w (List.range 32) (fun i hi => by simpa using hi)]
theorem run_eq_dig (a b : ByteArray) (w : World) : (Op.equal 27 (.agg (digV a)) (.agg (digV b))).run Try.prog w = .ok (decide (digN a = digN b)) w := by
  unfold digV
  rw [run_eq_sum]
  congr 1
  rw [Bool.eq_iff_iff, List.all_eq_true, decide_eq_true_iff]
  constructor
  · intro h
    unfold digN
    apply List.map_congr_left
    intro j hj
    have := h j hj
    simp at this
    rw [this]
  · intro h j hj
    have h2 := digN_eq.2 h
    have hj' : j < 32 := by simpa using hj
    unfold digV at h2
    have h1 := bytesL_get (sumByte (sumF a)) hj'
    rw [h2, bytesL_get _ hj'] at h1
    simp at h1
    simpa using h1.symm
theorem alloc_two' (w : World) (A B : Obj) : ((w.alloc A).alloc B).heap[w.heap.size]? = some A ∧ ((w.alloc A).alloc B).heap[w.heap.size + 1]? = some B ∧ Ext [] w ((w.alloc A).alloc B) ∧ ((w.alloc A).alloc B).heap.size = w.heap.size + 2 := by
  have h1 : (w.alloc A).heap.size = w.heap.size + 1 := by simp
  exact ⟨heap_old' _ _ (heap_new _ _), by rw [← h1]; exact heap_new _ _, ((Ext.refl _ _).alloc _).alloc _, by simp⟩
/-- Are two texts a clash? -/
def isPair (a b : ByteArray) : Bool := !(a.toList == b.toList) && decide (digN a = digN b)
theorem pairIs_any (a b : ByteArray) (ha : a.size ≤ 100000) (hb : b.size ≤ 100000) (w : World) : Calls Try.prog 10 #[.agg #[.string a, .string b]] w fun e w' => e = .returned (.bool (isPair a b)) ∧ Ext [] w w' := by
  have hA := heap_new w (.cells #[.string a, .string b] 25)
  have hx0 : Ext [] w (w.alloc (.cells #[.string a, .string b] 25)) := (Ext.refl _ _).alloc _
  go_enter Try.func10, Try.ntmps10
  go_upto_region 1 with fail
  generalize w.alloc (.cells #[.string a, .string b] 25) = W at *
  generalize w.heap.size = A at *
  have a0 : W.cell? ⟨A, 0, none⟩ = some (.string a) := cellAt hA 0
  have a1 : W.cell? ⟨A, 1, none⟩ = some (.string b) := cellAt hA 1
  by_cases hab : (a.toList == b.toList) = true
  · have hres : isPair a b = false := by unfold isPair; rw [hab]; rfl
    have HR := Hs.hid hres
    have hbq : (!(a.toList == b.toList)) = false := by rw [hab]; rfl
    clear hres
    go_quiet (fail)
    go_wp2
    go_ret
    exact ⟨by rw [HR.out]; rfl, hx0.drewN _⟩
  · have hab := Bool.eq_false_iff.2 hab
    have hres : isPair a b = decide (digN a = digN b) := by unfold isPair; rw [hab]; rfl
    have HR := Hs.hid hres
    have HS := Hs.hid (show a.size ≤ 100000000 ∧ b.size ≤ 100000000 by omega)
    clear hres
    go_region_held3 (fun w' => w'.cell? ⟨A, 0, none⟩ = some (.string a) ∧ w'.cell? ⟨A, 1, none⟩ = some (.string b))
      (first
        | exact ⟨a0, a1⟩
        | exact ⟨b0, b1⟩
        | exact ⟨d0, d1⟩
        | go_keep)
      (first
        | (go_at_call 11; (with_reducible refine (of_any a HS.out.1 _).mono ?_); rintro e w4 ⟨cs, rfl, hcs, hx4⟩; have hA4 := hx4.same (by first | exact hA | exact hA5) (by simp); have b0 := (show w4.cell? ⟨A, 0, none⟩ = some (.string a) from cellAt hA4 0); have b1 := (show w4.cell? ⟨A, 1, none⟩ = some (.string b) from cellAt hA4 1))
        | (go_at_call 11; (with_reducible refine (of_any b HS.out.2 _).mono ?_); rintro e w5 ⟨ds, rfl, hds, hx5⟩; have hA5 := hx5.same (by first | exact hA | exact hA4) (by simp); have d0 := (show w5.cell? ⟨A, 0, none⟩ = some (.string a) from cellAt hA5 0); have d1 := (show w5.cell? ⟨A, 1, none⟩ = some (.string b) from cellAt hA5 1); have hq := (show ∀ w, (Op.equalIn 10000 27 (.agg cs) (.agg ds)).run Try.prog w = .ok (decide (digN a = digN b)) w from fun w => (by rw [hcs.out, hds.out]; exact run_eq_dig a b w))))
    all_goals go_wp2
    all_goals go_ret
    all_goals exact ⟨by rw [HR.out]; rfl, by first | exact ((hx0.drew).trans0 hx4).trans0 hx5 | exact ((hx0.drew).trans0 hx5).trans0 hx4⟩
/-- A sum as bytes. -/
theorem conv_dig {w : World} {A : Nat} {a : ByteArray} {fr : Nat × Nat} (h : w.heap[A]? = some (.cells (digV a) 27 fr)) : (convert 42 9 (.slice (some ⟨A, 0, none⟩) 32 32)).run Try.prog w = .ok (.string (strN (digN a))) w := by
  have hc := run_convert_bytes_arg (P := Try.prog) w 42 5 Try.underlying42 Try.underlying5 A 0 32 32 ((digN a).map fun (c : Nat) => (c : Int)) (by simp [digN_len]) (fun i hi => by
    have hi' : i < (digN a).length := by rw [digN_len]; exact hi
    rw [Nat.zero_add, cellAt h i, digN_V]
    simp [List.getD, hi']) 9 Try.underlying9
  rw [hc]
  congr 2
theorem strN_digN (a : ByteArray) : (strN (digN a)).size = 32 := by
  show ((digN a).map UInt8.ofNat).toArray.size = 32
  simp [digN_len]
theorem node_any (a b : ByteArray) (w : World) : Calls Try.prog 42 #[.agg (digV a), .agg (digV b)] w fun e w' => e = .returned (.string (⟨#[1]⟩ ++ strN (digN a) ++ strN (digN b))) ∧ Ext [] w w' := by
  obtain ⟨hA, hB, hx0, _⟩ := alloc_two' w (.cells (digV a) 27) (.cells (digV b) 27)
  have hc1 : ¬ 9223372036854775807 < 1 + 32 := by decide
  have hs1 := strN_digN a
  have hs2 := strN_digN b
  go_enter Try.func42, Try.ntmps42
  go_upto_region 1 with fail
  generalize (w.alloc (.cells (digV a) 27)).alloc (.cells (digV b) 27) = W at hA hB hx0 ⊢
  refine wp_region_noPanic ?_
  refine wp_region_held_drew (S := (fun w' => w'.heap[w.heap.size]? = some (.cells (digV a) 27 (0, 0)) ∧ w'.heap[w.heap.size + 1]? = some (.cells (digV b) 27 (0, 0)))) (by kernel_rfl) ?_ (fun hHeld => ?_)
  · ((try dsimp only); exact ⟨hA, hB⟩)
  refine wpAnyH_take (i := 0) (v := ?_) rfl (by kernel_rfl) (by kernel_rfl) (by kernel_rfl) (fun _ _ _ h => h) (Or.inl ⟨by rfl, ?_⟩) (by assumption) ?_
  rotate_left
  · (intro w hSw; (try dsimp only at hSw); first | (go_simp; done) | (go_simp; with_reducible rfl))
  try simp only [Act.put, List.getElem_toArray, List.getElem_cons_succ, List.getElem_cons_zero, List.setIfInBounds_toArray, List.set_cons_zero, List.set_cons_succ]
  refine wpAnyH_take (i := 1) (v := ?_) rfl (by kernel_rfl) (by kernel_rfl) (by kernel_rfl) (fun _ _ _ h => h) (Or.inl ⟨by rfl, ?_⟩) (by assumption) ?_
  rotate_left
  · (intro w hSw; (try dsimp only at hSw); have hq := conv_dig hSw.1; first | (go_simp; done) | (go_simp; with_reducible rfl))
  try simp only [Act.put, List.getElem_toArray, List.getElem_cons_succ, List.getElem_cons_zero, List.setIfInBounds_toArray, List.set_cons_zero, List.set_cons_succ]
  refine wpAnyH_take (i := 2) (v := ?_) rfl (by kernel_rfl) (by kernel_rfl) (by kernel_rfl) (fun _ _ _ h => h) (Or.inl ⟨by rfl, ?_⟩) (by assumption) ?_
  rotate_left
  · (intro w hSw; (try dsimp only at hSw); first | (go_simp; done) | (go_simp; with_reducible rfl))
  try simp only [Act.put, List.getElem_toArray, List.getElem_cons_succ, List.getElem_cons_zero, List.setIfInBounds_toArray, List.set_cons_zero, List.set_cons_succ]
  refine wpAnyH_take (i := 3) (v := ?_) rfl (by kernel_rfl) (by kernel_rfl) (by kernel_rfl) (fun _ _ _ h => h) (Or.inl ⟨by rfl, ?_⟩) (by assumption) ?_
  rotate_left
  · (intro w hSw; (try dsimp only at hSw); first | (go_simp; done) | (go_simp; with_reducible rfl))
  try simp only [Act.put, List.getElem_toArray, List.getElem_cons_succ, List.getElem_cons_zero, List.setIfInBounds_toArray, List.set_cons_zero, List.set_cons_succ]
  refine wpAnyH_take (i := 4) (v := ?_) rfl (by kernel_rfl) (by kernel_rfl) (by kernel_rfl) (fun _ _ _ h => h) (Or.inl ⟨by rfl, ?_⟩) (by assumption) ?_
  rotate_left
  · (intro w hSw; (try dsimp only at hSw); have hq := conv_dig hSw.2; first | (go_simp; done) | (go_simp; with_reducible rfl))
  try simp only [Act.put, List.getElem_toArray, List.getElem_cons_succ, List.getElem_cons_zero, List.setIfInBounds_toArray, List.set_cons_zero, List.set_cons_succ]
  refine wpAnyH_take (i := 5) (v := ?_) rfl (by kernel_rfl) (by kernel_rfl) (by kernel_rfl) (fun _ _ _ h => h) (Or.inl ⟨by rfl, ?_⟩) (by assumption) ?_
  rotate_left
  · (intro w hSw; (try dsimp only at hSw); first | (go_simp; done) | (go_simp; with_reducible rfl))
  try simp only [Act.put, List.getElem_toArray, List.getElem_cons_succ, List.getElem_cons_zero, List.setIfInBounds_toArray, List.set_cons_zero, List.set_cons_succ]
  refine wpAnyH_take (i := 6) (v := ?_) rfl (by kernel_rfl) (by kernel_rfl) (by kernel_rfl) (fun _ _ _ h => h) (Or.inl ⟨by rfl, ?_⟩) (by assumption) ?_
  rotate_left
  · (intro w hSw; (try dsimp only at hSw); first | (go_simp; done) | (go_simp; with_reducible rfl))
  try simp only [Act.put, List.getElem_toArray, List.getElem_cons_succ, List.getElem_cons_zero, List.setIfInBounds_toArray, List.set_cons_zero, List.set_cons_succ]
  refine wpAnyH_done (by kernel_rfl) ?_ _
  refine NoPanic.normal ?_
  go_wp2
  go_ret
  exact ⟨rfl, hx0.drew⟩
end Go.Proofs.Ytnjjbolbemlceaa
