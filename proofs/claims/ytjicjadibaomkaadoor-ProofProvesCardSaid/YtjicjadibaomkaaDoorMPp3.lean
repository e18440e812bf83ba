/-
  Texts of this claim, put together: WalkS, PWalk, PBuild.
-/
import Derived.Deep.MidRow
import Derived.Laws.CopyRow
import Derived.Laws.Tables
import Derived.Test.YtjicjadibaomkaaDoorMPp1
set_option linter.unusedSimpArgs false
set_option linter.unusedVariables false
set_option maxHeartbeats 2000000
set_option maxRecDepth 100000
namespace Go.Proofs.YtjicjadibaomkaaDoor
open Go.RowKit Go.Hs Go.Dg

def wCells (s : WSt S32) : List Value := [.int .i64 (s.a : Int), .int .i64 (s.e : Int)] ++ s.o.V.toList ++ s.l.V.toList ++ [.bool s.st]
theorem S32.tlen (x : S32) : x.V.toList.length = 32 := by rw [Array.length_toList, x.size]
theorem wCells_len (s : WSt S32) : (wCells s).length = 67 := by
  simp only [wCells, List.length_append, S32.tlen]; rfl
/-- A walk in the heap. -/
def WAt (h : Array Obj) (b : Nat) (s : WSt S32) : Prop := h[b]? = some (.cells (wCells s).toArray 84 (0, 0))
theorem WAt.ext {F : List Nat} {w w' : World} {b : Nat} {s : WSt S32} (h : WAt w.heap b s) (x : Ext F w w') (hb : b ∉ F) : WAt w'.heap b s := x.same h hb
theorem WAt.at {w : World} {b : Nat} {s : WSt S32} (h : WAt w.heap b s) (k : Nat) : w.cell? ⟨b, k, none⟩ = (wCells s)[k]? := by rw [cellAt h]; simp
theorem WAt.a {w : World} {b : Nat} {s : WSt S32} (h : WAt w.heap b s) : w.cell? ⟨b, 0, none⟩ = some (.int .i64 (s.a : Int)) := by rw [h.at]; rfl
theorem WAt.e {w : World} {b : Nat} {s : WSt S32} (h : WAt w.heap b s) : w.cell? ⟨b, 1, none⟩ = some (.int .i64 (s.e : Int)) := by rw [h.at]; rfl
theorem wCells_o (s : WSt S32) (j : Nat) (h : j < 32) : (wCells s)[2 + j]? = s.o.V.toList[j]? := by
  have h1 := S32.size s.o
  unfold wCells
  rw [List.append_assoc, List.append_assoc, List.getElem?_append_right (by simp), List.getElem?_append_left (by simp; omega)]
  congr 1; simp
theorem wCells_l (s : WSt S32) (j : Nat) (h : j < 32) : (wCells s)[34 + j]? = s.l.V.toList[j]? := by
  have h1 := S32.size s.o
  have h2 := S32.size s.l
  unfold wCells
  rw [List.append_assoc, List.append_assoc, List.getElem?_append_right (by simp; omega), List.getElem?_append_right (by simp; omega), List.getElem?_append_left (by simp; omega)]
  congr 1; simp; omega
theorem WAt.o {w : World} {b : Nat} {s : WSt S32} (h : WAt w.heap b s) : w.rangeAt b 2 s.o.V.toList := fun j v hj => by
  have hl := (List.getElem?_eq_some_iff.1 hj).1
  rw [S32.tlen] at hl
  rw [h.at, wCells_o s j hl, hj]
theorem WAt.l {w : World} {b : Nat} {s : WSt S32} (h : WAt w.heap b s) : w.rangeAt b 34 s.l.V.toList := fun j v hj => by
  have hl := (List.getElem?_eq_some_iff.1 hj).1
  rw [S32.tlen] at hl
  rw [h.at, wCells_l s j hl, hj]
theorem WAt.st {w : World} {b : Nat} {s : WSt S32} (h : WAt w.heap b s) : w.cell? ⟨b, 66, none⟩ = some (.bool s.st) := by
  rw [h.at]
  have h1 := S32.size s.o
  have h2 := S32.size s.l
  unfold wCells
  rw [List.getElem?_append_right (by simp; omega)]
  simp [h1, h2]
theorem WAt.free {w : World} {b : Nat} {s : WSt S32} (h : WAt w.heap b s) (k : Nat) : w.frozen? ⟨b, k, none⟩ = false := freeAt h k
theorem WAt.there {w : World} {b : Nat} {s : WSt S32} (h : WAt w.heap b s) (o n : Nat) (hn : o + n ≤ 67) : w.there b o n := fun j hj => by
  refine ⟨?_, h.free _⟩
  rw [h.at, List.getElem?_eq_getElem (by rw [wCells_len]; omega)]
  rfl
/-- Cells stored into the middle of a row. -/
theorem setCells_row {w : World} {b o : Nat} {vs : List Value} {cur : Array Value} {t : TypeId} (hg : w.heap[b]? = some (.cells cur t (0, 0))) (hl : o + vs.length ≤ cur.size) (h1 : ∀ v ∈ vs, v.oneCell' = true) :
    w.setCells b o vs = w.setRow b (cur.toList.take o ++ vs ++ cur.toList.drop (o + vs.length)).toArray := by
  have e1 := run_storeCells_at Tryd.prog b o t vs 0 cur w hg (by simpa using hl) h1
  have e2 := run_storeCells_cells (P := Tryd.prog) b o vs 0 w (fun j hj => by
    rw [cellAt hg, Array.getElem?_eq_getElem (by omega)]; rfl) (fun j hj => freeAt hg _) h1
  rw [e1] at e2
  simp only [Nat.add_zero] at e2
  injection e2 with _ e3
  exact e3.symm
theorem Ext.setCells {F : List Nat} {a : World} {b : Nat} (hb : b ∈ F ∨ a.heap.size ≤ b) : ∀ (vs : List Value) (o : Nat) (w : World), Ext F a w → Ext F a (w.setCells b o vs)
  | [], _, _, h => h
  | v :: r, o, w, h => Ext.setCells hb r (o + 1) _ (h.setCell hb v)
theorem S32.ones (x : S32) : ∀ v ∈ x.V.toList, v.oneCell' = true := fun u hu => (Array.all_eq_true'.1 x.one) u (Array.mem_toList_iff.1 hu)
theorem WAt.setO {w : World} {b : Nat} {s : WSt S32} (h : WAt w.heap b s) (x : S32) : WAt (w.setCells b 2 x.V.toList).heap b { s with o := x } := by
  have h1 := S32.size s.o
  have h2 := S32.size s.l
  have h3 := S32.tlen x
  rw [setCells_row h (by rw [h3]; simp [wCells_len]) x.ones]
  have := setRow_heap w b _ ((wCells s).toArray.toList.take 2 ++ x.V.toList ++ (wCells s).toArray.toList.drop (2 + x.V.toList.length)).toArray _ _ h
  unfold WAt
  rw [this, h3]
  congr 2
  unfold wCells
  simp [List.drop_append, List.take_append, h1, h2]
theorem WAt.setL {w : World} {b : Nat} {s : WSt S32} (h : WAt w.heap b s) (x : S32) : WAt (w.setCells b 34 x.V.toList).heap b { s with l := x } := by
  have h1 := S32.size s.o
  have h2 := S32.size s.l
  have h3 := S32.tlen x
  rw [setCells_row h (by rw [h3]; simp [wCells_len]) x.ones]
  have := setRow_heap w b _ ((wCells s).toArray.toList.take 34 ++ x.V.toList ++ (wCells s).toArray.toList.drop (34 + x.V.toList.length)).toArray _ _ h
  unfold WAt
  rw [this, h3]
  congr 2
  unfold wCells
  simp [List.drop_append, List.take_append, h1, h2]
theorem WAt.setA {w : World} {b : Nat} {s : WSt S32} (h : WAt w.heap b s) (n : Nat) : WAt (w.setCell ⟨b, 0, none⟩ (.int .i64 (n : Int))).heap b { s with a := n } := by
  unfold WAt; rw [heap_set h]; congr 2
theorem WAt.setE {w : World} {b : Nat} {s : WSt S32} (h : WAt w.heap b s) (n : Nat) : WAt (w.setCell ⟨b, 1, none⟩ (.int .i64 (n : Int))).heap b { s with e := n } := by
  unfold WAt; rw [heap_set h]; congr 2
theorem WAt.setS {w : World} {b : Nat} {s : WSt S32} (h : WAt w.heap b s) (v : Bool) : WAt (w.setCell ⟨b, 66, none⟩ (.bool v)).heap b { s with st := v } := by
  unfold WAt; rw [heap_set h]; congr 2
  apply Array.ext_getElem?
  intro i
  have h1 := S32.size s.o
  have h2 := S32.size s.l
  rw [Array.getElem?_setIfInBounds]
  simp only [List.getElem?_toArray, List.size_toArray, wCells_len]
  by_cases hi : 66 = i
  · subst hi
    rw [if_pos rfl, if_pos (by omega)]
    unfold wCells
    rw [List.getElem?_append_right (by simp; omega)]
    simp [h1, h2]
  · rw [if_neg hi]
    have hP : ∀ (P : List Value) (u z : Value), P.length = 66 → (P ++ [u])[i]? = (P ++ [z])[i]? := fun P u z hp => by
      by_cases h3 : i < 66
      · rw [List.getElem?_append_left (by omega), List.getElem?_append_left (by omega)]
      · rw [List.getElem?_eq_none (by simp; omega), List.getElem?_eq_none (by simp; omega)]
    exact hP _ _ _ (by simp; omega)
theorem heap_setCells_ne {b : Nat} : ∀ (vs : List Value) (o : Nat) (w : World) {R : Nat}, R ≠ b → (w.setCells b o vs).heap[R]? = w.heap[R]?
  | [], _, _, _, _ => rfl
  | v :: r, o, w, R, h => (heap_setCells_ne r (o + 1) _ h).trans (heap_set_ne w ⟨b, o, none⟩ v (fun e => h e.symm))
theorem wp_load_midV {op : Oper} {a : Act} {w : World} {K : Act → World → Prop} {Q : Exit → Act → World → Prop} (x : Operand) (ho : op.op = .load 29 x)
    (b o : Nat) (hx : a.eval x = .pointer (some ⟨b, o, none⟩)) (c : S32) (hc : w.rangeAt b o c.V.toList) (h : K (a.put op.dst (.agg c.V)) w) : op.wp Tryd.prog a w K Q := by
  refine wp_load_mid 29 x ho b o hx c.V.toList _ hc Tryd.underlying29 rfl (by rw [Array.length_toList, c.size]; exact infoSum) ?_
  rw [Array.toArray_toList]; exact h
theorem wp_store_midV {op : Oper} {a : Act} {w : World} {K : Act → World → Prop} {Q : Exit → Act → World → Prop} (x y : Operand) (ho : op.op = .store 29 x y)
    (b o : Nat) (c : S32) (hx : a.eval x = .pointer (some ⟨b, o, none⟩)) (hy : a.eval y = .agg c.V) (ht : w.there b o 32) (h : K (a.put op.dst undef) (w.setCells b o c.V.toList)) : op.wp Tryd.prog a w K Q :=
  wp_store_mid 29 x y ho b o c.V hx hy (by rw [c.size]; exact ht) (by rw [c.size]; exact infoSum) c.one h
theorem and_one (n : Nat) (hn : n < 2 ^ 62) : Go.bits .and .i64 (n : Int) 1 = ((n % 2 : Nat) : Int) := by
  have h1 : ∀ n : Nat, n < 2 ^ 62 → (BitVec.ofInt 64 (n : Int)).toNat = n := fun n h => by
    rw [BitVec.toNat_ofInt]
    have : (2 : Nat) ^ 62 = 4611686018427387904 := by decide
    omega
  show IntKind.i64.wrap ((BitVec.ofInt 64 (n : Int) &&& BitVec.ofInt 64 ((1 : Nat) : Int)).toNat : Nat) = _
  rw [BitVec.toNat_and, h1 n hn, h1 1 (by decide), IntKind.wrap_i64, Nat.and_one_is_mod]
  omega
theorem climbE_even {a e : Nat} (h : a % 2 = 0) (h0 : a ≠ 0) : climbE a e = climbE (a / 2) (e / 2) := by rw [climbE, dif_pos ⟨h, h0⟩]
theorem take_side {s : WSt S32} {x : S32} (he : s.e ≠ 0) (hs : sideW s.a s.e = true) {a e : Nat} (hc : climbE s.a s.e = (a, e)) : s.take nodeS x = ⟨a / 2, e / 2, nodeS x s.o, nodeS x s.l, s.st⟩ := by
  unfold WSt.take nextP nodeD
  rw [if_neg he, if_pos hs, hc]
  simp only [hs, if_true]
theorem take_lt {s : WSt S32} {x : S32} (he : s.e ≠ 0) (hs : sideW s.a s.e = false) : s.take nodeS x = ⟨s.a / 2, s.e / 2, s.o, nodeS s.l x, s.st⟩ := by
  unfold WSt.take nextP nodeD
  rw [if_neg he]
  simp only [hs, if_false, Bool.false_eq_true]
end Go.Proofs.YtjicjadibaomkaaDoor
set_option linter.unusedSimpArgs false
set_option linter.unusedVariables false
set_option maxHeartbeats 2000000
set_option maxRecDepth 100000
namespace Go.Proofs.YtjicjadibaomkaaDoor
open Go.RowKit Go.Hs Go.Dg

theorem up_any' (b : Nat) (s : WSt S32) (hs : s.a ≤ 1000 ∧ s.e ≤ 1000) (w : World) (hW : WAt w.heap b s) : Calls Tryd.prog 42 #[.pointer (some ⟨b, 0, none⟩)] w fun e w' => e = .returned (.tuple #[]) ∧ WAt w'.heap b { s with a := s.a / 2, e := s.e / 2 } ∧ Ext [b] w w' := by
  have h0 := hW.a
  have h1 := hW.e
  have f0 := hW.free 0
  have f1 := hW.free 1
  go_enter Tryd.func42, Tryd.ntmps42
  refine wp_region_noPanic ?_
  refine wp_region_held_drew (S := (fun _ => True)) (by kernel_rfl) ?_ (fun hHeld => ?_)
  · ((try dsimp only); skip)
  refine wpAnyH_take (i := 0) (v := ?_) rfl (by kernel_rfl) (by kernel_rfl) (by kernel_rfl) (fun _ _ _ h => h) (Or.inl ⟨by rfl, ?_⟩) (by assumption) ?_
  rotate_left
  · (intro w hSw; (try dsimp only at hSw); first | (go_simp; done) | (go_simp; with_reducible rfl))
  try simp only [Act.put, List.getElem_toArray, List.getElem_cons_succ, List.getElem_cons_zero, List.setIfInBounds_toArray, List.set_cons_zero, List.set_cons_succ]
  refine wpAnyH_take (i := 1) (v := ?_) rfl (by kernel_rfl) (by kernel_rfl) (by kernel_rfl) (fun _ _ _ h => h) (Or.inl ⟨by rfl, ?_⟩) (by assumption) ?_
  rotate_left
  · (intro w hSw; (try dsimp only at hSw); first | (go_simp; done) | (go_simp; with_reducible rfl))
  try simp only [Act.put, List.getElem_toArray, List.getElem_cons_succ, List.getElem_cons_zero, List.setIfInBounds_toArray, List.set_cons_zero, List.set_cons_succ]
  refine wpAnyH_take (i := 2) (v := ?_) rfl (by kernel_rfl) (by kernel_rfl) (by kernel_rfl) (fun _ _ _ h => h) (Or.inl ⟨by rfl, ?_⟩) (by assumption) ?_
  rotate_left
  · (intro w hSw; (try dsimp only at hSw); first | (go_simp; done) | (go_simp; with_reducible rfl))
  try simp only [Act.put, List.getElem_toArray, List.getElem_cons_succ, List.getElem_cons_zero, List.setIfInBounds_toArray, List.set_cons_zero, List.set_cons_succ]
  refine wpAnyH_take (i := 3) (v := ?_) rfl (by kernel_rfl) (by kernel_rfl) (by kernel_rfl) (fun _ _ _ h => h) (Or.inl ⟨by rfl, ?_⟩) (by assumption) ?_
  rotate_left
  · (intro w hSw; (try dsimp only at hSw); first | (go_simp; done) | (go_simp; with_reducible rfl))
  try simp only [Act.put, List.getElem_toArray, List.getElem_cons_succ, List.getElem_cons_zero, List.setIfInBounds_toArray, List.set_cons_zero, List.set_cons_succ]
  refine wpAnyH_take (i := 4) (v := ?_) rfl (by kernel_rfl) (by kernel_rfl) (by kernel_rfl) (fun _ _ _ h => h) (Or.inl ⟨by rfl, ?_⟩) (by assumption) ?_
  rotate_left
  · (intro w hSw; (try dsimp only at hSw); first | (go_simp; done) | (go_simp; with_reducible rfl))
  try simp only [Act.put, List.getElem_toArray, List.getElem_cons_succ, List.getElem_cons_zero, List.setIfInBounds_toArray, List.set_cons_zero, List.set_cons_succ]
  refine wpAnyH_take (i := 7) (v := ?_) rfl (by kernel_rfl) (by kernel_rfl) (by kernel_rfl) (fun _ _ _ h => h) (Or.inl ⟨by rfl, ?_⟩) (by assumption) ?_
  rotate_left
  · (intro w hSw; (try dsimp only at hSw); first | (go_simp; done) | (go_simp; with_reducible rfl))
  try simp only [Act.put, List.getElem_toArray, List.getElem_cons_succ, List.getElem_cons_zero, List.setIfInBounds_toArray, List.set_cons_zero, List.set_cons_succ]
  refine wpAnyH_take (i := 8) (v := ?_) rfl (by kernel_rfl) (by kernel_rfl) (by kernel_rfl) (fun _ _ _ h => h) (Or.inl ⟨by rfl, ?_⟩) (by assumption) ?_
  rotate_left
  · (intro w hSw; (try dsimp only at hSw); first | (go_simp; done) | (go_simp; with_reducible rfl))
  try simp only [Act.put, List.getElem_toArray, List.getElem_cons_succ, List.getElem_cons_zero, List.setIfInBounds_toArray, List.set_cons_zero, List.set_cons_succ]
  refine wpAnyH_take (i := 9) (v := ?_) rfl (by kernel_rfl) (by kernel_rfl) (by kernel_rfl) (fun _ _ _ h => h) (Or.inl ⟨by rfl, ?_⟩) (by assumption) ?_
  rotate_left
  · (intro w hSw; (try dsimp only at hSw); first | (go_simp; done) | (go_simp; with_reducible rfl))
  try simp only [Act.put, List.getElem_toArray, List.getElem_cons_succ, List.getElem_cons_zero, List.setIfInBounds_toArray, List.set_cons_zero, List.set_cons_succ]
  refine wpAnyH_ready (rs := [5, 10]) (by kernel_rfl) (by simp) ?_
  refine AllReadyH.cons rfl (fun K hK => ?_) (AllReadyH.cons rfl (fun K hK => ?_) AllReadyH.nil)
  · rw [if_pos (by rfl)]
    go_simp
    refine hK.out _ _ ?_ (fun hHeld => ?_)
    · ((try dsimp only); skip)
    clear hK K
    try simp only [Act.put, List.getElem_toArray, List.getElem_cons_succ, List.getElem_cons_zero, List.setIfInBounds_toArray, List.set_cons_zero, List.set_cons_succ]
    refine wpAnyH_take (i := 6) (v := ?_) rfl (by kernel_rfl) (by kernel_rfl) (by kernel_rfl) (fun _ _ _ h => h) (Or.inl ⟨by rfl, ?_⟩) (by assumption) ?_
    rotate_left
    · (intro w hSw; (try dsimp only at hSw); first | (go_simp; done) | (go_simp; with_reducible rfl))
    try simp only [Act.put, List.getElem_toArray, List.getElem_cons_succ, List.getElem_cons_zero, List.setIfInBounds_toArray, List.set_cons_zero, List.set_cons_succ]
    refine wpAnyH_ready (rs := [10]) (by kernel_rfl) (by simp) ?_
    refine AllReadyH.cons rfl (fun K hK => ?_) AllReadyH.nil
    rw [if_pos (by rfl)]
    go_simp
    refine hK.out _ _ ?_ (fun hHeld => ?_)
    · ((try dsimp only); skip)
    clear hK K
    try simp only [Act.put, List.getElem_toArray, List.getElem_cons_succ, List.getElem_cons_zero, List.setIfInBounds_toArray, List.set_cons_zero, List.set_cons_succ]
    refine wpAnyH_take (i := 11) (v := ?_) rfl (by kernel_rfl) (by kernel_rfl) (by kernel_rfl) (fun _ _ _ h => h) (Or.inl ⟨by rfl, ?_⟩) (by assumption) ?_
    rotate_left
    · (intro w hSw; (try dsimp only at hSw); first | (go_simp; done) | (go_simp; with_reducible rfl))
    try simp only [Act.put, List.getElem_toArray, List.getElem_cons_succ, List.getElem_cons_zero, List.setIfInBounds_toArray, List.set_cons_zero, List.set_cons_succ]
    refine wpAnyH_take (i := 12) (v := ?_) rfl (by kernel_rfl) (by kernel_rfl) (by kernel_rfl) (fun _ _ _ h => h) (Or.inl ⟨by rfl, ?_⟩) (by assumption) ?_
    rotate_left
    · (intro w hSw; (try dsimp only at hSw); first | (go_simp; done) | (go_simp; with_reducible rfl))
    try simp only [Act.put, List.getElem_toArray, List.getElem_cons_succ, List.getElem_cons_zero, List.setIfInBounds_toArray, List.set_cons_zero, List.set_cons_succ]
    refine wpAnyH_take (i := 13) (v := ?_) rfl (by kernel_rfl) (by kernel_rfl) (by kernel_rfl) (fun _ _ _ h => h) (Or.inl ⟨by rfl, ?_⟩) (by assumption) ?_
    rotate_left
    · (intro w hSw; (try dsimp only at hSw); first | (go_simp; done) | (go_simp; with_reducible rfl))
    try simp only [Act.put, List.getElem_toArray, List.getElem_cons_succ, List.getElem_cons_zero, List.setIfInBounds_toArray, List.set_cons_zero, List.set_cons_succ]
    refine wpAnyH_ready (rs := [14]) (by kernel_rfl) (by simp) ?_
    refine AllReadyH.cons rfl (fun K hK => ?_) AllReadyH.nil
    rw [if_pos (by rfl)]
    go_simp
    refine hK.out _ _ ?_ (fun hHeld => ?_)
    · ((try dsimp only); skip)
    clear hK K
    try simp only [Act.put, List.getElem_toArray, List.getElem_cons_succ, List.getElem_cons_zero, List.setIfInBounds_toArray, List.set_cons_zero, List.set_cons_succ]
    refine wpAnyH_take (i := 15) (v := ?_) rfl (by kernel_rfl) (by kernel_rfl) (by kernel_rfl) (fun _ _ _ h => h) (Or.inl ⟨by rfl, ?_⟩) (by assumption) ?_
    rotate_left
    · (intro w hSw; (try dsimp only at hSw); first | (go_simp; done) | (go_simp; with_reducible rfl))
    try simp only [Act.put, List.getElem_toArray, List.getElem_cons_succ, List.getElem_cons_zero, List.setIfInBounds_toArray, List.set_cons_zero, List.set_cons_succ]
    refine wpAnyH_take (i := 16) (v := ?_) rfl (by kernel_rfl) (by kernel_rfl) (by kernel_rfl) (fun _ _ _ h => h) (Or.inl ⟨by rfl, ?_⟩) (by assumption) ?_
    rotate_left
    · (intro w hSw; (try dsimp only at hSw); first | (go_simp; done) | (go_simp; with_reducible rfl))
    try simp only [Act.put, List.getElem_toArray, List.getElem_cons_succ, List.getElem_cons_zero, List.setIfInBounds_toArray, List.set_cons_zero, List.set_cons_succ]
    refine wpAnyH_ready (rs := [17]) (by kernel_rfl) (by simp) ?_
    refine AllReadyH.cons rfl (fun K hK => ?_) AllReadyH.nil
    rw [if_pos (by rfl)]
    go_simp
    refine hK.out _ _ ?_ (fun hHeld => ?_)
    · ((try dsimp only); skip)
    clear hK K
    try simp only [Act.put, List.getElem_toArray, List.getElem_cons_succ, List.getElem_cons_zero, List.setIfInBounds_toArray, List.set_cons_zero, List.set_cons_succ]
    refine wpAnyH_done (by kernel_rfl) ?_ _
    refine NoPanic.normal ?_
    go_end0
    refine ⟨rfl, ?_, ?_⟩
    · exact ((show WAt w.drew.heap b s from hW).setA (s.a / 2)).setE (s.e / 2)
    · exact ((Ext.refl [b] w).drew.set' (by simp) _ _).set' (by simp) _ _
  · rw [if_pos (by rfl)]
    go_simp
    refine hK.out _ _ ?_ (fun hHeld => ?_)
    · ((try dsimp only); skip)
    clear hK K
    try simp only [Act.put, List.getElem_toArray, List.getElem_cons_succ, List.getElem_cons_zero, List.setIfInBounds_toArray, List.set_cons_zero, List.set_cons_succ]
    refine wpAnyH_take (i := 11) (v := ?_) rfl (by kernel_rfl) (by kernel_rfl) (by kernel_rfl) (fun _ _ _ h => h) (Or.inl ⟨by rfl, ?_⟩) (by assumption) ?_
    rotate_left
    · (intro w hSw; (try dsimp only at hSw); first | (go_simp; done) | (go_simp; with_reducible rfl))
    try simp only [Act.put, List.getElem_toArray, List.getElem_cons_succ, List.getElem_cons_zero, List.setIfInBounds_toArray, List.set_cons_zero, List.set_cons_succ]
    refine wpAnyH_ready (rs := [5]) (by kernel_rfl) (by simp) ?_
    refine AllReadyH.cons rfl (fun K hK => ?_) AllReadyH.nil
    rw [if_pos (by rfl)]
    go_simp
    refine hK.out _ _ ?_ (fun hHeld => ?_)
    · ((try dsimp only); skip)
    clear hK K
    try simp only [Act.put, List.getElem_toArray, List.getElem_cons_succ, List.getElem_cons_zero, List.setIfInBounds_toArray, List.set_cons_zero, List.set_cons_succ]
    refine wpAnyH_take (i := 6) (v := ?_) rfl (by kernel_rfl) (by kernel_rfl) (by kernel_rfl) (fun _ _ _ h => h) (Or.inl ⟨by rfl, ?_⟩) (by assumption) ?_
    rotate_left
    · (intro w hSw; (try dsimp only at hSw); first | (go_simp; done) | (go_simp; with_reducible rfl))
    try simp only [Act.put, List.getElem_toArray, List.getElem_cons_succ, List.getElem_cons_zero, List.setIfInBounds_toArray, List.set_cons_zero, List.set_cons_succ]
    refine wpAnyH_take (i := 12) (v := ?_) rfl (by kernel_rfl) (by kernel_rfl) (by kernel_rfl) (fun _ _ _ h => h) (Or.inl ⟨by rfl, ?_⟩) (by assumption) ?_
    rotate_left
    · (intro w hSw; (try dsimp only at hSw); first | (go_simp; done) | (go_simp; with_reducible rfl))
    try simp only [Act.put, List.getElem_toArray, List.getElem_cons_succ, List.getElem_cons_zero, List.setIfInBounds_toArray, List.set_cons_zero, List.set_cons_succ]
    refine wpAnyH_take (i := 13) (v := ?_) rfl (by kernel_rfl) (by kernel_rfl) (by kernel_rfl) (fun _ _ _ h => h) (Or.inl ⟨by rfl, ?_⟩) (by assumption) ?_
    rotate_left
    · (intro w hSw; (try dsimp only at hSw); first | (go_simp; done) | (go_simp; with_reducible rfl))
    try simp only [Act.put, List.getElem_toArray, List.getElem_cons_succ, List.getElem_cons_zero, List.setIfInBounds_toArray, List.set_cons_zero, List.set_cons_succ]
    refine wpAnyH_ready (rs := [14]) (by kernel_rfl) (by simp) ?_
    refine AllReadyH.cons rfl (fun K hK => ?_) AllReadyH.nil
    rw [if_pos (by rfl)]
    go_simp
    refine hK.out _ _ ?_ (fun hHeld => ?_)
    · ((try dsimp only); skip)
    clear hK K
    try simp only [Act.put, List.getElem_toArray, List.getElem_cons_succ, List.getElem_cons_zero, List.setIfInBounds_toArray, List.set_cons_zero, List.set_cons_succ]
    refine wpAnyH_take (i := 15) (v := ?_) rfl (by kernel_rfl) (by kernel_rfl) (by kernel_rfl) (fun _ _ _ h => h) (Or.inl ⟨by rfl, ?_⟩) (by assumption) ?_
    rotate_left
    · (intro w hSw; (try dsimp only at hSw); first | (go_simp; done) | (go_simp; with_reducible rfl))
    try simp only [Act.put, List.getElem_toArray, List.getElem_cons_succ, List.getElem_cons_zero, List.setIfInBounds_toArray, List.set_cons_zero, List.set_cons_succ]
    refine wpAnyH_take (i := 16) (v := ?_) rfl (by kernel_rfl) (by kernel_rfl) (by kernel_rfl) (fun _ _ _ h => h) (Or.inl ⟨by rfl, ?_⟩) (by assumption) ?_
    rotate_left
    · (intro w hSw; (try dsimp only at hSw); first | (go_simp; done) | (go_simp; with_reducible rfl))
    try simp only [Act.put, List.getElem_toArray, List.getElem_cons_succ, List.getElem_cons_zero, List.setIfInBounds_toArray, List.set_cons_zero, List.set_cons_succ]
    refine wpAnyH_ready (rs := [17]) (by kernel_rfl) (by simp) ?_
    refine AllReadyH.cons rfl (fun K hK => ?_) AllReadyH.nil
    rw [if_pos (by rfl)]
    go_simp
    refine hK.out _ _ ?_ (fun hHeld => ?_)
    · ((try dsimp only); skip)
    clear hK K
    try simp only [Act.put, List.getElem_toArray, List.getElem_cons_succ, List.getElem_cons_zero, List.setIfInBounds_toArray, List.set_cons_zero, List.set_cons_succ]
    refine wpAnyH_done (by kernel_rfl) ?_ _
    refine NoPanic.normal ?_
    go_end0
    refine ⟨rfl, ?_, ?_⟩
    · exact ((show WAt w.drew.heap b s from hW).setA (s.a / 2)).setE (s.e / 2)
    · exact ((Ext.refl [b] w).drew.set' (by simp) _ _).set' (by simp) _ _
theorem take_any (b : Nat) (s : WSt S32) (hs : s.a ≤ 1000 ∧ s.e ≤ 1000) (x : S32) (w : World) (hW : WAt w.heap b s) : Calls Tryd.prog 39 #[.pointer (some ⟨b, 0, none⟩), .agg x.V] w fun e w' => e = .returned (.tuple #[]) ∧ WAt w'.heap b (s.take nodeS x) ∧ Ext [b] w w' := by
  go_enter Tryd.func39, Tryd.ntmps39
  go_upto_region 1 with fail
  have hR := heap_new w (.cells x.V 29)
  have hW0 : WAt (w.alloc (.cells x.V 29)).heap b s := heap_old' _ _ hW
  have hx0 := (Ext.refl [] w).alloc (.cells x.V 29)
  have hbl := lt_of_heap hW
  generalize w.alloc (.cells x.V 29) = W at hR hW0 hx0 ⊢
  obtain ⟨R, hRR⟩ : ∃ R, w.heap.size = R := ⟨_, rfl⟩
  rw [hRR] at hR hbl ⊢
  have hRb : R ≠ b := by omega
  have h0 := hW0.a
  have h1 := hW0.e
  have f66 := hW0.free 66
  have c66 := hW0.st
  by_cases he : s.e = 0
  · have he' : (s.e : Int) = 0 := by omega
    go_wp2
    refine bodyPost_ret (results_none rfl _ _ _) rfl ?_
    refine ⟨rfl, ?_, ?_⟩
    · have : s.take nodeS x = { s with st := true } := by unfold WSt.take; rw [if_pos he]
      rw [this]; exact hW0.setS true
    · exact (hx0.mono (fun _ h => by cases h)).set' (by simp) _ _
  · have he' : ¬ (s.e : Int) = 0 := by omega
    have hand := and_one s.a (by omega)
    by_cases ho : s.a % 2 = 1
    · rw [ho] at hand
      go_upto_region 3 with fail
      refine wp_region_stl (by kernel_rfl) (by kernel_rfl) ?_
      refine still_val (v := ?_) (by rfl) ?_ ?_
      rotate_left
      · first | (go_simp; done) | (go_simp; with_reducible rfl)
      try simp only [Act.put, List.getElem_toArray, List.getElem_cons_succ, List.getElem_cons_zero, List.setIfInBounds_toArray, List.set_cons_zero, List.set_cons_succ]
      refine still_val (v := ?_) (by rfl) ?_ ?_
      rotate_left
      · first | (go_simp; done) | (go_simp; with_reducible rfl)
      try simp only [Act.put, List.getElem_toArray, List.getElem_cons_succ, List.getElem_cons_zero, List.setIfInBounds_toArray, List.set_cons_zero, List.set_cons_succ]
      refine still_val (v := ?_) (by rfl) ?_ ?_
      rotate_left
      · first | (go_simp; done) | (go_simp; with_reducible rfl)
      try simp only [Act.put, List.getElem_toArray, List.getElem_cons_succ, List.getElem_cons_zero, List.setIfInBounds_toArray, List.set_cons_zero, List.set_cons_succ]
      refine still_val (v := ?_) (by rfl) ?_ ?_
      rotate_left
      · first | (go_simp; done) | (go_simp; with_reducible rfl)
      try simp only [Act.put, List.getElem_toArray, List.getElem_cons_succ, List.getElem_cons_zero, List.setIfInBounds_toArray, List.set_cons_zero, List.set_cons_succ]
      refine still_val (v := ?_) (by rfl) ?_ ?_
      rotate_left
      · first | (go_simp; done) | (go_simp; with_reducible rfl)
      try simp only [Act.put, List.getElem_toArray, List.getElem_cons_succ, List.getElem_cons_zero, List.setIfInBounds_toArray, List.set_cons_zero, List.set_cons_succ]
      refine still_val (v := ?_) (by rfl) ?_ ?_
      rotate_left
      · first | (go_simp; done) | (go_simp; with_reducible rfl)
      try simp only [Act.put, List.getElem_toArray, List.getElem_cons_succ, List.getElem_cons_zero, List.setIfInBounds_toArray, List.set_cons_zero, List.set_cons_succ]
      refine still_val (v := ?_) (by rfl) ?_ ?_
      rotate_left
      · first | (go_simp; done) | (go_simp; with_reducible rfl)
      try simp only [Act.put, List.getElem_toArray, List.getElem_cons_succ, List.getElem_cons_zero, List.setIfInBounds_toArray, List.set_cons_zero, List.set_cons_succ]
      refine still_not (by rfl) ?_
      try simp only [Act.put, List.getElem_toArray, List.getElem_cons_succ, List.getElem_cons_zero, List.setIfInBounds_toArray, List.set_cons_zero, List.set_cons_succ]
      refine still_not (by rfl) ?_
      try simp only [Act.put, List.getElem_toArray, List.getElem_cons_succ, List.getElem_cons_zero, List.setIfInBounds_toArray, List.set_cons_zero, List.set_cons_succ]
      refine still_not (by rfl) ?_
      try simp only [Act.put, List.getElem_toArray, List.getElem_cons_succ, List.getElem_cons_zero, List.setIfInBounds_toArray, List.set_cons_zero, List.set_cons_succ]
      refine still_not (by rfl) ?_
      try simp only [Act.put, List.getElem_toArray, List.getElem_cons_succ, List.getElem_cons_zero, List.setIfInBounds_toArray, List.set_cons_zero, List.set_cons_succ]
      refine still_not (by rfl) ?_
      try simp only [Act.put, List.getElem_toArray, List.getElem_cons_succ, List.getElem_cons_zero, List.setIfInBounds_toArray, List.set_cons_zero, List.set_cons_succ]
      refine still_not (by rfl) ?_
      try simp only [Act.put, List.getElem_toArray, List.getElem_cons_succ, List.getElem_cons_zero, List.setIfInBounds_toArray, List.set_cons_zero, List.set_cons_succ]
      refine still_not (by rfl) ?_
      try simp only [Act.put, List.getElem_toArray, List.getElem_cons_succ, List.getElem_cons_zero, List.setIfInBounds_toArray, List.set_cons_zero, List.set_cons_succ]
      refine still_not (by rfl) ?_
      try simp only [Act.put, List.getElem_toArray, List.getElem_cons_succ, List.getElem_cons_zero, List.setIfInBounds_toArray, List.set_cons_zero, List.set_cons_succ]
      refine still_not (by rfl) ?_
      try simp only [Act.put, List.getElem_toArray, List.getElem_cons_succ, List.getElem_cons_zero, List.setIfInBounds_toArray, List.set_cons_zero, List.set_cons_succ]
      refine still_val (v := ?_) (by rfl) ?_ ?_
      rotate_left
      · first | (go_simp; done) | (go_simp; with_reducible rfl)
      try simp only [Act.put, List.getElem_toArray, List.getElem_cons_succ, List.getElem_cons_zero, List.setIfInBounds_toArray, List.set_cons_zero, List.set_cons_succ]
      refine still_end ?_
      go_upto_region 4 with fail
      go_cut [] (fun wx => ∃ y1 y2, WAt wx.heap b { s with o := y1, l := y2 } ∧ Hid (y1 = nodeS x s.o ∧ y2 = nodeS x s.l) ∧ wx.heap[R]? = some (.cells x.V 29 (0, 0)) ∧ Ext [b] w wx)
      case first =>
        refine wp_region_noPanic ?_
        refine wp_region_held_drew (S := (fun w' => w'.heap[R]? = some (.cells x.V 29 (0, 0)))) (by kernel_rfl) ?_ (fun hHeld => ?_)
        · ((try dsimp only); exact hR)
        refine wpAnyH_take (i := 0) (v := ?_) rfl (by kernel_rfl) (by kernel_rfl) (by kernel_rfl) (fun _ _ _ h => h) (Or.inl ⟨by rfl, ?_⟩) (by assumption) ?_
        rotate_left
        · (intro w hSw; (try dsimp only at hSw); first | (go_simp; done) | (go_simp; with_reducible rfl))
        try simp only [Act.put, List.getElem_toArray, List.getElem_cons_succ, List.getElem_cons_zero, List.setIfInBounds_toArray, List.set_cons_zero, List.set_cons_succ]
        refine wpAnyH_take (i := 1) (v := ?_) rfl (by kernel_rfl) (by kernel_rfl) (by kernel_rfl) (fun _ _ _ h => h) (Or.inl ⟨by rfl, ?_⟩) (by assumption) ?_
        rotate_left
        · (intro w hSw; (try dsimp only at hSw); first | (go_simp; done) | (go_simp; with_reducible rfl))
        try simp only [Act.put, List.getElem_toArray, List.getElem_cons_succ, List.getElem_cons_zero, List.setIfInBounds_toArray, List.set_cons_zero, List.set_cons_succ]
        refine wpAnyH_take (i := 2) (v := _) rfl (by kernel_rfl) (by kernel_rfl) (by kernel_rfl) (fun _ _ _ h => h) (yieldsIf_of (.agg x.V) (by rfl) (fun w' hw => exec_load_rowV _ rfl R rfl x w' ⟨_, hw⟩)) (by assumption) ?_
        try simp only [Act.put, List.getElem_toArray, List.getElem_cons_succ, List.getElem_cons_zero, List.setIfInBounds_toArray, List.set_cons_zero, List.set_cons_succ]
        refine wpAnyH_take (i := 3) (v := ?_) rfl (by kernel_rfl) (by kernel_rfl) (by kernel_rfl) (fun _ _ _ h => h) (Or.inl ⟨by rfl, ?_⟩) (by assumption) ?_
        rotate_left
        · (intro w hSw; (try dsimp only at hSw); first | (go_simp; done) | (go_simp; with_reducible rfl))
        try simp only [Act.put, List.getElem_toArray, List.getElem_cons_succ, List.getElem_cons_zero, List.setIfInBounds_toArray, List.set_cons_zero, List.set_cons_succ]
        refine wpAnyH_take (i := 4) (v := ?_) rfl (by kernel_rfl) (by kernel_rfl) (by kernel_rfl) (fun _ _ _ h => h) (Or.inl ⟨by rfl, ?_⟩) (by assumption) ?_
        rotate_left
        · (intro w hSw; (try dsimp only at hSw); first | (go_simp; done) | (go_simp; with_reducible rfl))
        try simp only [Act.put, List.getElem_toArray, List.getElem_cons_succ, List.getElem_cons_zero, List.setIfInBounds_toArray, List.set_cons_zero, List.set_cons_succ]
        refine wpAnyH_take (i := 5) (v := ?_) rfl (by kernel_rfl) (by kernel_rfl) (by kernel_rfl) (fun _ _ _ h => h) (Or.inl ⟨by rfl, ?_⟩) (by assumption) ?_
        rotate_left
        · (intro w hSw; (try dsimp only at hSw); first | (go_simp; done) | (go_simp; with_reducible rfl))
        try simp only [Act.put, List.getElem_toArray, List.getElem_cons_succ, List.getElem_cons_zero, List.setIfInBounds_toArray, List.set_cons_zero, List.set_cons_succ]
        refine wpAnyH_take (i := 8) (v := _) rfl (by kernel_rfl) (by kernel_rfl) (by kernel_rfl) (fun _ _ _ h => h) (yieldsIf_of (.agg x.V) (by rfl) (fun w' hw => exec_load_rowV _ rfl R rfl x w' ⟨_, hw⟩)) (by assumption) ?_
        try simp only [Act.put, List.getElem_toArray, List.getElem_cons_succ, List.getElem_cons_zero, List.setIfInBounds_toArray, List.set_cons_zero, List.set_cons_succ]
        refine wpAnyH_take (i := 9) (v := ?_) rfl (by kernel_rfl) (by kernel_rfl) (by kernel_rfl) (fun _ _ _ h => h) (Or.inl ⟨by rfl, ?_⟩) (by assumption) ?_
        rotate_left
        · (intro w hSw; (try dsimp only at hSw); first | (go_simp; done) | (go_simp; with_reducible rfl))
        try simp only [Act.put, List.getElem_toArray, List.getElem_cons_succ, List.getElem_cons_zero, List.setIfInBounds_toArray, List.set_cons_zero, List.set_cons_succ]
        refine wpAnyH_take (i := 10) (v := ?_) rfl (by kernel_rfl) (by kernel_rfl) (by kernel_rfl) (fun _ _ _ h => h) (Or.inl ⟨by rfl, ?_⟩) (by assumption) ?_
        rotate_left
        · (intro w hSw; (try dsimp only at hSw); first | (go_simp; done) | (go_simp; with_reducible rfl))
        try simp only [Act.put, List.getElem_toArray, List.getElem_cons_succ, List.getElem_cons_zero, List.setIfInBounds_toArray, List.set_cons_zero, List.set_cons_succ]
        refine wpAnyH_take (i := 11) (v := ?_) rfl (by kernel_rfl) (by kernel_rfl) (by kernel_rfl) (fun _ _ _ h => h) (Or.inl ⟨by rfl, ?_⟩) (by assumption) ?_
        rotate_left
        · (intro w hSw; (try dsimp only at hSw); first | (go_simp; done) | (go_simp; with_reducible rfl))
        try simp only [Act.put, List.getElem_toArray, List.getElem_cons_succ, List.getElem_cons_zero, List.setIfInBounds_toArray, List.set_cons_zero, List.set_cons_succ]
        refine wpAnyH_ready (rs := [6, 12]) (by kernel_rfl) (by simp) ?_
        refine AllReadyH.cons rfl (fun K hK => ?_) (AllReadyH.cons rfl (fun K hK => ?_) AllReadyH.nil)
        · rw [if_pos (by rfl)]
          refine wp_load_midV _ rfl b 2 rfl s.o hW0.o ?_
          refine hK.out _ _ ?_ (fun hHeld => ?_)
          · ((try dsimp only); exact hHeld)
          clear hK K
          try simp only [Act.put, List.getElem_toArray, List.getElem_cons_succ, List.getElem_cons_zero, List.setIfInBounds_toArray, List.set_cons_zero, List.set_cons_succ]
          refine wpAnyH_ready (rs := [7, 12]) (by kernel_rfl) (by simp) ?_
          refine AllReadyH.cons rfl (fun K hK => ?_) (AllReadyH.cons rfl (fun K hK => ?_) AllReadyH.nil)
          · go_simp
            (go_at_call 35; refine (nodeY_any x s.o _).mono ?_; rintro e w1 ⟨y1, rfl, hy1, hx1⟩; have hW1 : WAt w1.heap b s := Ext.same hx1 (by exact hW0) List.not_mem_nil; have hR1 := hx1.same hHeld List.not_mem_nil)
            go_wp2_with fail
            refine hK.out _ _ ?_ (fun hHeld => ?_)
            · ((try dsimp only); exact hR1)
            clear hK K
            try simp only [Act.put, List.getElem_toArray, List.getElem_cons_succ, List.getElem_cons_zero, List.setIfInBounds_toArray, List.set_cons_zero, List.set_cons_succ]
            refine wpAnyH_ready (rs := [12]) (by kernel_rfl) (by simp) ?_
            refine AllReadyH.cons rfl (fun K hK => ?_) AllReadyH.nil
            rw [if_pos (by rfl)]
            refine wp_load_midV _ rfl b 34 rfl s.l hW1.l ?_
            refine hK.out _ _ ?_ (fun hHeld => ?_)
            · ((try dsimp only); exact hHeld)
            clear hK K
            try simp only [Act.put, List.getElem_toArray, List.getElem_cons_succ, List.getElem_cons_zero, List.setIfInBounds_toArray, List.set_cons_zero, List.set_cons_succ]
            refine wpAnyH_ready (rs := [13]) (by kernel_rfl) (by simp) ?_
            refine AllReadyH.cons rfl (fun K hK => ?_) AllReadyH.nil
            go_simp
            (go_at_call 35; refine (nodeY_any x s.l _).mono ?_; rintro e w2 ⟨y2, rfl, hy2, hx2⟩; have hW2 : WAt w2.heap b s := Ext.same hx2 (by exact hW1) List.not_mem_nil; have hR2 := hx2.same hHeld List.not_mem_nil)
            go_wp2_with fail
            refine hK.out _ _ ?_ (fun hHeld => ?_)
            · ((try dsimp only); exact hR2)
            clear hK K
            try simp only [Act.put, List.getElem_toArray, List.getElem_cons_succ, List.getElem_cons_zero, List.setIfInBounds_toArray, List.set_cons_zero, List.set_cons_succ]
            refine wpAnyH_take (i := 14) (v := ?_) rfl (by kernel_rfl) (by kernel_rfl) (by kernel_rfl) (fun _ _ _ h => h) (Or.inl ⟨by rfl, ?_⟩) (by assumption) ?_
            rotate_left
            · (intro w hSw; (try dsimp only at hSw); first | (go_simp; done) | (go_simp; with_reducible rfl))
            try simp only [Act.put, List.getElem_toArray, List.getElem_cons_succ, List.getElem_cons_zero, List.setIfInBounds_toArray, List.set_cons_zero, List.set_cons_succ]
            refine wpAnyH_take (i := 15) (v := ?_) rfl (by kernel_rfl) (by kernel_rfl) (by kernel_rfl) (fun _ _ _ h => h) (Or.inl ⟨by rfl, ?_⟩) (by assumption) ?_
            rotate_left
            · (intro w hSw; (try dsimp only at hSw); first | (go_simp; done) | (go_simp; with_reducible rfl))
            try simp only [Act.put, List.getElem_toArray, List.getElem_cons_succ, List.getElem_cons_zero, List.setIfInBounds_toArray, List.set_cons_zero, List.set_cons_succ]
            refine wpAnyH_ready (rs := [16]) (by kernel_rfl) (by simp) ?_
            refine AllReadyH.cons rfl (fun K hK => ?_) AllReadyH.nil
            rw [if_pos (by rfl)]
            (have hW3 := WAt.setO hW2 (y1); refine wp_store_midV _ _ rfl b 2 (y1) rfl rfl (hW2.there _ _ (by decide)) ?_)
            refine hK.out _ _ ?_ (fun hHeld => ?_)
            · ((try dsimp only); (rw [heap_setCells_ne _ _ _ hRb]; exact hHeld))
            clear hK K
            try simp only [Act.put, List.getElem_toArray, List.getElem_cons_succ, List.getElem_cons_zero, List.setIfInBounds_toArray, List.set_cons_zero, List.set_cons_succ]
            refine wpAnyH_take (i := 17) (v := ?_) rfl (by kernel_rfl) (by kernel_rfl) (by kernel_rfl) (fun _ _ _ h => h) (Or.inl ⟨by rfl, ?_⟩) (by assumption) ?_
            rotate_left
            · (intro w hSw; (try dsimp only at hSw); first | (go_simp; done) | (go_simp; with_reducible rfl))
            try simp only [Act.put, List.getElem_toArray, List.getElem_cons_succ, List.getElem_cons_zero, List.setIfInBounds_toArray, List.set_cons_zero, List.set_cons_succ]
            refine wpAnyH_take (i := 18) (v := ?_) rfl (by kernel_rfl) (by kernel_rfl) (by kernel_rfl) (fun _ _ _ h => h) (Or.inl ⟨by rfl, ?_⟩) (by assumption) ?_
            rotate_left
            · (intro w hSw; (try dsimp only at hSw); first | (go_simp; done) | (go_simp; with_reducible rfl))
            try simp only [Act.put, List.getElem_toArray, List.getElem_cons_succ, List.getElem_cons_zero, List.setIfInBounds_toArray, List.set_cons_zero, List.set_cons_succ]
            refine wpAnyH_ready (rs := [19]) (by kernel_rfl) (by simp) ?_
            refine AllReadyH.cons rfl (fun K hK => ?_) AllReadyH.nil
            rw [if_pos (by rfl)]
            (have hW4 := WAt.setL hW3 (y2); refine wp_store_midV _ _ rfl b 34 (y2) rfl rfl (hW3.there _ _ (by decide)) ?_)
            refine hK.out _ _ ?_ (fun hHeld => ?_)
            · ((try dsimp only); (rw [heap_setCells_ne _ _ _ hRb]; exact hHeld))
            clear hK K
            try simp only [Act.put, List.getElem_toArray, List.getElem_cons_succ, List.getElem_cons_zero, List.setIfInBounds_toArray, List.set_cons_zero, List.set_cons_succ]
            refine wpAnyH_done (by kernel_rfl) ?_ _
            refine NoPanic.normal ?_
            go_wp2
            go_meet
            exact ⟨y1, y2, hW4, Hs.hid ⟨hy1.out, hy2.out⟩, hHeld, (((hx0.drew.drew.trans0 hx1).trans0 hx2).mono (fun _ h => by cases h)).trans' (Ext.setCells (.inl (List.mem_singleton.2 rfl)) _ _ _ (Ext.setCells (.inl (List.mem_singleton.2 rfl)) _ _ _ (Ext.refl [b] _)))⟩
          · rw [if_pos (by rfl)]
            refine wp_load_midV _ rfl b 34 rfl s.l hW0.l ?_
            refine hK.out _ _ ?_ (fun hHeld => ?_)
            · ((try dsimp only); exact hHeld)
            clear hK K
            try simp only [Act.put, List.getElem_toArray, List.getElem_cons_succ, List.getElem_cons_zero, List.setIfInBounds_toArray, List.set_cons_zero, List.set_cons_succ]
            refine wpAnyH_ready (rs := [7]) (by kernel_rfl) (by simp) ?_
            refine AllReadyH.cons rfl (fun K hK => ?_) AllReadyH.nil
            go_simp
            (go_at_call 35; refine (nodeY_any x s.o _).mono ?_; rintro e w1 ⟨y1, rfl, hy1, hx1⟩; have hW1 : WAt w1.heap b s := Ext.same hx1 (by exact hW0) List.not_mem_nil; have hR1 := hx1.same hHeld List.not_mem_nil)
            go_wp2_with fail
            refine hK.out _ _ ?_ (fun hHeld => ?_)
            · ((try dsimp only); exact hR1)
            clear hK K
            try simp only [Act.put, List.getElem_toArray, List.getElem_cons_succ, List.getElem_cons_zero, List.setIfInBounds_toArray, List.set_cons_zero, List.set_cons_succ]
            refine wpAnyH_ready (rs := [13]) (by kernel_rfl) (by simp) ?_
            refine AllReadyH.cons rfl (fun K hK => ?_) AllReadyH.nil
            go_simp
            (go_at_call 35; refine (nodeY_any x s.l _).mono ?_; rintro e w2 ⟨y2, rfl, hy2, hx2⟩; have hW2 : WAt w2.heap b s := Ext.same hx2 (by exact hW1) List.not_mem_nil; have hR2 := hx2.same hHeld List.not_mem_nil)
            go_wp2_with fail
            refine hK.out _ _ ?_ (fun hHeld => ?_)
            · ((try dsimp only); exact hR2)
            clear hK K
            try simp only [Act.put, List.getElem_toArray, List.getElem_cons_succ, List.getElem_cons_zero, List.setIfInBounds_toArray, List.set_cons_zero, List.set_cons_succ]
            refine wpAnyH_take (i := 14) (v := ?_) rfl (by kernel_rfl) (by kernel_rfl) (by kernel_rfl) (fun _ _ _ h => h) (Or.inl ⟨by rfl, ?_⟩) (by assumption) ?_
            rotate_left
            · (intro w hSw; (try dsimp only at hSw); first | (go_simp; done) | (go_simp; with_reducible rfl))
            try simp only [Act.put, List.getElem_toArray, List.getElem_cons_succ, List.getElem_cons_zero, List.setIfInBounds_toArray, List.set_cons_zero, List.set_cons_succ]
            refine wpAnyH_take (i := 15) (v := ?_) rfl (by kernel_rfl) (by kernel_rfl) (by kernel_rfl) (fun _ _ _ h => h) (Or.inl ⟨by rfl, ?_⟩) (by assumption) ?_
            rotate_left
            · (intro w hSw; (try dsimp only at hSw); first | (go_simp; done) | (go_simp; with_reducible rfl))
            try simp only [Act.put, List.getElem_toArray, List.getElem_cons_succ, List.getElem_cons_zero, List.setIfInBounds_toArray, List.set_cons_zero, List.set_cons_succ]
            refine wpAnyH_ready (rs := [16]) (by kernel_rfl) (by simp) ?_
            refine AllReadyH.cons rfl (fun K hK => ?_) AllReadyH.nil
            rw [if_pos (by rfl)]
            (have hW3 := WAt.setO hW2 (y1); refine wp_store_midV _ _ rfl b 2 (y1) rfl rfl (hW2.there _ _ (by decide)) ?_)
            refine hK.out _ _ ?_ (fun hHeld => ?_)
            · ((try dsimp only); (rw [heap_setCells_ne _ _ _ hRb]; exact hHeld))
            clear hK K
            try simp only [Act.put, List.getElem_toArray, List.getElem_cons_succ, List.getElem_cons_zero, List.setIfInBounds_toArray, List.set_cons_zero, List.set_cons_succ]
            refine wpAnyH_take (i := 17) (v := ?_) rfl (by kernel_rfl) (by kernel_rfl) (by kernel_rfl) (fun _ _ _ h => h) (Or.inl ⟨by rfl, ?_⟩) (by assumption) ?_
            rotate_left
            · (intro w hSw; (try dsimp only at hSw); first | (go_simp; done) | (go_simp; with_reducible rfl))
            try simp only [Act.put, List.getElem_toArray, List.getElem_cons_succ, List.getElem_cons_zero, List.setIfInBounds_toArray, List.set_cons_zero, List.set_cons_succ]
            refine wpAnyH_take (i := 18) (v := ?_) rfl (by kernel_rfl) (by kernel_rfl) (by kernel_rfl) (fun _ _ _ h => h) (Or.inl ⟨by rfl, ?_⟩) (by assumption) ?_
            rotate_left
            · (intro w hSw; (try dsimp only at hSw); first | (go_simp; done) | (go_simp; with_reducible rfl))
            try simp only [Act.put, List.getElem_toArray, List.getElem_cons_succ, List.getElem_cons_zero, List.setIfInBounds_toArray, List.set_cons_zero, List.set_cons_succ]
            refine wpAnyH_ready (rs := [19]) (by kernel_rfl) (by simp) ?_
            refine AllReadyH.cons rfl (fun K hK => ?_) AllReadyH.nil
            rw [if_pos (by rfl)]
            (have hW4 := WAt.setL hW3 (y2); refine wp_store_midV _ _ rfl b 34 (y2) rfl rfl (hW3.there _ _ (by decide)) ?_)
            refine hK.out _ _ ?_ (fun hHeld => ?_)
            · ((try dsimp only); (rw [heap_setCells_ne _ _ _ hRb]; exact hHeld))
            clear hK K
            try simp only [Act.put, List.getElem_toArray, List.getElem_cons_succ, List.getElem_cons_zero, List.setIfInBounds_toArray, List.set_cons_zero, List.set_cons_succ]
            refine wpAnyH_done (by kernel_rfl) ?_ _
            refine NoPanic.normal ?_
            go_wp2
            go_meet
            exact ⟨y1, y2, hW4, Hs.hid ⟨hy1.out, hy2.out⟩, hHeld, (((hx0.drew.drew.trans0 hx1).trans0 hx2).mono (fun _ h => by cases h)).trans' (Ext.setCells (.inl (List.mem_singleton.2 rfl)) _ _ _ (Ext.setCells (.inl (List.mem_singleton.2 rfl)) _ _ _ (Ext.refl [b] _)))⟩
        · rw [if_pos (by rfl)]
          refine wp_load_midV _ rfl b 34 rfl s.l hW0.l ?_
          refine hK.out _ _ ?_ (fun hHeld => ?_)
          · ((try dsimp only); exact hHeld)
          clear hK K
          try simp only [Act.put, List.getElem_toArray, List.getElem_cons_succ, List.getElem_cons_zero, List.setIfInBounds_toArray, List.set_cons_zero, List.set_cons_succ]
          refine wpAnyH_ready (rs := [6]) (by kernel_rfl) (by simp) ?_
          refine AllReadyH.cons rfl (fun K hK => ?_) AllReadyH.nil
          rw [if_pos (by rfl)]
          refine wp_load_midV _ rfl b 2 rfl s.o hW0.o ?_
          refine hK.out _ _ ?_ (fun hHeld => ?_)
          · ((try dsimp only); exact hHeld)
          clear hK K
          try simp only [Act.put, List.getElem_toArray, List.getElem_cons_succ, List.getElem_cons_zero, List.setIfInBounds_toArray, List.set_cons_zero, List.set_cons_succ]
          refine wpAnyH_ready (rs := [7]) (by kernel_rfl) (by simp) ?_
          refine AllReadyH.cons rfl (fun K hK => ?_) AllReadyH.nil
          go_simp
          (go_at_call 35; refine (nodeY_any x s.o _).mono ?_; rintro e w1 ⟨y1, rfl, hy1, hx1⟩; have hW1 : WAt w1.heap b s := Ext.same hx1 (by exact hW0) List.not_mem_nil; have hR1 := hx1.same hHeld List.not_mem_nil)
          go_wp2_with fail
          refine hK.out _ _ ?_ (fun hHeld => ?_)
          · ((try dsimp only); exact hR1)
          clear hK K
          try simp only [Act.put, List.getElem_toArray, List.getElem_cons_succ, List.getElem_cons_zero, List.setIfInBounds_toArray, List.set_cons_zero, List.set_cons_succ]
          refine wpAnyH_ready (rs := [13]) (by kernel_rfl) (by simp) ?_
          refine AllReadyH.cons rfl (fun K hK => ?_) AllReadyH.nil
          go_simp
          (go_at_call 35; refine (nodeY_any x s.l _).mono ?_; rintro e w2 ⟨y2, rfl, hy2, hx2⟩; have hW2 : WAt w2.heap b s := Ext.same hx2 (by exact hW1) List.not_mem_nil; have hR2 := hx2.same hHeld List.not_mem_nil)
          go_wp2_with fail
          refine hK.out _ _ ?_ (fun hHeld => ?_)
          · ((try dsimp only); exact hR2)
          clear hK K
          try simp only [Act.put, List.getElem_toArray, List.getElem_cons_succ, List.getElem_cons_zero, List.setIfInBounds_toArray, List.set_cons_zero, List.set_cons_succ]
          refine wpAnyH_take (i := 14) (v := ?_) rfl (by kernel_rfl) (by kernel_rfl) (by kernel_rfl) (fun _ _ _ h => h) (Or.inl ⟨by rfl, ?_⟩) (by assumption) ?_
          rotate_left
          · (intro w hSw; (try dsimp only at hSw); first | (go_simp; done) | (go_simp; with_reducible rfl))
          try simp only [Act.put, List.getElem_toArray, List.getElem_cons_succ, List.getElem_cons_zero, List.setIfInBounds_toArray, List.set_cons_zero, List.set_cons_succ]
          refine wpAnyH_take (i := 15) (v := ?_) rfl (by kernel_rfl) (by kernel_rfl) (by kernel_rfl) (fun _ _ _ h => h) (Or.inl ⟨by rfl, ?_⟩) (by assumption) ?_
          rotate_left
          · (intro w hSw; (try dsimp only at hSw); first | (go_simp; done) | (go_simp; with_reducible rfl))
          try simp only [Act.put, List.getElem_toArray, List.getElem_cons_succ, List.getElem_cons_zero, List.setIfInBounds_toArray, List.set_cons_zero, List.set_cons_succ]
          refine wpAnyH_ready (rs := [16]) (by kernel_rfl) (by simp) ?_
          refine AllReadyH.cons rfl (fun K hK => ?_) AllReadyH.nil
          rw [if_pos (by rfl)]
          (have hW3 := WAt.setO hW2 (y1); refine wp_store_midV _ _ rfl b 2 (y1) rfl rfl (hW2.there _ _ (by decide)) ?_)
          refine hK.out _ _ ?_ (fun hHeld => ?_)
          · ((try dsimp only); (rw [heap_setCells_ne _ _ _ hRb]; exact hHeld))
          clear hK K
          try simp only [Act.put, List.getElem_toArray, List.getElem_cons_succ, List.getElem_cons_zero, List.setIfInBounds_toArray, List.set_cons_zero, List.set_cons_succ]
          refine wpAnyH_take (i := 17) (v := ?_) rfl (by kernel_rfl) (by kernel_rfl) (by kernel_rfl) (fun _ _ _ h => h) (Or.inl ⟨by rfl, ?_⟩) (by assumption) ?_
          rotate_left
          · (intro w hSw; (try dsimp only at hSw); first | (go_simp; done) | (go_simp; with_reducible rfl))
          try simp only [Act.put, List.getElem_toArray, List.getElem_cons_succ, List.getElem_cons_zero, List.setIfInBounds_toArray, List.set_cons_zero, List.set_cons_succ]
          refine wpAnyH_take (i := 18) (v := ?_) rfl (by kernel_rfl) (by kernel_rfl) (by kernel_rfl) (fun _ _ _ h => h) (Or.inl ⟨by rfl, ?_⟩) (by assumption) ?_
          rotate_left
          · (intro w hSw; (try dsimp only at hSw); first | (go_simp; done) | (go_simp; with_reducible rfl))
          try simp only [Act.put, List.getElem_toArray, List.getElem_cons_succ, List.getElem_cons_zero, List.setIfInBounds_toArray, List.set_cons_zero, List.set_cons_succ]
          refine wpAnyH_ready (rs := [19]) (by kernel_rfl) (by simp) ?_
          refine AllReadyH.cons rfl (fun K hK => ?_) AllReadyH.nil
          rw [if_pos (by rfl)]
          (have hW4 := WAt.setL hW3 (y2); refine wp_store_midV _ _ rfl b 34 (y2) rfl rfl (hW3.there _ _ (by decide)) ?_)
          refine hK.out _ _ ?_ (fun hHeld => ?_)
          · ((try dsimp only); (rw [heap_setCells_ne _ _ _ hRb]; exact hHeld))
          clear hK K
          try simp only [Act.put, List.getElem_toArray, List.getElem_cons_succ, List.getElem_cons_zero, List.setIfInBounds_toArray, List.set_cons_zero, List.set_cons_succ]
          refine wpAnyH_done (by kernel_rfl) ?_ _
          refine NoPanic.normal ?_
          go_wp2
          go_meet
          exact ⟨y1, y2, hW4, Hs.hid ⟨hy1.out, hy2.out⟩, hHeld, (((hx0.drew.drew.trans0 hx1).trans0 hx2).mono (fun _ h => by cases h)).trans' (Ext.setCells (.inl (List.mem_singleton.2 rfl)) _ _ _ (Ext.setCells (.inl (List.mem_singleton.2 rfl)) _ _ _ (Ext.refl [b] _)))⟩
      case rest =>
        clear hR h0 h1 f66 c66
        have HS := Hs.hid (show sideW s.a s.e = true by simp [sideW, ho])
        obtain ⟨y1, y2, hW4, HY, hR4, hE4⟩ := hcut
        go_wp2_with fail
        go_loopw [] (fun wr => ∃ a e, WAt wr.heap b { s with a := a, e := e, o := y1, l := y2 } ∧ a ≤ 1000 ∧ e ≤ 1000 ∧ climbE a e = climbE s.a s.e ∧ Ext [b] w wr) (fun wr => match wr.cell? ⟨b, 0, none⟩ with | some v => (intOf v).toNat | none => 0)
        case atStart => exact ⟨s.a, s.e, hW4, hs.1, hs.2, rfl, hE4⟩
        case round =>
          have HT := Hs.hid (fun a e (hc : climbE s.a s.e = (a, e)) => take_side (x := x) he (HS.out) hc)
          clear hW4 hE4 hR4 hW hW0 hx0 he he' hand
          obtain ⟨a, e, hW5, ha, hee, hc, hE5⟩ := hrel
          have HC := Hs.hid hc
          clear hc
          have k0 := hW5.a
          have hand5 := and_one a (by omega)
          by_cases ho5 : a % 2 = 0
          · replace hand5 : Go.bits .and .i64 (a : Int) 1 = 0 := by rw [hand5, ho5]; rfl
            by_cases ha0 : a = 0
            · have ha0' : (a : Int) = 0 := by omega
              have HA := Hs.hid ha0
              clear ha0
              go_wp2_with ((go_at_call 42; refine (up_any' b _ (by exact ⟨ha, hee⟩) _ hW5).mono ?_; rintro e w6 ⟨rfl, hW6, hx6⟩))
              go_end0
              exact ⟨rfl, by rw [HT.out a e (by rw [← HC.out, HA.out, climbE, dif_neg (by omega)]), ← HY.out.1, ← HY.out.2]; exact hW6, hE5.trans' hx6⟩
            · have ha0' : ¬ (a : Int) = 0 := by omega
              go_wp2_with ((go_at_call 42; refine (up_any' b _ (by exact ⟨ha, hee⟩) _ hW5).mono ?_; rintro e w6 ⟨rfl, hW6, hx6⟩))
              go_round
              case rel => exact ⟨a / 2, e / 2, hW6, by omega, by omega, by rw [← HC.out]; exact (climbE_even ho5 ha0).symm, hE5.trans' hx6⟩
              case measure =>
                have k6 : w6.cell? ⟨b, 0, none⟩ = some (.int .i64 ((a / 2 : Nat) : Int)) := hW6.a
                simp only [k6, k0]
                simp [intOf]; omega
          · have h15 : a % 2 = 1 := by omega
            rw [h15] at hand5
            go_wp2_with ((go_at_call 42; refine (up_any' b _ (by exact ⟨ha, hee⟩) _ hW5).mono ?_; rintro e w6 ⟨rfl, hW6, hx6⟩))
            go_end0
            exact ⟨rfl, by rw [HT.out a e (by rw [← HC.out, climbE_odd h15]), ← HY.out.1, ← HY.out.2]; exact hW6, hE5.trans' hx6⟩
    · have ho0 : s.a % 2 = 0 := by omega
      replace hand : Go.bits .and .i64 (s.a : Int) 1 = 0 := by rw [hand, ho0]; rfl
      go_upto_region 3 with fail
      by_cases hq : s.a = s.e
      · have hqi : (s.e : Int) = s.a := by omega
        have HQ := Hs.hid hq
        clear hq
        refine wp_region_stl (by kernel_rfl) (by kernel_rfl) ?_
        refine still_val (v := ?_) (by rfl) ?_ ?_
        rotate_left
        · first | (go_simp; done) | (go_simp; with_reducible rfl)
        try simp only [Act.put, List.getElem_toArray, List.getElem_cons_succ, List.getElem_cons_zero, List.setIfInBounds_toArray, List.set_cons_zero, List.set_cons_succ]
        refine still_val (v := ?_) (by rfl) ?_ ?_
        rotate_left
        · first | (go_simp; done) | (go_simp; with_reducible rfl)
        try simp only [Act.put, List.getElem_toArray, List.getElem_cons_succ, List.getElem_cons_zero, List.setIfInBounds_toArray, List.set_cons_zero, List.set_cons_succ]
        refine still_val (v := ?_) (by rfl) ?_ ?_
        rotate_left
        · first | (go_simp; done) | (go_simp; with_reducible rfl)
        try simp only [Act.put, List.getElem_toArray, List.getElem_cons_succ, List.getElem_cons_zero, List.setIfInBounds_toArray, List.set_cons_zero, List.set_cons_succ]
        refine still_val (v := ?_) (by rfl) ?_ ?_
        rotate_left
        · first | (go_simp; done) | (go_simp; with_reducible rfl)
        try simp only [Act.put, List.getElem_toArray, List.getElem_cons_succ, List.getElem_cons_zero, List.setIfInBounds_toArray, List.set_cons_zero, List.set_cons_succ]
        refine still_val (v := ?_) (by rfl) ?_ ?_
        rotate_left
        · first | (go_simp; done) | (go_simp; with_reducible rfl)
        try simp only [Act.put, List.getElem_toArray, List.getElem_cons_succ, List.getElem_cons_zero, List.setIfInBounds_toArray, List.set_cons_zero, List.set_cons_succ]
        refine still_val (v := ?_) (by rfl) ?_ ?_
        rotate_left
        · first | (go_simp; done) | (go_simp; with_reducible rfl)
        try simp only [Act.put, List.getElem_toArray, List.getElem_cons_succ, List.getElem_cons_zero, List.setIfInBounds_toArray, List.set_cons_zero, List.set_cons_succ]
        refine still_val (v := ?_) (by rfl) ?_ ?_
        rotate_left
        · first | (go_simp; done) | (go_simp; with_reducible rfl)
        try simp only [Act.put, List.getElem_toArray, List.getElem_cons_succ, List.getElem_cons_zero, List.setIfInBounds_toArray, List.set_cons_zero, List.set_cons_succ]
        refine still_val (v := ?_) (by rfl) ?_ ?_
        rotate_left
        · first | (go_simp; done) | (go_simp; with_reducible rfl)
        try simp only [Act.put, List.getElem_toArray, List.getElem_cons_succ, List.getElem_cons_zero, List.setIfInBounds_toArray, List.set_cons_zero, List.set_cons_succ]
        refine still_val (v := ?_) (by rfl) ?_ ?_
        rotate_left
        · first | (go_simp; done) | (go_simp; with_reducible rfl)
        try simp only [Act.put, List.getElem_toArray, List.getElem_cons_succ, List.getElem_cons_zero, List.setIfInBounds_toArray, List.set_cons_zero, List.set_cons_succ]
        refine still_val (v := ?_) (by rfl) ?_ ?_
        rotate_left
        · first | (go_simp; done) | (go_simp; with_reducible rfl)
        try simp only [Act.put, List.getElem_toArray, List.getElem_cons_succ, List.getElem_cons_zero, List.setIfInBounds_toArray, List.set_cons_zero, List.set_cons_succ]
        refine still_val (v := ?_) (by rfl) ?_ ?_
        rotate_left
        · first | (go_simp; done) | (go_simp; with_reducible rfl)
        try simp only [Act.put, List.getElem_toArray, List.getElem_cons_succ, List.getElem_cons_zero, List.setIfInBounds_toArray, List.set_cons_zero, List.set_cons_succ]
        refine still_val (v := ?_) (by rfl) ?_ ?_
        rotate_left
        · first | (go_simp; done) | (go_simp; with_reducible rfl)
        try simp only [Act.put, List.getElem_toArray, List.getElem_cons_succ, List.getElem_cons_zero, List.setIfInBounds_toArray, List.set_cons_zero, List.set_cons_succ]
        refine still_val (v := ?_) (by rfl) ?_ ?_
        rotate_left
        · first | (go_simp; done) | (go_simp; with_reducible rfl)
        try simp only [Act.put, List.getElem_toArray, List.getElem_cons_succ, List.getElem_cons_zero, List.setIfInBounds_toArray, List.set_cons_zero, List.set_cons_succ]
        refine still_val (v := ?_) (by rfl) ?_ ?_
        rotate_left
        · first | (go_simp; done) | (go_simp; with_reducible rfl)
        try simp only [Act.put, List.getElem_toArray, List.getElem_cons_succ, List.getElem_cons_zero, List.setIfInBounds_toArray, List.set_cons_zero, List.set_cons_succ]
        refine still_val (v := ?_) (by rfl) ?_ ?_
        rotate_left
        · first | (go_simp; done) | (go_simp; with_reducible rfl)
        try simp only [Act.put, List.getElem_toArray, List.getElem_cons_succ, List.getElem_cons_zero, List.setIfInBounds_toArray, List.set_cons_zero, List.set_cons_succ]
        refine still_val (v := ?_) (by rfl) ?_ ?_
        rotate_left
        · first | (go_simp; done) | (go_simp; with_reducible rfl)
        try simp only [Act.put, List.getElem_toArray, List.getElem_cons_succ, List.getElem_cons_zero, List.setIfInBounds_toArray, List.set_cons_zero, List.set_cons_succ]
        refine still_val (v := ?_) (by rfl) ?_ ?_
        rotate_left
        · first | (go_simp; done) | (go_simp; with_reducible rfl)
        try simp only [Act.put, List.getElem_toArray, List.getElem_cons_succ, List.getElem_cons_zero, List.setIfInBounds_toArray, List.set_cons_zero, List.set_cons_succ]
        refine still_end ?_
        go_upto_region 4 with fail
        go_cut [] (fun wx => ∃ y1 y2, WAt wx.heap b { s with o := y1, l := y2 } ∧ Hid (y1 = nodeS x s.o ∧ y2 = nodeS x s.l) ∧ wx.heap[R]? = some (.cells x.V 29 (0, 0)) ∧ Ext [b] w wx)
        case first =>
          refine wp_region_noPanic ?_
          refine wp_region_held_drew (S := (fun w' => w'.heap[R]? = some (.cells x.V 29 (0, 0)))) (by kernel_rfl) ?_ (fun hHeld => ?_)
          · ((try dsimp only); exact hR)
          refine wpAnyH_take (i := 0) (v := ?_) rfl (by kernel_rfl) (by kernel_rfl) (by kernel_rfl) (fun _ _ _ h => h) (Or.inl ⟨by rfl, ?_⟩) (by assumption) ?_
          rotate_left
          · (intro w hSw; (try dsimp only at hSw); first | (go_simp; done) | (go_simp; with_reducible rfl))
          try simp only [Act.put, List.getElem_toArray, List.getElem_cons_succ, List.getElem_cons_zero, List.setIfInBounds_toArray, List.set_cons_zero, List.set_cons_succ]
          refine wpAnyH_take (i := 1) (v := ?_) rfl (by kernel_rfl) (by kernel_rfl) (by kernel_rfl) (fun _ _ _ h => h) (Or.inl ⟨by rfl, ?_⟩) (by assumption) ?_
          rotate_left
          · (intro w hSw; (try dsimp only at hSw); first | (go_simp; done) | (go_simp; with_reducible rfl))
          try simp only [Act.put, List.getElem_toArray, List.getElem_cons_succ, List.getElem_cons_zero, List.setIfInBounds_toArray, List.set_cons_zero, List.set_cons_succ]
          refine wpAnyH_take (i := 2) (v := _) rfl (by kernel_rfl) (by kernel_rfl) (by kernel_rfl) (fun _ _ _ h => h) (yieldsIf_of (.agg x.V) (by rfl) (fun w' hw => exec_load_rowV _ rfl R rfl x w' ⟨_, hw⟩)) (by assumption) ?_
          try simp only [Act.put, List.getElem_toArray, List.getElem_cons_succ, List.getElem_cons_zero, List.setIfInBounds_toArray, List.set_cons_zero, List.set_cons_succ]
          refine wpAnyH_take (i := 3) (v := ?_) rfl (by kernel_rfl) (by kernel_rfl) (by kernel_rfl) (fun _ _ _ h => h) (Or.inl ⟨by rfl, ?_⟩) (by assumption) ?_
          rotate_left
          · (intro w hSw; (try dsimp only at hSw); first | (go_simp; done) | (go_simp; with_reducible rfl))
          try simp only [Act.put, List.getElem_toArray, List.getElem_cons_succ, List.getElem_cons_zero, List.setIfInBounds_toArray, List.set_cons_zero, List.set_cons_succ]
          refine wpAnyH_take (i := 4) (v := ?_) rfl (by kernel_rfl) (by kernel_rfl) (by kernel_rfl) (fun _ _ _ h => h) (Or.inl ⟨by rfl, ?_⟩) (by assumption) ?_
          rotate_left
          · (intro w hSw; (try dsimp only at hSw); first | (go_simp; done) | (go_simp; with_reducible rfl))
          try simp only [Act.put, List.getElem_toArray, List.getElem_cons_succ, List.getElem_cons_zero, List.setIfInBounds_toArray, List.set_cons_zero, List.set_cons_succ]
          refine wpAnyH_take (i := 5) (v := ?_) rfl (by kernel_rfl) (by kernel_rfl) (by kernel_rfl) (fun _ _ _ h => h) (Or.inl ⟨by rfl, ?_⟩) (by assumption) ?_
          rotate_left
          · (intro w hSw; (try dsimp only at hSw); first | (go_simp; done) | (go_simp; with_reducible rfl))
          try simp only [Act.put, List.getElem_toArray, List.getElem_cons_succ, List.getElem_cons_zero, List.setIfInBounds_toArray, List.set_cons_zero, List.set_cons_succ]
          refine wpAnyH_take (i := 8) (v := _) rfl (by kernel_rfl) (by kernel_rfl) (by kernel_rfl) (fun _ _ _ h => h) (yieldsIf_of (.agg x.V) (by rfl) (fun w' hw => exec_load_rowV _ rfl R rfl x w' ⟨_, hw⟩)) (by assumption) ?_
          try simp only [Act.put, List.getElem_toArray, List.getElem_cons_succ, List.getElem_cons_zero, List.setIfInBounds_toArray, List.set_cons_zero, List.set_cons_succ]
          refine wpAnyH_take (i := 9) (v := ?_) rfl (by kernel_rfl) (by kernel_rfl) (by kernel_rfl) (fun _ _ _ h => h) (Or.inl ⟨by rfl, ?_⟩) (by assumption) ?_
          rotate_left
          · (intro w hSw; (try dsimp only at hSw); first | (go_simp; done) | (go_simp; with_reducible rfl))
          try simp only [Act.put, List.getElem_toArray, List.getElem_cons_succ, List.getElem_cons_zero, List.setIfInBounds_toArray, List.set_cons_zero, List.set_cons_succ]
          refine wpAnyH_take (i := 10) (v := ?_) rfl (by kernel_rfl) (by kernel_rfl) (by kernel_rfl) (fun _ _ _ h => h) (Or.inl ⟨by rfl, ?_⟩) (by assumption) ?_
          rotate_left
          · (intro w hSw; (try dsimp only at hSw); first | (go_simp; done) | (go_simp; with_reducible rfl))
          try simp only [Act.put, List.getElem_toArray, List.getElem_cons_succ, List.getElem_cons_zero, List.setIfInBounds_toArray, List.set_cons_zero, List.set_cons_succ]
          refine wpAnyH_take (i := 11) (v := ?_) rfl (by kernel_rfl) (by kernel_rfl) (by kernel_rfl) (fun _ _ _ h => h) (Or.inl ⟨by rfl, ?_⟩) (by assumption) ?_
          rotate_left
          · (intro w hSw; (try dsimp only at hSw); first | (go_simp; done) | (go_simp; with_reducible rfl))
          try simp only [Act.put, List.getElem_toArray, List.getElem_cons_succ, List.getElem_cons_zero, List.setIfInBounds_toArray, List.set_cons_zero, List.set_cons_succ]
          refine wpAnyH_ready (rs := [6, 12]) (by kernel_rfl) (by simp) ?_
          refine AllReadyH.cons rfl (fun K hK => ?_) (AllReadyH.cons rfl (fun K hK => ?_) AllReadyH.nil)
          · rw [if_pos (by rfl)]
            refine wp_load_midV _ rfl b 2 rfl s.o hW0.o ?_
            refine hK.out _ _ ?_ (fun hHeld => ?_)
            · ((try dsimp only); exact hHeld)
            clear hK K
            try simp only [Act.put, List.getElem_toArray, List.getElem_cons_succ, List.getElem_cons_zero, List.setIfInBounds_toArray, List.set_cons_zero, List.set_cons_succ]
            refine wpAnyH_ready (rs := [7, 12]) (by kernel_rfl) (by simp) ?_
            refine AllReadyH.cons rfl (fun K hK => ?_) (AllReadyH.cons rfl (fun K hK => ?_) AllReadyH.nil)
            · go_simp
              (go_at_call 35; refine (nodeY_any x s.o _).mono ?_; rintro e w1 ⟨y1, rfl, hy1, hx1⟩; have hW1 : WAt w1.heap b s := Ext.same hx1 (by exact hW0) List.not_mem_nil; have hR1 := hx1.same hHeld List.not_mem_nil)
              go_wp2_with fail
              refine hK.out _ _ ?_ (fun hHeld => ?_)
              · ((try dsimp only); exact hR1)
              clear hK K
              try simp only [Act.put, List.getElem_toArray, List.getElem_cons_succ, List.getElem_cons_zero, List.setIfInBounds_toArray, List.set_cons_zero, List.set_cons_succ]
              refine wpAnyH_ready (rs := [12]) (by kernel_rfl) (by simp) ?_
              refine AllReadyH.cons rfl (fun K hK => ?_) AllReadyH.nil
              rw [if_pos (by rfl)]
              refine wp_load_midV _ rfl b 34 rfl s.l hW1.l ?_
              refine hK.out _ _ ?_ (fun hHeld => ?_)
              · ((try dsimp only); exact hHeld)
              clear hK K
              try simp only [Act.put, List.getElem_toArray, List.getElem_cons_succ, List.getElem_cons_zero, List.setIfInBounds_toArray, List.set_cons_zero, List.set_cons_succ]
              refine wpAnyH_ready (rs := [13]) (by kernel_rfl) (by simp) ?_
              refine AllReadyH.cons rfl (fun K hK => ?_) AllReadyH.nil
              go_simp
              (go_at_call 35; refine (nodeY_any x s.l _).mono ?_; rintro e w2 ⟨y2, rfl, hy2, hx2⟩; have hW2 : WAt w2.heap b s := Ext.same hx2 (by exact hW1) List.not_mem_nil; have hR2 := hx2.same hHeld List.not_mem_nil)
              go_wp2_with fail
              refine hK.out _ _ ?_ (fun hHeld => ?_)
              · ((try dsimp only); exact hR2)
              clear hK K
              try simp only [Act.put, List.getElem_toArray, List.getElem_cons_succ, List.getElem_cons_zero, List.setIfInBounds_toArray, List.set_cons_zero, List.set_cons_succ]
              refine wpAnyH_take (i := 14) (v := ?_) rfl (by kernel_rfl) (by kernel_rfl) (by kernel_rfl) (fun _ _ _ h => h) (Or.inl ⟨by rfl, ?_⟩) (by assumption) ?_
              rotate_left
              · (intro w hSw; (try dsimp only at hSw); first | (go_simp; done) | (go_simp; with_reducible rfl))
              try simp only [Act.put, List.getElem_toArray, List.getElem_cons_succ, List.getElem_cons_zero, List.setIfInBounds_toArray, List.set_cons_zero, List.set_cons_succ]
              refine wpAnyH_take (i := 15) (v := ?_) rfl (by kernel_rfl) (by kernel_rfl) (by kernel_rfl) (fun _ _ _ h => h) (Or.inl ⟨by rfl, ?_⟩) (by assumption) ?_
              rotate_left
              · (intro w hSw; (try dsimp only at hSw); first | (go_simp; done) | (go_simp; with_reducible rfl))
              try simp only [Act.put, List.getElem_toArray, List.getElem_cons_succ, List.getElem_cons_zero, List.setIfInBounds_toArray, List.set_cons_zero, List.set_cons_succ]
              refine wpAnyH_ready (rs := [16]) (by kernel_rfl) (by simp) ?_
              refine AllReadyH.cons rfl (fun K hK => ?_) AllReadyH.nil
              rw [if_pos (by rfl)]
              (have hW3 := WAt.setO hW2 (y1); refine wp_store_midV _ _ rfl b 2 (y1) rfl rfl (hW2.there _ _ (by decide)) ?_)
              refine hK.out _ _ ?_ (fun hHeld => ?_)
              · ((try dsimp only); (rw [heap_setCells_ne _ _ _ hRb]; exact hHeld))
              clear hK K
              try simp only [Act.put, List.getElem_toArray, List.getElem_cons_succ, List.getElem_cons_zero, List.setIfInBounds_toArray, List.set_cons_zero, List.set_cons_succ]
              refine wpAnyH_take (i := 17) (v := ?_) rfl (by kernel_rfl) (by kernel_rfl) (by kernel_rfl) (fun _ _ _ h => h) (Or.inl ⟨by rfl, ?_⟩) (by assumption) ?_
              rotate_left
              · (intro w hSw; (try dsimp only at hSw); first | (go_simp; done) | (go_simp; with_reducible rfl))
              try simp only [Act.put, List.getElem_toArray, List.getElem_cons_succ, List.getElem_cons_zero, List.setIfInBounds_toArray, List.set_cons_zero, List.set_cons_succ]
              refine wpAnyH_take (i := 18) (v := ?_) rfl (by kernel_rfl) (by kernel_rfl) (by kernel_rfl) (fun _ _ _ h => h) (Or.inl ⟨by rfl, ?_⟩) (by assumption) ?_
              rotate_left
              · (intro w hSw; (try dsimp only at hSw); first | (go_simp; done) | (go_simp; with_reducible rfl))
              try simp only [Act.put, List.getElem_toArray, List.getElem_cons_succ, List.getElem_cons_zero, List.setIfInBounds_toArray, List.set_cons_zero, List.set_cons_succ]
              refine wpAnyH_ready (rs := [19]) (by kernel_rfl) (by simp) ?_
              refine AllReadyH.cons rfl (fun K hK => ?_) AllReadyH.nil
              rw [if_pos (by rfl)]
              (have hW4 := WAt.setL hW3 (y2); refine wp_store_midV _ _ rfl b 34 (y2) rfl rfl (hW3.there _ _ (by decide)) ?_)
              refine hK.out _ _ ?_ (fun hHeld => ?_)
              · ((try dsimp only); (rw [heap_setCells_ne _ _ _ hRb]; exact hHeld))
              clear hK K
              try simp only [Act.put, List.getElem_toArray, List.getElem_cons_succ, List.getElem_cons_zero, List.setIfInBounds_toArray, List.set_cons_zero, List.set_cons_succ]
              refine wpAnyH_done (by kernel_rfl) ?_ _
              refine NoPanic.normal ?_
              go_wp2
              go_meet
              exact ⟨y1, y2, hW4, Hs.hid ⟨hy1.out, hy2.out⟩, hHeld, (((hx0.drew.drew.trans0 hx1).trans0 hx2).mono (fun _ h => by cases h)).trans' (Ext.setCells (.inl (List.mem_singleton.2 rfl)) _ _ _ (Ext.setCells (.inl (List.mem_singleton.2 rfl)) _ _ _ (Ext.refl [b] _)))⟩
            · rw [if_pos (by rfl)]
              refine wp_load_midV _ rfl b 34 rfl s.l hW0.l ?_
              refine hK.out _ _ ?_ (fun hHeld => ?_)
              · ((try dsimp only); exact hHeld)
              clear hK K
              try simp only [Act.put, List.getElem_toArray, List.getElem_cons_succ, List.getElem_cons_zero, List.setIfInBounds_toArray, List.set_cons_zero, List.set_cons_succ]
              refine wpAnyH_ready (rs := [7]) (by kernel_rfl) (by simp) ?_
              refine AllReadyH.cons rfl (fun K hK => ?_) AllReadyH.nil
              go_simp
              (go_at_call 35; refine (nodeY_any x s.o _).mono ?_; rintro e w1 ⟨y1, rfl, hy1, hx1⟩; have hW1 : WAt w1.heap b s := Ext.same hx1 (by exact hW0) List.not_mem_nil; have hR1 := hx1.same hHeld List.not_mem_nil)
              go_wp2_with fail
              refine hK.out _ _ ?_ (fun hHeld => ?_)
              · ((try dsimp only); exact hR1)
              clear hK K
              try simp only [Act.put, List.getElem_toArray, List.getElem_cons_succ, List.getElem_cons_zero, List.setIfInBounds_toArray, List.set_cons_zero, List.set_cons_succ]
              refine wpAnyH_ready (rs := [13]) (by kernel_rfl) (by simp) ?_
              refine AllReadyH.cons rfl (fun K hK => ?_) AllReadyH.nil
              go_simp
              (go_at_call 35; refine (nodeY_any x s.l _).mono ?_; rintro e w2 ⟨y2, rfl, hy2, hx2⟩; have hW2 : WAt w2.heap b s := Ext.same hx2 (by exact hW1) List.not_mem_nil; have hR2 := hx2.same hHeld List.not_mem_nil)
              go_wp2_with fail
              refine hK.out _ _ ?_ (fun hHeld => ?_)
              · ((try dsimp only); exact hR2)
              clear hK K
              try simp only [Act.put, List.getElem_toArray, List.getElem_cons_succ, List.getElem_cons_zero, List.setIfInBounds_toArray, List.set_cons_zero, List.set_cons_succ]
              refine wpAnyH_take (i := 14) (v := ?_) rfl (by kernel_rfl) (by kernel_rfl) (by kernel_rfl) (fun _ _ _ h => h) (Or.inl ⟨by rfl, ?_⟩) (by assumption) ?_
              rotate_left
              · (intro w hSw; (try dsimp only at hSw); first | (go_simp; done) | (go_simp; with_reducible rfl))
              try simp only [Act.put, List.getElem_toArray, List.getElem_cons_succ, List.getElem_cons_zero, List.setIfInBounds_toArray, List.set_cons_zero, List.set_cons_succ]
              refine wpAnyH_take (i := 15) (v := ?_) rfl (by kernel_rfl) (by kernel_rfl) (by kernel_rfl) (fun _ _ _ h => h) (Or.inl ⟨by rfl, ?_⟩) (by assumption) ?_
              rotate_left
              · (intro w hSw; (try dsimp only at hSw); first | (go_simp; done) | (go_simp; with_reducible rfl))
              try simp only [Act.put, List.getElem_toArray, List.getElem_cons_succ, List.getElem_cons_zero, List.setIfInBounds_toArray, List.set_cons_zero, List.set_cons_succ]
              refine wpAnyH_ready (rs := [16]) (by kernel_rfl) (by simp) ?_
              refine AllReadyH.cons rfl (fun K hK => ?_) AllReadyH.nil
              rw [if_pos (by rfl)]
              (have hW3 := WAt.setO hW2 (y1); refine wp_store_midV _ _ rfl b 2 (y1) rfl rfl (hW2.there _ _ (by decide)) ?_)
              refine hK.out _ _ ?_ (fun hHeld => ?_)
              · ((try dsimp only); (rw [heap_setCells_ne _ _ _ hRb]; exact hHeld))
              clear hK K
              try simp only [Act.put, List.getElem_toArray, List.getElem_cons_succ, List.getElem_cons_zero, List.setIfInBounds_toArray, List.set_cons_zero, List.set_cons_succ]
              refine wpAnyH_take (i := 17) (v := ?_) rfl (by kernel_rfl) (by kernel_rfl) (by kernel_rfl) (fun _ _ _ h => h) (Or.inl ⟨by rfl, ?_⟩) (by assumption) ?_
              rotate_left
              · (intro w hSw; (try dsimp only at hSw); first | (go_simp; done) | (go_simp; with_reducible rfl))
              try simp only [Act.put, List.getElem_toArray, List.getElem_cons_succ, List.getElem_cons_zero, List.setIfInBounds_toArray, List.set_cons_zero, List.set_cons_succ]
              refine wpAnyH_take (i := 18) (v := ?_) rfl (by kernel_rfl) (by kernel_rfl) (by kernel_rfl) (fun _ _ _ h => h) (Or.inl ⟨by rfl, ?_⟩) (by assumption) ?_
              rotate_left
              · (intro w hSw; (try dsimp only at hSw); first | (go_simp; done) | (go_simp; with_reducible rfl))
              try simp only [Act.put, List.getElem_toArray, List.getElem_cons_succ, List.getElem_cons_zero, List.setIfInBounds_toArray, List.set_cons_zero, List.set_cons_succ]
              refine wpAnyH_ready (rs := [19]) (by kernel_rfl) (by simp) ?_
              refine AllReadyH.cons rfl (fun K hK => ?_) AllReadyH.nil
              rw [if_pos (by rfl)]
              (have hW4 := WAt.setL hW3 (y2); refine wp_store_midV _ _ rfl b 34 (y2) rfl rfl (hW3.there _ _ (by decide)) ?_)
              refine hK.out _ _ ?_ (fun hHeld => ?_)
              · ((try dsimp only); (rw [heap_setCells_ne _ _ _ hRb]; exact hHeld))
              clear hK K
              try simp only [Act.put, List.getElem_toArray, List.getElem_cons_succ, List.getElem_cons_zero, List.setIfInBounds_toArray, List.set_cons_zero, List.set_cons_succ]
              refine wpAnyH_done (by kernel_rfl) ?_ _
              refine NoPanic.normal ?_
              go_wp2
              go_meet
              exact ⟨y1, y2, hW4, Hs.hid ⟨hy1.out, hy2.out⟩, hHeld, (((hx0.drew.drew.trans0 hx1).trans0 hx2).mono (fun _ h => by cases h)).trans' (Ext.setCells (.inl (List.mem_singleton.2 rfl)) _ _ _ (Ext.setCells (.inl (List.mem_singleton.2 rfl)) _ _ _ (Ext.refl [b] _)))⟩
          · rw [if_pos (by rfl)]
            refine wp_load_midV _ rfl b 34 rfl s.l hW0.l ?_
            refine hK.out _ _ ?_ (fun hHeld => ?_)
            · ((try dsimp only); exact hHeld)
            clear hK K
            try simp only [Act.put, List.getElem_toArray, List.getElem_cons_succ, List.getElem_cons_zero, List.setIfInBounds_toArray, List.set_cons_zero, List.set_cons_succ]
            refine wpAnyH_ready (rs := [6]) (by kernel_rfl) (by simp) ?_
            refine AllReadyH.cons rfl (fun K hK => ?_) AllReadyH.nil
            rw [if_pos (by rfl)]
            refine wp_load_midV _ rfl b 2 rfl s.o hW0.o ?_
            refine hK.out _ _ ?_ (fun hHeld => ?_)
            · ((try dsimp only); exact hHeld)
            clear hK K
            try simp only [Act.put, List.getElem_toArray, List.getElem_cons_succ, List.getElem_cons_zero, List.setIfInBounds_toArray, List.set_cons_zero, List.set_cons_succ]
            refine wpAnyH_ready (rs := [7]) (by kernel_rfl) (by simp) ?_
            refine AllReadyH.cons rfl (fun K hK => ?_) AllReadyH.nil
            go_simp
            (go_at_call 35; refine (nodeY_any x s.o _).mono ?_; rintro e w1 ⟨y1, rfl, hy1, hx1⟩; have hW1 : WAt w1.heap b s := Ext.same hx1 (by exact hW0) List.not_mem_nil; have hR1 := hx1.same hHeld List.not_mem_nil)
            go_wp2_with fail
            refine hK.out _ _ ?_ (fun hHeld => ?_)
            · ((try dsimp only); exact hR1)
            clear hK K
            try simp only [Act.put, List.getElem_toArray, List.getElem_cons_succ, List.getElem_cons_zero, List.setIfInBounds_toArray, List.set_cons_zero, List.set_cons_succ]
            refine wpAnyH_ready (rs := [13]) (by kernel_rfl) (by simp) ?_
            refine AllReadyH.cons rfl (fun K hK => ?_) AllReadyH.nil
            go_simp
            (go_at_call 35; refine (nodeY_any x s.l _).mono ?_; rintro e w2 ⟨y2, rfl, hy2, hx2⟩; have hW2 : WAt w2.heap b s := Ext.same hx2 (by exact hW1) List.not_mem_nil; have hR2 := hx2.same hHeld List.not_mem_nil)
            go_wp2_with fail
            refine hK.out _ _ ?_ (fun hHeld => ?_)
            · ((try dsimp only); exact hR2)
            clear hK K
            try simp only [Act.put, List.getElem_toArray, List.getElem_cons_succ, List.getElem_cons_zero, List.setIfInBounds_toArray, List.set_cons_zero, List.set_cons_succ]
            refine wpAnyH_take (i := 14) (v := ?_) rfl (by kernel_rfl) (by kernel_rfl) (by kernel_rfl) (fun _ _ _ h => h) (Or.inl ⟨by rfl, ?_⟩) (by assumption) ?_
            rotate_left
            · (intro w hSw; (try dsimp only at hSw); first | (go_simp; done) | (go_simp; with_reducible rfl))
            try simp only [Act.put, List.getElem_toArray, List.getElem_cons_succ, List.getElem_cons_zero, List.setIfInBounds_toArray, List.set_cons_zero, List.set_cons_succ]
            refine wpAnyH_take (i := 15) (v := ?_) rfl (by kernel_rfl) (by kernel_rfl) (by kernel_rfl) (fun _ _ _ h => h) (Or.inl ⟨by rfl, ?_⟩) (by assumption) ?_
            rotate_left
            · (intro w hSw; (try dsimp only at hSw); first | (go_simp; done) | (go_simp; with_reducible rfl))
            try simp only [Act.put, List.getElem_toArray, List.getElem_cons_succ, List.getElem_cons_zero, List.setIfInBounds_toArray, List.set_cons_zero, List.set_cons_succ]
            refine wpAnyH_ready (rs := [16]) (by kernel_rfl) (by simp) ?_
            refine AllReadyH.cons rfl (fun K hK => ?_) AllReadyH.nil
            rw [if_pos (by rfl)]
            (have hW3 := WAt.setO hW2 (y1); refine wp_store_midV _ _ rfl b 2 (y1) rfl rfl (hW2.there _ _ (by decide)) ?_)
            refine hK.out _ _ ?_ (fun hHeld => ?_)
            · ((try dsimp only); (rw [heap_setCells_ne _ _ _ hRb]; exact hHeld))
            clear hK K
            try simp only [Act.put, List.getElem_toArray, List.getElem_cons_succ, List.getElem_cons_zero, List.setIfInBounds_toArray, List.set_cons_zero, List.set_cons_succ]
            refine wpAnyH_take (i := 17) (v := ?_) rfl (by kernel_rfl) (by kernel_rfl) (by kernel_rfl) (fun _ _ _ h => h) (Or.inl ⟨by rfl, ?_⟩) (by assumption) ?_
            rotate_left
            · (intro w hSw; (try dsimp only at hSw); first | (go_simp; done) | (go_simp; with_reducible rfl))
            try simp only [Act.put, List.getElem_toArray, List.getElem_cons_succ, List.getElem_cons_zero, List.setIfInBounds_toArray, List.set_cons_zero, List.set_cons_succ]
            refine wpAnyH_take (i := 18) (v := ?_) rfl (by kernel_rfl) (by kernel_rfl) (by kernel_rfl) (fun _ _ _ h => h) (Or.inl ⟨by rfl, ?_⟩) (by assumption) ?_
            rotate_left
            · (intro w hSw; (try dsimp only at hSw); first | (go_simp; done) | (go_simp; with_reducible rfl))
            try simp only [Act.put, List.getElem_toArray, List.getElem_cons_succ, List.getElem_cons_zero, List.setIfInBounds_toArray, List.set_cons_zero, List.set_cons_succ]
            refine wpAnyH_ready (rs := [19]) (by kernel_rfl) (by simp) ?_
            refine AllReadyH.cons rfl (fun K hK => ?_) AllReadyH.nil
            rw [if_pos (by rfl)]
            (have hW4 := WAt.setL hW3 (y2); refine wp_store_midV _ _ rfl b 34 (y2) rfl rfl (hW3.there _ _ (by decide)) ?_)
            refine hK.out _ _ ?_ (fun hHeld => ?_)
            · ((try dsimp only); (rw [heap_setCells_ne _ _ _ hRb]; exact hHeld))
            clear hK K
            try simp only [Act.put, List.getElem_toArray, List.getElem_cons_succ, List.getElem_cons_zero, List.setIfInBounds_toArray, List.set_cons_zero, List.set_cons_succ]
            refine wpAnyH_done (by kernel_rfl) ?_ _
            refine NoPanic.normal ?_
            go_wp2
            go_meet
            exact ⟨y1, y2, hW4, Hs.hid ⟨hy1.out, hy2.out⟩, hHeld, (((hx0.drew.drew.trans0 hx1).trans0 hx2).mono (fun _ h => by cases h)).trans' (Ext.setCells (.inl (List.mem_singleton.2 rfl)) _ _ _ (Ext.setCells (.inl (List.mem_singleton.2 rfl)) _ _ _ (Ext.refl [b] _)))⟩
        case rest =>
          clear hR h0 h1 f66 c66
          have HS := Hs.hid (show sideW s.a s.e = true by simp [sideW, HQ.out])
          obtain ⟨y1, y2, hW4, HY, hR4, hE4⟩ := hcut
          go_wp2_with fail
          go_loopw [] (fun wr => ∃ a e, WAt wr.heap b { s with a := a, e := e, o := y1, l := y2 } ∧ a ≤ 1000 ∧ e ≤ 1000 ∧ climbE a e = climbE s.a s.e ∧ Ext [b] w wr) (fun wr => match wr.cell? ⟨b, 0, none⟩ with | some v => (intOf v).toNat | none => 0)
          case atStart => exact ⟨s.a, s.e, hW4, hs.1, hs.2, rfl, hE4⟩
          case round =>
            have HT := Hs.hid (fun a e (hc : climbE s.a s.e = (a, e)) => take_side (x := x) he (HS.out) hc)
            clear hW4 hE4 hR4 hW hW0 hx0 he he' hand
            obtain ⟨a, e, hW5, ha, hee, hc, hE5⟩ := hrel
            have HC := Hs.hid hc
            clear hc
            have k0 := hW5.a
            have hand5 := and_one a (by omega)
            by_cases ho5 : a % 2 = 0
            · replace hand5 : Go.bits .and .i64 (a : Int) 1 = 0 := by rw [hand5, ho5]; rfl
              by_cases ha0 : a = 0
              · have ha0' : (a : Int) = 0 := by omega
                have HA := Hs.hid ha0
                clear ha0
                go_wp2_with ((go_at_call 42; refine (up_any' b _ (by exact ⟨ha, hee⟩) _ hW5).mono ?_; rintro e w6 ⟨rfl, hW6, hx6⟩))
                go_end0
                exact ⟨rfl, by rw [HT.out a e (by rw [← HC.out, HA.out, climbE, dif_neg (by omega)]), ← HY.out.1, ← HY.out.2]; exact hW6, hE5.trans' hx6⟩
              · have ha0' : ¬ (a : Int) = 0 := by omega
                go_wp2_with ((go_at_call 42; refine (up_any' b _ (by exact ⟨ha, hee⟩) _ hW5).mono ?_; rintro e w6 ⟨rfl, hW6, hx6⟩))
                go_round
                case rel => exact ⟨a / 2, e / 2, hW6, by omega, by omega, by rw [← HC.out]; exact (climbE_even ho5 ha0).symm, hE5.trans' hx6⟩
                case measure =>
                  have k6 : w6.cell? ⟨b, 0, none⟩ = some (.int .i64 ((a / 2 : Nat) : Int)) := hW6.a
                  simp only [k6, k0]
                  simp [intOf]; omega
            · have h15 : a % 2 = 1 := by omega
              rw [h15] at hand5
              go_wp2_with ((go_at_call 42; refine (up_any' b _ (by exact ⟨ha, hee⟩) _ hW5).mono ?_; rintro e w6 ⟨rfl, hW6, hx6⟩))
              go_end0
              exact ⟨rfl, by rw [HT.out a e (by rw [← HC.out, climbE_odd h15]), ← HY.out.1, ← HY.out.2]; exact hW6, hE5.trans' hx6⟩
      · have hqi : ¬ (s.a : Int) = s.e := by omega
        refine wp_region_stl (by kernel_rfl) (by kernel_rfl) ?_
        refine still_val (v := ?_) (by rfl) ?_ ?_
        rotate_left
        · first | (go_simp; done) | (go_simp; with_reducible rfl)
        try simp only [Act.put, List.getElem_toArray, List.getElem_cons_succ, List.getElem_cons_zero, List.setIfInBounds_toArray, List.set_cons_zero, List.set_cons_succ]
        refine still_val (v := ?_) (by rfl) ?_ ?_
        rotate_left
        · first | (go_simp; done) | (go_simp; with_reducible rfl)
        try simp only [Act.put, List.getElem_toArray, List.getElem_cons_succ, List.getElem_cons_zero, List.setIfInBounds_toArray, List.set_cons_zero, List.set_cons_succ]
        refine still_val (v := ?_) (by rfl) ?_ ?_
        rotate_left
        · first | (go_simp; done) | (go_simp; with_reducible rfl)
        try simp only [Act.put, List.getElem_toArray, List.getElem_cons_succ, List.getElem_cons_zero, List.setIfInBounds_toArray, List.set_cons_zero, List.set_cons_succ]
        refine still_val (v := ?_) (by rfl) ?_ ?_
        rotate_left
        · first | (go_simp; done) | (go_simp; with_reducible rfl)
        try simp only [Act.put, List.getElem_toArray, List.getElem_cons_succ, List.getElem_cons_zero, List.setIfInBounds_toArray, List.set_cons_zero, List.set_cons_succ]
        refine still_val (v := ?_) (by rfl) ?_ ?_
        rotate_left
        · first | (go_simp; done) | (go_simp; with_reducible rfl)
        try simp only [Act.put, List.getElem_toArray, List.getElem_cons_succ, List.getElem_cons_zero, List.setIfInBounds_toArray, List.set_cons_zero, List.set_cons_succ]
        refine still_val (v := ?_) (by rfl) ?_ ?_
        rotate_left
        · first | (go_simp; done) | (go_simp; with_reducible rfl)
        try simp only [Act.put, List.getElem_toArray, List.getElem_cons_succ, List.getElem_cons_zero, List.setIfInBounds_toArray, List.set_cons_zero, List.set_cons_succ]
        refine still_val (v := ?_) (by rfl) ?_ ?_
        rotate_left
        · first | (go_simp; done) | (go_simp; with_reducible rfl)
        try simp only [Act.put, List.getElem_toArray, List.getElem_cons_succ, List.getElem_cons_zero, List.setIfInBounds_toArray, List.set_cons_zero, List.set_cons_succ]
        refine still_val (v := ?_) (by rfl) ?_ ?_
        rotate_left
        · first | (go_simp; done) | (go_simp; with_reducible rfl)
        try simp only [Act.put, List.getElem_toArray, List.getElem_cons_succ, List.getElem_cons_zero, List.setIfInBounds_toArray, List.set_cons_zero, List.set_cons_succ]
        refine still_val (v := ?_) (by rfl) ?_ ?_
        rotate_left
        · first | (go_simp; done) | (go_simp; with_reducible rfl)
        try simp only [Act.put, List.getElem_toArray, List.getElem_cons_succ, List.getElem_cons_zero, List.setIfInBounds_toArray, List.set_cons_zero, List.set_cons_succ]
        refine still_val (v := ?_) (by rfl) ?_ ?_
        rotate_left
        · first | (go_simp; done) | (go_simp; with_reducible rfl)
        try simp only [Act.put, List.getElem_toArray, List.getElem_cons_succ, List.getElem_cons_zero, List.setIfInBounds_toArray, List.set_cons_zero, List.set_cons_succ]
        refine still_val (v := ?_) (by rfl) ?_ ?_
        rotate_left
        · first | (go_simp; done) | (go_simp; with_reducible rfl)
        try simp only [Act.put, List.getElem_toArray, List.getElem_cons_succ, List.getElem_cons_zero, List.setIfInBounds_toArray, List.set_cons_zero, List.set_cons_succ]
        refine still_val (v := ?_) (by rfl) ?_ ?_
        rotate_left
        · first | (go_simp; done) | (go_simp; with_reducible rfl)
        try simp only [Act.put, List.getElem_toArray, List.getElem_cons_succ, List.getElem_cons_zero, List.setIfInBounds_toArray, List.set_cons_zero, List.set_cons_succ]
        refine still_val (v := ?_) (by rfl) ?_ ?_
        rotate_left
        · first | (go_simp; done) | (go_simp; with_reducible rfl)
        try simp only [Act.put, List.getElem_toArray, List.getElem_cons_succ, List.getElem_cons_zero, List.setIfInBounds_toArray, List.set_cons_zero, List.set_cons_succ]
        refine still_val (v := ?_) (by rfl) ?_ ?_
        rotate_left
        · first | (go_simp; done) | (go_simp; with_reducible rfl)
        try simp only [Act.put, List.getElem_toArray, List.getElem_cons_succ, List.getElem_cons_zero, List.setIfInBounds_toArray, List.set_cons_zero, List.set_cons_succ]
        refine still_val (v := ?_) (by rfl) ?_ ?_
        rotate_left
        · first | (go_simp; done) | (go_simp; with_reducible rfl)
        try simp only [Act.put, List.getElem_toArray, List.getElem_cons_succ, List.getElem_cons_zero, List.setIfInBounds_toArray, List.set_cons_zero, List.set_cons_succ]
        refine still_val (v := ?_) (by rfl) ?_ ?_
        rotate_left
        · first | (go_simp; done) | (go_simp; with_reducible rfl)
        try simp only [Act.put, List.getElem_toArray, List.getElem_cons_succ, List.getElem_cons_zero, List.setIfInBounds_toArray, List.set_cons_zero, List.set_cons_succ]
        refine still_val (v := ?_) (by rfl) ?_ ?_
        rotate_left
        · first | (go_simp; done) | (go_simp; with_reducible rfl)
        try simp only [Act.put, List.getElem_toArray, List.getElem_cons_succ, List.getElem_cons_zero, List.setIfInBounds_toArray, List.set_cons_zero, List.set_cons_succ]
        refine still_end ?_
        go_upto_region 7 with fail
        have HT := Hs.hid (take_lt (x := x) he (by simp [sideW, ho0, hq]))
        have hE7 : Ext [b] w W.drew.drew := (hx0.drew.drew).mono (fun _ h => by cases h)
        refine wp_region_noPanic ?_
        refine wp_region_held_drew (S := (fun w' => w'.heap[R]? = some (.cells x.V 29 (0, 0)))) (by kernel_rfl) ?_ (fun hHeld => ?_)
        · ((try dsimp only); exact hR)
        refine wpAnyH_take (i := 0) (v := ?_) rfl (by kernel_rfl) (by kernel_rfl) (by kernel_rfl) (fun _ _ _ h => h) (Or.inl ⟨by rfl, ?_⟩) (by assumption) ?_
        rotate_left
        · (intro w hSw; (try dsimp only at hSw); first | (go_simp; done) | (go_simp; with_reducible rfl))
        try simp only [Act.put, List.getElem_toArray, List.getElem_cons_succ, List.getElem_cons_zero, List.setIfInBounds_toArray, List.set_cons_zero, List.set_cons_succ]
        refine wpAnyH_take (i := 1) (v := ?_) rfl (by kernel_rfl) (by kernel_rfl) (by kernel_rfl) (fun _ _ _ h => h) (Or.inl ⟨by rfl, ?_⟩) (by assumption) ?_
        rotate_left
        · (intro w hSw; (try dsimp only at hSw); first | (go_simp; done) | (go_simp; with_reducible rfl))
        try simp only [Act.put, List.getElem_toArray, List.getElem_cons_succ, List.getElem_cons_zero, List.setIfInBounds_toArray, List.set_cons_zero, List.set_cons_succ]
        refine wpAnyH_take (i := 2) (v := ?_) rfl (by kernel_rfl) (by kernel_rfl) (by kernel_rfl) (fun _ _ _ h => h) (Or.inl ⟨by rfl, ?_⟩) (by assumption) ?_
        rotate_left
        · (intro w hSw; (try dsimp only at hSw); first | (go_simp; done) | (go_simp; with_reducible rfl))
        try simp only [Act.put, List.getElem_toArray, List.getElem_cons_succ, List.getElem_cons_zero, List.setIfInBounds_toArray, List.set_cons_zero, List.set_cons_succ]
        refine wpAnyH_take (i := 3) (v := ?_) rfl (by kernel_rfl) (by kernel_rfl) (by kernel_rfl) (fun _ _ _ h => h) (Or.inl ⟨by rfl, ?_⟩) (by assumption) ?_
        rotate_left
        · (intro w hSw; (try dsimp only at hSw); first | (go_simp; done) | (go_simp; with_reducible rfl))
        try simp only [Act.put, List.getElem_toArray, List.getElem_cons_succ, List.getElem_cons_zero, List.setIfInBounds_toArray, List.set_cons_zero, List.set_cons_succ]
        refine wpAnyH_take (i := 5) (v := _) rfl (by kernel_rfl) (by kernel_rfl) (by kernel_rfl) (fun _ _ _ h => h) (yieldsIf_of (.agg x.V) (by rfl) (fun w' hw => exec_load_rowV _ rfl R rfl x w' ⟨_, hw⟩)) (by assumption) ?_
        try simp only [Act.put, List.getElem_toArray, List.getElem_cons_succ, List.getElem_cons_zero, List.setIfInBounds_toArray, List.set_cons_zero, List.set_cons_succ]
        refine wpAnyH_ready (rs := [4]) (by kernel_rfl) (by simp) ?_
        refine AllReadyH.cons rfl (fun K hK => ?_) AllReadyH.nil
        rw [if_pos (by rfl)]
        refine wp_load_midV _ rfl b 34 rfl s.l hW0.l ?_
        refine hK.out _ _ ?_ (fun hHeld => ?_)
        · ((try dsimp only); exact hHeld)
        clear hK K
        try simp only [Act.put, List.getElem_toArray, List.getElem_cons_succ, List.getElem_cons_zero, List.setIfInBounds_toArray, List.set_cons_zero, List.set_cons_succ]
        refine wpAnyH_ready (rs := [6]) (by kernel_rfl) (by simp) ?_
        refine AllReadyH.cons rfl (fun K hK => ?_) AllReadyH.nil
        go_simp
        (go_at_call 35; refine (nodeY_any s.l x _).mono ?_; rintro e w1 ⟨y1, rfl, hy1, hx1⟩; have hW1 : WAt w1.heap b s := Ext.same hx1 (by exact hW0) List.not_mem_nil; have hR1 := hx1.same hHeld List.not_mem_nil)
        go_wp2_with fail
        refine hK.out _ _ ?_ (fun hHeld => ?_)
        · ((try dsimp only); exact hR1)
        clear hK K
        try simp only [Act.put, List.getElem_toArray, List.getElem_cons_succ, List.getElem_cons_zero, List.setIfInBounds_toArray, List.set_cons_zero, List.set_cons_succ]
        refine wpAnyH_take (i := 7) (v := ?_) rfl (by kernel_rfl) (by kernel_rfl) (by kernel_rfl) (fun _ _ _ h => h) (Or.inl ⟨by rfl, ?_⟩) (by assumption) ?_
        rotate_left
        · (intro w hSw; (try dsimp only at hSw); first | (go_simp; done) | (go_simp; with_reducible rfl))
        try simp only [Act.put, List.getElem_toArray, List.getElem_cons_succ, List.getElem_cons_zero, List.setIfInBounds_toArray, List.set_cons_zero, List.set_cons_succ]
        refine wpAnyH_take (i := 8) (v := ?_) rfl (by kernel_rfl) (by kernel_rfl) (by kernel_rfl) (fun _ _ _ h => h) (Or.inl ⟨by rfl, ?_⟩) (by assumption) ?_
        rotate_left
        · (intro w hSw; (try dsimp only at hSw); first | (go_simp; done) | (go_simp; with_reducible rfl))
        try simp only [Act.put, List.getElem_toArray, List.getElem_cons_succ, List.getElem_cons_zero, List.setIfInBounds_toArray, List.set_cons_zero, List.set_cons_succ]
        refine wpAnyH_ready (rs := [9]) (by kernel_rfl) (by simp) ?_
        refine AllReadyH.cons rfl (fun K hK => ?_) AllReadyH.nil
        rw [if_pos (by rfl)]
        (have hW2 := WAt.setL hW1 (y1); refine wp_store_midV _ _ rfl b 34 (y1) rfl rfl (hW1.there _ _ (by decide)) ?_)
        refine hK.out _ _ ?_ (fun hHeld => ?_)
        · ((try dsimp only); (rw [heap_setCells_ne _ _ _ hRb]; exact hHeld))
        clear hK K
        try simp only [Act.put, List.getElem_toArray, List.getElem_cons_succ, List.getElem_cons_zero, List.setIfInBounds_toArray, List.set_cons_zero, List.set_cons_succ]
        refine wpAnyH_done (by kernel_rfl) ?_ _
        refine NoPanic.normal ?_
        have hE8 := (hE7.trans0 hx1).trans' (Ext.setCells (.inl (List.mem_singleton.2 rfl)) y1.V.toList 34 _ (Ext.refl [b] w1))
        skip
        go_wp2_with (go_at_call 42; refine (up_any' b _ (by exact ⟨hs.1, hs.2⟩) _ hW2).mono ?_; rintro e w6 ⟨rfl, hW6, hx6⟩)
        go_end0
        exact ⟨rfl, by rw [HT.out, ← hy1.out]; exact hW6, hE8.trans' hx6⟩
end Go.Proofs.YtjicjadibaomkaaDoor
set_option linter.unusedSimpArgs false
set_option linter.unusedVariables false
set_option maxHeartbeats 1000000
set_option maxRecDepth 100000
namespace Go.Proofs.YtjicjadibaomkaaDoor
open Go.RowKit Go.Hs Go.Dg

def walk0 : Array Value := (wCells ⟨0, 0, zeroS, zeroS, false⟩).toArray
theorem infoWalk : (Tryd.prog.info? 84).map (fun i => (i.zero, i.size)) = some (some (.agg walk0), 67) := by kernel_rfl
theorem walkPlaces : (Tryd.prog.info? 84).bind (fun it => (Tryd.prog.underlying 84).bind fun d => match d with
    | .struct fields => (fields.toList.mapM (fun f => (Tryd.prog.info? f.type).map fun i => (f.offset, i.size))).map fun p => (it.zero, p)
    | _ => none) = some (some (.agg walk0), [(0, 1), (1, 1), (2, 32), (34, 32), (66, 1)]) := by kernel_rfl
theorem mid_cells (A Y Z C : List Value) (hA : A.length = 34) (hY : Y.length = 32) (hZ : Z.length = 32) (i : Nat) :
    (A ++ Y ++ C)[i]? = if 34 ≤ i ∧ i < 66 ∧ i < (A ++ Z ++ C).length then Y[i - 34]? else (A ++ Z ++ C)[i]? := by
  by_cases h : 34 ≤ i ∧ i < 66
  · rw [if_pos ⟨h.1, h.2, by simp; omega⟩, List.append_assoc, List.getElem?_append_right (by omega), List.getElem?_append_left (by omega), hA]
  · rw [if_neg (fun q => h ⟨q.1, q.2.1⟩)]
    by_cases h2 : i < 34
    · rw [List.append_assoc, List.append_assoc, List.getElem?_append_left (by omega), List.getElem?_append_left (by omega)]
    · rw [List.getElem?_append_right (by simp; omega), List.getElem?_append_right (by simp; omega)]
      congr 1; simp; omega
theorem fill_walk (I E : Nat) (y : S32) : Instr.fill ([(0, 1), (1, 1), (2, 32), (34, 32), (66, 1)].toArray[·]?) walk0 [(0, .int .i64 (I : Int)), (1, .int .i64 (E : Int)), (3, .agg y.V)] = some (wCells ⟨I, E, zeroS, y, false⟩).toArray := by
  have e1 : Instr.fill ([(0, 1), (1, 1), (2, 32), (34, 32), (66, 1)].toArray[·]?) walk0 [(0, .int .i64 (I : Int)), (1, .int .i64 (E : Int)), (3, .agg y.V)]
      = Instr.fill ([(0, 1), (1, 1), (2, 32), (34, 32), (66, 1)].toArray[·]?) (wCells ⟨I, E, zeroS, zeroS, false⟩).toArray [(3, .agg y.V)] := by rfl
  rw [e1]
  have hc : (Value.agg y.V).cells = y.V := rfl
  have hw : (wCells ⟨I, E, zeroS, zeroS, false⟩).toArray.size = 67 := by rw [List.size_toArray, wCells_len]
  have hpl : ([(0, 1), (1, 1), (2, 32), (34, 32), (66, 1)].toArray : Array (Nat × Nat))[3]? = some (34, 32) := rfl
  simp only [Instr.fill, hpl, hc, hw, y.size]
  rw [if_neg (by decide)]
  congr 1
  have hf : y.V.zipIdx.foldl (fun cs (p : Value × Nat) => cs.setIfInBounds (34 + p.2) p.1) (wCells ⟨I, E, zeroS, zeroS, false⟩).toArray = (y.V.toList.zipIdx 0).foldl (fun a (p : Value × Nat) => a.setIfInBounds (34 + p.2) p.1) (wCells ⟨I, E, zeroS, zeroS, false⟩).toArray := by
    rw [← Array.foldl_toList, Array.toList_zipIdx]
  have hf' : y.V.zipIdx.foldl (fun cs (x : Value × Nat) => match x with | (c, j) => cs.setIfInBounds (34 + j) c) (wCells ⟨I, E, zeroS, zeroS, false⟩).toArray = (y.V.toList.zipIdx 0).foldl (fun a (p : Value × Nat) => a.setIfInBounds (34 + p.2) p.1) (wCells ⟨I, E, zeroS, zeroS, false⟩).toArray := hf
  rw [hf']
  obtain ⟨h1, h2⟩ := fold_at 34 y.V.toList 0 (wCells ⟨I, E, zeroS, zeroS, false⟩).toArray
  apply Array.ext_getElem?
  intro i
  rw [h2 i]
  have hl := S32.tlen y
  have hz := S32.tlen zeroS
  have := mid_cells ([.int .i64 (I : Int), .int .i64 (E : Int)] ++ zeroS.V.toList) y.V.toList zeroS.V.toList [.bool false] (by simp [zeroS, S32.V]) hl hz i
  have hq : ([.int .i64 (I : Int), .int .i64 (E : Int)] ++ zeroS.V.toList ++ zeroS.V.toList ++ [.bool false] : List Value).length = 67 := wCells_len ⟨I, E, zeroS, zeroS, false⟩
  rw [hq] at this
  rw [List.getElem?_toArray, List.getElem?_toArray, hw, hl]
  exact this.symm
theorem walk_built (I E : Nat) (y : S32) : Tryd.prog.built 84 [(0, .int .i64 (I : Int)), (1, .int .i64 (E : Int)), (3, .agg y.V)] = some (wCells ⟨I, E, zeroS, y, false⟩).toArray := by
  have hp := walkPlaces
  have hf := fill_walk I E y
  unfold Program.built
  cases hi : Tryd.prog.info? 84 with
  | none => rw [hi] at hp; simp at hp
  | some it =>
    cases hu : Tryd.prog.underlying 84 with
    | none => rw [hi, hu] at hp; simp at hp
    | some d =>
      rw [hi, hu] at hp
      cases d with
      | struct fields =>
        simp only [Option.bind_some, Option.map_eq_some_iff] at hp
        obtain ⟨pl, h1, h2⟩ := hp
        have h3 := (Prod.mk.inj h2).1
        have h4 := (Prod.mk.inj h2).2
        subst h4
        simp only [h1, h3]
        exact hf
      | _ => simp at hp
end Go.Proofs.YtjicjadibaomkaaDoor
