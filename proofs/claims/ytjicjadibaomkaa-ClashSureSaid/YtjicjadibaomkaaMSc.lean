/-
  Texts of this claim, put together: ErrB, WalkS, PWalk, PBuild, PIncl, PSum, PCons, PCons2, PHead, PSums.
-/
import Derived.Test.YtjicjadibaomkaaChecked
import Derived.LaidEql
import Derived.RowKitTokens
import Derived.Deep.MidRow
import Derived.Laws.CopyRow
import Derived.Laws.Tables
import Derived.Deep.WholeRow
import Derived.Lib.SlBuf
import Derived.Test.YtjicjadibaomkaaMSa
set_option linter.unusedSimpArgs false
set_option linter.unusedVariables false
set_option maxHeartbeats 2000000
set_option maxRecDepth 100000
namespace Go.Proofs.Ytjicjadibaomkaa
open Go.RowKit Go.Hs

theorem compEN : (Try.prog.info? 29).map (·.comparable) = some true := by kernel_rfl
theorem eq_en (a b : Int) (w : World) : (binOp .eql 54 (.iface 29 (.int .i64 a)) (.iface 29 (.int .i64 b))).run Try.prog w = .ok (.bool (a == b)) w := by
  obtain ⟨i, hi, hcmp⟩ := Option.map_eq_some_iff.1 compEN
  have h : ∀ d : Nat, (Op.equalIn (d + 2) 54 (.iface 29 (.int .i64 a)) (.iface 29 (.int .i64 b))).run Try.prog w = .ok (a == b) w := fun d => by
    simp [Op.equalIn, run_underlying Try.underlying54, run_underlying Try.underlying29, typeInfo, hi, hcmp]
  simp only [binOp]
  simp [Op.equal, Op.maxDepth, h 9998]
/-- A chain of faults, from outside in, behind which stands t. -/
def ErrV (h : Array Obj) (t : Value) : List (ByteArray × Int) → Value → Prop
  | [], v => v = t
  | (s, a) :: L, v => ∃ b u, v = .iface 99 (.pointer (some ⟨b, 0, none⟩)) ∧ h[b]? = some (.cells #[.string s, .int .i64 a, u] 101 (0, 0)) ∧ ErrV h t L u
def errN (n : Int) : Value := .iface 29 (.int .i64 n)
theorem ErrV.ext {F : List Nat} {t : Value} {w w' : World} (x : Ext F w w') (hF : ∀ b ∈ F, ∀ cs fr, w.heap[b]? ≠ some (.cells cs 101 fr)) : ∀ {L : List (ByteArray × Int)} {v : Value}, ErrV w.heap t L v → ErrV w'.heap t L v
  | [], v, h => h
  | (s, a) :: L, v, ⟨b, u, h1, h2, h3⟩ => ⟨b, u, h1, x.same h2 (fun hm => hF b hm _ _ h2), h3.ext x hF⟩
theorem ErrV.ext0 {t : Value} {w w' : World} {L : List (ByteArray × Int)} {v : Value} (h : ErrV w.heap t L v) (x : Ext [] w w') : ErrV w'.heap t L v := h.ext x (fun _ hb => by cases hb)
theorem ErrV.iface {h : Array Obj} {n : Int} : ∀ {L : List (ByteArray × Int)} {v : Value}, ErrV h (errN n) L v → ∃ ty x, v = .iface ty x
  | [], v, e => ⟨_, _, e⟩
  | (s, a) :: L, v, ⟨b, u, h1, _⟩ => ⟨_, _, h1⟩
theorem cellIn {w : World} {a : Addr} {v : Value} (h : w.cell? a = some v) : a.block < w.heap.size := by
  rcases Nat.lt_or_ge a.block w.heap.size with h1 | h1
  · exact h1
  · simp [World.cell?, Array.getElem?_eq_none h1] at h
theorem cell_same {w w' : World} {a : Addr} {v : Value} (h : w.cell? a = some v) (e : w'.heap[a.block]? = w.heap[a.block]?) : w'.cell? a = some v := by
  rw [← h]; unfold World.cell?; rw [e]
theorem in_num (s : ByteArray) (a n : Int) (hn : n ≠ 0) (w : World) :
    Calls Try.prog 37 #[.string s, .int .i64 a, errN n] w fun ev w' => ∃ v, ev = .returned v ∧ v = .iface 99 (.pointer (some ⟨w.heap.size, 0, none⟩)) ∧ w' = w.alloc (.cells #[.string s, .int .i64 a, errN n] 101) := by
  have e1 := eq_en n 0
  rw [show (n == (0 : Int)) = false by simpa using hn] at e1
  unfold errN
  go_enter Try.func37, Try.ntmps37
  go_wp2
  go_ret
  exact ⟨_, rfl, rfl, rfl⟩
theorem ErrV.alloc {t : Value} {w : World} {L : List (ByteArray × Int)} {v : Value} (h : ErrV w.heap t L v) (o : Obj) : ErrV (w.alloc o).heap t L v := h.ext0 ((Ext.refl [] w).alloc o)
end Go.Proofs.Ytjicjadibaomkaa
set_option linter.unusedSimpArgs false
set_option linter.unusedVariables false
set_option maxHeartbeats 2000000
set_option maxRecDepth 100000
namespace Go.Proofs.Ytjicjadibaomkaa
open Go.RowKit Go.Hs Go.Dg

def wCells (s : WSt S32) : List Value := [.int .i64 (s.a : Int), .int .i64 (s.e : Int)] ++ s.o.V.toList ++ s.l.V.toList ++ [.bool s.st]
theorem S32.tlen (x : S32) : x.V.toList.length = 32 := by rw [Array.length_toList, x.size]
theorem wCells_len (s : WSt S32) : (wCells s).length = 67 := by
  simp only [wCells, List.length_append, S32.tlen]; rfl
/-- A walk in the heap. -/
def WAt (h : Array Obj) (b : Nat) (s : WSt S32) : Prop := h[b]? = some (.cells (wCells s).toArray 80 (0, 0))
theorem WAt.ext {F : List Nat} {w w' : World} {b : Nat} {s : WSt S32} (h : WAt w.heap b s) (x : Ext F w w') (hb : b ∉ F) : WAt w'.heap b s := x.same h hb
theorem WAt.at {w : World} {b : Nat} {s : WSt S32} (h : WAt w.heap b s) (k : Nat) : w.cell? ⟨b, k, none⟩ = (wCells s)[k]? := by rw [cellAt h]; simp
theorem WAt.a {w : World} {b : Nat} {s : WSt S32} (h : WAt w.heap b s) : w.cell? ⟨b, 0, none⟩ = some (.int .i64 (s.a : Int)) := by rw [h.at]; rfl
theorem WAt.e {w : World} {b : Nat} {s : WSt S32} (h : WAt w.heap b s) : w.cell? ⟨b, 1, none⟩ = some (.int .i64 (s.e : Int)) := by rw [h.at]; rfl
theorem wCells_o (s : WSt S32) (j : Nat) (h : j < 32) : (wCells s)[2 + j]? = s.o.V.toList[j]? := by
  have h1 := S32.size s.o
  unfold wCells
  rw [List.append_assoc, List.append_assoc, List.getElem?_append_right (by simp), List.getElem?_append_left (by simp; omega)]
  congr 1; simp
theorem wCells_l (s : WSt S32) (j : Nat) (h : j < 32) : (wCells s)[34 + j]? = s.l.V.toList[j]? := by
  have h1 := S32.size s.o
  have h2 := S32.size s.l
  unfold wCells
  rw [List.append_assoc, List.append_assoc, List.getElem?_append_right (by simp; omega), List.getElem?_append_right (by simp; omega), List.getElem?_append_left (by simp; omega)]
  congr 1; simp; omega
theorem WAt.o {w : World} {b : Nat} {s : WSt S32} (h : WAt w.heap b s) : w.rangeAt b 2 s.o.V.toList := fun j v hj => by
  have hl := (List.getElem?_eq_some_iff.1 hj).1
  rw [S32.tlen] at hl
  rw [h.at, wCells_o s j hl, hj]
theorem WAt.l {w : World} {b : Nat} {s : WSt S32} (h : WAt w.heap b s) : w.rangeAt b 34 s.l.V.toList := fun j v hj => by
  have hl := (List.getElem?_eq_some_iff.1 hj).1
  rw [S32.tlen] at hl
  rw [h.at, wCells_l s j hl, hj]
theorem WAt.st {w : World} {b : Nat} {s : WSt S32} (h : WAt w.heap b s) : w.cell? ⟨b, 66, none⟩ = some (.bool s.st) := by
  rw [h.at]
  have h1 := S32.size s.o
  have h2 := S32.size s.l
  unfold wCells
  rw [List.getElem?_append_right (by simp; omega)]
  simp [h1, h2]
theorem WAt.free {w : World} {b : Nat} {s : WSt S32} (h : WAt w.heap b s) (k : Nat) : w.frozen? ⟨b, k, none⟩ = false := freeAt h k
theorem WAt.there {w : World} {b : Nat} {s : WSt S32} (h : WAt w.heap b s) (o n : Nat) (hn : o + n ≤ 67) : w.there b o n := fun j hj => by
  refine ⟨?_, h.free _⟩
  rw [h.at, List.getElem?_eq_getElem (by rw [wCells_len]; omega)]
  rfl
/-- Cells stored into the middle of a row. -/
theorem setCells_row {w : World} {b o : Nat} {vs : List Value} {cur : Array Value} {t : TypeId} (hg : w.heap[b]? = some (.cells cur t (0, 0))) (hl : o + vs.length ≤ cur.size) (h1 : ∀ v ∈ vs, v.oneCell' = true) :
    w.setCells b o vs = w.setRow b (cur.toList.take o ++ vs ++ cur.toList.drop (o + vs.length)).toArray := by
  have e1 := run_storeCells_at Try.prog b o t vs 0 cur w hg (by simpa using hl) h1
  have e2 := run_storeCells_cells (P := Try.prog) b o vs 0 w (fun j hj => by
    rw [cellAt hg, Array.getElem?_eq_getElem (by omega)]; rfl) (fun j hj => freeAt hg _) h1
  rw [e1] at e2
  simp only [Nat.add_zero] at e2
  injection e2 with _ e3
  exact e3.symm
theorem Ext.setCells {F : List Nat} {a : World} {b : Nat} (hb : b ∈ F ∨ a.heap.size ≤ b) : ∀ (vs : List Value) (o : Nat) (w : World), Ext F a w → Ext F a (w.setCells b o vs)
  | [], _, _, h => h
  | v :: r, o, w, h => Ext.setCells hb r (o + 1) _ (h.setCell hb v)
theorem S32.ones (x : S32) : ∀ v ∈ x.V.toList, v.oneCell' = true := fun u hu => (Array.all_eq_true'.1 x.one) u (Array.mem_toList_iff.1 hu)
theorem WAt.setO {w : World} {b : Nat} {s : WSt S32} (h : WAt w.heap b s) (x : S32) : WAt (w.setCells b 2 x.V.toList).heap b { s with o := x } := by
  have h1 := S32.size s.o
  have h2 := S32.size s.l
  have h3 := S32.tlen x
  rw [setCells_row h (by rw [h3]; simp [wCells_len]) x.ones]
  have := setRow_heap w b _ ((wCells s).toArray.toList.take 2 ++ x.V.toList ++ (wCells s).toArray.toList.drop (2 + x.V.toList.length)).toArray _ _ h
  unfold WAt
  rw [this, h3]
  congr 2
  unfold wCells
  simp [List.drop_append, List.take_append, h1, h2]
theorem WAt.setL {w : World} {b : Nat} {s : WSt S32} (h : WAt w.heap b s) (x : S32) : WAt (w.setCells b 34 x.V.toList).heap b { s with l := x } := by
  have h1 := S32.size s.o
  have h2 := S32.size s.l
  have h3 := S32.tlen x
  rw [setCells_row h (by rw [h3]; simp [wCells_len]) x.ones]
  have := setRow_heap w b _ ((wCells s).toArray.toList.take 34 ++ x.V.toList ++ (wCells s).toArray.toList.drop (34 + x.V.toList.length)).toArray _ _ h
  unfold WAt
  rw [this, h3]
  congr 2
  unfold wCells
  simp [List.drop_append, List.take_append, h1, h2]
theorem WAt.setA {w : World} {b : Nat} {s : WSt S32} (h : WAt w.heap b s) (n : Nat) : WAt (w.setCell ⟨b, 0, none⟩ (.int .i64 (n : Int))).heap b { s with a := n } := by
  unfold WAt; rw [heap_set h]; congr 2
theorem WAt.setE {w : World} {b : Nat} {s : WSt S32} (h : WAt w.heap b s) (n : Nat) : WAt (w.setCell ⟨b, 1, none⟩ (.int .i64 (n : Int))).heap b { s with e := n } := by
  unfold WAt; rw [heap_set h]; congr 2
theorem WAt.setS {w : World} {b : Nat} {s : WSt S32} (h : WAt w.heap b s) (v : Bool) : WAt (w.setCell ⟨b, 66, none⟩ (.bool v)).heap b { s with st := v } := by
  unfold WAt; rw [heap_set h]; congr 2
  apply Array.ext_getElem?
  intro i
  have h1 := S32.size s.o
  have h2 := S32.size s.l
  rw [Array.getElem?_setIfInBounds]
  simp only [List.getElem?_toArray, List.size_toArray, wCells_len]
  by_cases hi : 66 = i
  · subst hi
    rw [if_pos rfl, if_pos (by omega)]
    unfold wCells
    rw [List.getElem?_append_right (by simp; omega)]
    simp [h1, h2]
  · rw [if_neg hi]
    have hP : ∀ (P : List Value) (u z : Value), P.length = 66 → (P ++ [u])[i]? = (P ++ [z])[i]? := fun P u z hp => by
      by_cases h3 : i < 66
      · rw [List.getElem?_append_left (by omega), List.getElem?_append_left (by omega)]
      · rw [List.getElem?_eq_none (by simp; omega), List.getElem?_eq_none (by simp; omega)]
    exact hP _ _ _ (by simp; omega)
theorem heap_setCells_ne {b : Nat} : ∀ (vs : List Value) (o : Nat) (w : World) {R : Nat}, R ≠ b → (w.setCells b o vs).heap[R]? = w.heap[R]?
  | [], _, _, _, _ => rfl
  | v :: r, o, w, R, h => (heap_setCells_ne r (o + 1) _ h).trans (heap_set_ne w ⟨b, o, none⟩ v (fun e => h e.symm))
theorem wp_load_midV {op : Oper} {a : Act} {w : World} {K : Act → World → Prop} {Q : Exit → Act → World → Prop} (x : Operand) (ho : op.op = .load 35 x)
    (b o : Nat) (hx : a.eval x = .pointer (some ⟨b, o, none⟩)) (c : S32) (hc : w.rangeAt b o c.V.toList) (h : K (a.put op.dst (.agg c.V)) w) : op.wp Try.prog a w K Q := by
  refine wp_load_mid 35 x ho b o hx c.V.toList _ hc Try.underlying35 rfl (by rw [Array.length_toList, c.size]; exact infoSum) ?_
  rw [Array.toArray_toList]; exact h
theorem wp_store_midV {op : Oper} {a : Act} {w : World} {K : Act → World → Prop} {Q : Exit → Act → World → Prop} (x y : Operand) (ho : op.op = .store 35 x y)
    (b o : Nat) (c : S32) (hx : a.eval x = .pointer (some ⟨b, o, none⟩)) (hy : a.eval y = .agg c.V) (ht : w.there b o 32) (h : K (a.put op.dst undef) (w.setCells b o c.V.toList)) : op.wp Try.prog a w K Q :=
  wp_store_mid 35 x y ho b o c.V hx hy (by rw [c.size]; exact ht) (by rw [c.size]; exact infoSum) c.one h
theorem and_one (n : Nat) (hn : n < 2 ^ 62) : Go.bits .and .i64 (n : Int) 1 = ((n % 2 : Nat) : Int) := by
  have h1 : ∀ n : Nat, n < 2 ^ 62 → (BitVec.ofInt 64 (n : Int)).toNat = n := fun n h => by
    rw [BitVec.toNat_ofInt]
    have : (2 : Nat) ^ 62 = 4611686018427387904 := by decide
    omega
  show IntKind.i64.wrap ((BitVec.ofInt 64 (n : Int) &&& BitVec.ofInt 64 ((1 : Nat) : Int)).toNat : Nat) = _
  rw [BitVec.toNat_and, h1 n hn, h1 1 (by decide), IntKind.wrap_i64, Nat.and_one_is_mod]
  omega
theorem climbE_even {a e : Nat} (h : a % 2 = 0) (h0 : a ≠ 0) : climbE a e = climbE (a / 2) (e / 2) := by rw [climbE, dif_pos ⟨h, h0⟩]
theorem take_side {s : WSt S32} {x : S32} (he : s.e ≠ 0) (hs : sideW s.a s.e = true) {a e : Nat} (hc : climbE s.a s.e = (a, e)) : s.take nodeS x = ⟨a / 2, e / 2, nodeS x s.o, nodeS x s.l, s.st⟩ := by
  unfold WSt.take nextP nodeD
  rw [if_neg he, if_pos hs, hc]
  simp only [hs, if_true]
theorem take_lt {s : WSt S32} {x : S32} (he : s.e ≠ 0) (hs : sideW s.a s.e = false) : s.take nodeS x = ⟨s.a / 2, s.e / 2, s.o, nodeS s.l x, s.st⟩ := by
  unfold WSt.take nextP nodeD
  rw [if_neg he]
  simp only [hs, if_false, Bool.false_eq_true]
end Go.Proofs.Ytjicjadibaomkaa
set_option linter.unusedSimpArgs false
set_option linter.unusedVariables false
set_option maxHeartbeats 2000000
set_option maxRecDepth 100000
namespace Go.Proofs.Ytjicjadibaomkaa
open Go.RowKit Go.Hs Go.Dg

theorem up_any' (b : Nat) (s : WSt S32) (hs : s.a ≤ 1000 ∧ s.e ≤ 1000) (w : World) (hW : WAt w.heap b s) : Calls Try.prog 40 #[.pointer (some ⟨b, 0, none⟩)] w fun e w' => e = .returned (.tuple #[]) ∧ WAt w'.heap b { s with a := s.a / 2, e := s.e / 2 } ∧ Ext [b] w w' := by
  have h0 := hW.a
  have h1 := hW.e
  have f0 := hW.free 0
  have f1 := hW.free 1
  go_enter Try.func40, Try.ntmps40
  refine wp_region_noPanic ?_
  refine wp_region_held_drew (S := (fun _ => True)) (by kernel_rfl) ?_ (fun hHeld => ?_)
  · ((try dsimp only); skip)
  refine wpAnyH_take (i := 0) (v := ?_) rfl (by kernel_rfl) (by kernel_rfl) (by kernel_rfl) (fun _ _ _ h => h) (Or.inl ⟨by rfl, ?_⟩) (by assumption) ?_
  rotate_left
  · (intro w hSw; (try dsimp only at hSw); first | (go_simp; done) | (go_simp; with_reducible rfl))
  try simp only [Act.put, List.getElem_toArray, List.getElem_cons_succ, List.getElem_cons_zero, List.setIfInBounds_toArray, List.set_cons_zero, List.set_cons_succ]
  refine wpAnyH_take (i := 1) (v := ?_) rfl (by kernel_rfl) (by kernel_rfl) (by kernel_rfl) (fun _ _ _ h => h) (Or.inl ⟨by rfl, ?_⟩) (by assumption) ?_
  rotate_left
  · (intro w hSw; (try dsimp only at hSw); first | (go_simp; done) | (go_simp; with_reducible rfl))
  try simp only [Act.put, List.getElem_toArray, List.getElem_cons_succ, List.getElem_cons_zero, List.setIfInBounds_toArray, List.set_cons_zero, List.set_cons_succ]
  refine wpAnyH_take (i := 2) (v := ?_) rfl (by kernel_rfl) (by kernel_rfl) (by kernel_rfl) (fun _ _ _ h => h) (Or.inl ⟨by rfl, ?_⟩) (by assumption) ?_
  rotate_left
  · (intro w hSw; (try dsimp only at hSw); first | (go_simp; done) | (go_simp; with_reducible rfl))
  try simp only [Act.put, List.getElem_toArray, List.getElem_cons_succ, List.getElem_cons_zero, List.setIfInBounds_toArray, List.set_cons_zero, List.set_cons_succ]
  refine wpAnyH_take (i := 3) (v := ?_) rfl (by kernel_rfl) (by kernel_rfl) (by kernel_rfl) (fun _ _ _ h => h) (Or.inl ⟨by rfl, ?_⟩) (by assumption) ?_
  rotate_left
  · (intro w hSw; (try dsimp only at hSw); first | (go_simp; done) | (go_simp; with_reducible rfl))
  try simp only [Act.put, List.getElem_toArray, List.getElem_cons_succ, List.getElem_cons_zero, List.setIfInBounds_toArray, List.set_cons_zero, List.set_cons_succ]
  refine wpAnyH_take (i := 4) (v := ?_) rfl (by kernel_rfl) (by kernel_rfl) (by kernel_rfl) (fun _ _ _ h => h) (Or.inl ⟨by rfl, ?_⟩) (by assumption) ?_
  rotate_left
  · (intro w hSw; (try dsimp only at hSw); first | (go_simp; done) | (go_simp; with_reducible rfl))
  try simp only [Act.put, List.getElem_toArray, List.getElem_cons_succ, List.getElem_cons_zero, List.setIfInBounds_toArray, List.set_cons_zero, List.set_cons_succ]
  refine wpAnyH_take (i := 7) (v := ?_) rfl (by kernel_rfl) (by kernel_rfl) (by kernel_rfl) (fun _ _ _ h => h) (Or.inl ⟨by rfl, ?_⟩) (by assumption) ?_
  rotate_left
  · (intro w hSw; (try dsimp only at hSw); first | (go_simp; done) | (go_simp; with_reducible rfl))
  try simp only [Act.put, List.getElem_toArray, List.getElem_cons_succ, List.getElem_cons_zero, List.setIfInBounds_toArray, List.set_cons_zero, List.set_cons_succ]
  refine wpAnyH_take (i := 8) (v := ?_) rfl (by kernel_rfl) (by kernel_rfl) (by kernel_rfl) (fun _ _ _ h => h) (Or.inl ⟨by rfl, ?_⟩) (by assumption) ?_
  rotate_left
  · (intro w hSw; (try dsimp only at hSw); first | (go_simp; done) | (go_simp; with_reducible rfl))
  try simp only [Act.put, List.getElem_toArray, List.getElem_cons_succ, List.getElem_cons_zero, List.setIfInBounds_toArray, List.set_cons_zero, List.set_cons_succ]
  refine wpAnyH_take (i := 9) (v := ?_) rfl (by kernel_rfl) (by kernel_rfl) (by kernel_rfl) (fun _ _ _ h => h) (Or.inl ⟨by rfl, ?_⟩) (by assumption) ?_
  rotate_left
  · (intro w hSw; (try dsimp only at hSw); first | (go_simp; done) | (go_simp; with_reducible rfl))
  try simp only [Act.put, List.getElem_toArray, List.getElem_cons_succ, List.getElem_cons_zero, List.setIfInBounds_toArray, List.set_cons_zero, List.set_cons_succ]
  refine wpAnyH_ready (rs := [5, 10]) (by kernel_rfl) (by simp) ?_
  refine AllReadyH.cons rfl (fun K hK => ?_) (AllReadyH.cons rfl (fun K hK => ?_) AllReadyH.nil)
  · rw [if_pos (by rfl)]
    go_simp
    refine hK.out _ _ ?_ (fun hHeld => ?_)
    · ((try dsimp only); skip)
    clear hK K
    try simp only [Act.put, List.getElem_toArray, List.getElem_cons_succ, List.getElem_cons_zero, List.setIfInBounds_toArray, List.set_cons_zero, List.set_cons_succ]
    refine wpAnyH_take (i := 6) (v := ?_) rfl (by kernel_rfl) (by kernel_rfl) (by kernel_rfl) (fun _ _ _ h => h) (Or.inl ⟨by rfl, ?_⟩) (by assumption) ?_
    rotate_left
    · (intro w hSw; (try dsimp only at hSw); first | (go_simp; done) | (go_simp; with_reducible rfl))
    try simp only [Act.put, List.getElem_toArray, List.getElem_cons_succ, List.getElem_cons_zero, List.setIfInBounds_toArray, List.set_cons_zero, List.set_cons_succ]
    refine wpAnyH_ready (rs := [10]) (by kernel_rfl) (by simp) ?_
    refine AllReadyH.cons rfl (fun K hK => ?_) AllReadyH.nil
    rw [if_pos (by rfl)]
    go_simp
    refine hK.out _ _ ?_ (fun hHeld => ?_)
    · ((try dsimp only); skip)
    clear hK K
    try simp only [Act.put, List.getElem_toArray, List.getElem_cons_succ, List.getElem_cons_zero, List.setIfInBounds_toArray, List.set_cons_zero, List.set_cons_succ]
    refine wpAnyH_take (i := 11) (v := ?_) rfl (by kernel_rfl) (by kernel_rfl) (by kernel_rfl) (fun _ _ _ h => h) (Or.inl ⟨by rfl, ?_⟩) (by assumption) ?_
    rotate_left
    · (intro w hSw; (try dsimp only at hSw); first | (go_simp; done) | (go_simp; with_reducible rfl))
    try simp only [Act.put, List.getElem_toArray, List.getElem_cons_succ, List.getElem_cons_zero, List.setIfInBounds_toArray, List.set_cons_zero, List.set_cons_succ]
    refine wpAnyH_take (i := 12) (v := ?_) rfl (by kernel_rfl) (by kernel_rfl) (by kernel_rfl) (fun _ _ _ h => h) (Or.inl ⟨by rfl, ?_⟩) (by assumption) ?_
    rotate_left
    · (intro w hSw; (try dsimp only at hSw); first | (go_simp; done) | (go_simp; with_reducible rfl))
    try simp only [Act.put, List.getElem_toArray, List.getElem_cons_succ, List.getElem_cons_zero, List.setIfInBounds_toArray, List.set_cons_zero, List.set_cons_succ]
    refine wpAnyH_take (i := 13) (v := ?_) rfl (by kernel_rfl) (by kernel_rfl) (by kernel_rfl) (fun _ _ _ h => h) (Or.inl ⟨by rfl, ?_⟩) (by assumption) ?_
    rotate_left
    · (intro w hSw; (try dsimp only at hSw); first | (go_simp; done) | (go_simp; with_reducible rfl))
    try simp only [Act.put, List.getElem_toArray, List.getElem_cons_succ, List.getElem_cons_zero, List.setIfInBounds_toArray, List.set_cons_zero, List.set_cons_succ]
    refine wpAnyH_ready (rs := [14]) (by kernel_rfl) (by simp) ?_
    refine AllReadyH.cons rfl (fun K hK => ?_) AllReadyH.nil
    rw [if_pos (by rfl)]
    go_simp
    refine hK.out _ _ ?_ (fun hHeld => ?_)
    · ((try dsimp only); skip)
    clear hK K
    try simp only [Act.put, List.getElem_toArray, List.getElem_cons_succ, List.getElem_cons_zero, List.setIfInBounds_toArray, List.set_cons_zero, List.set_cons_succ]
    refine wpAnyH_take (i := 15) (v := ?_) rfl (by kernel_rfl) (by kernel_rfl) (by kernel_rfl) (fun _ _ _ h => h) (Or.inl ⟨by rfl, ?_⟩) (by assumption) ?_
    rotate_left
    · (intro w hSw; (try dsimp only at hSw); first | (go_simp; done) | (go_simp; with_reducible rfl))
    try simp only [Act.put, List.getElem_toArray, List.getElem_cons_succ, List.getElem_cons_zero, List.setIfInBounds_toArray, List.set_cons_zero, List.set_cons_succ]
    refine wpAnyH_take (i := 16) (v := ?_) rfl (by kernel_rfl) (by kernel_rfl) (by kernel_rfl) (fun _ _ _ h => h) (Or.inl ⟨by rfl, ?_⟩) (by assumption) ?_
    rotate_left
    · (intro w hSw; (try dsimp only at hSw); first | (go_simp; done) | (go_simp; with_reducible rfl))
    try simp only [Act.put, List.getElem_toArray, List.getElem_cons_succ, List.getElem_cons_zero, List.setIfInBounds_toArray, List.set_cons_zero, List.set_cons_succ]
    refine wpAnyH_ready (rs := [17]) (by kernel_rfl) (by simp) ?_
    refine AllReadyH.cons rfl (fun K hK => ?_) AllReadyH.nil
    rw [if_pos (by rfl)]
    go_simp
    refine hK.out _ _ ?_ (fun hHeld => ?_)
    · ((try dsimp only); skip)
    clear hK K
    try simp only [Act.put, List.getElem_toArray, List.getElem_cons_succ, List.getElem_cons_zero, List.setIfInBounds_toArray, List.set_cons_zero, List.set_cons_succ]
    refine wpAnyH_done (by kernel_rfl) ?_ _
    refine NoPanic.normal ?_
    go_end0
    refine ⟨rfl, ?_, ?_⟩
    · exact ((show WAt w.drew.heap b s from hW).setA (s.a / 2)).setE (s.e / 2)
    · exact ((Ext.refl [b] w).drew.set' (by simp) _ _).set' (by simp) _ _
  · rw [if_pos (by rfl)]
    go_simp
    refine hK.out _ _ ?_ (fun hHeld => ?_)
    · ((try dsimp only); skip)
    clear hK K
    try simp only [Act.put, List.getElem_toArray, List.getElem_cons_succ, List.getElem_cons_zero, List.setIfInBounds_toArray, List.set_cons_zero, List.set_cons_succ]
    refine wpAnyH_take (i := 11) (v := ?_) rfl (by kernel_rfl) (by kernel_rfl) (by kernel_rfl) (fun _ _ _ h => h) (Or.inl ⟨by rfl, ?_⟩) (by assumption) ?_
    rotate_left
    · (intro w hSw; (try dsimp only at hSw); first | (go_simp; done) | (go_simp; with_reducible rfl))
    try simp only [Act.put, List.getElem_toArray, List.getElem_cons_succ, List.getElem_cons_zero, List.setIfInBounds_toArray, List.set_cons_zero, List.set_cons_succ]
    refine wpAnyH_ready (rs := [5]) (by kernel_rfl) (by simp) ?_
    refine AllReadyH.cons rfl (fun K hK => ?_) AllReadyH.nil
    rw [if_pos (by rfl)]
    go_simp
    refine hK.out _ _ ?_ (fun hHeld => ?_)
    · ((try dsimp only); skip)
    clear hK K
    try simp only [Act.put, List.getElem_toArray, List.getElem_cons_succ, List.getElem_cons_zero, List.setIfInBounds_toArray, List.set_cons_zero, List.set_cons_succ]
    refine wpAnyH_take (i := 6) (v := ?_) rfl (by kernel_rfl) (by kernel_rfl) (by kernel_rfl) (fun _ _ _ h => h) (Or.inl ⟨by rfl, ?_⟩) (by assumption) ?_
    rotate_left
    · (intro w hSw; (try dsimp only at hSw); first | (go_simp; done) | (go_simp; with_reducible rfl))
    try simp only [Act.put, List.getElem_toArray, List.getElem_cons_succ, List.getElem_cons_zero, List.setIfInBounds_toArray, List.set_cons_zero, List.set_cons_succ]
    refine wpAnyH_take (i := 12) (v := ?_) rfl (by kernel_rfl) (by kernel_rfl) (by kernel_rfl) (fun _ _ _ h => h) (Or.inl ⟨by rfl, ?_⟩) (by assumption) ?_
    rotate_left
    · (intro w hSw; (try dsimp only at hSw); first | (go_simp; done) | (go_simp; with_reducible rfl))
    try simp only [Act.put, List.getElem_toArray, List.getElem_cons_succ, List.getElem_cons_zero, List.setIfInBounds_toArray, List.set_cons_zero, List.set_cons_succ]
    refine wpAnyH_take (i := 13) (v := ?_) rfl (by kernel_rfl) (by kernel_rfl) (by kernel_rfl) (fun _ _ _ h => h) (Or.inl ⟨by rfl, ?_⟩) (by assumption) ?_
    rotate_left
    · (intro w hSw; (try dsimp only at hSw); first | (go_simp; done) | (go_simp; with_reducible rfl))
    try simp only [Act.put, List.getElem_toArray, List.getElem_cons_succ, List.getElem_cons_zero, List.setIfInBounds_toArray, List.set_cons_zero, List.set_cons_succ]
    refine wpAnyH_ready (rs := [14]) (by kernel_rfl) (by simp) ?_
    refine AllReadyH.cons rfl (fun K hK => ?_) AllReadyH.nil
    rw [if_pos (by rfl)]
    go_simp
    refine hK.out _ _ ?_ (fun hHeld => ?_)
    · ((try dsimp only); skip)
    clear hK K
    try simp only [Act.put, List.getElem_toArray, List.getElem_cons_succ, List.getElem_cons_zero, List.setIfInBounds_toArray, List.set_cons_zero, List.set_cons_succ]
    refine wpAnyH_take (i := 15) (v := ?_) rfl (by kernel_rfl) (by kernel_rfl) (by kernel_rfl) (fun _ _ _ h => h) (Or.inl ⟨by rfl, ?_⟩) (by assumption) ?_
    rotate_left
    · (intro w hSw; (try dsimp only at hSw); first | (go_simp; done) | (go_simp; with_reducible rfl))
    try simp only [Act.put, List.getElem_toArray, List.getElem_cons_succ, List.getElem_cons_zero, List.setIfInBounds_toArray, List.set_cons_zero, List.set_cons_succ]
    refine wpAnyH_take (i := 16) (v := ?_) rfl (by kernel_rfl) (by kernel_rfl) (by kernel_rfl) (fun _ _ _ h => h) (Or.inl ⟨by rfl, ?_⟩) (by assumption) ?_
    rotate_left
    · (intro w hSw; (try dsimp only at hSw); first | (go_simp; done) | (go_simp; with_reducible rfl))
    try simp only [Act.put, List.getElem_toArray, List.getElem_cons_succ, List.getElem_cons_zero, List.setIfInBounds_toArray, List.set_cons_zero, List.set_cons_succ]
    refine wpAnyH_ready (rs := [17]) (by kernel_rfl) (by simp) ?_
    refine AllReadyH.cons rfl (fun K hK => ?_) AllReadyH.nil
    rw [if_pos (by rfl)]
    go_simp
    refine hK.out _ _ ?_ (fun hHeld => ?_)
    · ((try dsimp only); skip)
    clear hK K
    try simp only [Act.put, List.getElem_toArray, List.getElem_cons_succ, List.getElem_cons_zero, List.setIfInBounds_toArray, List.set_cons_zero, List.set_cons_succ]
    refine wpAnyH_done (by kernel_rfl) ?_ _
    refine NoPanic.normal ?_
    go_end0
    refine ⟨rfl, ?_, ?_⟩
    · exact ((show WAt w.drew.heap b s from hW).setA (s.a / 2)).setE (s.e / 2)
    · exact ((Ext.refl [b] w).drew.set' (by simp) _ _).set' (by simp) _ _
theorem take_any (b : Nat) (s : WSt S32) (hs : s.a ≤ 1000 ∧ s.e ≤ 1000) (x : S32) (w : World) (hW : WAt w.heap b s) : Calls Try.prog 38 #[.pointer (some ⟨b, 0, none⟩), .agg x.V] w fun e w' => e = .returned (.tuple #[]) ∧ WAt w'.heap b (s.take nodeS x) ∧ Ext [b] w w' := by
  go_enter Try.func38, Try.ntmps38
  go_upto_region 1 with fail
  have hR := heap_new w (.cells x.V 35)
  have hW0 : WAt (w.alloc (.cells x.V 35)).heap b s := heap_old' _ _ hW
  have hx0 := (Ext.refl [] w).alloc (.cells x.V 35)
  have hbl := lt_of_heap hW
  generalize w.alloc (.cells x.V 35) = W at hR hW0 hx0 ⊢
  obtain ⟨R, hRR⟩ : ∃ R, w.heap.size = R := ⟨_, rfl⟩
  rw [hRR] at hR hbl ⊢
  have hRb : R ≠ b := by omega
  have h0 := hW0.a
  have h1 := hW0.e
  have f66 := hW0.free 66
  have c66 := hW0.st
  by_cases he : s.e = 0
  · have he' : (s.e : Int) = 0 := by omega
    go_wp2
    refine bodyPost_ret (results_none rfl _ _ _) rfl ?_
    refine ⟨rfl, ?_, ?_⟩
    · have : s.take nodeS x = { s with st := true } := by unfold WSt.take; rw [if_pos he]
      rw [this]; exact hW0.setS true
    · exact (hx0.mono (fun _ h => by cases h)).set' (by simp) _ _
  · have he' : ¬ (s.e : Int) = 0 := by omega
    have hand := and_one s.a (by omega)
    by_cases ho : s.a % 2 = 1
    · rw [ho] at hand
      go_upto_region 3 with fail
      refine wp_region_stl (by kernel_rfl) (by kernel_rfl) ?_
      refine still_val (v := ?_) (by rfl) ?_ ?_
      rotate_left
      · first | (go_simp; done) | (go_simp; with_reducible rfl)
      try simp only [Act.put, List.getElem_toArray, List.getElem_cons_succ, List.getElem_cons_zero, List.setIfInBounds_toArray, List.set_cons_zero, List.set_cons_succ]
      refine still_val (v := ?_) (by rfl) ?_ ?_
      rotate_left
      · first | (go_simp; done) | (go_simp; with_reducible rfl)
      try simp only [Act.put, List.getElem_toArray, List.getElem_cons_succ, List.getElem_cons_zero, List.setIfInBounds_toArray, List.set_cons_zero, List.set_cons_succ]
      refine still_val (v := ?_) (by rfl) ?_ ?_
      rotate_left
      · first | (go_simp; done) | (go_simp; with_reducible rfl)
      try simp only [Act.put, List.getElem_toArray, List.getElem_cons_succ, List.getElem_cons_zero, List.setIfInBounds_toArray, List.set_cons_zero, List.set_cons_succ]
      refine still_val (v := ?_) (by rfl) ?_ ?_
      rotate_left
      · first | (go_simp; done) | (go_simp; with_reducible rfl)
      try simp only [Act.put, List.getElem_toArray, List.getElem_cons_succ, List.getElem_cons_zero, List.setIfInBounds_toArray, List.set_cons_zero, List.set_cons_succ]
      refine still_val (v := ?_) (by rfl) ?_ ?_
      rotate_left
      · first | (go_simp; done) | (go_simp; with_reducible rfl)
      try simp only [Act.put, List.getElem_toArray, List.getElem_cons_succ, List.getElem_cons_zero, List.setIfInBounds_toArray, List.set_cons_zero, List.set_cons_succ]
      refine still_val (v := ?_) (by rfl) ?_ ?_
      rotate_left
      · first | (go_simp; done) | (go_simp; with_reducible rfl)
      try simp only [Act.put, List.getElem_toArray, List.getElem_cons_succ, List.getElem_cons_zero, List.setIfInBounds_toArray, List.set_cons_zero, List.set_cons_succ]
      refine still_val (v := ?_) (by rfl) ?_ ?_
      rotate_left
      · first | (go_simp; done) | (go_simp; with_reducible rfl)
      try simp only [Act.put, List.getElem_toArray, List.getElem_cons_succ, List.getElem_cons_zero, List.setIfInBounds_toArray, List.set_cons_zero, List.set_cons_succ]
      refine still_not (by rfl) ?_
      try simp only [Act.put, List.getElem_toArray, List.getElem_cons_succ, List.getElem_cons_zero, List.setIfInBounds_toArray, List.set_cons_zero, List.set_cons_succ]
      refine still_not (by rfl) ?_
      try simp only [Act.put, List.getElem_toArray, List.getElem_cons_succ, List.getElem_cons_zero, List.setIfInBounds_toArray, List.set_cons_zero, List.set_cons_succ]
      refine still_not (by rfl) ?_
      try simp only [Act.put, List.getElem_toArray, List.getElem_cons_succ, List.getElem_cons_zero, List.setIfInBounds_toArray, List.set_cons_zero, List.set_cons_succ]
      refine still_not (by rfl) ?_
      try simp only [Act.put, List.getElem_toArray, List.getElem_cons_succ, List.getElem_cons_zero, List.setIfInBounds_toArray, List.set_cons_zero, List.set_cons_succ]
      refine still_not (by rfl) ?_
      try simp only [Act.put, List.getElem_toArray, List.getElem_cons_succ, List.getElem_cons_zero, List.setIfInBounds_toArray, List.set_cons_zero, List.set_cons_succ]
      refine still_not (by rfl) ?_
      try simp only [Act.put, List.getElem_toArray, List.getElem_cons_succ, List.getElem_cons_zero, List.setIfInBounds_toArray, List.set_cons_zero, List.set_cons_succ]
      refine still_not (by rfl) ?_
      try simp only [Act.put, List.getElem_toArray, List.getElem_cons_succ, List.getElem_cons_zero, List.setIfInBounds_toArray, List.set_cons_zero, List.set_cons_succ]
      refine still_not (by rfl) ?_
      try simp only [Act.put, List.getElem_toArray, List.getElem_cons_succ, List.getElem_cons_zero, List.setIfInBounds_toArray, List.set_cons_zero, List.set_cons_succ]
      refine still_not (by rfl) ?_
      try simp only [Act.put, List.getElem_toArray, List.getElem_cons_succ, List.getElem_cons_zero, List.setIfInBounds_toArray, List.set_cons_zero, List.set_cons_succ]
      refine still_val (v := ?_) (by rfl) ?_ ?_
      rotate_left
      · first | (go_simp; done) | (go_simp; with_reducible rfl)
      try simp only [Act.put, List.getElem_toArray, List.getElem_cons_succ, List.getElem_cons_zero, List.setIfInBounds_toArray, List.set_cons_zero, List.set_cons_succ]
      refine still_end ?_
      go_upto_region 4 with fail
      go_cut [] (fun wx => ∃ y1 y2, WAt wx.heap b { s with o := y1, l := y2 } ∧ Hid (y1 = nodeS x s.o ∧ y2 = nodeS x s.l) ∧ wx.heap[R]? = some (.cells x.V 35 (0, 0)) ∧ Ext [b] w wx)
      case first =>
        refine wp_region_noPanic ?_
        refine wp_region_held_drew (S := (fun w' => w'.heap[R]? = some (.cells x.V 35 (0, 0)))) (by kernel_rfl) ?_ (fun hHeld => ?_)
        · ((try dsimp only); exact hR)
        refine wpAnyH_take (i := 0) (v := ?_) rfl (by kernel_rfl) (by kernel_rfl) (by kernel_rfl) (fun _ _ _ h => h) (Or.inl ⟨by rfl, ?_⟩) (by assumption) ?_
        rotate_left
        · (intro w hSw; (try dsimp only at hSw); first | (go_simp; done) | (go_simp; with_reducible rfl))
        try simp only [Act.put, List.getElem_toArray, List.getElem_cons_succ, List.getElem_cons_zero, List.setIfInBounds_toArray, List.set_cons_zero, List.set_cons_succ]
        refine wpAnyH_take (i := 1) (v := ?_) rfl (by kernel_rfl) (by kernel_rfl) (by kernel_rfl) (fun _ _ _ h => h) (Or.inl ⟨by rfl, ?_⟩) (by assumption) ?_
        rotate_left
        · (intro w hSw; (try dsimp only at hSw); first | (go_simp; done) | (go_simp; with_reducible rfl))
        try simp only [Act.put, List.getElem_toArray, List.getElem_cons_succ, List.getElem_cons_zero, List.setIfInBounds_toArray, List.set_cons_zero, List.set_cons_succ]
        refine wpAnyH_take (i := 2) (v := _) rfl (by kernel_rfl) (by kernel_rfl) (by kernel_rfl) (fun _ _ _ h => h) (yieldsIf_of (.agg x.V) (by rfl) (fun w' hw => exec_load_rowV _ rfl R rfl x w' ⟨_, hw⟩)) (by assumption) ?_
        try simp only [Act.put, List.getElem_toArray, List.getElem_cons_succ, List.getElem_cons_zero, List.setIfInBounds_toArray, List.set_cons_zero, List.set_cons_succ]
        refine wpAnyH_take (i := 3) (v := ?_) rfl (by kernel_rfl) (by kernel_rfl) (by kernel_rfl) (fun _ _ _ h => h) (Or.inl ⟨by rfl, ?_⟩) (by assumption) ?_
        rotate_left
        · (intro w hSw; (try dsimp only at hSw); first | (go_simp; done) | (go_simp; with_reducible rfl))
        try simp only [Act.put, List.getElem_toArray, List.getElem_cons_succ, List.getElem_cons_zero, List.setIfInBounds_toArray, List.set_cons_zero, List.set_cons_succ]
        refine wpAnyH_take (i := 4) (v := ?_) rfl (by kernel_rfl) (by kernel_rfl) (by kernel_rfl) (fun _ _ _ h => h) (Or.inl ⟨by rfl, ?_⟩) (by assumption) ?_
        rotate_left
        · (intro w hSw; (try dsimp only at hSw); first | (go_simp; done) | (go_simp; with_reducible rfl))
        try simp only [Act.put, List.getElem_toArray, List.getElem_cons_succ, List.getElem_cons_zero, List.setIfInBounds_toArray, List.set_cons_zero, List.set_cons_succ]
        refine wpAnyH_take (i := 5) (v := ?_) rfl (by kernel_rfl) (by kernel_rfl) (by kernel_rfl) (fun _ _ _ h => h) (Or.inl ⟨by rfl, ?_⟩) (by assumption) ?_
        rotate_left
        · (intro w hSw; (try dsimp only at hSw); first | (go_simp; done) | (go_simp; with_reducible rfl))
        try simp only [Act.put, List.getElem_toArray, List.getElem_cons_succ, List.getElem_cons_zero, List.setIfInBounds_toArray, List.set_cons_zero, List.set_cons_succ]
        refine wpAnyH_take (i := 8) (v := _) rfl (by kernel_rfl) (by kernel_rfl) (by kernel_rfl) (fun _ _ _ h => h) (yieldsIf_of (.agg x.V) (by rfl) (fun w' hw => exec_load_rowV _ rfl R rfl x w' ⟨_, hw⟩)) (by assumption) ?_
        try simp only [Act.put, List.getElem_toArray, List.getElem_cons_succ, List.getElem_cons_zero, List.setIfInBounds_toArray, List.set_cons_zero, List.set_cons_succ]
        refine wpAnyH_take (i := 9) (v := ?_) rfl (by kernel_rfl) (by kernel_rfl) (by kernel_rfl) (fun _ _ _ h => h) (Or.inl ⟨by rfl, ?_⟩) (by assumption) ?_
        rotate_left
        · (intro w hSw; (try dsimp only at hSw); first | (go_simp; done) | (go_simp; with_reducible rfl))
        try simp only [Act.put, List.getElem_toArray, List.getElem_cons_succ, List.getElem_cons_zero, List.setIfInBounds_toArray, List.set_cons_zero, List.set_cons_succ]
        refine wpAnyH_take (i := 10) (v := ?_) rfl (by kernel_rfl) (by kernel_rfl) (by kernel_rfl) (fun _ _ _ h => h) (Or.inl ⟨by rfl, ?_⟩) (by assumption) ?_
        rotate_left
        · (intro w hSw; (try dsimp only at hSw); first | (go_simp; done) | (go_simp; with_reducible rfl))
        try simp only [Act.put, List.getElem_toArray, List.getElem_cons_succ, List.getElem_cons_zero, List.setIfInBounds_toArray, List.set_cons_zero, List.set_cons_succ]
        refine wpAnyH_take (i := 11) (v := ?_) rfl (by kernel_rfl) (by kernel_rfl) (by kernel_rfl) (fun _ _ _ h => h) (Or.inl ⟨by rfl, ?_⟩) (by assumption) ?_
        rotate_left
        · (intro w hSw; (try dsimp only at hSw); first | (go_simp; done) | (go_simp; with_reducible rfl))
        try simp only [Act.put, List.getElem_toArray, List.getElem_cons_succ, List.getElem_cons_zero, List.setIfInBounds_toArray, List.set_cons_zero, List.set_cons_succ]
        refine wpAnyH_ready (rs := [6, 12]) (by kernel_rfl) (by simp) ?_
        refine AllReadyH.cons rfl (fun K hK => ?_) (AllReadyH.cons rfl (fun K hK => ?_) AllReadyH.nil)
        · rw [if_pos (by rfl)]
          refine wp_load_midV _ rfl b 2 rfl s.o hW0.o ?_
          refine hK.out _ _ ?_ (fun hHeld => ?_)
          · ((try dsimp only); exact hHeld)
          clear hK K
          try simp only [Act.put, List.getElem_toArray, List.getElem_cons_succ, List.getElem_cons_zero, List.setIfInBounds_toArray, List.set_cons_zero, List.set_cons_succ]
          refine wpAnyH_ready (rs := [7, 12]) (by kernel_rfl) (by simp) ?_
          refine AllReadyH.cons rfl (fun K hK => ?_) (AllReadyH.cons rfl (fun K hK => ?_) AllReadyH.nil)
          · go_simp
            (go_at_call 24; refine (nodeY_any x s.o _).mono ?_; rintro e w1 ⟨y1, rfl, hy1, hx1⟩; have hW1 : WAt w1.heap b s := Ext.same hx1 (by exact hW0) List.not_mem_nil; have hR1 := hx1.same hHeld List.not_mem_nil)
            go_wp2_with fail
            refine hK.out _ _ ?_ (fun hHeld => ?_)
            · ((try dsimp only); exact hR1)
            clear hK K
            try simp only [Act.put, List.getElem_toArray, List.getElem_cons_succ, List.getElem_cons_zero, List.setIfInBounds_toArray, List.set_cons_zero, List.set_cons_succ]
            refine wpAnyH_ready (rs := [12]) (by kernel_rfl) (by simp) ?_
            refine AllReadyH.cons rfl (fun K hK => ?_) AllReadyH.nil
            rw [if_pos (by rfl)]
            refine wp_load_midV _ rfl b 34 rfl s.l hW1.l ?_
            refine hK.out _ _ ?_ (fun hHeld => ?_)
            · ((try dsimp only); exact hHeld)
            clear hK K
            try simp only [Act.put, List.getElem_toArray, List.getElem_cons_succ, List.getElem_cons_zero, List.setIfInBounds_toArray, List.set_cons_zero, List.set_cons_succ]
            refine wpAnyH_ready (rs := [13]) (by kernel_rfl) (by simp) ?_
            refine AllReadyH.cons rfl (fun K hK => ?_) AllReadyH.nil
            go_simp
            (go_at_call 24; refine (nodeY_any x s.l _).mono ?_; rintro e w2 ⟨y2, rfl, hy2, hx2⟩; have hW2 : WAt w2.heap b s := Ext.same hx2 (by exact hW1) List.not_mem_nil; have hR2 := hx2.same hHeld List.not_mem_nil)
            go_wp2_with fail
            refine hK.out _ _ ?_ (fun hHeld => ?_)
            · ((try dsimp only); exact hR2)
            clear hK K
            try simp only [Act.put, List.getElem_toArray, List.getElem_cons_succ, List.getElem_cons_zero, List.setIfInBounds_toArray, List.set_cons_zero, List.set_cons_succ]
            refine wpAnyH_take (i := 14) (v := ?_) rfl (by kernel_rfl) (by kernel_rfl) (by kernel_rfl) (fun _ _ _ h => h) (Or.inl ⟨by rfl, ?_⟩) (by assumption) ?_
            rotate_left
            · (intro w hSw; (try dsimp only at hSw); first | (go_simp; done) | (go_simp; with_reducible rfl))
            try simp only [Act.put, List.getElem_toArray, List.getElem_cons_succ, List.getElem_cons_zero, List.setIfInBounds_toArray, List.set_cons_zero, List.set_cons_succ]
            refine wpAnyH_take (i := 15) (v := ?_) rfl (by kernel_rfl) (by kernel_rfl) (by kernel_rfl) (fun _ _ _ h => h) (Or.inl ⟨by rfl, ?_⟩) (by assumption) ?_
            rotate_left
            · (intro w hSw; (try dsimp only at hSw); first | (go_simp; done) | (go_simp; with_reducible rfl))
            try simp only [Act.put, List.getElem_toArray, List.getElem_cons_succ, List.getElem_cons_zero, List.setIfInBounds_toArray, List.set_cons_zero, List.set_cons_succ]
            refine wpAnyH_ready (rs := [16]) (by kernel_rfl) (by simp) ?_
            refine AllReadyH.cons rfl (fun K hK => ?_) AllReadyH.nil
            rw [if_pos (by rfl)]
            (have hW3 := WAt.setO hW2 (y1); refine wp_store_midV _ _ rfl b 2 (y1) rfl rfl (hW2.there _ _ (by decide)) ?_)
            refine hK.out _ _ ?_ (fun hHeld => ?_)
            · ((try dsimp only); (rw [heap_setCells_ne _ _ _ hRb]; exact hHeld))
            clear hK K
            try simp only [Act.put, List.getElem_toArray, List.getElem_cons_succ, List.getElem_cons_zero, List.setIfInBounds_toArray, List.set_cons_zero, List.set_cons_succ]
            refine wpAnyH_take (i := 17) (v := ?_) rfl (by kernel_rfl) (by kernel_rfl) (by kernel_rfl) (fun _ _ _ h => h) (Or.inl ⟨by rfl, ?_⟩) (by assumption) ?_
            rotate_left
            · (intro w hSw; (try dsimp only at hSw); first | (go_simp; done) | (go_simp; with_reducible rfl))
            try simp only [Act.put, List.getElem_toArray, List.getElem_cons_succ, List.getElem_cons_zero, List.setIfInBounds_toArray, List.set_cons_zero, List.set_cons_succ]
            refine wpAnyH_take (i := 18) (v := ?_) rfl (by kernel_rfl) (by kernel_rfl) (by kernel_rfl) (fun _ _ _ h => h) (Or.inl ⟨by rfl, ?_⟩) (by assumption) ?_
            rotate_left
            · (intro w hSw; (try dsimp only at hSw); first | (go_simp; done) | (go_simp; with_reducible rfl))
            try simp only [Act.put, List.getElem_toArray, List.getElem_cons_succ, List.getElem_cons_zero, List.setIfInBounds_toArray, List.set_cons_zero, List.set_cons_succ]
            refine wpAnyH_ready (rs := [19]) (by kernel_rfl) (by simp) ?_
            refine AllReadyH.cons rfl (fun K hK => ?_) AllReadyH.nil
            rw [if_pos (by rfl)]
            (have hW4 := WAt.setL hW3 (y2); refine wp_store_midV _ _ rfl b 34 (y2) rfl rfl (hW3.there _ _ (by decide)) ?_)
            refine hK.out _ _ ?_ (fun hHeld => ?_)
            · ((try dsimp only); (rw [heap_setCells_ne _ _ _ hRb]; exact hHeld))
            clear hK K
            try simp only [Act.put, List.getElem_toArray, List.getElem_cons_succ, List.getElem_cons_zero, List.setIfInBounds_toArray, List.set_cons_zero, List.set_cons_succ]
            refine wpAnyH_done (by kernel_rfl) ?_ _
            refine NoPanic.normal ?_
            go_wp2
            go_meet
            exact ⟨y1, y2, hW4, Hs.hid ⟨hy1.out, hy2.out⟩, hHeld, (((hx0.drew.drew.trans0 hx1).trans0 hx2).mono (fun _ h => by cases h)).trans' (Ext.setCells (.inl (List.mem_singleton.2 rfl)) _ _ _ (Ext.setCells (.inl (List.mem_singleton.2 rfl)) _ _ _ (Ext.refl [b] _)))⟩
          · rw [if_pos (by rfl)]
            refine wp_load_midV _ rfl b 34 rfl s.l hW0.l ?_
            refine hK.out _ _ ?_ (fun hHeld => ?_)
            · ((try dsimp only); exact hHeld)
            clear hK K
            try simp only [Act.put, List.getElem_toArray, List.getElem_cons_succ, List.getElem_cons_zero, List.setIfInBounds_toArray, List.set_cons_zero, List.set_cons_succ]
            refine wpAnyH_ready (rs := [7]) (by kernel_rfl) (by simp) ?_
            refine AllReadyH.cons rfl (fun K hK => ?_) AllReadyH.nil
            go_simp
            (go_at_call 24; refine (nodeY_any x s.o _).mono ?_; rintro e w1 ⟨y1, rfl, hy1, hx1⟩; have hW1 : WAt w1.heap b s := Ext.same hx1 (by exact hW0) List.not_mem_nil; have hR1 := hx1.same hHeld List.not_mem_nil)
            go_wp2_with fail
            refine hK.out _ _ ?_ (fun hHeld => ?_)
            · ((try dsimp only); exact hR1)
            clear hK K
            try simp only [Act.put, List.getElem_toArray, List.getElem_cons_succ, List.getElem_cons_zero, List.setIfInBounds_toArray, List.set_cons_zero, List.set_cons_succ]
            refine wpAnyH_ready (rs := [13]) (by kernel_rfl) (by simp) ?_
            refine AllReadyH.cons rfl (fun K hK => ?_) AllReadyH.nil
            go_simp
            (go_at_call 24; refine (nodeY_any x s.l _).mono ?_; rintro e w2 ⟨y2, rfl, hy2, hx2⟩; have hW2 : WAt w2.heap b s := Ext.same hx2 (by exact hW1) List.not_mem_nil; have hR2 := hx2.same hHeld List.not_mem_nil)
            go_wp2_with fail
            refine hK.out _ _ ?_ (fun hHeld => ?_)
            · ((try dsimp only); exact hR2)
            clear hK K
            try simp only [Act.put, List.getElem_toArray, List.getElem_cons_succ, List.getElem_cons_zero, List.setIfInBounds_toArray, List.set_cons_zero, List.set_cons_succ]
            refine wpAnyH_take (i := 14) (v := ?_) rfl (by kernel_rfl) (by kernel_rfl) (by kernel_rfl) (fun _ _ _ h => h) (Or.inl ⟨by rfl, ?_⟩) (by assumption) ?_
            rotate_left
            · (intro w hSw; (try dsimp only at hSw); first | (go_simp; done) | (go_simp; with_reducible rfl))
            try simp only [Act.put, List.getElem_toArray, List.getElem_cons_succ, List.getElem_cons_zero, List.setIfInBounds_toArray, List.set_cons_zero, List.set_cons_succ]
            refine wpAnyH_take (i := 15) (v := ?_) rfl (by kernel_rfl) (by kernel_rfl) (by kernel_rfl) (fun _ _ _ h => h) (Or.inl ⟨by rfl, ?_⟩) (by assumption) ?_
            rotate_left
            · (intro w hSw; (try dsimp only at hSw); first | (go_simp; done) | (go_simp; with_reducible rfl))
            try simp only [Act.put, List.getElem_toArray, List.getElem_cons_succ, List.getElem_cons_zero, List.setIfInBounds_toArray, List.set_cons_zero, List.set_cons_succ]
            refine wpAnyH_ready (rs := [16]) (by kernel_rfl) (by simp) ?_
            refine AllReadyH.cons rfl (fun K hK => ?_) AllReadyH.nil
            rw [if_pos (by rfl)]
            (have hW3 := WAt.setO hW2 (y1); refine wp_store_midV _ _ rfl b 2 (y1) rfl rfl (hW2.there _ _ (by decide)) ?_)
            refine hK.out _ _ ?_ (fun hHeld => ?_)
            · ((try dsimp only); (rw [heap_setCells_ne _ _ _ hRb]; exact hHeld))
            clear hK K
            try simp only [Act.put, List.getElem_toArray, List.getElem_cons_succ, List.getElem_cons_zero, List.setIfInBounds_toArray, List.set_cons_zero, List.set_cons_succ]
            refine wpAnyH_take (i := 17) (v := ?_) rfl (by kernel_rfl) (by kernel_rfl) (by kernel_rfl) (fun _ _ _ h => h) (Or.inl ⟨by rfl, ?_⟩) (by assumption) ?_
            rotate_left
            · (intro w hSw; (try dsimp only at hSw); first | (go_simp; done) | (go_simp; with_reducible rfl))
            try simp only [Act.put, List.getElem_toArray, List.getElem_cons_succ, List.getElem_cons_zero, List.setIfInBounds_toArray, List.set_cons_zero, List.set_cons_succ]
            refine wpAnyH_take (i := 18) (v := ?_) rfl (by kernel_rfl) (by kernel_rfl) (by kernel_rfl) (fun _ _ _ h => h) (Or.inl ⟨by rfl, ?_⟩) (by assumption) ?_
            rotate_left
            · (intro w hSw; (try dsimp only at hSw); first | (go_simp; done) | (go_simp; with_reducible rfl))
            try simp only [Act.put, List.getElem_toArray, List.getElem_cons_succ, List.getElem_cons_zero, List.setIfInBounds_toArray, List.set_cons_zero, List.set_cons_succ]
            refine wpAnyH_ready (rs := [19]) (by kernel_rfl) (by simp) ?_
            refine AllReadyH.cons rfl (fun K hK => ?_) AllReadyH.nil
            rw [if_pos (by rfl)]
            (have hW4 := WAt.setL hW3 (y2); refine wp_store_midV _ _ rfl b 34 (y2) rfl rfl (hW3.there _ _ (by decide)) ?_)
            refine hK.out _ _ ?_ (fun hHeld => ?_)
            · ((try dsimp only); (rw [heap_setCells_ne _ _ _ hRb]; exact hHeld))
            clear hK K
            try simp only [Act.put, List.getElem_toArray, List.getElem_cons_succ, List.getElem_cons_zero, List.setIfInBounds_toArray, List.set_cons_zero, List.set_cons_succ]
            refine wpAnyH_done (by kernel_rfl) ?_ _
            refine NoPanic.normal ?_
            go_wp2
            go_meet
            exact ⟨y1, y2, hW4, Hs.hid ⟨hy1.out, hy2.out⟩, hHeld, (((hx0.drew.drew.trans0 hx1).trans0 hx2).mono (fun _ h => by cases h)).trans' (Ext.setCells (.inl (List.mem_singleton.2 rfl)) _ _ _ (Ext.setCells (.inl (List.mem_singleton.2 rfl)) _ _ _ (Ext.refl [b] _)))⟩
        · rw [if_pos (by rfl)]
          refine wp_load_midV _ rfl b 34 rfl s.l hW0.l ?_
          refine hK.out _ _ ?_ (fun hHeld => ?_)
          · ((try dsimp only); exact hHeld)
          clear hK K
          try simp only [Act.put, List.getElem_toArray, List.getElem_cons_succ, List.getElem_cons_zero, List.setIfInBounds_toArray, List.set_cons_zero, List.set_cons_succ]
          refine wpAnyH_ready (rs := [6]) (by kernel_rfl) (by simp) ?_
          refine AllReadyH.cons rfl (fun K hK => ?_) AllReadyH.nil
          rw [if_pos (by rfl)]
          refine wp_load_midV _ rfl b 2 rfl s.o hW0.o ?_
          refine hK.out _ _ ?_ (fun hHeld => ?_)
          · ((try dsimp only); exact hHeld)
          clear hK K
          try simp only [Act.put, List.getElem_toArray, List.getElem_cons_succ, List.getElem_cons_zero, List.setIfInBounds_toArray, List.set_cons_zero, List.set_cons_succ]
          refine wpAnyH_ready (rs := [7]) (by kernel_rfl) (by simp) ?_
          refine AllReadyH.cons rfl (fun K hK => ?_) AllReadyH.nil
          go_simp
          (go_at_call 24; refine (nodeY_any x s.o _).mono ?_; rintro e w1 ⟨y1, rfl, hy1, hx1⟩; have hW1 : WAt w1.heap b s := Ext.same hx1 (by exact hW0) List.not_mem_nil; have hR1 := hx1.same hHeld List.not_mem_nil)
          go_wp2_with fail
          refine hK.out _ _ ?_ (fun hHeld => ?_)
          · ((try dsimp only); exact hR1)
          clear hK K
          try simp only [Act.put, List.getElem_toArray, List.getElem_cons_succ, List.getElem_cons_zero, List.setIfInBounds_toArray, List.set_cons_zero, List.set_cons_succ]
          refine wpAnyH_ready (rs := [13]) (by kernel_rfl) (by simp) ?_
          refine AllReadyH.cons rfl (fun K hK => ?_) AllReadyH.nil
          go_simp
          (go_at_call 24; refine (nodeY_any x s.l _).mono ?_; rintro e w2 ⟨y2, rfl, hy2, hx2⟩; have hW2 : WAt w2.heap b s := Ext.same hx2 (by exact hW1) List.not_mem_nil; have hR2 := hx2.same hHeld List.not_mem_nil)
          go_wp2_with fail
          refine hK.out _ _ ?_ (fun hHeld => ?_)
          · ((try dsimp only); exact hR2)
          clear hK K
          try simp only [Act.put, List.getElem_toArray, List.getElem_cons_succ, List.getElem_cons_zero, List.setIfInBounds_toArray, List.set_cons_zero, List.set_cons_succ]
          refine wpAnyH_take (i := 14) (v := ?_) rfl (by kernel_rfl) (by kernel_rfl) (by kernel_rfl) (fun _ _ _ h => h) (Or.inl ⟨by rfl, ?_⟩) (by assumption) ?_
          rotate_left
          · (intro w hSw; (try dsimp only at hSw); first | (go_simp; done) | (go_simp; with_reducible rfl))
          try simp only [Act.put, List.getElem_toArray, List.getElem_cons_succ, List.getElem_cons_zero, List.setIfInBounds_toArray, List.set_cons_zero, List.set_cons_succ]
          refine wpAnyH_take (i := 15) (v := ?_) rfl (by kernel_rfl) (by kernel_rfl) (by kernel_rfl) (fun _ _ _ h => h) (Or.inl ⟨by rfl, ?_⟩) (by assumption) ?_
          rotate_left
          · (intro w hSw; (try dsimp only at hSw); first | (go_simp; done) | (go_simp; with_reducible rfl))
          try simp only [Act.put, List.getElem_toArray, List.getElem_cons_succ, List.getElem_cons_zero, List.setIfInBounds_toArray, List.set_cons_zero, List.set_cons_succ]
          refine wpAnyH_ready (rs := [16]) (by kernel_rfl) (by simp) ?_
          refine AllReadyH.cons rfl (fun K hK => ?_) AllReadyH.nil
          rw [if_pos (by rfl)]
          (have hW3 := WAt.setO hW2 (y1); refine wp_store_midV _ _ rfl b 2 (y1) rfl rfl (hW2.there _ _ (by decide)) ?_)
          refine hK.out _ _ ?_ (fun hHeld => ?_)
          · ((try dsimp only); (rw [heap_setCells_ne _ _ _ hRb]; exact hHeld))
          clear hK K
          try simp only [Act.put, List.getElem_toArray, List.getElem_cons_succ, List.getElem_cons_zero, List.setIfInBounds_toArray, List.set_cons_zero, List.set_cons_succ]
          refine wpAnyH_take (i := 17) (v := ?_) rfl (by kernel_rfl) (by kernel_rfl) (by kernel_rfl) (fun _ _ _ h => h) (Or.inl ⟨by rfl, ?_⟩) (by assumption) ?_
          rotate_left
          · (intro w hSw; (try dsimp only at hSw); first | (go_simp; done) | (go_simp; with_reducible rfl))
          try simp only [Act.put, List.getElem_toArray, List.getElem_cons_succ, List.getElem_cons_zero, List.setIfInBounds_toArray, List.set_cons_zero, List.set_cons_succ]
          refine wpAnyH_take (i := 18) (v := ?_) rfl (by kernel_rfl) (by kernel_rfl) (by kernel_rfl) (fun _ _ _ h => h) (Or.inl ⟨by rfl, ?_⟩) (by assumption) ?_
          rotate_left
          · (intro w hSw; (try dsimp only at hSw); first | (go_simp; done) | (go_simp; with_reducible rfl))
          try simp only [Act.put, List.getElem_toArray, List.getElem_cons_succ, List.getElem_cons_zero, List.setIfInBounds_toArray, List.set_cons_zero, List.set_cons_succ]
          refine wpAnyH_ready (rs := [19]) (by kernel_rfl) (by simp) ?_
          refine AllReadyH.cons rfl (fun K hK => ?_) AllReadyH.nil
          rw [if_pos (by rfl)]
          (have hW4 := WAt.setL hW3 (y2); refine wp_store_midV _ _ rfl b 34 (y2) rfl rfl (hW3.there _ _ (by decide)) ?_)
          refine hK.out _ _ ?_ (fun hHeld => ?_)
          · ((try dsimp only); (rw [heap_setCells_ne _ _ _ hRb]; exact hHeld))
          clear hK K
          try simp only [Act.put, List.getElem_toArray, List.getElem_cons_succ, List.getElem_cons_zero, List.setIfInBounds_toArray, List.set_cons_zero, List.set_cons_succ]
          refine wpAnyH_done (by kernel_rfl) ?_ _
          refine NoPanic.normal ?_
          go_wp2
          go_meet
          exact ⟨y1, y2, hW4, Hs.hid ⟨hy1.out, hy2.out⟩, hHeld, (((hx0.drew.drew.trans0 hx1).trans0 hx2).mono (fun _ h => by cases h)).trans' (Ext.setCells (.inl (List.mem_singleton.2 rfl)) _ _ _ (Ext.setCells (.inl (List.mem_singleton.2 rfl)) _ _ _ (Ext.refl [b] _)))⟩
      case rest =>
        clear hR h0 h1 f66 c66
        have HS := Hs.hid (show sideW s.a s.e = true by simp [sideW, ho])
        obtain ⟨y1, y2, hW4, HY, hR4, hE4⟩ := hcut
        go_wp2_with fail
        go_loopw [] (fun wr => ∃ a e, WAt wr.heap b { s with a := a, e := e, o := y1, l := y2 } ∧ a ≤ 1000 ∧ e ≤ 1000 ∧ climbE a e = climbE s.a s.e ∧ Ext [b] w wr) (fun wr => match wr.cell? ⟨b, 0, none⟩ with | some v => (intOf v).toNat | none => 0)
        case atStart => exact ⟨s.a, s.e, hW4, hs.1, hs.2, rfl, hE4⟩
        case round =>
          have HT := Hs.hid (fun a e (hc : climbE s.a s.e = (a, e)) => take_side (x := x) he (HS.out) hc)
          clear hW4 hE4 hR4 hW hW0 hx0 he he' hand
          obtain ⟨a, e, hW5, ha, hee, hc, hE5⟩ := hrel
          have HC := Hs.hid hc
          clear hc
          have k0 := hW5.a
          have hand5 := and_one a (by omega)
          by_cases ho5 : a % 2 = 0
          · replace hand5 : Go.bits .and .i64 (a : Int) 1 = 0 := by rw [hand5, ho5]; rfl
            by_cases ha0 : a = 0
            · have ha0' : (a : Int) = 0 := by omega
              have HA := Hs.hid ha0
              clear ha0
              go_wp2_with ((go_at_call 40; refine (up_any' b _ (by exact ⟨ha, hee⟩) _ hW5).mono ?_; rintro e w6 ⟨rfl, hW6, hx6⟩))
              go_end0
              exact ⟨rfl, by rw [HT.out a e (by rw [← HC.out, HA.out, climbE, dif_neg (by omega)]), ← HY.out.1, ← HY.out.2]; exact hW6, hE5.trans' hx6⟩
            · have ha0' : ¬ (a : Int) = 0 := by omega
              go_wp2_with ((go_at_call 40; refine (up_any' b _ (by exact ⟨ha, hee⟩) _ hW5).mono ?_; rintro e w6 ⟨rfl, hW6, hx6⟩))
              go_round
              case rel => exact ⟨a / 2, e / 2, hW6, by omega, by omega, by rw [← HC.out]; exact (climbE_even ho5 ha0).symm, hE5.trans' hx6⟩
              case measure =>
                have k6 : w6.cell? ⟨b, 0, none⟩ = some (.int .i64 ((a / 2 : Nat) : Int)) := hW6.a
                simp only [k6, k0]
                simp [intOf]; omega
          · have h15 : a % 2 = 1 := by omega
            rw [h15] at hand5
            go_wp2_with ((go_at_call 40; refine (up_any' b _ (by exact ⟨ha, hee⟩) _ hW5).mono ?_; rintro e w6 ⟨rfl, hW6, hx6⟩))
            go_end0
            exact ⟨rfl, by rw [HT.out a e (by rw [← HC.out, climbE_odd h15]), ← HY.out.1, ← HY.out.2]; exact hW6, hE5.trans' hx6⟩
    · have ho0 : s.a % 2 = 0 := by omega
      replace hand : Go.bits .and .i64 (s.a : Int) 1 = 0 := by rw [hand, ho0]; rfl
      go_upto_region 3 with fail
      by_cases hq : s.a = s.e
      · have hqi : (s.e : Int) = s.a := by omega
        have HQ := Hs.hid hq
        clear hq
        refine wp_region_stl (by kernel_rfl) (by kernel_rfl) ?_
        refine still_val (v := ?_) (by rfl) ?_ ?_
        rotate_left
        · first | (go_simp; done) | (go_simp; with_reducible rfl)
        try simp only [Act.put, List.getElem_toArray, List.getElem_cons_succ, List.getElem_cons_zero, List.setIfInBounds_toArray, List.set_cons_zero, List.set_cons_succ]
        refine still_val (v := ?_) (by rfl) ?_ ?_
        rotate_left
        · first | (go_simp; done) | (go_simp; with_reducible rfl)
        try simp only [Act.put, List.getElem_toArray, List.getElem_cons_succ, List.getElem_cons_zero, List.setIfInBounds_toArray, List.set_cons_zero, List.set_cons_succ]
        refine still_val (v := ?_) (by rfl) ?_ ?_
        rotate_left
        · first | (go_simp; done) | (go_simp; with_reducible rfl)
        try simp only [Act.put, List.getElem_toArray, List.getElem_cons_succ, List.getElem_cons_zero, List.setIfInBounds_toArray, List.set_cons_zero, List.set_cons_succ]
        refine still_val (v := ?_) (by rfl) ?_ ?_
        rotate_left
        · first | (go_simp; done) | (go_simp; with_reducible rfl)
        try simp only [Act.put, List.getElem_toArray, List.getElem_cons_succ, List.getElem_cons_zero, List.setIfInBounds_toArray, List.set_cons_zero, List.set_cons_succ]
        refine still_val (v := ?_) (by rfl) ?_ ?_
        rotate_left
        · first | (go_simp; done) | (go_simp; with_reducible rfl)
        try simp only [Act.put, List.getElem_toArray, List.getElem_cons_succ, List.getElem_cons_zero, List.setIfInBounds_toArray, List.set_cons_zero, List.set_cons_succ]
        refine still_val (v := ?_) (by rfl) ?_ ?_
        rotate_left
        · first | (go_simp; done) | (go_simp; with_reducible rfl)
        try simp only [Act.put, List.getElem_toArray, List.getElem_cons_succ, List.getElem_cons_zero, List.setIfInBounds_toArray, List.set_cons_zero, List.set_cons_succ]
        refine still_val (v := ?_) (by rfl) ?_ ?_
        rotate_left
        · first | (go_simp; done) | (go_simp; with_reducible rfl)
        try simp only [Act.put, List.getElem_toArray, List.getElem_cons_succ, List.getElem_cons_zero, List.setIfInBounds_toArray, List.set_cons_zero, List.set_cons_succ]
        refine still_val (v := ?_) (by rfl) ?_ ?_
        rotate_left
        · first | (go_simp; done) | (go_simp; with_reducible rfl)
        try simp only [Act.put, List.getElem_toArray, List.getElem_cons_succ, List.getElem_cons_zero, List.setIfInBounds_toArray, List.set_cons_zero, List.set_cons_succ]
        refine still_val (v := ?_) (by rfl) ?_ ?_
        rotate_left
        · first | (go_simp; done) | (go_simp; with_reducible rfl)
        try simp only [Act.put, List.getElem_toArray, List.getElem_cons_succ, List.getElem_cons_zero, List.setIfInBounds_toArray, List.set_cons_zero, List.set_cons_succ]
        refine still_val (v := ?_) (by rfl) ?_ ?_
        rotate_left
        · first | (go_simp; done) | (go_simp; with_reducible rfl)
        try simp only [Act.put, List.getElem_toArray, List.getElem_cons_succ, List.getElem_cons_zero, List.setIfInBounds_toArray, List.set_cons_zero, List.set_cons_succ]
        refine still_val (v := ?_) (by rfl) ?_ ?_
        rotate_left
        · first | (go_simp; done) | (go_simp; with_reducible rfl)
        try simp only [Act.put, List.getElem_toArray, List.getElem_cons_succ, List.getElem_cons_zero, List.setIfInBounds_toArray, List.set_cons_zero, List.set_cons_succ]
        refine still_val (v := ?_) (by rfl) ?_ ?_
        rotate_left
        · first | (go_simp; done) | (go_simp; with_reducible rfl)
        try simp only [Act.put, List.getElem_toArray, List.getElem_cons_succ, List.getElem_cons_zero, List.setIfInBounds_toArray, List.set_cons_zero, List.set_cons_succ]
        refine still_val (v := ?_) (by rfl) ?_ ?_
        rotate_left
        · first | (go_simp; done) | (go_simp; with_reducible rfl)
        try simp only [Act.put, List.getElem_toArray, List.getElem_cons_succ, List.getElem_cons_zero, List.setIfInBounds_toArray, List.set_cons_zero, List.set_cons_succ]
        refine still_val (v := ?_) (by rfl) ?_ ?_
        rotate_left
        · first | (go_simp; done) | (go_simp; with_reducible rfl)
        try simp only [Act.put, List.getElem_toArray, List.getElem_cons_succ, List.getElem_cons_zero, List.setIfInBounds_toArray, List.set_cons_zero, List.set_cons_succ]
        refine still_val (v := ?_) (by rfl) ?_ ?_
        rotate_left
        · first | (go_simp; done) | (go_simp; with_reducible rfl)
        try simp only [Act.put, List.getElem_toArray, List.getElem_cons_succ, List.getElem_cons_zero, List.setIfInBounds_toArray, List.set_cons_zero, List.set_cons_succ]
        refine still_val (v := ?_) (by rfl) ?_ ?_
        rotate_left
        · first | (go_simp; done) | (go_simp; with_reducible rfl)
        try simp only [Act.put, List.getElem_toArray, List.getElem_cons_succ, List.getElem_cons_zero, List.setIfInBounds_toArray, List.set_cons_zero, List.set_cons_succ]
        refine still_val (v := ?_) (by rfl) ?_ ?_
        rotate_left
        · first | (go_simp; done) | (go_simp; with_reducible rfl)
        try simp only [Act.put, List.getElem_toArray, List.getElem_cons_succ, List.getElem_cons_zero, List.setIfInBounds_toArray, List.set_cons_zero, List.set_cons_succ]
        refine still_end ?_
        go_upto_region 4 with fail
        go_cut [] (fun wx => ∃ y1 y2, WAt wx.heap b { s with o := y1, l := y2 } ∧ Hid (y1 = nodeS x s.o ∧ y2 = nodeS x s.l) ∧ wx.heap[R]? = some (.cells x.V 35 (0, 0)) ∧ Ext [b] w wx)
        case first =>
          refine wp_region_noPanic ?_
          refine wp_region_held_drew (S := (fun w' => w'.heap[R]? = some (.cells x.V 35 (0, 0)))) (by kernel_rfl) ?_ (fun hHeld => ?_)
          · ((try dsimp only); exact hR)
          refine wpAnyH_take (i := 0) (v := ?_) rfl (by kernel_rfl) (by kernel_rfl) (by kernel_rfl) (fun _ _ _ h => h) (Or.inl ⟨by rfl, ?_⟩) (by assumption) ?_
          rotate_left
          · (intro w hSw; (try dsimp only at hSw); first | (go_simp; done) | (go_simp; with_reducible rfl))
          try simp only [Act.put, List.getElem_toArray, List.getElem_cons_succ, List.getElem_cons_zero, List.setIfInBounds_toArray, List.set_cons_zero, List.set_cons_succ]
          refine wpAnyH_take (i := 1) (v := ?_) rfl (by kernel_rfl) (by kernel_rfl) (by kernel_rfl) (fun _ _ _ h => h) (Or.inl ⟨by rfl, ?_⟩) (by assumption) ?_
          rotate_left
          · (intro w hSw; (try dsimp only at hSw); first | (go_simp; done) | (go_simp; with_reducible rfl))
          try simp only [Act.put, List.getElem_toArray, List.getElem_cons_succ, List.getElem_cons_zero, List.setIfInBounds_toArray, List.set_cons_zero, List.set_cons_succ]
          refine wpAnyH_take (i := 2) (v := _) rfl (by kernel_rfl) (by kernel_rfl) (by kernel_rfl) (fun _ _ _ h => h) (yieldsIf_of (.agg x.V) (by rfl) (fun w' hw => exec_load_rowV _ rfl R rfl x w' ⟨_, hw⟩)) (by assumption) ?_
          try simp only [Act.put, List.getElem_toArray, List.getElem_cons_succ, List.getElem_cons_zero, List.setIfInBounds_toArray, List.set_cons_zero, List.set_cons_succ]
          refine wpAnyH_take (i := 3) (v := ?_) rfl (by kernel_rfl) (by kernel_rfl) (by kernel_rfl) (fun _ _ _ h => h) (Or.inl ⟨by rfl, ?_⟩) (by assumption) ?_
          rotate_left
          · (intro w hSw; (try dsimp only at hSw); first | (go_simp; done) | (go_simp; with_reducible rfl))
          try simp only [Act.put, List.getElem_toArray, List.getElem_cons_succ, List.getElem_cons_zero, List.setIfInBounds_toArray, List.set_cons_zero, List.set_cons_succ]
          refine wpAnyH_take (i := 4) (v := ?_) rfl (by kernel_rfl) (by kernel_rfl) (by kernel_rfl) (fun _ _ _ h => h) (Or.inl ⟨by rfl, ?_⟩) (by assumption) ?_
          rotate_left
          · (intro w hSw; (try dsimp only at hSw); first | (go_simp; done) | (go_simp; with_reducible rfl))
          try simp only [Act.put, List.getElem_toArray, List.getElem_cons_succ, List.getElem_cons_zero, List.setIfInBounds_toArray, List.set_cons_zero, List.set_cons_succ]
          refine wpAnyH_take (i := 5) (v := ?_) rfl (by kernel_rfl) (by kernel_rfl) (by kernel_rfl) (fun _ _ _ h => h) (Or.inl ⟨by rfl, ?_⟩) (by assumption) ?_
          rotate_left
          · (intro w hSw; (try dsimp only at hSw); first | (go_simp; done) | (go_simp; with_reducible rfl))
          try simp only [Act.put, List.getElem_toArray, List.getElem_cons_succ, List.getElem_cons_zero, List.setIfInBounds_toArray, List.set_cons_zero, List.set_cons_succ]
          refine wpAnyH_take (i := 8) (v := _) rfl (by kernel_rfl) (by kernel_rfl) (by kernel_rfl) (fun _ _ _ h => h) (yieldsIf_of (.agg x.V) (by rfl) (fun w' hw => exec_load_rowV _ rfl R rfl x w' ⟨_, hw⟩)) (by assumption) ?_
          try simp only [Act.put, List.getElem_toArray, List.getElem_cons_succ, List.getElem_cons_zero, List.setIfInBounds_toArray, List.set_cons_zero, List.set_cons_succ]
          refine wpAnyH_take (i := 9) (v := ?_) rfl (by kernel_rfl) (by kernel_rfl) (by kernel_rfl) (fun _ _ _ h => h) (Or.inl ⟨by rfl, ?_⟩) (by assumption) ?_
          rotate_left
          · (intro w hSw; (try dsimp only at hSw); first | (go_simp; done) | (go_simp; with_reducible rfl))
          try simp only [Act.put, List.getElem_toArray, List.getElem_cons_succ, List.getElem_cons_zero, List.setIfInBounds_toArray, List.set_cons_zero, List.set_cons_succ]
          refine wpAnyH_take (i := 10) (v := ?_) rfl (by kernel_rfl) (by kernel_rfl) (by kernel_rfl) (fun _ _ _ h => h) (Or.inl ⟨by rfl, ?_⟩) (by assumption) ?_
          rotate_left
          · (intro w hSw; (try dsimp only at hSw); first | (go_simp; done) | (go_simp; with_reducible rfl))
          try simp only [Act.put, List.getElem_toArray, List.getElem_cons_succ, List.getElem_cons_zero, List.setIfInBounds_toArray, List.set_cons_zero, List.set_cons_succ]
          refine wpAnyH_take (i := 11) (v := ?_) rfl (by kernel_rfl) (by kernel_rfl) (by kernel_rfl) (fun _ _ _ h => h) (Or.inl ⟨by rfl, ?_⟩) (by assumption) ?_
          rotate_left
          · (intro w hSw; (try dsimp only at hSw); first | (go_simp; done) | (go_simp; with_reducible rfl))
          try simp only [Act.put, List.getElem_toArray, List.getElem_cons_succ, List.getElem_cons_zero, List.setIfInBounds_toArray, List.set_cons_zero, List.set_cons_succ]
          refine wpAnyH_ready (rs := [6, 12]) (by kernel_rfl) (by simp) ?_
          refine AllReadyH.cons rfl (fun K hK => ?_) (AllReadyH.cons rfl (fun K hK => ?_) AllReadyH.nil)
          · rw [if_pos (by rfl)]
            refine wp_load_midV _ rfl b 2 rfl s.o hW0.o ?_
            refine hK.out _ _ ?_ (fun hHeld => ?_)
            · ((try dsimp only); exact hHeld)
            clear hK K
            try simp only [Act.put, List.getElem_toArray, List.getElem_cons_succ, List.getElem_cons_zero, List.setIfInBounds_toArray, List.set_cons_zero, List.set_cons_succ]
            refine wpAnyH_ready (rs := [7, 12]) (by kernel_rfl) (by simp) ?_
            refine AllReadyH.cons rfl (fun K hK => ?_) (AllReadyH.cons rfl (fun K hK => ?_) AllReadyH.nil)
            · go_simp
              (go_at_call 24; refine (nodeY_any x s.o _).mono ?_; rintro e w1 ⟨y1, rfl, hy1, hx1⟩; have hW1 : WAt w1.heap b s := Ext.same hx1 (by exact hW0) List.not_mem_nil; have hR1 := hx1.same hHeld List.not_mem_nil)
              go_wp2_with fail
              refine hK.out _ _ ?_ (fun hHeld => ?_)
              · ((try dsimp only); exact hR1)
              clear hK K
              try simp only [Act.put, List.getElem_toArray, List.getElem_cons_succ, List.getElem_cons_zero, List.setIfInBounds_toArray, List.set_cons_zero, List.set_cons_succ]
              refine wpAnyH_ready (rs := [12]) (by kernel_rfl) (by simp) ?_
              refine AllReadyH.cons rfl (fun K hK => ?_) AllReadyH.nil
              rw [if_pos (by rfl)]
              refine wp_load_midV _ rfl b 34 rfl s.l hW1.l ?_
              refine hK.out _ _ ?_ (fun hHeld => ?_)
              · ((try dsimp only); exact hHeld)
              clear hK K
              try simp only [Act.put, List.getElem_toArray, List.getElem_cons_succ, List.getElem_cons_zero, List.setIfInBounds_toArray, List.set_cons_zero, List.set_cons_succ]
              refine wpAnyH_ready (rs := [13]) (by kernel_rfl) (by simp) ?_
              refine AllReadyH.cons rfl (fun K hK => ?_) AllReadyH.nil
              go_simp
              (go_at_call 24; refine (nodeY_any x s.l _).mono ?_; rintro e w2 ⟨y2, rfl, hy2, hx2⟩; have hW2 : WAt w2.heap b s := Ext.same hx2 (by exact hW1) List.not_mem_nil; have hR2 := hx2.same hHeld List.not_mem_nil)
              go_wp2_with fail
              refine hK.out _ _ ?_ (fun hHeld => ?_)
              · ((try dsimp only); exact hR2)
              clear hK K
              try simp only [Act.put, List.getElem_toArray, List.getElem_cons_succ, List.getElem_cons_zero, List.setIfInBounds_toArray, List.set_cons_zero, List.set_cons_succ]
              refine wpAnyH_take (i := 14) (v := ?_) rfl (by kernel_rfl) (by kernel_rfl) (by kernel_rfl) (fun _ _ _ h => h) (Or.inl ⟨by rfl, ?_⟩) (by assumption) ?_
              rotate_left
              · (intro w hSw; (try dsimp only at hSw); first | (go_simp; done) | (go_simp; with_reducible rfl))
              try simp only [Act.put, List.getElem_toArray, List.getElem_cons_succ, List.getElem_cons_zero, List.setIfInBounds_toArray, List.set_cons_zero, List.set_cons_succ]
              refine wpAnyH_take (i := 15) (v := ?_) rfl (by kernel_rfl) (by kernel_rfl) (by kernel_rfl) (fun _ _ _ h => h) (Or.inl ⟨by rfl, ?_⟩) (by assumption) ?_
              rotate_left
              · (intro w hSw; (try dsimp only at hSw); first | (go_simp; done) | (go_simp; with_reducible rfl))
              try simp only [Act.put, List.getElem_toArray, List.getElem_cons_succ, List.getElem_cons_zero, List.setIfInBounds_toArray, List.set_cons_zero, List.set_cons_succ]
              refine wpAnyH_ready (rs := [16]) (by kernel_rfl) (by simp) ?_
              refine AllReadyH.cons rfl (fun K hK => ?_) AllReadyH.nil
              rw [if_pos (by rfl)]
              (have hW3 := WAt.setO hW2 (y1); refine wp_store_midV _ _ rfl b 2 (y1) rfl rfl (hW2.there _ _ (by decide)) ?_)
              refine hK.out _ _ ?_ (fun hHeld => ?_)
              · ((try dsimp only); (rw [heap_setCells_ne _ _ _ hRb]; exact hHeld))
              clear hK K
              try simp only [Act.put, List.getElem_toArray, List.getElem_cons_succ, List.getElem_cons_zero, List.setIfInBounds_toArray, List.set_cons_zero, List.set_cons_succ]
              refine wpAnyH_take (i := 17) (v := ?_) rfl (by kernel_rfl) (by kernel_rfl) (by kernel_rfl) (fun _ _ _ h => h) (Or.inl ⟨by rfl, ?_⟩) (by assumption) ?_
              rotate_left
              · (intro w hSw; (try dsimp only at hSw); first | (go_simp; done) | (go_simp; with_reducible rfl))
              try simp only [Act.put, List.getElem_toArray, List.getElem_cons_succ, List.getElem_cons_zero, List.setIfInBounds_toArray, List.set_cons_zero, List.set_cons_succ]
              refine wpAnyH_take (i := 18) (v := ?_) rfl (by kernel_rfl) (by kernel_rfl) (by kernel_rfl) (fun _ _ _ h => h) (Or.inl ⟨by rfl, ?_⟩) (by assumption) ?_
              rotate_left
              · (intro w hSw; (try dsimp only at hSw); first | (go_simp; done) | (go_simp; with_reducible rfl))
              try simp only [Act.put, List.getElem_toArray, List.getElem_cons_succ, List.getElem_cons_zero, List.setIfInBounds_toArray, List.set_cons_zero, List.set_cons_succ]
              refine wpAnyH_ready (rs := [19]) (by kernel_rfl) (by simp) ?_
              refine AllReadyH.cons rfl (fun K hK => ?_) AllReadyH.nil
              rw [if_pos (by rfl)]
              (have hW4 := WAt.setL hW3 (y2); refine wp_store_midV _ _ rfl b 34 (y2) rfl rfl (hW3.there _ _ (by decide)) ?_)
              refine hK.out _ _ ?_ (fun hHeld => ?_)
              · ((try dsimp only); (rw [heap_setCells_ne _ _ _ hRb]; exact hHeld))
              clear hK K
              try simp only [Act.put, List.getElem_toArray, List.getElem_cons_succ, List.getElem_cons_zero, List.setIfInBounds_toArray, List.set_cons_zero, List.set_cons_succ]
              refine wpAnyH_done (by kernel_rfl) ?_ _
              refine NoPanic.normal ?_
              go_wp2
              go_meet
              exact ⟨y1, y2, hW4, Hs.hid ⟨hy1.out, hy2.out⟩, hHeld, (((hx0.drew.drew.trans0 hx1).trans0 hx2).mono (fun _ h => by cases h)).trans' (Ext.setCells (.inl (List.mem_singleton.2 rfl)) _ _ _ (Ext.setCells (.inl (List.mem_singleton.2 rfl)) _ _ _ (Ext.refl [b] _)))⟩
            · rw [if_pos (by rfl)]
              refine wp_load_midV _ rfl b 34 rfl s.l hW0.l ?_
              refine hK.out _ _ ?_ (fun hHeld => ?_)
              · ((try dsimp only); exact hHeld)
              clear hK K
              try simp only [Act.put, List.getElem_toArray, List.getElem_cons_succ, List.getElem_cons_zero, List.setIfInBounds_toArray, List.set_cons_zero, List.set_cons_succ]
              refine wpAnyH_ready (rs := [7]) (by kernel_rfl) (by simp) ?_
              refine AllReadyH.cons rfl (fun K hK => ?_) AllReadyH.nil
              go_simp
              (go_at_call 24; refine (nodeY_any x s.o _).mono ?_; rintro e w1 ⟨y1, rfl, hy1, hx1⟩; have hW1 : WAt w1.heap b s := Ext.same hx1 (by exact hW0) List.not_mem_nil; have hR1 := hx1.same hHeld List.not_mem_nil)
              go_wp2_with fail
              refine hK.out _ _ ?_ (fun hHeld => ?_)
              · ((try dsimp only); exact hR1)
              clear hK K
              try simp only [Act.put, List.getElem_toArray, List.getElem_cons_succ, List.getElem_cons_zero, List.setIfInBounds_toArray, List.set_cons_zero, List.set_cons_succ]
              refine wpAnyH_ready (rs := [13]) (by kernel_rfl) (by simp) ?_
              refine AllReadyH.cons rfl (fun K hK => ?_) AllReadyH.nil
              go_simp
              (go_at_call 24; refine (nodeY_any x s.l _).mono ?_; rintro e w2 ⟨y2, rfl, hy2, hx2⟩; have hW2 : WAt w2.heap b s := Ext.same hx2 (by exact hW1) List.not_mem_nil; have hR2 := hx2.same hHeld List.not_mem_nil)
              go_wp2_with fail
              refine hK.out _ _ ?_ (fun hHeld => ?_)
              · ((try dsimp only); exact hR2)
              clear hK K
              try simp only [Act.put, List.getElem_toArray, List.getElem_cons_succ, List.getElem_cons_zero, List.setIfInBounds_toArray, List.set_cons_zero, List.set_cons_succ]
              refine wpAnyH_take (i := 14) (v := ?_) rfl (by kernel_rfl) (by kernel_rfl) (by kernel_rfl) (fun _ _ _ h => h) (Or.inl ⟨by rfl, ?_⟩) (by assumption) ?_
              rotate_left
              · (intro w hSw; (try dsimp only at hSw); first | (go_simp; done) | (go_simp; with_reducible rfl))
              try simp only [Act.put, List.getElem_toArray, List.getElem_cons_succ, List.getElem_cons_zero, List.setIfInBounds_toArray, List.set_cons_zero, List.set_cons_succ]
              refine wpAnyH_take (i := 15) (v := ?_) rfl (by kernel_rfl) (by kernel_rfl) (by kernel_rfl) (fun _ _ _ h => h) (Or.inl ⟨by rfl, ?_⟩) (by assumption) ?_
              rotate_left
              · (intro w hSw; (try dsimp only at hSw); first | (go_simp; done) | (go_simp; with_reducible rfl))
              try simp only [Act.put, List.getElem_toArray, List.getElem_cons_succ, List.getElem_cons_zero, List.setIfInBounds_toArray, List.set_cons_zero, List.set_cons_succ]
              refine wpAnyH_ready (rs := [16]) (by kernel_rfl) (by simp) ?_
              refine AllReadyH.cons rfl (fun K hK => ?_) AllReadyH.nil
              rw [if_pos (by rfl)]
              (have hW3 := WAt.setO hW2 (y1); refine wp_store_midV _ _ rfl b 2 (y1) rfl rfl (hW2.there _ _ (by decide)) ?_)
              refine hK.out _ _ ?_ (fun hHeld => ?_)
              · ((try dsimp only); (rw [heap_setCells_ne _ _ _ hRb]; exact hHeld))
              clear hK K
              try simp only [Act.put, List.getElem_toArray, List.getElem_cons_succ, List.getElem_cons_zero, List.setIfInBounds_toArray, List.set_cons_zero, List.set_cons_succ]
              refine wpAnyH_take (i := 17) (v := ?_) rfl (by kernel_rfl) (by kernel_rfl) (by kernel_rfl) (fun _ _ _ h => h) (Or.inl ⟨by rfl, ?_⟩) (by assumption) ?_
              rotate_left
              · (intro w hSw; (try dsimp only at hSw); first | (go_simp; done) | (go_simp; with_reducible rfl))
              try simp only [Act.put, List.getElem_toArray, List.getElem_cons_succ, List.getElem_cons_zero, List.setIfInBounds_toArray, List.set_cons_zero, List.set_cons_succ]
              refine wpAnyH_take (i := 18) (v := ?_) rfl (by kernel_rfl) (by kernel_rfl) (by kernel_rfl) (fun _ _ _ h => h) (Or.inl ⟨by rfl, ?_⟩) (by assumption) ?_
              rotate_left
              · (intro w hSw; (try dsimp only at hSw); first | (go_simp; done) | (go_simp; with_reducible rfl))
              try simp only [Act.put, List.getElem_toArray, List.getElem_cons_succ, List.getElem_cons_zero, List.setIfInBounds_toArray, List.set_cons_zero, List.set_cons_succ]
              refine wpAnyH_ready (rs := [19]) (by kernel_rfl) (by simp) ?_
              refine AllReadyH.cons rfl (fun K hK => ?_) AllReadyH.nil
              rw [if_pos (by rfl)]
              (have hW4 := WAt.setL hW3 (y2); refine wp_store_midV _ _ rfl b 34 (y2) rfl rfl (hW3.there _ _ (by decide)) ?_)
              refine hK.out _ _ ?_ (fun hHeld => ?_)
              · ((try dsimp only); (rw [heap_setCells_ne _ _ _ hRb]; exact hHeld))
              clear hK K
              try simp only [Act.put, List.getElem_toArray, List.getElem_cons_succ, List.getElem_cons_zero, List.setIfInBounds_toArray, List.set_cons_zero, List.set_cons_succ]
              refine wpAnyH_done (by kernel_rfl) ?_ _
              refine NoPanic.normal ?_
              go_wp2
              go_meet
              exact ⟨y1, y2, hW4, Hs.hid ⟨hy1.out, hy2.out⟩, hHeld, (((hx0.drew.drew.trans0 hx1).trans0 hx2).mono (fun _ h => by cases h)).trans' (Ext.setCells (.inl (List.mem_singleton.2 rfl)) _ _ _ (Ext.setCells (.inl (List.mem_singleton.2 rfl)) _ _ _ (Ext.refl [b] _)))⟩
          · rw [if_pos (by rfl)]
            refine wp_load_midV _ rfl b 34 rfl s.l hW0.l ?_
            refine hK.out _ _ ?_ (fun hHeld => ?_)
            · ((try dsimp only); exact hHeld)
            clear hK K
            try simp only [Act.put, List.getElem_toArray, List.getElem_cons_succ, List.getElem_cons_zero, List.setIfInBounds_toArray, List.set_cons_zero, List.set_cons_succ]
            refine wpAnyH_ready (rs := [6]) (by kernel_rfl) (by simp) ?_
            refine AllReadyH.cons rfl (fun K hK => ?_) AllReadyH.nil
            rw [if_pos (by rfl)]
            refine wp_load_midV _ rfl b 2 rfl s.o hW0.o ?_
            refine hK.out _ _ ?_ (fun hHeld => ?_)
            · ((try dsimp only); exact hHeld)
            clear hK K
            try simp only [Act.put, List.getElem_toArray, List.getElem_cons_succ, List.getElem_cons_zero, List.setIfInBounds_toArray, List.set_cons_zero, List.set_cons_succ]
            refine wpAnyH_ready (rs := [7]) (by kernel_rfl) (by simp) ?_
            refine AllReadyH.cons rfl (fun K hK => ?_) AllReadyH.nil
            go_simp
            (go_at_call 24; refine (nodeY_any x s.o _).mono ?_; rintro e w1 ⟨y1, rfl, hy1, hx1⟩; have hW1 : WAt w1.heap b s := Ext.same hx1 (by exact hW0) List.not_mem_nil; have hR1 := hx1.same hHeld List.not_mem_nil)
            go_wp2_with fail
            refine hK.out _ _ ?_ (fun hHeld => ?_)
            · ((try dsimp only); exact hR1)
            clear hK K
            try simp only [Act.put, List.getElem_toArray, List.getElem_cons_succ, List.getElem_cons_zero, List.setIfInBounds_toArray, List.set_cons_zero, List.set_cons_succ]
            refine wpAnyH_ready (rs := [13]) (by kernel_rfl) (by simp) ?_
            refine AllReadyH.cons rfl (fun K hK => ?_) AllReadyH.nil
            go_simp
            (go_at_call 24; refine (nodeY_any x s.l _).mono ?_; rintro e w2 ⟨y2, rfl, hy2, hx2⟩; have hW2 : WAt w2.heap b s := Ext.same hx2 (by exact hW1) List.not_mem_nil; have hR2 := hx2.same hHeld List.not_mem_nil)
            go_wp2_with fail
            refine hK.out _ _ ?_ (fun hHeld => ?_)
            · ((try dsimp only); exact hR2)
            clear hK K
            try simp only [Act.put, List.getElem_toArray, List.getElem_cons_succ, List.getElem_cons_zero, List.setIfInBounds_toArray, List.set_cons_zero, List.set_cons_succ]
            refine wpAnyH_take (i := 14) (v := ?_) rfl (by kernel_rfl) (by kernel_rfl) (by kernel_rfl) (fun _ _ _ h => h) (Or.inl ⟨by rfl, ?_⟩) (by assumption) ?_
            rotate_left
            · (intro w hSw; (try dsimp only at hSw); first | (go_simp; done) | (go_simp; with_reducible rfl))
            try simp only [Act.put, List.getElem_toArray, List.getElem_cons_succ, List.getElem_cons_zero, List.setIfInBounds_toArray, List.set_cons_zero, List.set_cons_succ]
            refine wpAnyH_take (i := 15) (v := ?_) rfl (by kernel_rfl) (by kernel_rfl) (by kernel_rfl) (fun _ _ _ h => h) (Or.inl ⟨by rfl, ?_⟩) (by assumption) ?_
            rotate_left
            · (intro w hSw; (try dsimp only at hSw); first | (go_simp; done) | (go_simp; with_reducible rfl))
            try simp only [Act.put, List.getElem_toArray, List.getElem_cons_succ, List.getElem_cons_zero, List.setIfInBounds_toArray, List.set_cons_zero, List.set_cons_succ]
            refine wpAnyH_ready (rs := [16]) (by kernel_rfl) (by simp) ?_
            refine AllReadyH.cons rfl (fun K hK => ?_) AllReadyH.nil
            rw [if_pos (by rfl)]
            (have hW3 := WAt.setO hW2 (y1); refine wp_store_midV _ _ rfl b 2 (y1) rfl rfl (hW2.there _ _ (by decide)) ?_)
            refine hK.out _ _ ?_ (fun hHeld => ?_)
            · ((try dsimp only); (rw [heap_setCells_ne _ _ _ hRb]; exact hHeld))
            clear hK K
            try simp only [Act.put, List.getElem_toArray, List.getElem_cons_succ, List.getElem_cons_zero, List.setIfInBounds_toArray, List.set_cons_zero, List.set_cons_succ]
            refine wpAnyH_take (i := 17) (v := ?_) rfl (by kernel_rfl) (by kernel_rfl) (by kernel_rfl) (fun _ _ _ h => h) (Or.inl ⟨by rfl, ?_⟩) (by assumption) ?_
            rotate_left
            · (intro w hSw; (try dsimp only at hSw); first | (go_simp; done) | (go_simp; with_reducible rfl))
            try simp only [Act.put, List.getElem_toArray, List.getElem_cons_succ, List.getElem_cons_zero, List.setIfInBounds_toArray, List.set_cons_zero, List.set_cons_succ]
            refine wpAnyH_take (i := 18) (v := ?_) rfl (by kernel_rfl) (by kernel_rfl) (by kernel_rfl) (fun _ _ _ h => h) (Or.inl ⟨by rfl, ?_⟩) (by assumption) ?_
            rotate_left
            · (intro w hSw; (try dsimp only at hSw); first | (go_simp; done) | (go_simp; with_reducible rfl))
            try simp only [Act.put, List.getElem_toArray, List.getElem_cons_succ, List.getElem_cons_zero, List.setIfInBounds_toArray, List.set_cons_zero, List.set_cons_succ]
            refine wpAnyH_ready (rs := [19]) (by kernel_rfl) (by simp) ?_
            refine AllReadyH.cons rfl (fun K hK => ?_) AllReadyH.nil
            rw [if_pos (by rfl)]
            (have hW4 := WAt.setL hW3 (y2); refine wp_store_midV _ _ rfl b 34 (y2) rfl rfl (hW3.there _ _ (by decide)) ?_)
            refine hK.out _ _ ?_ (fun hHeld => ?_)
            · ((try dsimp only); (rw [heap_setCells_ne _ _ _ hRb]; exact hHeld))
            clear hK K
            try simp only [Act.put, List.getElem_toArray, List.getElem_cons_succ, List.getElem_cons_zero, List.setIfInBounds_toArray, List.set_cons_zero, List.set_cons_succ]
            refine wpAnyH_done (by kernel_rfl) ?_ _
            refine NoPanic.normal ?_
            go_wp2
            go_meet
            exact ⟨y1, y2, hW4, Hs.hid ⟨hy1.out, hy2.out⟩, hHeld, (((hx0.drew.drew.trans0 hx1).trans0 hx2).mono (fun _ h => by cases h)).trans' (Ext.setCells (.inl (List.mem_singleton.2 rfl)) _ _ _ (Ext.setCells (.inl (List.mem_singleton.2 rfl)) _ _ _ (Ext.refl [b] _)))⟩
        case rest =>
          clear hR h0 h1 f66 c66
          have HS := Hs.hid (show sideW s.a s.e = true by simp [sideW, HQ.out])
          obtain ⟨y1, y2, hW4, HY, hR4, hE4⟩ := hcut
          go_wp2_with fail
          go_loopw [] (fun wr => ∃ a e, WAt wr.heap b { s with a := a, e := e, o := y1, l := y2 } ∧ a ≤ 1000 ∧ e ≤ 1000 ∧ climbE a e = climbE s.a s.e ∧ Ext [b] w wr) (fun wr => match wr.cell? ⟨b, 0, none⟩ with | some v => (intOf v).toNat | none => 0)
          case atStart => exact ⟨s.a, s.e, hW4, hs.1, hs.2, rfl, hE4⟩
          case round =>
            have HT := Hs.hid (fun a e (hc : climbE s.a s.e = (a, e)) => take_side (x := x) he (HS.out) hc)
            clear hW4 hE4 hR4 hW hW0 hx0 he he' hand
            obtain ⟨a, e, hW5, ha, hee, hc, hE5⟩ := hrel
            have HC := Hs.hid hc
            clear hc
            have k0 := hW5.a
            have hand5 := and_one a (by omega)
            by_cases ho5 : a % 2 = 0
            · replace hand5 : Go.bits .and .i64 (a : Int) 1 = 0 := by rw [hand5, ho5]; rfl
              by_cases ha0 : a = 0
              · have ha0' : (a : Int) = 0 := by omega
                have HA := Hs.hid ha0
                clear ha0
                go_wp2_with ((go_at_call 40; refine (up_any' b _ (by exact ⟨ha, hee⟩) _ hW5).mono ?_; rintro e w6 ⟨rfl, hW6, hx6⟩))
                go_end0
                exact ⟨rfl, by rw [HT.out a e (by rw [← HC.out, HA.out, climbE, dif_neg (by omega)]), ← HY.out.1, ← HY.out.2]; exact hW6, hE5.trans' hx6⟩
              · have ha0' : ¬ (a : Int) = 0 := by omega
                go_wp2_with ((go_at_call 40; refine (up_any' b _ (by exact ⟨ha, hee⟩) _ hW5).mono ?_; rintro e w6 ⟨rfl, hW6, hx6⟩))
                go_round
                case rel => exact ⟨a / 2, e / 2, hW6, by omega, by omega, by rw [← HC.out]; exact (climbE_even ho5 ha0).symm, hE5.trans' hx6⟩
                case measure =>
                  have k6 : w6.cell? ⟨b, 0, none⟩ = some (.int .i64 ((a / 2 : Nat) : Int)) := hW6.a
                  simp only [k6, k0]
                  simp [intOf]; omega
            · have h15 : a % 2 = 1 := by omega
              rw [h15] at hand5
              go_wp2_with ((go_at_call 40; refine (up_any' b _ (by exact ⟨ha, hee⟩) _ hW5).mono ?_; rintro e w6 ⟨rfl, hW6, hx6⟩))
              go_end0
              exact ⟨rfl, by rw [HT.out a e (by rw [← HC.out, climbE_odd h15]), ← HY.out.1, ← HY.out.2]; exact hW6, hE5.trans' hx6⟩
      · have hqi : ¬ (s.a : Int) = s.e := by omega
        refine wp_region_stl (by kernel_rfl) (by kernel_rfl) ?_
        refine still_val (v := ?_) (by rfl) ?_ ?_
        rotate_left
        · first | (go_simp; done) | (go_simp; with_reducible rfl)
        try simp only [Act.put, List.getElem_toArray, List.getElem_cons_succ, List.getElem_cons_zero, List.setIfInBounds_toArray, List.set_cons_zero, List.set_cons_succ]
        refine still_val (v := ?_) (by rfl) ?_ ?_
        rotate_left
        · first | (go_simp; done) | (go_simp; with_reducible rfl)
        try simp only [Act.put, List.getElem_toArray, List.getElem_cons_succ, List.getElem_cons_zero, List.setIfInBounds_toArray, List.set_cons_zero, List.set_cons_succ]
        refine still_val (v := ?_) (by rfl) ?_ ?_
        rotate_left
        · first | (go_simp; done) | (go_simp; with_reducible rfl)
        try simp only [Act.put, List.getElem_toArray, List.getElem_cons_succ, List.getElem_cons_zero, List.setIfInBounds_toArray, List.set_cons_zero, List.set_cons_succ]
        refine still_val (v := ?_) (by rfl) ?_ ?_
        rotate_left
        · first | (go_simp; done) | (go_simp; with_reducible rfl)
        try simp only [Act.put, List.getElem_toArray, List.getElem_cons_succ, List.getElem_cons_zero, List.setIfInBounds_toArray, List.set_cons_zero, List.set_cons_succ]
        refine still_val (v := ?_) (by rfl) ?_ ?_
        rotate_left
        · first | (go_simp; done) | (go_simp; with_reducible rfl)
        try simp only [Act.put, List.getElem_toArray, List.getElem_cons_succ, List.getElem_cons_zero, List.setIfInBounds_toArray, List.set_cons_zero, List.set_cons_succ]
        refine still_val (v := ?_) (by rfl) ?_ ?_
        rotate_left
        · first | (go_simp; done) | (go_simp; with_reducible rfl)
        try simp only [Act.put, List.getElem_toArray, List.getElem_cons_succ, List.getElem_cons_zero, List.setIfInBounds_toArray, List.set_cons_zero, List.set_cons_succ]
        refine still_val (v := ?_) (by rfl) ?_ ?_
        rotate_left
        · first | (go_simp; done) | (go_simp; with_reducible rfl)
        try simp only [Act.put, List.getElem_toArray, List.getElem_cons_succ, List.getElem_cons_zero, List.setIfInBounds_toArray, List.set_cons_zero, List.set_cons_succ]
        refine still_val (v := ?_) (by rfl) ?_ ?_
        rotate_left
        · first | (go_simp; done) | (go_simp; with_reducible rfl)
        try simp only [Act.put, List.getElem_toArray, List.getElem_cons_succ, List.getElem_cons_zero, List.setIfInBounds_toArray, List.set_cons_zero, List.set_cons_succ]
        refine still_val (v := ?_) (by rfl) ?_ ?_
        rotate_left
        · first | (go_simp; done) | (go_simp; with_reducible rfl)
        try simp only [Act.put, List.getElem_toArray, List.getElem_cons_succ, List.getElem_cons_zero, List.setIfInBounds_toArray, List.set_cons_zero, List.set_cons_succ]
        refine still_val (v := ?_) (by rfl) ?_ ?_
        rotate_left
        · first | (go_simp; done) | (go_simp; with_reducible rfl)
        try simp only [Act.put, List.getElem_toArray, List.getElem_cons_succ, List.getElem_cons_zero, List.setIfInBounds_toArray, List.set_cons_zero, List.set_cons_succ]
        refine still_val (v := ?_) (by rfl) ?_ ?_
        rotate_left
        · first | (go_simp; done) | (go_simp; with_reducible rfl)
        try simp only [Act.put, List.getElem_toArray, List.getElem_cons_succ, List.getElem_cons_zero, List.setIfInBounds_toArray, List.set_cons_zero, List.set_cons_succ]
        refine still_val (v := ?_) (by rfl) ?_ ?_
        rotate_left
        · first | (go_simp; done) | (go_simp; with_reducible rfl)
        try simp only [Act.put, List.getElem_toArray, List.getElem_cons_succ, List.getElem_cons_zero, List.setIfInBounds_toArray, List.set_cons_zero, List.set_cons_succ]
        refine still_val (v := ?_) (by rfl) ?_ ?_
        rotate_left
        · first | (go_simp; done) | (go_simp; with_reducible rfl)
        try simp only [Act.put, List.getElem_toArray, List.getElem_cons_succ, List.getElem_cons_zero, List.setIfInBounds_toArray, List.set_cons_zero, List.set_cons_succ]
        refine still_val (v := ?_) (by rfl) ?_ ?_
        rotate_left
        · first | (go_simp; done) | (go_simp; with_reducible rfl)
        try simp only [Act.put, List.getElem_toArray, List.getElem_cons_succ, List.getElem_cons_zero, List.setIfInBounds_toArray, List.set_cons_zero, List.set_cons_succ]
        refine still_val (v := ?_) (by rfl) ?_ ?_
        rotate_left
        · first | (go_simp; done) | (go_simp; with_reducible rfl)
        try simp only [Act.put, List.getElem_toArray, List.getElem_cons_succ, List.getElem_cons_zero, List.setIfInBounds_toArray, List.set_cons_zero, List.set_cons_succ]
        refine still_val (v := ?_) (by rfl) ?_ ?_
        rotate_left
        · first | (go_simp; done) | (go_simp; with_reducible rfl)
        try simp only [Act.put, List.getElem_toArray, List.getElem_cons_succ, List.getElem_cons_zero, List.setIfInBounds_toArray, List.set_cons_zero, List.set_cons_succ]
        refine still_val (v := ?_) (by rfl) ?_ ?_
        rotate_left
        · first | (go_simp; done) | (go_simp; with_reducible rfl)
        try simp only [Act.put, List.getElem_toArray, List.getElem_cons_succ, List.getElem_cons_zero, List.setIfInBounds_toArray, List.set_cons_zero, List.set_cons_succ]
        refine still_end ?_
        go_upto_region 7 with fail
        have HT := Hs.hid (take_lt (x := x) he (by simp [sideW, ho0, hq]))
        have hE7 : Ext [b] w W.drew.drew := (hx0.drew.drew).mono (fun _ h => by cases h)
        refine wp_region_noPanic ?_
        refine wp_region_held_drew (S := (fun w' => w'.heap[R]? = some (.cells x.V 35 (0, 0)))) (by kernel_rfl) ?_ (fun hHeld => ?_)
        · ((try dsimp only); exact hR)
        refine wpAnyH_take (i := 0) (v := ?_) rfl (by kernel_rfl) (by kernel_rfl) (by kernel_rfl) (fun _ _ _ h => h) (Or.inl ⟨by rfl, ?_⟩) (by assumption) ?_
        rotate_left
        · (intro w hSw; (try dsimp only at hSw); first | (go_simp; done) | (go_simp; with_reducible rfl))
        try simp only [Act.put, List.getElem_toArray, List.getElem_cons_succ, List.getElem_cons_zero, List.setIfInBounds_toArray, List.set_cons_zero, List.set_cons_succ]
        refine wpAnyH_take (i := 1) (v := ?_) rfl (by kernel_rfl) (by kernel_rfl) (by kernel_rfl) (fun _ _ _ h => h) (Or.inl ⟨by rfl, ?_⟩) (by assumption) ?_
        rotate_left
        · (intro w hSw; (try dsimp only at hSw); first | (go_simp; done) | (go_simp; with_reducible rfl))
        try simp only [Act.put, List.getElem_toArray, List.getElem_cons_succ, List.getElem_cons_zero, List.setIfInBounds_toArray, List.set_cons_zero, List.set_cons_succ]
        refine wpAnyH_take (i := 2) (v := ?_) rfl (by kernel_rfl) (by kernel_rfl) (by kernel_rfl) (fun _ _ _ h => h) (Or.inl ⟨by rfl, ?_⟩) (by assumption) ?_
        rotate_left
        · (intro w hSw; (try dsimp only at hSw); first | (go_simp; done) | (go_simp; with_reducible rfl))
        try simp only [Act.put, List.getElem_toArray, List.getElem_cons_succ, List.getElem_cons_zero, List.setIfInBounds_toArray, List.set_cons_zero, List.set_cons_succ]
        refine wpAnyH_take (i := 3) (v := ?_) rfl (by kernel_rfl) (by kernel_rfl) (by kernel_rfl) (fun _ _ _ h => h) (Or.inl ⟨by rfl, ?_⟩) (by assumption) ?_
        rotate_left
        · (intro w hSw; (try dsimp only at hSw); first | (go_simp; done) | (go_simp; with_reducible rfl))
        try simp only [Act.put, List.getElem_toArray, List.getElem_cons_succ, List.getElem_cons_zero, List.setIfInBounds_toArray, List.set_cons_zero, List.set_cons_succ]
        refine wpAnyH_take (i := 5) (v := _) rfl (by kernel_rfl) (by kernel_rfl) (by kernel_rfl) (fun _ _ _ h => h) (yieldsIf_of (.agg x.V) (by rfl) (fun w' hw => exec_load_rowV _ rfl R rfl x w' ⟨_, hw⟩)) (by assumption) ?_
        try simp only [Act.put, List.getElem_toArray, List.getElem_cons_succ, List.getElem_cons_zero, List.setIfInBounds_toArray, List.set_cons_zero, List.set_cons_succ]
        refine wpAnyH_ready (rs := [4]) (by kernel_rfl) (by simp) ?_
        refine AllReadyH.cons rfl (fun K hK => ?_) AllReadyH.nil
        rw [if_pos (by rfl)]
        refine wp_load_midV _ rfl b 34 rfl s.l hW0.l ?_
        refine hK.out _ _ ?_ (fun hHeld => ?_)
        · ((try dsimp only); exact hHeld)
        clear hK K
        try simp only [Act.put, List.getElem_toArray, List.getElem_cons_succ, List.getElem_cons_zero, List.setIfInBounds_toArray, List.set_cons_zero, List.set_cons_succ]
        refine wpAnyH_ready (rs := [6]) (by kernel_rfl) (by simp) ?_
        refine AllReadyH.cons rfl (fun K hK => ?_) AllReadyH.nil
        go_simp
        (go_at_call 24; refine (nodeY_any s.l x _).mono ?_; rintro e w1 ⟨y1, rfl, hy1, hx1⟩; have hW1 : WAt w1.heap b s := Ext.same hx1 (by exact hW0) List.not_mem_nil; have hR1 := hx1.same hHeld List.not_mem_nil)
        go_wp2_with fail
        refine hK.out _ _ ?_ (fun hHeld => ?_)
        · ((try dsimp only); exact hR1)
        clear hK K
        try simp only [Act.put, List.getElem_toArray, List.getElem_cons_succ, List.getElem_cons_zero, List.setIfInBounds_toArray, List.set_cons_zero, List.set_cons_succ]
        refine wpAnyH_take (i := 7) (v := ?_) rfl (by kernel_rfl) (by kernel_rfl) (by kernel_rfl) (fun _ _ _ h => h) (Or.inl ⟨by rfl, ?_⟩) (by assumption) ?_
        rotate_left
        · (intro w hSw; (try dsimp only at hSw); first | (go_simp; done) | (go_simp; with_reducible rfl))
        try simp only [Act.put, List.getElem_toArray, List.getElem_cons_succ, List.getElem_cons_zero, List.setIfInBounds_toArray, List.set_cons_zero, List.set_cons_succ]
        refine wpAnyH_take (i := 8) (v := ?_) rfl (by kernel_rfl) (by kernel_rfl) (by kernel_rfl) (fun _ _ _ h => h) (Or.inl ⟨by rfl, ?_⟩) (by assumption) ?_
        rotate_left
        · (intro w hSw; (try dsimp only at hSw); first | (go_simp; done) | (go_simp; with_reducible rfl))
        try simp only [Act.put, List.getElem_toArray, List.getElem_cons_succ, List.getElem_cons_zero, List.setIfInBounds_toArray, List.set_cons_zero, List.set_cons_succ]
        refine wpAnyH_ready (rs := [9]) (by kernel_rfl) (by simp) ?_
        refine AllReadyH.cons rfl (fun K hK => ?_) AllReadyH.nil
        rw [if_pos (by rfl)]
        (have hW2 := WAt.setL hW1 (y1); refine wp_store_midV _ _ rfl b 34 (y1) rfl rfl (hW1.there _ _ (by decide)) ?_)
        refine hK.out _ _ ?_ (fun hHeld => ?_)
        · ((try dsimp only); (rw [heap_setCells_ne _ _ _ hRb]; exact hHeld))
        clear hK K
        try simp only [Act.put, List.getElem_toArray, List.getElem_cons_succ, List.getElem_cons_zero, List.setIfInBounds_toArray, List.set_cons_zero, List.set_cons_succ]
        refine wpAnyH_done (by kernel_rfl) ?_ _
        refine NoPanic.normal ?_
        have hE8 := (hE7.trans0 hx1).trans' (Ext.setCells (.inl (List.mem_singleton.2 rfl)) y1.V.toList 34 _ (Ext.refl [b] w1))
        skip
        go_wp2_with (go_at_call 40; refine (up_any' b _ (by exact ⟨hs.1, hs.2⟩) _ hW2).mono ?_; rintro e w6 ⟨rfl, hW6, hx6⟩)
        go_end0
        exact ⟨rfl, by rw [HT.out, ← hy1.out]; exact hW6, hE8.trans' hx6⟩
end Go.Proofs.Ytjicjadibaomkaa
set_option linter.unusedSimpArgs false
set_option linter.unusedVariables false
set_option maxHeartbeats 1000000
set_option maxRecDepth 100000
namespace Go.Proofs.Ytjicjadibaomkaa
open Go.RowKit Go.Hs Go.Dg

def walk0 : Array Value := (wCells ⟨0, 0, zeroS, zeroS, false⟩).toArray
theorem infoWalk : (Try.prog.info? 80).map (fun i => (i.zero, i.size)) = some (some (.agg walk0), 67) := by kernel_rfl
theorem walkPlaces : (Try.prog.info? 80).bind (fun it => (Try.prog.underlying 80).bind fun d => match d with
    | .struct fields => (fields.toList.mapM (fun f => (Try.prog.info? f.type).map fun i => (f.offset, i.size))).map fun p => (it.zero, p)
    | _ => none) = some (some (.agg walk0), [(0, 1), (1, 1), (2, 32), (34, 32), (66, 1)]) := by kernel_rfl
theorem mid_cells (A Y Z C : List Value) (hA : A.length = 34) (hY : Y.length = 32) (hZ : Z.length = 32) (i : Nat) :
    (A ++ Y ++ C)[i]? = if 34 ≤ i ∧ i < 66 ∧ i < (A ++ Z ++ C).length then Y[i - 34]? else (A ++ Z ++ C)[i]? := by
  by_cases h : 34 ≤ i ∧ i < 66
  · rw [if_pos ⟨h.1, h.2, by simp; omega⟩, List.append_assoc, List.getElem?_append_right (by omega), List.getElem?_append_left (by omega), hA]
  · rw [if_neg (fun q => h ⟨q.1, q.2.1⟩)]
    by_cases h2 : i < 34
    · rw [List.append_assoc, List.append_assoc, List.getElem?_append_left (by omega), List.getElem?_append_left (by omega)]
    · rw [List.getElem?_append_right (by simp; omega), List.getElem?_append_right (by simp; omega)]
      congr 1; simp; omega
theorem fill_walk (I E : Nat) (y : S32) : Instr.fill ([(0, 1), (1, 1), (2, 32), (34, 32), (66, 1)].toArray[·]?) walk0 [(0, .int .i64 (I : Int)), (1, .int .i64 (E : Int)), (3, .agg y.V)] = some (wCells ⟨I, E, zeroS, y, false⟩).toArray := by
  have e1 : Instr.fill ([(0, 1), (1, 1), (2, 32), (34, 32), (66, 1)].toArray[·]?) walk0 [(0, .int .i64 (I : Int)), (1, .int .i64 (E : Int)), (3, .agg y.V)]
      = Instr.fill ([(0, 1), (1, 1), (2, 32), (34, 32), (66, 1)].toArray[·]?) (wCells ⟨I, E, zeroS, zeroS, false⟩).toArray [(3, .agg y.V)] := by rfl
  rw [e1]
  have hc : (Value.agg y.V).cells = y.V := rfl
  have hw : (wCells ⟨I, E, zeroS, zeroS, false⟩).toArray.size = 67 := by rw [List.size_toArray, wCells_len]
  have hpl : ([(0, 1), (1, 1), (2, 32), (34, 32), (66, 1)].toArray : Array (Nat × Nat))[3]? = some (34, 32) := rfl
  simp only [Instr.fill, hpl, hc, hw, y.size]
  rw [if_neg (by decide)]
  congr 1
  have hf : y.V.zipIdx.foldl (fun cs (p : Value × Nat) => cs.setIfInBounds (34 + p.2) p.1) (wCells ⟨I, E, zeroS, zeroS, false⟩).toArray = (y.V.toList.zipIdx 0).foldl (fun a (p : Value × Nat) => a.setIfInBounds (34 + p.2) p.1) (wCells ⟨I, E, zeroS, zeroS, false⟩).toArray := by
    rw [← Array.foldl_toList, Array.toList_zipIdx]
  have hf' : y.V.zipIdx.foldl (fun cs (x : Value × Nat) => match x with | (c, j) => cs.setIfInBounds (34 + j) c) (wCells ⟨I, E, zeroS, zeroS, false⟩).toArray = (y.V.toList.zipIdx 0).foldl (fun a (p : Value × Nat) => a.setIfInBounds (34 + p.2) p.1) (wCells ⟨I, E, zeroS, zeroS, false⟩).toArray := hf
  rw [hf']
  obtain ⟨h1, h2⟩ := fold_at 34 y.V.toList 0 (wCells ⟨I, E, zeroS, zeroS, false⟩).toArray
  apply Array.ext_getElem?
  intro i
  rw [h2 i]
  have hl := S32.tlen y
  have hz := S32.tlen zeroS
  have := mid_cells ([.int .i64 (I : Int), .int .i64 (E : Int)] ++ zeroS.V.toList) y.V.toList zeroS.V.toList [.bool false] (by simp [zeroS, S32.V]) hl hz i
  have hq : ([.int .i64 (I : Int), .int .i64 (E : Int)] ++ zeroS.V.toList ++ zeroS.V.toList ++ [.bool false] : List Value).length = 67 := wCells_len ⟨I, E, zeroS, zeroS, false⟩
  rw [hq] at this
  rw [List.getElem?_toArray, List.getElem?_toArray, hw, hl]
  exact this.symm
theorem walk_built (I E : Nat) (y : S32) : Try.prog.built 80 [(0, .int .i64 (I : Int)), (1, .int .i64 (E : Int)), (3, .agg y.V)] = some (wCells ⟨I, E, zeroS, y, false⟩).toArray := by
  have hp := walkPlaces
  have hf := fill_walk I E y
  unfold Program.built
  cases hi : Try.prog.info? 80 with
  | none => rw [hi] at hp; simp at hp
  | some it =>
    cases hu : Try.prog.underlying 80 with
    | none => rw [hi, hu] at hp; simp at hp
    | some d =>
      rw [hi, hu] at hp
      cases d with
      | struct fields =>
        simp only [Option.bind_some, Option.map_eq_some_iff] at hp
        obtain ⟨pl, h1, h2⟩ := hp
        have h3 := (Prod.mk.inj h2).1
        have h4 := (Prod.mk.inj h2).2
        subst h4
        simp only [h1, h3]
        exact hf
      | _ => simp at hp
end Go.Proofs.Ytjicjadibaomkaa
set_option linter.unusedSimpArgs false
set_option linter.unusedVariables false
set_option maxHeartbeats 2000000
set_option maxRecDepth 100000
namespace Go.Proofs.Ytjicjadibaomkaa
open Go.RowKit Go.Hs Go.Dg

/-- An error with one step, or none. -/
def ErrIs (h : Array Obj) (r : Int) (step : ByteArray) (a : Int) (v : Value) : Prop := (r = 0 ∧ v = .nilIface) ∨ (r ≠ 0 ∧ ErrV h (errN r) [(step, a)] v)
theorem ErrIs.ext {r : Int} {step : ByteArray} {a : Int} {v : Value} {w w' : World} (h : ErrIs w.heap r step a v) (x : Ext [] w w') : ErrIs w'.heap r step a v := by
  rcases h with h | ⟨h1, h2⟩
  · exact .inl h
  · exact .inr ⟨h1, h2.ext0 x⟩
theorem ErrIs.alloc (step : ByteArray) (a r : Int) (hr : r ≠ 0) (w : World) : ErrIs (w.alloc (.cells #[.string step, .int .i64 a, errN r] 101)).heap r step a (.iface 99 (.pointer (some ⟨w.heap.size, 0, none⟩))) :=
  .inr ⟨hr, _, _, rfl, heap_new _ _, rfl⟩
theorem in_err (step : ByteArray) (a r : Int) (hr : r ≠ 0) (w : World) : Calls Try.prog 37 #[.string step, .int .i64 a, .iface 29 (.int .i64 r)] w fun e w' => ∃ v, e = .returned v ∧ Hid (ErrIs w'.heap r step a v) ∧ Ext [] w w' :=
  (in_num step a r hr w).mono fun e w' ⟨v, h1, h2, h3⟩ => ⟨v, h1, Hs.hid (by rw [h3, h2]; exact ErrIs.alloc step a r hr w), by rw [h3]; exact (Ext.refl _ _).alloc _⟩
theorem told_any (step : ByteArray) (a : Int) (ok : Bool) (w : World) :
    Calls Try.prog 39 #[.string step, .int .i64 a, .bool ok] w fun e w' => ∃ v, e = .returned v ∧ Hid (ErrIs w'.heap (if ok then 0 else 12) step a v) ∧ Ext [] w w' := by
  cases ok
  · go_enter Try.func39, Try.ntmps39
    go_wp2_with (go_at_call 37; refine (in_err step a 12 (by decide) _).mono ?_; rintro e w1 ⟨v, rfl, hv, hx1⟩)
    go_ret
    exact ⟨_, rfl, hv, hx1⟩
  · go_enter Try.func39, Try.ntmps39
    go_wp2
    go_ret
    exact ⟨_, rfl, Hs.hid (.inl ⟨rfl, rfl⟩), Ext.refl _ _⟩
theorem head_n {w : World} {H : Nat} {n : Int} {root : S32} {fr : Nat × Nat} (h : w.heap[H]? = some (.cells (#[.int .i64 n] ++ root.V) 49 fr)) : w.cell? ⟨H, 0, none⟩ = some (.int .i64 n) := by
  rw [cellAt h, Array.getElem?_append_left (by simp)]; rfl
theorem head_root {w : World} {H : Nat} {n : Int} {root : S32} {fr : Nat × Nat} (h : w.heap[H]? = some (.cells (#[.int .i64 n] ++ root.V) 49 fr)) : w.rangeAt H 1 root.V.toList := by
  intro j v hj
  rw [cellAt h, Array.getElem?_append_right (by simp)]
  simpa [Nat.add_sub_cancel_left] using hj
theorem take_le {s : WSt S32} {x : S32} (h : s.a ≤ 1000 ∧ s.e ≤ 1000) : (s.take nodeS x).a ≤ 1000 ∧ (s.take nodeS x).e ≤ 1000 := by
  have hc : ∀ a e, (climbE a e).1 ≤ a := fun a => by
    induction a using Nat.strongRecOn with
    | _ a ih =>
      intro e
      rw [climbE]; split
      · next h => have := ih (a / 2) (by omega) (e / 2); omega
      · exact Nat.le_refl _
  have h1 := hc s.a s.e
  have h2 := climbE_le s.a s.e
  unfold WSt.take nextP
  split
  · exact h
  · split <;> (constructor <;> simp only [] <;> omega)
theorem wCells_one (s : WSt S32) : (wCells s).toArray.all (·.oneCell') = true := by
  rw [Array.all_eq_true']
  intro u hu
  simp only [wCells, List.mem_toArray, List.mem_append, List.mem_cons, List.not_mem_nil, or_false] at hu
  rcases hu with (((rfl | rfl) | h) | h) | rfl
  · rfl
  · rfl
  · exact S32.ones _ u h
  · exact S32.ones _ u h
  · rfl
theorem walk0_sz (s : WSt S32) : walk0.size = (wCells s).toArray.size := by unfold walk0; rw [List.size_toArray, List.size_toArray, wCells_len, wCells_len]
theorem boxExt {w : World} (o : Obj) (x : Array Value) : Ext [] w ((w.alloc o).setRow w.heap.size x) :=
  ((Ext.refl [] w).alloc o).trans (setRow_ext _ _) (fun g hg => .inr (by simp at hg; omega))
theorem exec_build {a : Act} {o : Oper} {t : TypeId} (parts : Array (Nat × Operand)) (ho : o.op = .build t parts) (vs : List (Nat × Value)) (cells : Array Value) (w : World) (hv : (parts.map fun (i, x) => (i, a.eval x)).toList = vs)
    (hb : Try.prog.built t vs = some cells) : (execOp a.eval o).run Try.prog w = .ok (.value (.agg cells)) w := by
  unfold execOp
  have := run_build w t (parts.map fun (i, x) => (i, a.eval x)) cells (by rw [hv]; exact hb)
  simp only [ho, Sem.run_bind, this, Result.andThen_ok, Sem.run_pure]
theorem incl_walk (LF root : S32) (I M : Nat) (hlt : I < M) (xs : List S32) (s : WSt S32) (hs : s = xs.foldl (WSt.take nodeS) ⟨I, M - 1, zeroS, LF, false⟩) :
    inclN LF I M root xs = if s.st = false ∧ s.e = 0 ∧ s.l = root then 0 else 12 := by
  obtain ⟨h1, h2⟩ := take_all nodeS xs ⟨I, M - 1, zeroS, LF, false⟩ rfl
  rw [← hs] at h1 h2
  rw [ways_dirs M I hlt] at h1 h2
  unfold inclN
  rw [if_neg (by omega)]
  simp only [Int.toNat_natCast]
  by_cases hl : xs.length = (dirs I M).length
  · have h3 := h1.2 hl
    have h4 := (h2 hl).1
    have h5 : s.st = false := by cases h : s.st; rfl; exact absurd h h3.1
    by_cases hr : s.l = root
    · rw [if_pos ⟨hl, by rw [← h4]; exact hr⟩, if_pos ⟨h5, h3.2, hr⟩]
    · rw [if_neg (fun q => hr (h4.trans q.2)), if_neg (fun q => hr q.2.2)]
  · rw [if_neg (fun q => hl q.1), if_neg (fun q => hl (h1.1 ⟨by rw [q.1]; decide, q.2.1⟩))]
theorem pIncl_any (leaf : ByteArray) (hs : leaf.size ≤ 1000) (i n : Int) (hn : n ≤ 1000) (root : S32) (xs : List S32) (ao : Option Addr) (cap : Nat) (w : World) (hS : Sums32 w.heap ao cap xs) :
    Calls Try.prog 21 #[.string leaf, .int .i64 i, .agg (#[.int .i64 n] ++ root.V), .slice ao xs.length cap] w fun e w' => ∃ v, e = .returned v ∧
      Hid (ErrIs w'.heap (inclN (dig (leaf2 leaf)) i n root xs) ⟨#[108, 101, 97, 102]⟩ i v) ∧ Ext [] w w' := by
  by_cases hi : i < 0 ∨ n ≤ i
  · have hr : inclN (dig (leaf2 leaf)) i n root xs = 6 := by unfold inclN; rw [if_pos hi]
    have HR := Hs.hid hr
    clear hr
    have hH := head_n (heap_new w (.cells (#[.int .i64 n] ++ root.V) 49))
    have hx0 := (Ext.refl [] w).alloc (.cells (#[.int .i64 n] ++ root.V) 49)
    by_cases h0 : i < 0
    · clear hi
      go_enter Try.func21, Try.ntmps21
      go_wp2_with (go_at_call 37; refine (in_err ⟨#[108, 101, 97, 102]⟩ i 6 (by decide) _).mono ?_; rintro e w1 ⟨v, rfl, hv, hx1⟩)
      go_ret
      exact ⟨_, rfl, by rw [HR.out]; exact hv, hx0.trans0 hx1⟩
    · have h1 : n ≤ i := by omega
      clear hi
      go_enter Try.func21, Try.ntmps21
      go_wp2_with (go_at_call 37; refine (in_err ⟨#[108, 101, 97, 102]⟩ i 6 (by decide) _).mono ?_; rintro e w1 ⟨v, rfl, hv, hx1⟩)
      go_ret
      exact ⟨_, rfl, by rw [HR.out]; exact hv, hx0.trans0 hx1⟩
  · obtain ⟨I, rfl⟩ : ∃ I : Nat, i = I := ⟨i.toNat, by omega⟩
    obtain ⟨M, rfl⟩ : ∃ M : Nat, n = M := ⟨n.toNat, by omega⟩
    have hlt : I < M := by omega
    have h0 : ¬ (I : Int) < 0 := by omega
    have h1 : ¬ (M : Int) ≤ I := by omega
    have hM1 : (M : Int) - 1 = ((M - 1 : Nat) : Int) := by omega
    have hM2 : M ≤ 1000 := by omega
    have hwr : IntKind.i64.wrap ((M - 1 : Nat) : Int) = ((M - 1 : Nat) : Int) := by rw [IntKind.wrap_i64]; omega
    have HLF : Hid (digV (⟨#[0]⟩ ++ leaf) = (dig (leaf2 leaf)).V) := Hs.hid (dig_V _)
    generalize dig (leaf2 leaf) = LF at HLF ⊢
    have hH := heap_new w (.cells (#[.int .i64 (M : Int)] ++ root.V) 49)
    have hx0 := (Ext.refl [] w).alloc (.cells (#[.int .i64 (M : Int)] ++ root.V) 49)
    have hHn := head_n hH
    go_enter Try.func21, Try.ntmps21
    go_upto_region 3 with fail
    generalize w.alloc (.cells (#[.int .i64 (M : Int)] ++ root.V) 49) = W at hH hx0 hHn ⊢
    obtain ⟨H, hHH⟩ : ∃ H, w.heap.size = H := ⟨_, rfl⟩
    rw [hHH] at hH hHn ⊢
    have HHH := Hs.hid (show w.heap.size ≤ H from Nat.le_of_eq hHH)
    clear hHH
    go_cut [9] (fun s9 wx => ∃ b, s9 = .pointer (some ⟨b, 0, none⟩) ∧ w.heap.size ≤ b ∧ H < b ∧ WAt wx.heap b ⟨I, M - 1, zeroS, LF, false⟩ ∧ wx.heap[H]? = some (.cells (#[.int .i64 (M : Int)] ++ root.V) 49 (0, 0)) ∧ Ext [] w wx)
    case first =>
      refine wp_region_noPanic ?_
      refine wp_region_held_drew (S := (fun w' => w'.cell? ⟨H, 0, none⟩ = some (.int .i64 (M : Int)))) (by kernel_rfl) ?_ (fun hHeld => ?_)
      · ((try dsimp only); exact head_n hH)
      refine wpAnyH_take (i := 0) (v := ?_) rfl (by kernel_rfl) (by kernel_rfl) (by kernel_rfl) (fun _ _ _ h => h) (Or.inl ⟨by rfl, ?_⟩) (by assumption) ?_
      rotate_left
      · (intro w hSw; (try dsimp only at hSw); first | (go_simp; done) | (go_simp; with_reducible rfl))
      try simp only [Act.put, List.getElem_toArray, List.getElem_cons_succ, List.getElem_cons_zero, List.setIfInBounds_toArray, List.set_cons_zero, List.set_cons_succ]
      refine wpAnyH_take (i := 1) (v := ?_) rfl (by kernel_rfl) (by kernel_rfl) (by kernel_rfl) (fun _ _ _ h => h) (Or.inl ⟨by rfl, ?_⟩) (by assumption) ?_
      rotate_left
      · (intro w hSw; (try dsimp only at hSw); first | (go_simp; done) | (go_simp; with_reducible rfl))
      try simp only [Act.put, List.getElem_toArray, List.getElem_cons_succ, List.getElem_cons_zero, List.setIfInBounds_toArray, List.set_cons_zero, List.set_cons_succ]
      refine wpAnyH_take (i := 2) (v := ?_) rfl (by kernel_rfl) (by kernel_rfl) (by kernel_rfl) (fun _ _ _ h => h) (Or.inl ⟨by rfl, ?_⟩) (by assumption) ?_
      rotate_left
      · (intro w hSw; (try dsimp only at hSw); first | (go_simp; done) | (go_simp; with_reducible rfl))
      try simp only [Act.put, List.getElem_toArray, List.getElem_cons_succ, List.getElem_cons_zero, List.setIfInBounds_toArray, List.set_cons_zero, List.set_cons_succ]
      refine wpAnyH_take (i := 3) (v := ?_) rfl (by kernel_rfl) (by kernel_rfl) (by kernel_rfl) (fun _ _ _ h => h) (Or.inl ⟨by rfl, ?_⟩) (by assumption) ?_
      rotate_left
      · (intro w hSw; (try dsimp only at hSw); first | (go_simp; done) | (go_simp; with_reducible rfl))
      try simp only [Act.put, List.getElem_toArray, List.getElem_cons_succ, List.getElem_cons_zero, List.setIfInBounds_toArray, List.set_cons_zero, List.set_cons_succ]
      refine wpAnyH_take (i := 4) (v := ?_) rfl (by kernel_rfl) (by kernel_rfl) (by kernel_rfl) (fun _ _ _ h => h) (Or.inl ⟨by rfl, ?_⟩) (by assumption) ?_
      rotate_left
      · (intro w hSw; (try dsimp only at hSw); first | (go_simp; done) | (go_simp; with_reducible rfl))
      try simp only [Act.put, List.getElem_toArray, List.getElem_cons_succ, List.getElem_cons_zero, List.setIfInBounds_toArray, List.set_cons_zero, List.set_cons_succ]
      refine wpAnyH_ready (rs := [5, 7]) (by kernel_rfl) (by simp) ?_
      refine AllReadyH.cons rfl (fun K hK => ?_) (AllReadyH.cons rfl (fun K hK => ?_) AllReadyH.nil)
      · go_simp
        (go_at_call 23; refine (leaf_any leaf (by omega) _).mono ?_; rintro e w1 ⟨cs1, rfl, hcs, hx1⟩; obtain rfl : cs1 = LF.V := hcs.out.trans HLF.out; clear hcs; have hH1 := hx1.same (by exact hH) List.not_mem_nil)
        go_wp2_with fail
        refine hK.out _ _ ?_ (fun hHeld => ?_)
        · ((try dsimp only); exact head_n hH1)
        clear hK K
        try simp only [Act.put, List.getElem_toArray, List.getElem_cons_succ, List.getElem_cons_zero, List.setIfInBounds_toArray, List.set_cons_zero, List.set_cons_succ]
        refine wpAnyH_take (i := 6) (v := _) rfl (by kernel_rfl) (by kernel_rfl) (by kernel_rfl) (fun _ _ _ h => h) (.inl ⟨by rfl, fun w' _ => exec_build _ rfl [(0, .int .i64 (I : Int)), (1, .int .i64 ((M - 1 : Nat) : Int)), (3, .agg LF.V)] (wCells ⟨I, M - 1, zeroS, LF, false⟩).toArray _ (by first | (go_simp; done) | (go_simp; rfl) | (simp [Act.eval]; done)) (walk_built I (M - 1) LF)⟩) (by assumption) ?_
        try simp only [Act.put, List.getElem_toArray, List.getElem_cons_succ, List.getElem_cons_zero, List.setIfInBounds_toArray, List.set_cons_zero, List.set_cons_succ]
        refine wpAnyH_ready (rs := [7]) (by kernel_rfl) (by simp) ?_
        refine AllReadyH.cons rfl (fun K hK => ?_) AllReadyH.nil
        rw [if_pos (by rfl)]
        (have hz := (zero_of_info (P := Try.prog) infoWalk).1 w1; have hN := heap_new w1 (.cells walk0 80); have hH2 := heap_old' _ (.cells walk0 80) hH1; have hNl := lt_of_heap hH1; go_simp)
        refine hK.out _ _ ?_ (fun hHeld => ?_)
        · ((try dsimp only); exact head_n hH2)
        clear hK K
        try simp only [Act.put, List.getElem_toArray, List.getElem_cons_succ, List.getElem_cons_zero, List.setIfInBounds_toArray, List.set_cons_zero, List.set_cons_succ]
        refine wpAnyH_ready (rs := [8]) (by kernel_rfl) (by simp) ?_
        refine AllReadyH.cons rfl (fun K hK => ?_) AllReadyH.nil
        rw [if_pos (by rfl)]
        (have hW3 := setRow_heap _ _ _ (wCells ⟨I, M - 1, zeroS, LF, false⟩).toArray _ _ hN; have hH3 := (setRow_other _ _ H (wCells ⟨I, M - 1, zeroS, LF, false⟩).toArray (Nat.ne_of_lt hNl)).trans hH2; refine wp_store_row 80 _ _ rfl _ (wCells ⟨I, M - 1, zeroS, LF, false⟩).toArray rfl rfl _ _ hN (by rw [List.size_toArray, wCells_len]; exact (zero_of_info (P := Try.prog) infoWalk).2) (walk0_sz _) (wCells_one _) ?_)
        refine hK.out _ _ ?_ (fun hHeld => ?_)
        · ((try dsimp only); exact head_n hH3)
        clear hK K
        try simp only [Act.put, List.getElem_toArray, List.getElem_cons_succ, List.getElem_cons_zero, List.setIfInBounds_toArray, List.set_cons_zero, List.set_cons_succ]
        refine wpAnyH_done (by kernel_rfl) ?_ _
        refine NoPanic.normal ?_
        go_wp2
        go_meet
        first
          | exact ⟨_, rfl, Nat.le_trans (hx0.size) hx1.size, hNl, hW3, hH3, (((hx0.drew).trans0 hx1).alloc _).trans (setRow_ext _ _) (fun g hg => .inr (by simp at hg; subst hg; exact Nat.le_trans hx0.size hx1.size))⟩
          | exact ⟨_, rfl, hx0.size, hNl, hW3, hH3, (((hx0.drew).alloc _).trans0 hx1).trans (setRow_ext _ _) (fun g hg => .inr (by simp at hg; subst hg; exact hx0.size))⟩
      · rw [if_pos (by rfl)]
        (have hz := (zero_of_info (P := Try.prog) infoWalk).1 W.drew; have hN := heap_new W.drew (.cells walk0 80); have hH0 := heap_old' _ (.cells walk0 80) (show W.drew.heap[H]? = _ from hH); have hNl := lt_of_heap hH; go_simp)
        refine hK.out _ _ ?_ (fun hHeld => ?_)
        · ((try dsimp only); exact head_n hH0)
        clear hK K
        try simp only [Act.put, List.getElem_toArray, List.getElem_cons_succ, List.getElem_cons_zero, List.setIfInBounds_toArray, List.set_cons_zero, List.set_cons_succ]
        refine wpAnyH_ready (rs := [5]) (by kernel_rfl) (by simp) ?_
        refine AllReadyH.cons rfl (fun K hK => ?_) AllReadyH.nil
        go_simp
        (go_at_call 23; refine (leaf_any leaf (by omega) _).mono ?_; rintro e w1 ⟨cs1, rfl, hcs, hx1⟩; obtain rfl : cs1 = LF.V := hcs.out.trans HLF.out; clear hcs; have hH1 := hx1.same (by exact hH0) List.not_mem_nil; have hN1 := hx1.same hN List.not_mem_nil)
        go_wp2_with fail
        refine hK.out _ _ ?_ (fun hHeld => ?_)
        · ((try dsimp only); exact head_n hH1)
        clear hK K
        try simp only [Act.put, List.getElem_toArray, List.getElem_cons_succ, List.getElem_cons_zero, List.setIfInBounds_toArray, List.set_cons_zero, List.set_cons_succ]
        refine wpAnyH_take (i := 6) (v := _) rfl (by kernel_rfl) (by kernel_rfl) (by kernel_rfl) (fun _ _ _ h => h) (.inl ⟨by rfl, fun w' _ => exec_build _ rfl [(0, .int .i64 (I : Int)), (1, .int .i64 ((M - 1 : Nat) : Int)), (3, .agg LF.V)] (wCells ⟨I, M - 1, zeroS, LF, false⟩).toArray _ (by first | (go_simp; done) | (go_simp; rfl) | (simp [Act.eval]; done)) (walk_built I (M - 1) LF)⟩) (by assumption) ?_
        try simp only [Act.put, List.getElem_toArray, List.getElem_cons_succ, List.getElem_cons_zero, List.setIfInBounds_toArray, List.set_cons_zero, List.set_cons_succ]
        refine wpAnyH_ready (rs := [8]) (by kernel_rfl) (by simp) ?_
        refine AllReadyH.cons rfl (fun K hK => ?_) AllReadyH.nil
        rw [if_pos (by rfl)]
        (have hW3 := setRow_heap _ _ _ (wCells ⟨I, M - 1, zeroS, LF, false⟩).toArray _ _ hN1; have hH3 := (setRow_other _ _ H (wCells ⟨I, M - 1, zeroS, LF, false⟩).toArray (Nat.ne_of_lt hNl)).trans hH1; refine wp_store_row 80 _ _ rfl _ (wCells ⟨I, M - 1, zeroS, LF, false⟩).toArray rfl rfl _ _ hN1 (by rw [List.size_toArray, wCells_len]; exact (zero_of_info (P := Try.prog) infoWalk).2) (walk0_sz _) (wCells_one _) ?_)
        refine hK.out _ _ ?_ (fun hHeld => ?_)
        · ((try dsimp only); exact head_n hH3)
        clear hK K
        try simp only [Act.put, List.getElem_toArray, List.getElem_cons_succ, List.getElem_cons_zero, List.setIfInBounds_toArray, List.set_cons_zero, List.set_cons_succ]
        refine wpAnyH_done (by kernel_rfl) ?_ _
        refine NoPanic.normal ?_
        go_wp2
        go_meet
        first
          | exact ⟨_, rfl, Nat.le_trans (hx0.size) hx1.size, hNl, hW3, hH3, (((hx0.drew).trans0 hx1).alloc _).trans (setRow_ext _ _) (fun g hg => .inr (by simp at hg; subst hg; exact Nat.le_trans hx0.size hx1.size))⟩
          | exact ⟨_, rfl, hx0.size, hNl, hW3, hH3, (((hx0.drew).alloc _).trans0 hx1).trans (setRow_ext _ _) (fun g hg => .inr (by simp at hg; subst hg; exact hx0.size))⟩
    case rest =>
      obtain ⟨b, rfl, hbn, hHb, hW, hH, hE⟩ := hcut
      have hmax := hS.2.1
      have hlen : (xs.length : Int) ≤ 9223372036854775807 := by have := hS.1; omega
      have hSc : Sums32 wc.heap ao cap xs := hS.ext hE (by simp)
      have HI := Hs.hid hi
      have HSS := Hs.hid hS
      have HFIN := Hs.hid (incl_walk LF root I M hlt xs)
      clear hx0 hHn hS hSc hi h0 h1 hn
      go_wp2_with fail
      go_loopw [32] (fun iv wr => ∃ (k : Nat) (s : WSt S32), iv = .int .i64 k ∧ k ≤ xs.length ∧ WAt wr.heap b s ∧ Hid (s = (xs.take k).foldl (WSt.take nodeS) ⟨I, M - 1, zeroS, LF, false⟩) ∧ Hid (s.a ≤ 1000 ∧ s.e ≤ 1000) ∧ Ext [b] wc wr) (fun iv _ => xs.length - (intOf iv).toNat)
      case atStart => exact ⟨0, _, rfl, Nat.zero_le _, hW, Hs.hid rfl, Hs.hid ⟨by show I ≤ 1000; omega, by show M - 1 ≤ 1000; omega⟩, Ext.refl _ _⟩
      case round =>
        clear hW
        obtain ⟨k, s, rfl, hk, hW, HS, HB, hEb⟩ := hrel
        by_cases hkl : k < xs.length
        · have hkl' : (k : Int) < xs.length := by omega
          obtain ⟨x, hx⟩ : ∃ x, xs[k]? = some x := ⟨_, List.getElem?_eq_getElem hkl⟩
          have HX := Hs.hid hx
          clear hx
          obtain ⟨sb, so, rfl, hsb, hrg⟩ := (HSS.out.ext ((hE.mono (F' := [b]) (fun _ h => by cases h)).trans' hEb) (by simpa using hbn)).at HX.out
          have HW := Hs.hid hW
          clear hW
          go_wp2_with (first
            | (refine wpList_yield (.agg x.V) (by rfl) (exec_load_midV (.tmp 34) rfl sb _ rfl x _ hrg) ?_)
            | (refine wpList_store_row rfl 35 (.tmp 11) (.tmp 35) rfl wr.heap.size x.V rfl rfl _ _ (heap_new _ _) (by rw [x.size]; exact infoSum) (by rw [x.size]; rfl) x.one ?_)
            | (refine wpList_yield (.agg x.V) (by rfl) (exec_load_rowV (.tmp 11) rfl wr.heap.size rfl x _ ⟨_, setRow_heap _ _ _ _ _ _ (heap_new _ _)⟩) ?_)
            | (go_at_call 38; refine (take_any b s HB.out x _ (HW.out.ext (boxExt _ _) List.not_mem_nil)).mono ?_; rintro e w5 ⟨rfl, hW5, hx5⟩))
          go_round
          case rel =>
            refine ⟨k + 1, s.take nodeS x, by go_num, by omega, hW5, Hs.hid ?_, Hs.hid (take_le HB.out), ?_⟩
            · rw [List.take_add_one, HX.out, HS.out]; simp
            · exact hEb.trans' (((boxExt _ _).mono (fun _ h => by cases h)).trans' hx5)
          case measure => simp [intOf]; omega
        · have hkl' : ¬ (k : Int) < xs.length := by omega
          obtain rfl : k = xs.length := by omega
          have h66 := hW.st
          have hce := hW.e
          have hWl := hW.l
          have hHr : wr.rangeAt H 1 root.V.toList := head_root (hEb.same hH (by simp; omega))
          have HR := Hs.hid (HFIN.out s (by rw [HS.out, List.take_length]))
          have HEE : Hid (Ext [] w wr) := Hs.hid (hE.trans hEb (fun g hg => .inr (by simp at hg; omega)))
          cases hst : s.st with
          | true =>
            rw [hst] at h66
            have HST := Hs.hid hst
            clear hst
            go_wp2_with (go_at_call 39; refine (told_any ⟨#[108, 101, 97, 102]⟩ (I : Int) false _).mono ?_; rintro e w7 ⟨v, rfl, hv, hx7⟩)
            go_ret
            exact ⟨_, rfl, by rw [HR.out, if_neg (fun q => by rw [HST.out] at q; cases q.1)]; exact hv, HEE.out.trans0 hx7⟩
          | false =>
            rw [hst] at h66
            have HST := Hs.hid hst
            clear hst
            by_cases he : s.e = 0
            · have he' : (s.e : Int) = 0 := by omega
              have HE0 := Hs.hid he
              clear he
              by_cases hl : s.l = root
              · have HL := Hs.hid hl
                have hdec : decide (s.l = root) = true := decide_eq_true hl
                clear hl
                go_wp2_with (first
                  | (refine wpList_yield (.agg s.l.V) (by rfl) (exec_load_midV (.tmp 49) rfl b 34 rfl s.l _ hWl) ?_)
                  | (refine wpList_yield (.agg root.V) (by rfl) (exec_load_midV (.tmp 51) rfl H 1 rfl root _ hHr) ?_)
                  | (refine wpList_yield (.bool (decide (s.l = root))) (by rfl) (exec_eq_V (.tmp 50) (.tmp 52) _ rfl _ _ rfl rfl _) ?_)
                  | (go_at_call 39; refine (told_any ⟨#[108, 101, 97, 102]⟩ (I : Int) true _).mono ?_; rintro e w7 ⟨v, rfl, hv, hx7⟩))
                go_ret
                exact ⟨_, rfl, by rw [HR.out, if_pos ⟨HST.out, HE0.out, HL.out⟩]; exact hv, HEE.out.trans0 hx7⟩
              · have HL := Hs.hid hl
                have hdec : decide (s.l = root) = false := decide_eq_false hl
                clear hl
                go_wp2_with (first
                  | (refine wpList_yield (.agg s.l.V) (by rfl) (exec_load_midV (.tmp 49) rfl b 34 rfl s.l _ hWl) ?_)
                  | (refine wpList_yield (.agg root.V) (by rfl) (exec_load_midV (.tmp 51) rfl H 1 rfl root _ hHr) ?_)
                  | (refine wpList_yield (.bool (decide (s.l = root))) (by rfl) (exec_eq_V (.tmp 50) (.tmp 52) _ rfl _ _ rfl rfl _) ?_)
                  | (go_at_call 39; refine (told_any ⟨#[108, 101, 97, 102]⟩ (I : Int) false _).mono ?_; rintro e w7 ⟨v, rfl, hv, hx7⟩))
                go_ret
                exact ⟨_, rfl, by rw [HR.out, if_neg (fun q => HL.out q.2.2)]; exact hv, HEE.out.trans0 hx7⟩
            · have he' : ¬ (s.e : Int) = 0 := by omega
              have HE0 := Hs.hid he
              clear he
              go_wp2_with (go_at_call 39; refine (told_any ⟨#[108, 101, 97, 102]⟩ (I : Int) false _).mono ?_; rintro e w7 ⟨v, rfl, hv, hx7⟩)
              go_ret
              exact ⟨_, rfl, by rw [HR.out, if_neg (fun q => HE0.out q.2.1)]; exact hv, HEE.out.trans0 hx7⟩
end Go.Proofs.Ytjicjadibaomkaa
set_option linter.unusedSimpArgs false
set_option linter.unusedVariables false
set_option maxHeartbeats 2000000
set_option maxRecDepth 100000
namespace Go.Proofs.Ytjicjadibaomkaa
open Go.RowKit Go.Hs Go.Dg

theorem cutE_any (s : ByteArray) (n : Nat) (hn : n ≤ 1000000) (w : World) (hs : s.size ≤ maxLen) : Calls Try.prog 16 #[.string s, .int .i64 n] w fun e w' => ∃ t : ByteArray, e = .returned (.string t) ∧ t.size ≤ n ∧ w' = w := by
  unfold maxLen at hs
  have h1 : (n : Int) ≤ 1000000 := by omega
  have h2 : (0 : Int) ≤ n := by omega
  have h3 : (s.size : Int) ≤ 9223372036854775807 := by omega
  by_cases h : n < s.size
  · have hi : (n : Int) < s.size := by omega
    have HN := Hs.hid h
    clear h
    go_enter Try.func16, Try.ntmps16
    go_wp2
    go_ret
    exact ⟨_, rfl, by rw [ByteArray.size_extract]; omega, rfl⟩
  · have hi : ¬ (n : Int) < s.size := by omega
    have HN := Hs.hid h
    clear h
    go_enter Try.func16, Try.ntmps16
    go_wp2
    go_ret
    exact ⟨_, rfl, by have := HN.out; omega, rfl⟩
/-- The first 32 bytes of a text, and zeros. -/
def pad32 (s : ByteArray) : S32 := ⟨((s.data.toList.take (Nat.min s.size 32)).map UInt8.toNat) ++ List.replicate (32 - Nat.min s.size 32) 0, by
  have : s.data.toList.length = s.size := Array.length_toList
  have h2 : Nat.min s.size 32 ≤ s.size := Nat.min_le_left _ _
  have h3 : Nat.min s.size 32 ≤ 32 := Nat.min_le_right _ _
  rw [List.length_append, List.length_map, List.length_take, List.length_replicate, this, Nat.min_eq_left h2]; omega, by
  intro c hc
  rcases List.mem_append.1 hc with h | h
  · obtain ⟨x, _, rfl⟩ := List.mem_map.1 h
    exact x.toNat_lt
  · rw [(List.mem_replicate.1 h).2]; decide⟩
theorem pad32_self (x : S32) : pad32 x.s = x := by
  apply S32.ext'
  have hz : x.s.size = 32 := x.ssize
  show ((x.s.data.toList.take (Nat.min x.s.size 32)).map UInt8.toNat) ++ List.replicate (32 - Nat.min x.s.size 32) 0 = x.l
  rw [hz]
  have hd : x.s.data.toList = x.l.map UInt8.ofNat := by simp [S32.s, strN]
  rw [show Nat.min 32 32 = 32 from rfl, Nat.sub_self, List.replicate_zero, List.append_nil, hd, List.take_of_length_le (by rw [List.length_map, x.len]; exact Nat.le_refl _), List.map_map]
  apply List.ext_getElem?
  intro i
  rw [List.getElem?_map]
  cases h : x.l[i]? with
  | none => rfl
  | some c =>
    have := x.lt c (List.mem_of_getElem? h)
    simp only [Option.map_some, Function.comp_apply, UInt8.toNat_ofNat']
    rw [Nat.mod_eq_of_lt (by omega)]
theorem run_copy_sum (w : World) (ty : TypeId) (R : Nat) (s : ByteArray) (hR : w.heap[R]? = some (.cells zeroS.V 35 (0, 0))) :
    (Builtin.copy_ #[58, 9] ty #[.slice (some ⟨R, 0, none⟩) 32 32, .string s]).run Try.prog w = .ok (goInt (Nat.min s.size 32)) (w.setRow R (pad32 s).V) := by
  have h2 : Nat.min s.size 32 ≤ s.size := Nat.min_le_left _ _
  have h3 : Nat.min s.size 32 ≤ 32 := Nat.min_le_right _ _
  have hsz : s.data.toList.length = s.size := Array.length_toList
  have hlen : ((s.data.toList.map fun b : UInt8 => Value.int IntKind.u8 (b.toNat : Int)).take (Nat.min s.size 32)).length = Nat.min s.size 32 := by
    rw [List.length_take, List.length_map, hsz, Nat.min_eq_left h2]
  have hst := run_storeCells_at Try.prog R 0 35 ((s.data.toList.map fun b : UInt8 => Value.int IntKind.u8 (b.toNat : Int)).take (Nat.min s.size 32)) 0 zeroS.V w hR (by rw [hlen, zeroS.size]; omega) (by
    intro v hv
    obtain ⟨x, _, rfl⟩ := List.mem_map.1 (List.mem_of_mem_take hv)
    rfl)
  have hV : (zeroS.V.toList.take 0 ++ (s.data.toList.map fun b : UInt8 => Value.int IntKind.u8 (b.toNat : Int)).take (Nat.min s.size 32) ++ zeroS.V.toList.drop (Nat.min s.size 32)).toArray = (pad32 s).V := by
    show _ = ((((s.data.toList.take (Nat.min s.size 32)).map UInt8.toNat) ++ List.replicate (32 - Nat.min s.size 32) 0).map fun (c : Nat) => Value.int .u8 c).toArray
    congr 1
    rw [List.take_zero, List.nil_append, List.map_append, ← List.map_take, List.map_map]
    congr 1
    show ((List.replicate 32 0).map fun (c : Nat) => Value.int .u8 c).drop _ = _
    rw [← List.map_drop, List.drop_replicate]
  rw [hlen] at hst
  simp only [Nat.add_zero, Nat.zero_add] at hst
  rw [hV] at hst
  obtain ⟨i0, hi, _⟩ := info_parts infoU8
  have hs : (Try.prog.info? 5).map (·.size) = some 1 := by kernel_rfl
  cases hq : Try.prog.info? 5 with
  | none => simp [hq] at hs
  | some i =>
    have h1 : i.size = 1 := by simpa [hq] using hs
    simp [Builtin.copy_, run_underlying Try.underlying58, Builtin.lenOf, Builtin.firstCells, sizeOf, typeInfo, hq, h1]
    rw [hst]
    simp [Result.andThen]
theorem sum32_any (s : ByteArray) (hs : s.size ≤ maxLen) (w : World) : Calls Try.prog 20 #[.string s] w fun e w' => ∃ x : S32, e = .returned (.agg x.V) ∧ Hid (x = pad32 s) ∧ Ext [] w w' := by
  have hZ : zeroS.V = #[.int .u8 0, .int .u8 0, .int .u8 0, .int .u8 0, .int .u8 0, .int .u8 0, .int .u8 0, .int .u8 0, .int .u8 0, .int .u8 0, .int .u8 0, .int .u8 0, .int .u8 0, .int .u8 0, .int .u8 0, .int .u8 0, .int .u8 0, .int .u8 0, .int .u8 0, .int .u8 0, .int .u8 0, .int .u8 0, .int .u8 0, .int .u8 0, .int .u8 0, .int .u8 0, .int .u8 0, .int .u8 0, .int .u8 0, .int .u8 0, .int .u8 0, .int .u8 0] := rfl
  have HZ := Hs.hid hZ
  go_enter Try.func20, Try.ntmps20
  go_upto_region 2 with fail
  rw [← HZ.out]
  clear hZ
  have h0 := heap_old' _ (.cells zeroS.V 35) (heap_new w (.cells zeroS.V 35))
  have h1 := heap_new (w.alloc (.cells zeroS.V 35)) (.cells zeroS.V 35)
  have hx := ((Ext.refl [] w).alloc (.cells zeroS.V 35)).alloc (.cells zeroS.V 35)
  have hsz1 : (w.alloc (.cells zeroS.V 35)).heap.size = w.heap.size + 1 := by simp
  rw [hsz1] at h1
  generalize (w.alloc (.cells zeroS.V 35)).alloc (.cells zeroS.V 35) = W at h0 h1 hx ⊢
  clear hsz1
  obtain ⟨R, hR⟩ : ∃ R, w.heap.size = R := ⟨_, rfl⟩
  have HR := Hs.hid (show w.heap.size ≤ R from Nat.le_of_eq hR)
  rw [hR] at h0 h1 ⊢
  clear hR
  have hcp := fun ty => run_copy_sum W ty (R + 1) s h1
  obtain ⟨y, hy⟩ : ∃ y, y = pad32 s := ⟨_, rfl⟩
  rw [← hy] at hcp
  have HY := Hs.hid hy
  clear hy
  have h0' : (W.setRow (R + 1) y.V).heap[R]? = some (.cells zeroS.V 35 (0, 0)) := (setRow_other _ _ _ _ (by omega)).trans h0
  have h1' := setRow_heap W (R + 1) _ y.V _ _ h1
  have HC := Hs.hid hcp
  have HZS := Hs.hid (show zeroS.V.size = y.V.size by rw [zeroS.size, y.size])
  clear hcp
  go_wp2_with (first
    | (refine Lib.wpList_copy_run _ rfl (.tmp 4) (.tmp 5) 58 9 rfl _ _ rfl rfl (HC.out _) ?_)
    | (refine wpList_yield (.agg y.V) (by rfl) (exec_load_rowV (.tmp 3) rfl (R + 1) rfl y _ ⟨_, h1'⟩) ?_)
    | (refine wpList_store_row rfl 35 (.tmp 2) (.tmp 7) rfl R y.V rfl rfl _ _ h0' (by rw [y.size]; exact infoSum) HZS.out y.one ?_))
  refine bodyPost_ret (v := .agg y.V) (results_cell_row (P := Try.prog) Try.results20 _ _ R _ _ _ _ rfl (setRow_heap _ _ _ _ _ _ h0') Try.underlying35 rfl (by rw [y.size]; exact infoSum)) rfl ?_
  exact ⟨y, rfl, HY, (hx.trans (setRow_ext (R + 1) y.V) (fun g hg => .inr (by have := HR.out; simp at hg; omega))).trans (setRow_ext R y.V) (fun g hg => .inr (by have := HR.out; simp at hg; omega))⟩
end Go.Proofs.Ytjicjadibaomkaa
set_option linter.unusedSimpArgs false
set_option linter.unusedVariables false
set_option maxHeartbeats 2000000
set_option maxRecDepth 100000
namespace Go.Proofs.Ytjicjadibaomkaa
open Go.RowKit Go.Hs Go.Dg

theorem pConsA_any (m n : Int) (hn : n ≤ 1000) (hout : m ≤ 0 ∨ n ≤ m) (old root : S32) (xs : List S32) (ao : Option Addr) (cap : Nat) (w : World) (hS : Sums32 w.heap ao cap xs) :
    Calls Try.prog 22 #[.agg (#[.int .i64 m] ++ old.V), .agg (#[.int .i64 n] ++ root.V), .slice ao xs.length cap] w fun e w' => ∃ v, e = .returned v ∧
      Hid (ErrIs w'.heap (consN m n old root xs) ⟨#[112, 114, 101, 102, 105, 120]⟩ m v) ∧ Ext [] w w' := by
  have hmax := hS.2.1
  have hcap := hS.1
  by_cases hi : m < 0 ∨ n < m
  · have hr : consN m n old root xs = 6 := by unfold consN; rw [if_pos hi]
    have HR := Hs.hid hr
    clear hr
    obtain ⟨hA, hB, hx0, _⟩ := alloc_two' w (.cells (#[.int .i64 m] ++ old.V) 49) (.cells (#[.int .i64 n] ++ root.V) 49)
    have hAm := head_n hA
    have hBn := head_n hB
    by_cases h0 : m < 0
    · clear hi hout
      go_enter Try.func22, Try.ntmps22
      go_wp2_with (go_at_call 37; refine (in_err ⟨#[112, 114, 101, 102, 105, 120]⟩ m 6 (by decide) _).mono ?_; rintro e w1 ⟨v, rfl, hv, hx1⟩)
      go_ret
      exact ⟨_, rfl, by rw [HR.out]; exact hv, hx0.trans0 hx1⟩
    · have h1 : n < m := by omega
      clear hi hout
      go_enter Try.func22, Try.ntmps22
      go_wp2_with (go_at_call 37; refine (in_err ⟨#[112, 114, 101, 102, 105, 120]⟩ m 6 (by decide) _).mono ?_; rintro e w1 ⟨v, rfl, hv, hx1⟩)
      go_ret
      exact ⟨_, rfl, by rw [HR.out]; exact hv, hx0.trans0 hx1⟩
  · have h0 : ¬ m < 0 := by omega
    have h1 : ¬ n < m := by omega
    by_cases hmn : m = n
    · subst hmn
      have hr : consN m m old root xs = if xs = [] ∧ old = root then 0 else 12 := by unfold consN; rw [if_neg hi, if_pos rfl]
      clear hi hout
      rcases Nat.eq_zero_or_pos xs.length with hl | hl
      · have hxs : xs = [] := List.eq_nil_of_length_eq_zero hl
        have HR := Hs.hid (show consN m m old root xs = if decide (old = root) = true then 0 else 12 by
          rw [hr]
          by_cases h : old = root
          · rw [if_pos ⟨hxs, h⟩, if_pos (by simpa using h)]
          · rw [if_neg (fun q => h q.2), if_neg (by simpa using h)])
        rw [hl] at hcap ⊢
        clear hr hxs hl hS
        generalize consN m m old root xs = CN at HR ⊢
        obtain ⟨hA, hB, hx0, _⟩ := alloc_two' w (.cells (#[.int .i64 m] ++ old.V) 49) (.cells (#[.int .i64 m] ++ root.V) 49)
        have hAm := head_n hA
        have hBn := head_n hB
        go_enter Try.func22, Try.ntmps22
        go_upto_region 4 with fail
        generalize (w.alloc (.cells (#[.int .i64 m] ++ old.V) 49)).alloc (.cells (#[.int .i64 m] ++ root.V) 49) = W at hA hB hx0 hAm hBn ⊢
        obtain ⟨A, hAA⟩ : ∃ A, w.heap.size = A := ⟨_, rfl⟩
        rw [hAA] at hA hB hAm hBn ⊢
        obtain ⟨B, hBB⟩ : ∃ B, A + 1 = B := ⟨_, rfl⟩
        rw [hBB] at hB hBn ⊢
        have HAB := Hs.hid (And.intro (show w.heap.size ≤ A from Nat.le_of_eq hAA) (show A < B by omega))
        clear hAA hBB
        refine wp_region_stl_tail 12 (by kernel_rfl) (by kernel_rfl) ?_
        simp only [List.take_succ_cons, List.take_zero, List.drop_succ_cons, List.drop_zero]
        refine still_val (v := ?_) (by rfl) ?_ ?_
        rotate_left
        · first | (go_simp; done) | (go_simp; with_reducible rfl)
        try simp only [Act.put, List.getElem_toArray, List.getElem_cons_succ, List.getElem_cons_zero, List.setIfInBounds_toArray, List.set_cons_zero, List.set_cons_succ]
        refine still_val (v := ?_) (by rfl) ?_ ?_
        rotate_left
        · first | (go_simp; done) | (go_simp; with_reducible rfl)
        try simp only [Act.put, List.getElem_toArray, List.getElem_cons_succ, List.getElem_cons_zero, List.setIfInBounds_toArray, List.set_cons_zero, List.set_cons_succ]
        refine still_val (v := ?_) (by rfl) ?_ ?_
        rotate_left
        · first | (go_simp; done) | (go_simp; with_reducible rfl)
        try simp only [Act.put, List.getElem_toArray, List.getElem_cons_succ, List.getElem_cons_zero, List.setIfInBounds_toArray, List.set_cons_zero, List.set_cons_succ]
        refine still_val (v := ?_) (by rfl) ?_ ?_
        rotate_left
        · first | (go_simp; done) | (go_simp; with_reducible rfl)
        try simp only [Act.put, List.getElem_toArray, List.getElem_cons_succ, List.getElem_cons_zero, List.setIfInBounds_toArray, List.set_cons_zero, List.set_cons_succ]
        refine still_val (v := ?_) (by rfl) ?_ ?_
        rotate_left
        · first | (go_simp; done) | (go_simp; with_reducible rfl)
        try simp only [Act.put, List.getElem_toArray, List.getElem_cons_succ, List.getElem_cons_zero, List.setIfInBounds_toArray, List.set_cons_zero, List.set_cons_succ]
        refine still_val (v := ?_) (by rfl) ?_ ?_
        rotate_left
        · first | (go_simp; done) | (go_simp; with_reducible rfl)
        try simp only [Act.put, List.getElem_toArray, List.getElem_cons_succ, List.getElem_cons_zero, List.setIfInBounds_toArray, List.set_cons_zero, List.set_cons_succ]
        refine still_val (v := ?_) (by rfl) ?_ ?_
        rotate_left
        · first | (go_simp; done) | (go_simp; with_reducible rfl)
        try simp only [Act.put, List.getElem_toArray, List.getElem_cons_succ, List.getElem_cons_zero, List.setIfInBounds_toArray, List.set_cons_zero, List.set_cons_succ]
        refine still_val (v := (.agg old.V)) (by rfl) (exec_load_midV (.tmp 37) rfl A 1 rfl old _ (head_root hA)) ?_
        try simp only [Act.put, List.getElem_toArray, List.getElem_cons_succ, List.getElem_cons_zero, List.setIfInBounds_toArray, List.set_cons_zero, List.set_cons_succ]
        refine still_val (v := ?_) (by rfl) ?_ ?_
        rotate_left
        · first | (go_simp; done) | (go_simp; with_reducible rfl)
        try simp only [Act.put, List.getElem_toArray, List.getElem_cons_succ, List.getElem_cons_zero, List.setIfInBounds_toArray, List.set_cons_zero, List.set_cons_succ]
        refine still_val (v := (.agg root.V)) (by rfl) (exec_load_midV (.tmp 39) rfl B 1 rfl root _ (head_root hB)) ?_
        try simp only [Act.put, List.getElem_toArray, List.getElem_cons_succ, List.getElem_cons_zero, List.setIfInBounds_toArray, List.set_cons_zero, List.set_cons_succ]
        refine still_val (v := (.bool (decide (old = root)))) (by rfl) (exec_eq_V (.tmp 38) (.tmp 40) _ rfl old root rfl rfl _) ?_
        try simp only [Act.put, List.getElem_toArray, List.getElem_cons_succ, List.getElem_cons_zero, List.setIfInBounds_toArray, List.set_cons_zero, List.set_cons_succ]
        refine still_val (v := ?_) (by rfl) ?_ ?_
        rotate_left
        · first | (go_simp; done) | (go_simp; with_reducible rfl)
        try simp only [Act.put, List.getElem_toArray, List.getElem_cons_succ, List.getElem_cons_zero, List.setIfInBounds_toArray, List.set_cons_zero, List.set_cons_succ]
        refine still_end ?_
        go_wp2_with (go_at_call 39; refine (told_any ⟨#[112, 114, 101, 102, 105, 120]⟩ m (decide (old = root)) _).mono ?_; rintro e w1 ⟨v, rfl, hv, hx1⟩)
        go_ret
        exact ⟨_, rfl, by rw [HR.out]; exact hv, hx0.drew.trans0 hx1⟩
      · have HR := Hs.hid (show consN m m old root xs = 12 by rw [hr, if_neg (fun q => by rw [q.1] at hl; simp at hl)])
        have hl' : ¬ ((xs.length : Nat) : Int) = 0 := by omega
        clear hr hS
        generalize consN m m old root xs = CN at HR ⊢
        generalize xs.length = L at hl hl' hcap ⊢
        have hbe : ((L : Int) == 0) = false := by simpa using hl'
        obtain ⟨hA, hB, hx0, _⟩ := alloc_two' w (.cells (#[.int .i64 m] ++ old.V) 49) (.cells (#[.int .i64 m] ++ root.V) 49)
        have hAm := head_n hA
        have hBn := head_n hB
        go_enter Try.func22, Try.ntmps22
        go_upto_region 4 with fail
        generalize (w.alloc (.cells (#[.int .i64 m] ++ old.V) 49)).alloc (.cells (#[.int .i64 m] ++ root.V) 49) = W at hA hB hx0 hAm hBn ⊢
        obtain ⟨A, hAA⟩ : ∃ A, w.heap.size = A := ⟨_, rfl⟩
        rw [hAA] at hA hB hAm hBn ⊢
        obtain ⟨B, hBB⟩ : ∃ B, A + 1 = B := ⟨_, rfl⟩
        rw [hBB] at hB hBn ⊢
        have HAB := Hs.hid (And.intro (show w.heap.size ≤ A from Nat.le_of_eq hAA) (show A < B by omega))
        clear hAA hBB
        refine wp_region_stl_tail 12 (by kernel_rfl) (by kernel_rfl) ?_
        simp only [List.take_succ_cons, List.take_zero, List.drop_succ_cons, List.drop_zero]
        refine still_val (v := ?_) (by rfl) ?_ ?_
        rotate_left
        · first | (go_simp; done) | (go_simp; with_reducible rfl)
        try simp only [Act.put, List.getElem_toArray, List.getElem_cons_succ, List.getElem_cons_zero, List.setIfInBounds_toArray, List.set_cons_zero, List.set_cons_succ]
        refine still_val (v := ?_) (by rfl) ?_ ?_
        rotate_left
        · first | (go_simp; done) | (go_simp; with_reducible rfl)
        try simp only [Act.put, List.getElem_toArray, List.getElem_cons_succ, List.getElem_cons_zero, List.setIfInBounds_toArray, List.set_cons_zero, List.set_cons_succ]
        refine still_val (v := ?_) (by rfl) ?_ ?_
        rotate_left
        · first | (go_simp; done) | (go_simp; with_reducible rfl)
        try simp only [Act.put, List.getElem_toArray, List.getElem_cons_succ, List.getElem_cons_zero, List.setIfInBounds_toArray, List.set_cons_zero, List.set_cons_succ]
        refine still_val (v := ?_) (by rfl) ?_ ?_
        rotate_left
        · first | (go_simp; done) | (go_simp; with_reducible rfl)
        try simp only [Act.put, List.getElem_toArray, List.getElem_cons_succ, List.getElem_cons_zero, List.setIfInBounds_toArray, List.set_cons_zero, List.set_cons_succ]
        refine still_val (v := ?_) (by rfl) ?_ ?_
        rotate_left
        · first | (go_simp; done) | (go_simp; with_reducible rfl)
        try simp only [Act.put, List.getElem_toArray, List.getElem_cons_succ, List.getElem_cons_zero, List.setIfInBounds_toArray, List.set_cons_zero, List.set_cons_succ]
        refine still_val (v := ?_) (by rfl) ?_ ?_
        rotate_left
        · first | (go_simp; done) | (go_simp; with_reducible rfl)
        try simp only [Act.put, List.getElem_toArray, List.getElem_cons_succ, List.getElem_cons_zero, List.setIfInBounds_toArray, List.set_cons_zero, List.set_cons_succ]
        refine still_not (by rfl) ?_
        try simp only [Act.put, List.getElem_toArray, List.getElem_cons_succ, List.getElem_cons_zero, List.setIfInBounds_toArray, List.set_cons_zero, List.set_cons_succ]
        refine still_not (by rfl) ?_
        try simp only [Act.put, List.getElem_toArray, List.getElem_cons_succ, List.getElem_cons_zero, List.setIfInBounds_toArray, List.set_cons_zero, List.set_cons_succ]
        refine still_not (by rfl) ?_
        try simp only [Act.put, List.getElem_toArray, List.getElem_cons_succ, List.getElem_cons_zero, List.setIfInBounds_toArray, List.set_cons_zero, List.set_cons_succ]
        refine still_not (by rfl) ?_
        try simp only [Act.put, List.getElem_toArray, List.getElem_cons_succ, List.getElem_cons_zero, List.setIfInBounds_toArray, List.set_cons_zero, List.set_cons_succ]
        refine still_not (by rfl) ?_
        try simp only [Act.put, List.getElem_toArray, List.getElem_cons_succ, List.getElem_cons_zero, List.setIfInBounds_toArray, List.set_cons_zero, List.set_cons_succ]
        refine still_val (v := ?_) (by rfl) ?_ ?_
        rotate_left
        · first | (go_simp; done) | (go_simp; with_reducible rfl)
        try simp only [Act.put, List.getElem_toArray, List.getElem_cons_succ, List.getElem_cons_zero, List.setIfInBounds_toArray, List.set_cons_zero, List.set_cons_succ]
        refine still_end ?_
        go_wp2_with (go_at_call 39; refine (told_any ⟨#[112, 114, 101, 102, 105, 120]⟩ m false _).mono ?_; rintro e w1 ⟨v, rfl, hv, hx1⟩)
        go_ret
        exact ⟨_, rfl, by rw [HR.out]; exact hv, hx0.drew.trans0 hx1⟩
    · obtain rfl : m = 0 := by omega
      have hr : consN 0 n old root xs = if xs = [] ∧ old = dig ⟨#[]⟩ then 0 else 12 := by unfold consN; rw [if_neg hi, if_neg hmn, if_pos rfl]
      have HD0 : Hid (digV ⟨#[]⟩ = (dig ⟨#[]⟩).V) := Hs.hid (dig_V _)
      generalize dig ⟨#[]⟩ = D0 at hr HD0
      clear hi hout
      rcases Nat.eq_zero_or_pos xs.length with hl | hl
      · have hxs : xs = [] := List.eq_nil_of_length_eq_zero hl
        have HR := Hs.hid (show consN 0 n old root xs = if decide (old = D0) = true then 0 else 12 by
          rw [hr]
          by_cases h : old = D0
          · rw [if_pos ⟨hxs, h⟩, if_pos (by simpa using h)]
          · rw [if_neg (fun q => h q.2), if_neg (by simpa using h)])
        rw [hl] at hcap ⊢
        clear hr hxs hl hS
        generalize consN 0 n old root xs = CN at HR ⊢
        obtain ⟨hA, hB, hx0, _⟩ := alloc_two' w (.cells (#[.int .i64 0] ++ old.V) 49) (.cells (#[.int .i64 n] ++ root.V) 49)
        have hAm := head_n hA
        have hBn := head_n hB
        go_enter Try.func22, Try.ntmps22
        go_upto_region 6 with fail
        generalize (w.alloc (.cells (#[.int .i64 0] ++ old.V) 49)).alloc (.cells (#[.int .i64 n] ++ root.V) 49) = W at hA hB hx0 hAm hBn ⊢
        obtain ⟨A, hAA⟩ : ∃ A, w.heap.size = A := ⟨_, rfl⟩
        rw [hAA] at hA hB hAm hBn ⊢
        obtain ⟨B, hBB⟩ : ∃ B, A + 1 = B := ⟨_, rfl⟩
        rw [hBB] at hB hBn ⊢
        have HAB := Hs.hid (And.intro (show w.heap.size ≤ A from Nat.le_of_eq hAA) (show A < B by omega))
        clear hAA hBB
        refine wp_region_noPanic ?_
        refine wp_region_held_drew (S := (fun w' => w'.heap[A]? = some (.cells (#[.int .i64 0] ++ old.V) 49 (0, 0)))) (by kernel_rfl) ?_ (fun hHeld => ?_)
        · ((try dsimp only); exact hA)
        refine wpAnyH_take (i := 0) (v := ?_) rfl (by kernel_rfl) (by kernel_rfl) (by kernel_rfl) (fun _ _ _ h => h) (Or.inl ⟨by rfl, ?_⟩) (by assumption) ?_
        rotate_left
        · (intro w hSw; (try dsimp only at hSw); first | (go_simp; done) | (go_simp; with_reducible rfl))
        try simp only [Act.put, List.getElem_toArray, List.getElem_cons_succ, List.getElem_cons_zero, List.setIfInBounds_toArray, List.set_cons_zero, List.set_cons_succ]
        refine wpAnyH_take (i := 1) (v := ?_) rfl (by kernel_rfl) (by kernel_rfl) (by kernel_rfl) (fun _ _ _ h => h) (Or.inl ⟨by rfl, ?_⟩) (by assumption) ?_
        rotate_left
        · (intro w hSw; (try dsimp only at hSw); first | (go_simp; done) | (go_simp; with_reducible rfl))
        try simp only [Act.put, List.getElem_toArray, List.getElem_cons_succ, List.getElem_cons_zero, List.setIfInBounds_toArray, List.set_cons_zero, List.set_cons_succ]
        refine wpAnyH_take (i := 2) (v := ?_) rfl (by kernel_rfl) (by kernel_rfl) (by kernel_rfl) (fun _ _ _ h => h) (Or.inl ⟨by rfl, ?_⟩) (by assumption) ?_
        rotate_left
        · (intro w hSw; (try dsimp only at hSw); first | (go_simp; done) | (go_simp; with_reducible rfl))
        try simp only [Act.put, List.getElem_toArray, List.getElem_cons_succ, List.getElem_cons_zero, List.setIfInBounds_toArray, List.set_cons_zero, List.set_cons_succ]
        refine wpAnyH_take (i := 3) (v := ?_) rfl (by kernel_rfl) (by kernel_rfl) (by kernel_rfl) (fun _ _ _ h => h) (Or.inl ⟨by rfl, ?_⟩) (by assumption) ?_
        rotate_left
        · (intro w hSw; (try dsimp only at hSw); first | (go_simp; done) | (go_simp; with_reducible rfl))
        try simp only [Act.put, List.getElem_toArray, List.getElem_cons_succ, List.getElem_cons_zero, List.setIfInBounds_toArray, List.set_cons_zero, List.set_cons_succ]
        refine wpAnyH_take (i := 4) (v := ?_) rfl (by kernel_rfl) (by kernel_rfl) (by kernel_rfl) (fun _ _ _ h => h) (Or.inl ⟨by rfl, ?_⟩) (by assumption) ?_
        rotate_left
        · (intro w hSw; (try dsimp only at hSw); first | (go_simp; done) | (go_simp; with_reducible rfl))
        try simp only [Act.put, List.getElem_toArray, List.getElem_cons_succ, List.getElem_cons_zero, List.setIfInBounds_toArray, List.set_cons_zero, List.set_cons_succ]
        refine wpAnyH_take (i := 5) (v := _) rfl (by kernel_rfl) (by kernel_rfl) (by kernel_rfl) (fun _ _ _ h => h) (yieldsIf_of (.agg old.V) (by rfl) (fun w' hw => exec_load_midV (.tmp 52) rfl A 1 rfl old w' (head_root hw))) (by assumption) ?_
        try simp only [Act.put, List.getElem_toArray, List.getElem_cons_succ, List.getElem_cons_zero, List.setIfInBounds_toArray, List.set_cons_zero, List.set_cons_succ]
        refine wpAnyH_ready (rs := [6]) (by kernel_rfl) (by simp) ?_
        refine AllReadyH.cons rfl (fun K hK => ?_) AllReadyH.nil
        go_simp
        (go_at_call 12; refine (of_any ⟨#[]⟩ (by decide) _).mono ?_; rintro e w1 ⟨cs1, rfl, hcs, hx1⟩; obtain rfl : cs1 = D0.V := hcs.out.trans HD0.out; clear hcs)
        go_wp2_with fail
        refine hK.out _ _ ?_ (fun hHeld => ?_)
        · ((try dsimp only); exact hx1.same hHeld List.not_mem_nil)
        clear hK K
        try simp only [Act.put, List.getElem_toArray, List.getElem_cons_succ, List.getElem_cons_zero, List.setIfInBounds_toArray, List.set_cons_zero, List.set_cons_succ]
        refine wpAnyH_take (i := 7) (v := _) rfl (by kernel_rfl) (by kernel_rfl) (by kernel_rfl) (fun _ _ _ h => h) (yieldsIf_of (.bool (decide (old = D0))) (by rfl) (fun w' _ => exec_eq_V (.tmp 53) (.tmp 54) _ rfl old D0 rfl rfl w')) (by assumption) ?_
        try simp only [Act.put, List.getElem_toArray, List.getElem_cons_succ, List.getElem_cons_zero, List.setIfInBounds_toArray, List.set_cons_zero, List.set_cons_succ]
        refine wpAnyH_take (i := 8) (v := ?_) rfl (by kernel_rfl) (by kernel_rfl) (by kernel_rfl) (fun _ _ _ h => h) (Or.inl ⟨by rfl, ?_⟩) (by assumption) ?_
        rotate_left
        · (intro w hSw; (try dsimp only at hSw); first | (go_simp; done) | (go_simp; with_reducible rfl))
        try simp only [Act.put, List.getElem_toArray, List.getElem_cons_succ, List.getElem_cons_zero, List.setIfInBounds_toArray, List.set_cons_zero, List.set_cons_succ]
        refine wpAnyH_ready (rs := [9]) (by kernel_rfl) (by simp) ?_
        refine AllReadyH.cons rfl (fun K hK => ?_) AllReadyH.nil
        go_simp
        (go_at_call 39; refine (told_any ⟨#[112, 114, 101, 102, 105, 120]⟩ 0 (decide (old = D0)) _).mono ?_; rintro e w2 ⟨v, rfl, hv, hx2⟩)
        go_wp2_with fail
        refine hK.out _ _ ?_ (fun hHeld => ?_)
        · ((try dsimp only); exact hx2.same hHeld List.not_mem_nil)
        clear hK K
        try simp only [Act.put, List.getElem_toArray, List.getElem_cons_succ, List.getElem_cons_zero, List.setIfInBounds_toArray, List.set_cons_zero, List.set_cons_succ]
        refine wpAnyH_take (i := 10) (v := ?_) rfl (by kernel_rfl) (by kernel_rfl) (by kernel_rfl) (fun _ _ _ h => h) (Or.inl ⟨by rfl, ?_⟩) (by assumption) ?_
        rotate_left
        · (intro w hSw; (try dsimp only at hSw); first | (go_simp; done) | (go_simp; with_reducible rfl))
        try simp only [Act.put, List.getElem_toArray, List.getElem_cons_succ, List.getElem_cons_zero, List.setIfInBounds_toArray, List.set_cons_zero, List.set_cons_succ]
        refine wpAnyH_done (by kernel_rfl) ?_ _
        refine NoPanic.normal ?_
        go_wp2
        go_ret
        exact ⟨_, rfl, by rw [HR.out]; simpa using hv, (hx0.drew.trans0 hx1).trans0 hx2⟩
      · have HR := Hs.hid (show consN 0 n old root xs = 12 by rw [hr, if_neg (fun q => by rw [q.1] at hl; simp at hl)])
        have hl' : ¬ ((xs.length : Nat) : Int) = 0 := by omega
        clear hr hS
        generalize consN 0 n old root xs = CN at HR ⊢
        generalize xs.length = L at hl hl' hcap ⊢
        have hbe : ((L : Int) == 0) = false := by simpa using hl'
        obtain ⟨hA, hB, hx0, _⟩ := alloc_two' w (.cells (#[.int .i64 0] ++ old.V) 49) (.cells (#[.int .i64 n] ++ root.V) 49)
        have hAm := head_n hA
        have hBn := head_n hB
        go_enter Try.func22, Try.ntmps22
        go_upto_region 6 with fail
        generalize (w.alloc (.cells (#[.int .i64 0] ++ old.V) 49)).alloc (.cells (#[.int .i64 n] ++ root.V) 49) = W at hA hB hx0 hAm hBn ⊢
        obtain ⟨A, hAA⟩ : ∃ A, w.heap.size = A := ⟨_, rfl⟩
        rw [hAA] at hA hB hAm hBn ⊢
        obtain ⟨B, hBB⟩ : ∃ B, A + 1 = B := ⟨_, rfl⟩
        rw [hBB] at hB hBn ⊢
        have HAB := Hs.hid (And.intro (show w.heap.size ≤ A from Nat.le_of_eq hAA) (show A < B by omega))
        clear hAA hBB
        refine wp_region_noPanic ?_
        refine wp_region_held_drew (S := (fun w' => w'.heap[A]? = some (.cells (#[.int .i64 0] ++ old.V) 49 (0, 0)))) (by kernel_rfl) ?_ (fun hHeld => ?_)
        · ((try dsimp only); exact hA)
        refine wpAnyH_take (i := 0) (v := ?_) rfl (by kernel_rfl) (by kernel_rfl) (by kernel_rfl) (fun _ _ _ h => h) (Or.inl ⟨by rfl, ?_⟩) (by assumption) ?_
        rotate_left
        · (intro w hSw; (try dsimp only at hSw); first | (go_simp; done) | (go_simp; with_reducible rfl))
        try simp only [Act.put, List.getElem_toArray, List.getElem_cons_succ, List.getElem_cons_zero, List.setIfInBounds_toArray, List.set_cons_zero, List.set_cons_succ]
        refine wpAnyH_take (i := 1) (v := ?_) rfl (by kernel_rfl) (by kernel_rfl) (by kernel_rfl) (fun _ _ _ h => h) (Or.inl ⟨by rfl, ?_⟩) (by assumption) ?_
        rotate_left
        · (intro w hSw; (try dsimp only at hSw); first | (go_simp; done) | (go_simp; with_reducible rfl))
        try simp only [Act.put, List.getElem_toArray, List.getElem_cons_succ, List.getElem_cons_zero, List.setIfInBounds_toArray, List.set_cons_zero, List.set_cons_succ]
        refine wpAnyH_take (i := 2) (v := ?_) rfl (by kernel_rfl) (by kernel_rfl) (by kernel_rfl) (fun _ _ _ h => h) (Or.inl ⟨by rfl, ?_⟩) (by assumption) ?_
        rotate_left
        · (intro w hSw; (try dsimp only at hSw); first | (go_simp; done) | (go_simp; with_reducible rfl))
        try simp only [Act.put, List.getElem_toArray, List.getElem_cons_succ, List.getElem_cons_zero, List.setIfInBounds_toArray, List.set_cons_zero, List.set_cons_succ]
        refine wpAnyH_take (i := 3) (v := ?_) rfl (by kernel_rfl) (by kernel_rfl) (by kernel_rfl) (fun _ _ _ h => h) (Or.inl ⟨by rfl, ?_⟩) (by assumption) ?_
        rotate_left
        · (intro w hSw; (try dsimp only at hSw); first | (go_simp; done) | (go_simp; with_reducible rfl))
        try simp only [Act.put, List.getElem_toArray, List.getElem_cons_succ, List.getElem_cons_zero, List.setIfInBounds_toArray, List.set_cons_zero, List.set_cons_succ]
        refine wpAnyH_take (i := 4) (v := undef) rfl (by kernel_rfl) (by kernel_rfl) (by kernel_rfl) (fun _ _ _ h => h) (Or.inr ⟨by rfl, rfl⟩) (by assumption) ?_
        try simp only [Act.put, List.getElem_toArray, List.getElem_cons_succ, List.getElem_cons_zero, List.setIfInBounds_toArray, List.set_cons_zero, List.set_cons_succ]
        refine wpAnyH_take (i := 5) (v := undef) rfl (by kernel_rfl) (by kernel_rfl) (by kernel_rfl) (fun _ _ _ h => h) (Or.inr ⟨by rfl, rfl⟩) (by assumption) ?_
        try simp only [Act.put, List.getElem_toArray, List.getElem_cons_succ, List.getElem_cons_zero, List.setIfInBounds_toArray, List.set_cons_zero, List.set_cons_succ]
        refine wpAnyH_take (i := 6) (v := undef) rfl (by kernel_rfl) (by kernel_rfl) (by kernel_rfl) (fun _ _ _ h => h) (Or.inr ⟨by rfl, rfl⟩) (by assumption) ?_
        try simp only [Act.put, List.getElem_toArray, List.getElem_cons_succ, List.getElem_cons_zero, List.setIfInBounds_toArray, List.set_cons_zero, List.set_cons_succ]
        refine wpAnyH_take (i := 7) (v := undef) rfl (by kernel_rfl) (by kernel_rfl) (by kernel_rfl) (fun _ _ _ h => h) (Or.inr ⟨by rfl, rfl⟩) (by assumption) ?_
        try simp only [Act.put, List.getElem_toArray, List.getElem_cons_succ, List.getElem_cons_zero, List.setIfInBounds_toArray, List.set_cons_zero, List.set_cons_succ]
        refine wpAnyH_take (i := 8) (v := ?_) rfl (by kernel_rfl) (by kernel_rfl) (by kernel_rfl) (fun _ _ _ h => h) (Or.inl ⟨by rfl, ?_⟩) (by assumption) ?_
        rotate_left
        · (intro w hSw; (try dsimp only at hSw); first | (go_simp; done) | (go_simp; with_reducible rfl))
        try simp only [Act.put, List.getElem_toArray, List.getElem_cons_succ, List.getElem_cons_zero, List.setIfInBounds_toArray, List.set_cons_zero, List.set_cons_succ]
        refine wpAnyH_ready (rs := [9]) (by kernel_rfl) (by simp) ?_
        refine AllReadyH.cons rfl (fun K hK => ?_) AllReadyH.nil
        go_simp
        (go_at_call 39; refine (told_any ⟨#[112, 114, 101, 102, 105, 120]⟩ 0 false _).mono ?_; rintro e w2 ⟨v, rfl, hv, hx2⟩)
        go_wp2_with fail
        refine hK.out _ _ ?_ (fun hHeld => ?_)
        · ((try dsimp only); exact hx2.same hHeld List.not_mem_nil)
        clear hK K
        try simp only [Act.put, List.getElem_toArray, List.getElem_cons_succ, List.getElem_cons_zero, List.setIfInBounds_toArray, List.set_cons_zero, List.set_cons_succ]
        refine wpAnyH_take (i := 10) (v := ?_) rfl (by kernel_rfl) (by kernel_rfl) (by kernel_rfl) (fun _ _ _ h => h) (Or.inl ⟨by rfl, ?_⟩) (by assumption) ?_
        rotate_left
        · (intro w hSw; (try dsimp only at hSw); first | (go_simp; done) | (go_simp; with_reducible rfl))
        try simp only [Act.put, List.getElem_toArray, List.getElem_cons_succ, List.getElem_cons_zero, List.setIfInBounds_toArray, List.set_cons_zero, List.set_cons_succ]
        refine wpAnyH_done (by kernel_rfl) ?_ _
        refine NoPanic.normal ?_
        go_wp2
        go_ret
        exact ⟨_, rfl, by rw [HR.out]; exact hv, hx0.drew.trans0 hx2⟩
end Go.Proofs.Ytjicjadibaomkaa
set_option linter.unusedSimpArgs false
set_option linter.unusedVariables false
set_option maxHeartbeats 2000000
set_option maxRecDepth 100000
namespace Go.Proofs.Ytjicjadibaomkaa
open Go.RowKit Go.Hs Go.Dg

theorem fill_walk0 (I E : Nat) : Instr.fill ([(0, 1), (1, 1), (2, 32), (34, 32), (66, 1)].toArray[·]?) walk0 [(0, .int .i64 (I : Int)), (1, .int .i64 (E : Int))] = some (wCells ⟨I, E, zeroS, zeroS, false⟩).toArray := by rfl
theorem walk_built0 (I E : Nat) : Try.prog.built 80 [(0, .int .i64 (I : Int)), (1, .int .i64 (E : Int))] = some (wCells ⟨I, E, zeroS, zeroS, false⟩).toArray := by
  have hp := walkPlaces
  have hf := fill_walk0 I E
  unfold Program.built
  cases hi : Try.prog.info? 80 with
  | none => rw [hi] at hp; simp at hp
  | some it =>
    cases hu : Try.prog.underlying 80 with
    | none => rw [hi, hu] at hp; simp at hp
    | some d =>
      rw [hi, hu] at hp
      cases d with
      | struct fields =>
        simp only [Option.bind_some, Option.map_eq_some_iff] at hp
        obtain ⟨pl, h1, h2⟩ := hp
        have h3 := (Prod.mk.inj h2).1
        have h4 := (Prod.mk.inj h2).2
        subst h4
        simp only [h1, h3]
        exact hf
      | _ => simp at hp
theorem climbO_odd {a e : Nat} (h : a % 2 = 1) : climbO a e = climbO (a / 2) (e / 2) := by rw [climbO, dif_pos h]
theorem climbO_even {a e : Nat} (h : ¬ a % 2 = 1) : climbO a e = (a, e) := by rw [climbO, dif_neg h]
theorem cons_walk (I M : Nat) (h1 : 1 ≤ I) (hlt : I < M) (old root x : S32) (xs zs : List S32) (hz : seedB (firstB I M) old xs = x :: zs) (s : WSt S32)
    (hs : s = zs.foldl (WSt.take nodeS) ⟨(climbO (I - 1) (M - 1)).1, (climbO (I - 1) (M - 1)).2, x, x, false⟩) :
    consN I M old root xs = if s.st = false ∧ s.e = 0 ∧ s.o = old ∧ s.l = root then 0 else 12 := by
  obtain ⟨q1, q2⟩ := take_all nodeS zs ⟨(climbO (I - 1) (M - 1)).1, (climbO (I - 1) (M - 1)).2, x, x, false⟩ rfl
  rw [← hs] at q1 q2
  have hd := (climbO_dirsB M I h1 hlt).1
  simp only [] at q1 q2
  rw [hd] at q1 q2
  unfold consN
  rw [if_neg (by omega), if_neg (by omega), if_neg (by omega)]
  simp only [Int.toNat_natCast, hz]
  by_cases hl : zs.length = (dirsB I M).length
  · have h3 := q1.2 hl
    have h4 := q2 hl
    have h5 : s.st = false := by cases h : s.st; rfl; exact absurd h h3.1
    by_cases hr : s.o = old ∧ s.l = root
    · rw [if_pos ⟨hl, by rw [← h4.2]; exact hr.1, by rw [← h4.1]; exact hr.2⟩, if_pos ⟨h5, h3.2, hr.1, hr.2⟩]
    · rw [if_neg (fun q => hr ⟨h4.2.trans q.2.1, h4.1.trans q.2.2⟩), if_neg (fun q => hr ⟨q.2.2.1, q.2.2.2⟩)]
  · rw [if_neg (fun q => hl q.1), if_neg (fun q => hl (q1.1 ⟨by rw [q.1]; decide, q.2.1⟩))]
theorem pConsB_any (I M : Nat) (hn : M ≤ 1000) (h1 : 1 ≤ I) (hlt : I < M) (old root : S32) (xs : List S32) (ao : Option Addr) (cap : Nat) (w : World) (hS : Sums32 w.heap ao cap xs) :
    Calls Try.prog 22 #[.agg (#[.int .i64 (I : Int)] ++ old.V), .agg (#[.int .i64 (M : Int)] ++ root.V), .slice ao xs.length cap] w fun e w' => ∃ v, e = .returned v ∧
      Hid (ErrIs w'.heap (consN I M old root xs) ⟨#[112, 114, 101, 102, 105, 120]⟩ (I : Int) v) ∧ Ext [] w w' := by
  have hmax := hS.2.1
  have hcap := hS.1
  have k0 : ¬ (I : Int) < 0 := by omega
  have k1 : ¬ (M : Int) < I := by omega
  have k2 : ¬ (I : Int) = M := by omega
  have k3 : ¬ (I : Int) = 0 := by omega
  have k4 : (I : Int) - 1 = ((I - 1 : Nat) : Int) := by omega
  have k5 : (M : Int) - 1 = ((M - 1 : Nat) : Int) := by omega
  have k6 : IntKind.i64.wrap ((I - 1 : Nat) : Int) = ((I - 1 : Nat) : Int) := by rw [IntKind.wrap_i64]; omega
  have k7 : IntKind.i64.wrap ((M - 1 : Nat) : Int) = ((M - 1 : Nat) : Int) := by rw [IntKind.wrap_i64]; omega
  obtain ⟨hA, hB, hx0, _⟩ := alloc_two' w (.cells (#[.int .i64 (I : Int)] ++ old.V) 49) (.cells (#[.int .i64 (M : Int)] ++ root.V) 49)
  have hAm := head_n hA
  have hBn := head_n hB
  go_enter Try.func22, Try.ntmps22
  go_upto_region 7 with fail
  generalize (w.alloc (.cells (#[.int .i64 (I : Int)] ++ old.V) 49)).alloc (.cells (#[.int .i64 (M : Int)] ++ root.V) 49) = W at hA hB hx0 hAm hBn ⊢
  obtain ⟨A, hAA⟩ : ∃ A, w.heap.size = A := ⟨_, rfl⟩
  rw [hAA] at hA hB hAm hBn ⊢
  obtain ⟨B, hBB⟩ : ∃ B, A + 1 = B := ⟨_, rfl⟩
  rw [hBB] at hB hBn ⊢
  have HAB := Hs.hid (And.intro (show w.heap.size ≤ A from Nat.le_of_eq hAA) (show A < B by omega))
  clear hAA hBB
  have HSS := Hs.hid hS
  have HFIN := Hs.hid (cons_walk I M h1 hlt old root)
  have HCL := Hs.hid (climbO_dirsB M I h1 hlt)
  have HN := Hs.hid (And.intro hn (And.intro h1 hlt))
  have hz := fun w => (zero_of_info (P := Try.prog) infoWalk).1 w
  clear hS hn
  go_upto_block 1 with (first
    | (refine wpList_yield (.agg (wCells ⟨I - 1, M - 1, zeroS, zeroS, false⟩).toArray) (by rfl) (exec_build _ rfl [(0, .int .i64 ((I - 1 : Nat) : Int)), (1, .int .i64 ((M - 1 : Nat) : Int))] _ _ (by first | (go_simp; done) | (go_simp; rfl) | (simp [Act.eval]; done)) (walk_built0 (I - 1) (M - 1))) ?_)
    | (refine wpList_store_row rfl 80 (.tmp 7) (.tmp 64) rfl W.heap.size (wCells ⟨I - 1, M - 1, zeroS, zeroS, false⟩).toArray rfl rfl _ _ (heap_new _ _) (by rw [List.size_toArray, wCells_len]; exact (zero_of_info (P := Try.prog) infoWalk).2) (walk0_sz _) (wCells_one _) ?_))
  have hW : WAt ((W.alloc (.cells walk0 80)).setRow W.heap.size (wCells ⟨I - 1, M - 1, zeroS, zeroS, false⟩).toArray).heap W.heap.size ⟨I - 1, M - 1, zeroS, zeroS, false⟩ := setRow_heap _ _ _ _ _ _ (heap_new _ _)
  replace hA := (boxExt (.cells walk0 80) (wCells ⟨I - 1, M - 1, zeroS, zeroS, false⟩).toArray).same hA List.not_mem_nil
  have hBlt := lt_of_heap hB
  replace hB := (boxExt (.cells walk0 80) (wCells ⟨I - 1, M - 1, zeroS, zeroS, false⟩).toArray).same hB List.not_mem_nil
  replace hx0 := hx0.trans0 (boxExt (.cells walk0 80) (wCells ⟨I - 1, M - 1, zeroS, zeroS, false⟩).toArray)
  obtain ⟨b, hbb⟩ : ∃ b, W.heap.size = b := ⟨_, rfl⟩
  have HABb : Hid (w.heap.size ≤ A ∧ A < B ∧ B < b) := Hs.hid ⟨HAB.out.1, HAB.out.2, by omega⟩
  generalize (W.alloc (.cells walk0 80)).setRow W.heap.size (wCells ⟨I - 1, M - 1, zeroS, zeroS, false⟩).toArray = W1 at hW hA hB hx0 ⊢
  rw [hbb] at hW ⊢
  clear hbb hBlt HAB hz hAm hBn
  obtain ⟨c1, c2, hc⟩ : ∃ c1 c2, climbO (I - 1) (M - 1) = (c1, c2) := ⟨_, _, rfl⟩
  have HC := Hs.hid hc
  clear hc
  have HK := Hs.hid (And.intro hx0 (And.intro hA hB))
  clear hx0 hA hB
  try simp only [Act.put, List.getElem_toArray, List.getElem_cons_succ, List.getElem_cons_zero, List.setIfInBounds_toArray, List.set_cons_zero, List.set_cons_succ]
  go_cut [] (fun wx => WAt wx.heap b ⟨c1, c2, zeroS, zeroS, false⟩ ∧ Ext [b] W1 wx)
  case first =>
    go_wp2_with fail
    go_loopw [] (fun wr => ∃ a e, WAt wr.heap b ⟨a, e, zeroS, zeroS, false⟩ ∧ a ≤ 1000 ∧ e ≤ 1000 ∧ climbO a e = climbO (I - 1) (M - 1) ∧ Ext [b] W1 wr) (fun wr => match wr.cell? ⟨b, 0, none⟩ with | some v => (intOf v).toNat | none => 0)
    case atStart => exact ⟨_, _, hW, by have := HN.out; omega, by have := HN.out; omega, rfl, Ext.refl _ _⟩
    case round =>
      clear hW
      obtain ⟨a, e, hW5, ha, hee, hc5, hE5⟩ := hrel
      have HC5 := Hs.hid hc5
      clear hc5
      have q0 := hW5.a
      have hand5 := and_one a (by omega)
      by_cases ho5 : a % 2 = 1
      · replace hand5 : Go.bits .and .i64 (a : Int) 1 = 1 := by rw [hand5, ho5]; rfl
        go_wp2_with (go_at_call 40; refine (up_any' b _ (by exact ⟨ha, hee⟩) _ hW5).mono ?_; rintro e w6 ⟨rfl, hW6, hx6⟩)
        go_round
        case rel => exact ⟨a / 2, e / 2, hW6, by omega, by omega, by rw [← HC5.out]; exact (climbO_odd ho5).symm, hE5.trans' hx6⟩
        case measure =>
          have q6 : w6.cell? ⟨b, 0, none⟩ = some (.int .i64 ((a / 2 : Nat) : Int)) := hW6.a
          simp only [q6, q0]
          simp [intOf]; omega
      · replace hand5 : Go.bits .and .i64 (a : Int) 1 = 0 := by rw [hand5, show a % 2 = 0 by omega]; rfl
        go_wp2_with fail
        go_meet
        have he : (a, e) = (c1, c2) := by rw [← HC.out, ← HC5.out]; exact (climbO_even ho5).symm
        injection he with e1 e2
        subst e1; subst e2
        exact ⟨hW5, hE5⟩
  case rest =>
    clear hW
    obtain ⟨hW, hE1⟩ := hcut
    have HAb : A ≠ b := by have := HABb.out; omega
    have hA : wc.heap[A]? = _ := hE1.same HK.out.2.1 (by simpa using HAb)
    go_upto_region 10 with fail
    have HB' := Hs.hid hE1
    go_cut [] (fun wx => WAt wx.heap b ⟨c1, c2, old, old, false⟩ ∧ Ext [b] W1 wx)
    case first =>
      refine wp_region_noPanic ?_
      refine wp_region_held_drew (S := (fun w' => w'.heap[A]? = some (.cells (#[.int .i64 (I : Int)] ++ old.V) 49 (0, 0)))) (by kernel_rfl) ?_ (fun hHeld => ?_)
      · ((try dsimp only); exact hA)
      refine wpAnyH_take (i := 0) (v := ?_) rfl (by kernel_rfl) (by kernel_rfl) (by kernel_rfl) (fun _ _ _ h => h) (Or.inl ⟨by rfl, ?_⟩) (by assumption) ?_
      rotate_left
      · (intro w hSw; (try dsimp only at hSw); first | (go_simp; done) | (go_simp; with_reducible rfl))
      try simp only [Act.put, List.getElem_toArray, List.getElem_cons_succ, List.getElem_cons_zero, List.setIfInBounds_toArray, List.set_cons_zero, List.set_cons_succ]
      refine wpAnyH_take (i := 1) (v := _) rfl (by kernel_rfl) (by kernel_rfl) (by kernel_rfl) (fun _ _ _ h => h) (yieldsIf_of (.agg old.V) (by rfl) (fun w' hw => exec_load_midV (.tmp 70) rfl A 1 rfl old w' (head_root hw))) (by assumption) ?_
      try simp only [Act.put, List.getElem_toArray, List.getElem_cons_succ, List.getElem_cons_zero, List.setIfInBounds_toArray, List.set_cons_zero, List.set_cons_succ]
      refine wpAnyH_take (i := 2) (v := ?_) rfl (by kernel_rfl) (by kernel_rfl) (by kernel_rfl) (fun _ _ _ h => h) (Or.inl ⟨by rfl, ?_⟩) (by assumption) ?_
      rotate_left
      · (intro w hSw; (try dsimp only at hSw); first | (go_simp; done) | (go_simp; with_reducible rfl))
      try simp only [Act.put, List.getElem_toArray, List.getElem_cons_succ, List.getElem_cons_zero, List.setIfInBounds_toArray, List.set_cons_zero, List.set_cons_succ]
      refine wpAnyH_take (i := 3) (v := _) rfl (by kernel_rfl) (by kernel_rfl) (by kernel_rfl) (fun _ _ _ h => h) (yieldsIf_of (.agg old.V) (by rfl) (fun w' hw => exec_load_midV (.tmp 72) rfl A 1 rfl old w' (head_root hw))) (by assumption) ?_
      try simp only [Act.put, List.getElem_toArray, List.getElem_cons_succ, List.getElem_cons_zero, List.setIfInBounds_toArray, List.set_cons_zero, List.set_cons_succ]
      refine wpAnyH_take (i := 4) (v := ?_) rfl (by kernel_rfl) (by kernel_rfl) (by kernel_rfl) (fun _ _ _ h => h) (Or.inl ⟨by rfl, ?_⟩) (by assumption) ?_
      rotate_left
      · (intro w hSw; (try dsimp only at hSw); first | (go_simp; done) | (go_simp; with_reducible rfl))
      try simp only [Act.put, List.getElem_toArray, List.getElem_cons_succ, List.getElem_cons_zero, List.setIfInBounds_toArray, List.set_cons_zero, List.set_cons_succ]
      refine wpAnyH_ready (rs := [5]) (by kernel_rfl) (by simp) ?_
      refine AllReadyH.cons rfl (fun K hK => ?_) AllReadyH.nil
      rw [if_pos (by rfl)]
      (have hW7 := WAt.setO (show WAt (World.drew _).heap b _ from hW) (old); refine wp_store_midV _ _ rfl b 2 (old) rfl rfl (WAt.there (show WAt (World.drew _).heap b _ from hW) _ _ (by decide)) ?_)
      refine hK.out _ _ ?_ (fun hHeld => ?_)
      · ((try dsimp only); (rw [heap_setCells_ne _ _ _ HAb]; exact hHeld))
      clear hK K
      try simp only [Act.put, List.getElem_toArray, List.getElem_cons_succ, List.getElem_cons_zero, List.setIfInBounds_toArray, List.set_cons_zero, List.set_cons_succ]
      refine wpAnyH_take (i := 6) (v := ?_) rfl (by kernel_rfl) (by kernel_rfl) (by kernel_rfl) (fun _ _ _ h => h) (Or.inl ⟨by rfl, ?_⟩) (by assumption) ?_
      rotate_left
      · (intro w hSw; (try dsimp only at hSw); first | (go_simp; done) | (go_simp; with_reducible rfl))
      try simp only [Act.put, List.getElem_toArray, List.getElem_cons_succ, List.getElem_cons_zero, List.setIfInBounds_toArray, List.set_cons_zero, List.set_cons_succ]
      refine wpAnyH_ready (rs := [7]) (by kernel_rfl) (by simp) ?_
      refine AllReadyH.cons rfl (fun K hK => ?_) AllReadyH.nil
      rw [if_pos (by rfl)]
      (have hW8 := WAt.setL hW7 (old); refine wp_store_midV _ _ rfl b 34 (old) rfl rfl (WAt.there hW7 _ _ (by decide)) ?_)
      refine hK.out _ _ ?_ (fun hHeld => ?_)
      · ((try dsimp only); (rw [heap_setCells_ne _ _ _ HAb]; exact hHeld))
      clear hK K
      try simp only [Act.put, List.getElem_toArray, List.getElem_cons_succ, List.getElem_cons_zero, List.setIfInBounds_toArray, List.set_cons_zero, List.set_cons_succ]
      refine wpAnyH_done (by kernel_rfl) ?_ _
      refine NoPanic.normal ?_
      go_wp2
      go_meet
      exact ⟨hW8, HB'.out.drew.trans' (Ext.setCells (.inl (List.mem_singleton.2 rfl)) _ _ _ (Ext.setCells (.inl (List.mem_singleton.2 rfl)) _ _ _ (Ext.refl [b] _)))⟩
    case rest =>
      clear hW hE1 hA HB'
      obtain ⟨hW, hE1⟩ := hcut
      have hA : wc.heap[A]? = _ := hE1.same HK.out.2.1 (by simpa using HAb)
      have hAm := head_n hA
      have q0 := hW.a
      have hSc : Sums32 wc.heap ao cap xs := HSS.out.ext ((HK.out.1.mono (F' := [b]) (fun _ h => by cases h)).trans' hE1) (by have := HABb.out; simp; omega)
      go_upto_if 78 with fail
      have HF := Hs.hid (show decide (c1 = 0) = firstB I M by have := HCL.out.2.1; rw [HC.out] at this; exact this)
      have HE1 := Hs.hid hE1
      have HSX := Hs.hid HSS.out
      have HX15 := Hs.hid ((HK.out.1.mono (F' := [b]) (fun _ h => by cases h)).trans' hE1)
      have HX14 := Hs.hid ((HK.out.1.mono (F' := [b]) (fun _ h => by cases h)).trans' (hE1.drew))
      clear hE1
      go_cut [2] (fun s2 wx => ∃ ao' cap' x zs, s2 = .slice ao' (List.length zs) cap' ∧ Hid (Sums32 w.heap ao' cap' zs) ∧ Hid (seedB (firstB I M) old xs = x :: zs) ∧ WAt wx.heap b ⟨c1, c2, x, x, false⟩ ∧ Ext [b] W1 wx)
      case first =>
        by_cases hc0 : c1 = 0
        · have hc0' : (c1 : Int) = 0 := by omega
          have HFF : Hid (firstB I M = true) := Hs.hid (by rw [← HF.out]; simpa using hc0)
          have HC0 := Hs.hid hc0
          clear hc0
          go_wp2_with fail
          go_meet
          exact ⟨ao, cap, old, xs, rfl, HSS, Hs.hid (by rw [HFF.out]; rfl), hW, HE1.out⟩
        · have hc0' : ¬ (c1 : Int) = 0 := by omega
          have HFF : Hid (firstB I M = false) := Hs.hid (by rw [← HF.out]; simpa using hc0)
          have HC0 := Hs.hid hc0
          clear hc0
          cases xs with
          | nil =>
            have HR : Hid (consN I M old root [] = 12) := Hs.hid (by
              unfold consN
              rw [if_neg (by have := HN.out; omega), if_neg (by have := HN.out; omega), if_neg (by have := HN.out; omega)]
              simp only [Int.toNat_natCast, HFF.out]
              rfl)
            have hl0 : ([] : List S32).length = 0 := rfl
            go_wp2_with (go_at_call 39; refine (told_any ⟨#[112, 114, 101, 102, 105, 120]⟩ (I : Int) false _).mono ?_; rintro e w1 ⟨v, rfl, hv, hx1⟩)
            go_ret
            exact ⟨_, rfl, by rw [HR.out]; exact hv, (HX15.out.trans0 hx1).mono (fun g hg => .inr (by have := HABb.out; simp at hg; omega))⟩
          | cons x zs =>
            have HSD := Hs.hid (show seedB (firstB I M) old (x :: zs) = x :: zs by rw [HFF.out]; rfl)
            obtain ⟨sb, so, rfl, hsb, _⟩ := HSS.out.at (show (x :: zs)[0]? = some x from rfl)
            obtain ⟨sb', so', e, _, hrg⟩ := hSc.at (show (x :: zs)[0]? = some x from rfl)
            injection e with e; injection e with e1 e2
            subst e1; subst e2
            rw [Nat.zero_mul, Nat.add_zero] at hrg
            have hsbb : sb ≠ b := by have := HABb.out; omega
            have hcap' : zs.length + 1 ≤ cap := hcap
            have HSX := HSX
            have hxl : (x :: zs).length = zs.length + 1 := rfl
            rw [hxl]
            have l1 : ¬ ((zs.length : Nat) : Int) + 1 = 0 := by omega
            have l2 : (0 : Int) < ((zs.length : Nat) : Int) + 1 := by omega
            have l3 : (1 : Int) ≤ ((zs.length : Nat) : Int) + 1 := by omega
            have l4 : ((zs.length : Nat) : Int) + 1 ≤ cap := by omega
            have l5 : (1 : Int) ≤ cap := by omega
            have l6 : ((zs.length : Nat) : Int) + 1 - 1 = zs.length := by omega
            have l7 : zs.length + 1 - 1 = zs.length := by omega
            clear hSc hxl hcap
            go_upto_region 14 with fail
            refine wp_region_noPanic ?_
            refine wp_region_held_drew (S := (fun w' => w'.rangeAt sb so x.V.toList)) (by kernel_rfl) ?_ (fun hHeld => ?_)
            · ((try dsimp only); exact hrg)
            refine wpAnyH_take (i := 0) (v := ?_) rfl (by kernel_rfl) (by kernel_rfl) (by kernel_rfl) (fun _ _ _ h => h) (Or.inl ⟨by rfl, ?_⟩) (by assumption) ?_
            rotate_left
            · (intro w hSw; (try dsimp only at hSw); first | (go_simp; done) | (go_simp; with_reducible rfl))
            try simp only [Act.put, List.getElem_toArray, List.getElem_cons_succ, List.getElem_cons_zero, List.setIfInBounds_toArray, List.set_cons_zero, List.set_cons_succ]
            refine wpAnyH_take (i := 1) (v := ?_) rfl (by kernel_rfl) (by kernel_rfl) (by kernel_rfl) (fun _ _ _ h => h) (Or.inl ⟨by rfl, ?_⟩) (by assumption) ?_
            rotate_left
            · (intro w hSw; (try dsimp only at hSw); first | (go_simp; done) | (go_simp; with_reducible rfl))
            try simp only [Act.put, List.getElem_toArray, List.getElem_cons_succ, List.getElem_cons_zero, List.setIfInBounds_toArray, List.set_cons_zero, List.set_cons_succ]
            refine wpAnyH_take (i := 2) (v := _) rfl (by kernel_rfl) (by kernel_rfl) (by kernel_rfl) (fun _ _ _ h => h) (yieldsIf_of (.agg x.V) (by rfl) (fun w' hw => exec_load_midV (.tmp 86) rfl sb so rfl x w' hw)) (by assumption) ?_
            try simp only [Act.put, List.getElem_toArray, List.getElem_cons_succ, List.getElem_cons_zero, List.setIfInBounds_toArray, List.set_cons_zero, List.set_cons_succ]
            refine wpAnyH_take (i := 3) (v := ?_) rfl (by kernel_rfl) (by kernel_rfl) (by kernel_rfl) (fun _ _ _ h => h) (Or.inl ⟨by rfl, ?_⟩) (by assumption) ?_
            rotate_left
            · (intro w hSw; (try dsimp only at hSw); first | (go_simp; done) | (go_simp; with_reducible rfl))
            try simp only [Act.put, List.getElem_toArray, List.getElem_cons_succ, List.getElem_cons_zero, List.setIfInBounds_toArray, List.set_cons_zero, List.set_cons_succ]
            refine wpAnyH_take (i := 4) (v := ?_) rfl (by kernel_rfl) (by kernel_rfl) (by kernel_rfl) (fun _ _ _ h => h) (Or.inl ⟨by rfl, ?_⟩) (by assumption) ?_
            rotate_left
            · (intro w hSw; (try dsimp only at hSw); first | (go_simp; done) | (go_simp; with_reducible rfl))
            try simp only [Act.put, List.getElem_toArray, List.getElem_cons_succ, List.getElem_cons_zero, List.setIfInBounds_toArray, List.set_cons_zero, List.set_cons_succ]
            refine wpAnyH_take (i := 5) (v := _) rfl (by kernel_rfl) (by kernel_rfl) (by kernel_rfl) (fun _ _ _ h => h) (yieldsIf_of (.agg x.V) (by rfl) (fun w' hw => exec_load_midV (.tmp 89) rfl sb so rfl x w' hw)) (by assumption) ?_
            try simp only [Act.put, List.getElem_toArray, List.getElem_cons_succ, List.getElem_cons_zero, List.setIfInBounds_toArray, List.set_cons_zero, List.set_cons_succ]
            refine wpAnyH_take (i := 6) (v := ?_) rfl (by kernel_rfl) (by kernel_rfl) (by kernel_rfl) (fun _ _ _ h => h) (Or.inl ⟨by rfl, ?_⟩) (by assumption) ?_
            rotate_left
            · (intro w hSw; (try dsimp only at hSw); first | (go_simp; done) | (go_simp; with_reducible rfl))
            try simp only [Act.put, List.getElem_toArray, List.getElem_cons_succ, List.getElem_cons_zero, List.setIfInBounds_toArray, List.set_cons_zero, List.set_cons_succ]
            refine wpAnyH_take (i := 7) (v := ?_) rfl (by kernel_rfl) (by kernel_rfl) (by kernel_rfl) (fun _ _ _ h => h) (Or.inl ⟨by rfl, ?_⟩) (by assumption) ?_
            rotate_left
            · (intro w hSw; (try dsimp only at hSw); first | (go_simp; done) | (go_simp; with_reducible rfl))
            try simp only [Act.put, List.getElem_toArray, List.getElem_cons_succ, List.getElem_cons_zero, List.setIfInBounds_toArray, List.set_cons_zero, List.set_cons_succ]
            refine wpAnyH_take (i := 8) (v := ?_) rfl (by kernel_rfl) (by kernel_rfl) (by kernel_rfl) (fun _ _ _ h => h) (Or.inl ⟨by rfl, ?_⟩) (by assumption) ?_
            rotate_left
            · (intro w hSw; (try dsimp only at hSw); first | (go_simp; done) | (go_simp; with_reducible rfl))
            try simp only [Act.put, List.getElem_toArray, List.getElem_cons_succ, List.getElem_cons_zero, List.setIfInBounds_toArray, List.set_cons_zero, List.set_cons_succ]
            refine wpAnyH_ready (rs := [9]) (by kernel_rfl) (by simp) ?_
            refine AllReadyH.cons rfl (fun K hK => ?_) AllReadyH.nil
            rw [if_pos (by rfl)]
            (have hW7 := WAt.setO (show WAt (World.drew _).heap b _ from hW) (x); refine wp_store_midV _ _ rfl b 2 (x) rfl rfl (WAt.there (show WAt (World.drew _).heap b _ from hW) _ _ (by decide)) ?_)
            refine hK.out _ _ ?_ (fun hHeld => ?_)
            · ((try dsimp only); (refine World.rangeAt_setCells_apart hHeld b _ _ (.inl hsbb)))
            clear hK K
            try simp only [Act.put, List.getElem_toArray, List.getElem_cons_succ, List.getElem_cons_zero, List.setIfInBounds_toArray, List.set_cons_zero, List.set_cons_succ]
            refine wpAnyH_take (i := 10) (v := ?_) rfl (by kernel_rfl) (by kernel_rfl) (by kernel_rfl) (fun _ _ _ h => h) (Or.inl ⟨by rfl, ?_⟩) (by assumption) ?_
            rotate_left
            · (intro w hSw; (try dsimp only at hSw); first | (go_simp; done) | (go_simp; with_reducible rfl))
            try simp only [Act.put, List.getElem_toArray, List.getElem_cons_succ, List.getElem_cons_zero, List.setIfInBounds_toArray, List.set_cons_zero, List.set_cons_succ]
            refine wpAnyH_ready (rs := [11]) (by kernel_rfl) (by simp) ?_
            refine AllReadyH.cons rfl (fun K hK => ?_) AllReadyH.nil
            rw [if_pos (by rfl)]
            (have hW8 := WAt.setL hW7 (x); refine wp_store_midV _ _ rfl b 34 (x) rfl rfl (WAt.there hW7 _ _ (by decide)) ?_)
            refine hK.out _ _ ?_ (fun hHeld => ?_)
            · ((try dsimp only); (refine World.rangeAt_setCells_apart hHeld b _ _ (.inl hsbb)))
            clear hK K
            try simp only [Act.put, List.getElem_toArray, List.getElem_cons_succ, List.getElem_cons_zero, List.setIfInBounds_toArray, List.set_cons_zero, List.set_cons_succ]
            refine wpAnyH_take (i := 12) (v := ?_) rfl (by kernel_rfl) (by kernel_rfl) (by kernel_rfl) (fun _ _ _ h => h) (Or.inl ⟨by rfl, ?_⟩) (by assumption) ?_
            rotate_left
            · (intro w hSw; (try dsimp only at hSw); first | (go_simp; done) | (go_simp; with_reducible rfl))
            try simp only [Act.put, List.getElem_toArray, List.getElem_cons_succ, List.getElem_cons_zero, List.setIfInBounds_toArray, List.set_cons_zero, List.set_cons_succ]
            refine wpAnyH_done (by kernel_rfl) ?_ _
            refine NoPanic.normal ?_
            go_wp2
            all_goals go_meet
            all_goals first
              | exact ⟨_, cap - 1, x, zs, rfl, Hs.hid (Sums32.tail HSX.out), HSD, hW8, HE1.out.drew.trans' (Ext.setCells (.inl (List.mem_singleton.2 rfl)) _ _ _ (Ext.setCells (.inl (List.mem_singleton.2 rfl)) _ _ _ (Ext.refl [b] _)))⟩
              | exact ⟨_, 0, x, zs, rfl, Hs.hid ⟨by omega, by decide, .inl (List.eq_nil_of_length_eq_zero (by omega))⟩, HSD, hW8, HE1.out.drew.trans' (Ext.setCells (.inl (List.mem_singleton.2 rfl)) _ _ _ (Ext.setCells (.inl (List.mem_singleton.2 rfl)) _ _ _ (Ext.refl [b] _)))⟩
      case rest =>
        clear hW hA hAm q0 hSc
        obtain ⟨ao', cap', x, zs, rfl, HZ, HSD, hW, hE1⟩ := hcut
        have hmax' := HZ.out.2.1
        have hlen : (zs.length : Int) ≤ 9223372036854775807 := by have := HZ.out.1; omega
        have HFN := Hs.hid (HFIN.out x xs zs HSD.out)
        rw [HC.out] at HFN
        go_wp2_with fail
        go_loopw [97] (fun iv wr => ∃ (k : Nat) (s : WSt S32), iv = .int .i64 k ∧ k ≤ zs.length ∧ WAt wr.heap b s ∧ Hid (s = (zs.take k).foldl (WSt.take nodeS) ⟨c1, c2, x, x, false⟩) ∧ Hid (s.a ≤ 1000 ∧ s.e ≤ 1000) ∧ Ext [b] W1 wr) (fun iv _ => zs.length - (intOf iv).toNat)
        case atStart => exact ⟨0, _, rfl, Nat.zero_le _, hW, Hs.hid rfl, Hs.hid (by have h1 := HCL.out.2.2; rw [HC.out] at h1; have h2 := HN.out; constructor <;> simp only [] at h1 ⊢ <;> omega), hE1⟩
        case round =>
          clear hW hE1
          obtain ⟨k, s, rfl, hk, hW, HS, HB, hEb⟩ := hrel
          have hEw := (HK.out.1.mono (F' := [b]) (fun _ h => by cases h)).trans' hEb
          by_cases hkl : k < zs.length
          · have hkl' : (k : Int) < zs.length := by omega
            obtain ⟨y, hx⟩ : ∃ y, zs[k]? = some y := ⟨_, List.getElem?_eq_getElem hkl⟩
            have HX := Hs.hid hx
            clear hx
            obtain ⟨sb, so, rfl, hsb, hrg⟩ := (HZ.out.ext hEw (by have := HABb.out; simp; omega)).at HX.out
            have HW := Hs.hid hW
            clear hW hEw
            go_wp2_with (first
              | (refine wpList_yield (.agg y.V) (by rfl) (exec_load_midV (.tmp 99) rfl sb _ rfl y _ hrg) ?_)
              | (refine wpList_store_row rfl 35 (.tmp 9) (.tmp 100) rfl wr.heap.size y.V rfl rfl _ _ (heap_new _ _) (by rw [y.size]; exact infoSum) (by rw [y.size]; rfl) y.one ?_)
              | (refine wpList_yield (.agg y.V) (by rfl) (exec_load_rowV (.tmp 9) rfl wr.heap.size rfl y _ ⟨_, setRow_heap _ _ _ _ _ _ (heap_new _ _)⟩) ?_)
              | (go_at_call 38; refine (take_any b s HB.out y _ (HW.out.ext (boxExt _ _) List.not_mem_nil)).mono ?_; rintro e w5 ⟨rfl, hW5, hx5⟩))
            go_round
            case rel =>
              refine ⟨k + 1, s.take nodeS y, by go_num, by omega, hW5, Hs.hid ?_, Hs.hid (take_le HB.out), ?_⟩
              · rw [List.take_add_one, HX.out, HS.out]; simp
              · exact hEb.trans' (((boxExt _ _).mono (fun _ h => by cases h)).trans' hx5)
            case measure => simp [intOf]; omega
          · have hkl' : ¬ (k : Int) < zs.length := by omega
            obtain rfl : k = zs.length := by omega
            have h66 := hW.st
            have hce := hW.e
            have hWo := hW.o
            have hWl := hW.l
            have hA : wr.heap[A]? = _ := hEb.same HK.out.2.1 (by have := HABb.out; simp; omega)
            have hB : wr.heap[B]? = _ := hEb.same HK.out.2.2 (by have := HABb.out; simp; omega)
            have hAm := head_n hA
            have HR := Hs.hid (HFN.out s (by rw [HS.out, List.take_length]))
            have HEE := Hs.hid hEw.drew
            clear hEw
            cases hst : s.st with
            | true =>
              rw [hst] at h66
              have HST := Hs.hid hst
              clear hst
              go_upto_region 20 with fail
              refine wp_region_stl_tail 24 (by kernel_rfl) (by kernel_rfl) ?_
              simp only [List.take_succ_cons, List.take_zero, List.drop_succ_cons, List.drop_zero]
              refine still_val (v := ?_) (by rfl) ?_ ?_
              rotate_left
              · first | (go_simp; done) | (go_simp; with_reducible rfl)
              try simp only [Act.put, List.getElem_toArray, List.getElem_cons_succ, List.getElem_cons_zero, List.setIfInBounds_toArray, List.set_cons_zero, List.set_cons_succ]
              refine still_val (v := ?_) (by rfl) ?_ ?_
              rotate_left
              · first | (go_simp; done) | (go_simp; with_reducible rfl)
              try simp only [Act.put, List.getElem_toArray, List.getElem_cons_succ, List.getElem_cons_zero, List.setIfInBounds_toArray, List.set_cons_zero, List.set_cons_succ]
              refine still_val (v := ?_) (by rfl) ?_ ?_
              rotate_left
              · first | (go_simp; done) | (go_simp; with_reducible rfl)
              try simp only [Act.put, List.getElem_toArray, List.getElem_cons_succ, List.getElem_cons_zero, List.setIfInBounds_toArray, List.set_cons_zero, List.set_cons_succ]
              refine still_val (v := ?_) (by rfl) ?_ ?_
              rotate_left
              · first | (go_simp; done) | (go_simp; with_reducible rfl)
              try simp only [Act.put, List.getElem_toArray, List.getElem_cons_succ, List.getElem_cons_zero, List.setIfInBounds_toArray, List.set_cons_zero, List.set_cons_succ]
              refine still_val (v := ?_) (by rfl) ?_ ?_
              rotate_left
              · first | (go_simp; done) | (go_simp; with_reducible rfl)
              try simp only [Act.put, List.getElem_toArray, List.getElem_cons_succ, List.getElem_cons_zero, List.setIfInBounds_toArray, List.set_cons_zero, List.set_cons_succ]
              refine still_val (v := ?_) (by rfl) ?_ ?_
              rotate_left
              · first | (go_simp; done) | (go_simp; with_reducible rfl)
              try simp only [Act.put, List.getElem_toArray, List.getElem_cons_succ, List.getElem_cons_zero, List.setIfInBounds_toArray, List.set_cons_zero, List.set_cons_succ]
              refine still_not (by rfl) ?_
              try simp only [Act.put, List.getElem_toArray, List.getElem_cons_succ, List.getElem_cons_zero, List.setIfInBounds_toArray, List.set_cons_zero, List.set_cons_succ]
              refine still_not (by rfl) ?_
              try simp only [Act.put, List.getElem_toArray, List.getElem_cons_succ, List.getElem_cons_zero, List.setIfInBounds_toArray, List.set_cons_zero, List.set_cons_succ]
              refine still_not (by rfl) ?_
              try simp only [Act.put, List.getElem_toArray, List.getElem_cons_succ, List.getElem_cons_zero, List.setIfInBounds_toArray, List.set_cons_zero, List.set_cons_succ]
              refine still_val (v := ?_) (by rfl) ?_ ?_
              rotate_left
              · first | (go_simp; done) | (go_simp; with_reducible rfl)
              try simp only [Act.put, List.getElem_toArray, List.getElem_cons_succ, List.getElem_cons_zero, List.setIfInBounds_toArray, List.set_cons_zero, List.set_cons_succ]
              refine still_val (v := ?_) (by rfl) ?_ ?_
              rotate_left
              · first | (go_simp; done) | (go_simp; with_reducible rfl)
              try simp only [Act.put, List.getElem_toArray, List.getElem_cons_succ, List.getElem_cons_zero, List.setIfInBounds_toArray, List.set_cons_zero, List.set_cons_succ]
              refine still_not (by rfl) ?_
              try simp only [Act.put, List.getElem_toArray, List.getElem_cons_succ, List.getElem_cons_zero, List.setIfInBounds_toArray, List.set_cons_zero, List.set_cons_succ]
              refine still_not (by rfl) ?_
              try simp only [Act.put, List.getElem_toArray, List.getElem_cons_succ, List.getElem_cons_zero, List.setIfInBounds_toArray, List.set_cons_zero, List.set_cons_succ]
              refine still_not (by rfl) ?_
              try simp only [Act.put, List.getElem_toArray, List.getElem_cons_succ, List.getElem_cons_zero, List.setIfInBounds_toArray, List.set_cons_zero, List.set_cons_succ]
              refine still_not (by rfl) ?_
              try simp only [Act.put, List.getElem_toArray, List.getElem_cons_succ, List.getElem_cons_zero, List.setIfInBounds_toArray, List.set_cons_zero, List.set_cons_succ]
              refine still_not (by rfl) ?_
              try simp only [Act.put, List.getElem_toArray, List.getElem_cons_succ, List.getElem_cons_zero, List.setIfInBounds_toArray, List.set_cons_zero, List.set_cons_succ]
              refine still_val (v := ?_) (by rfl) ?_ ?_
              rotate_left
              · first | (go_simp; done) | (go_simp; with_reducible rfl)
              try simp only [Act.put, List.getElem_toArray, List.getElem_cons_succ, List.getElem_cons_zero, List.setIfInBounds_toArray, List.set_cons_zero, List.set_cons_succ]
              refine still_val (v := ?_) (by rfl) ?_ ?_
              rotate_left
              · first | (go_simp; done) | (go_simp; with_reducible rfl)
              try simp only [Act.put, List.getElem_toArray, List.getElem_cons_succ, List.getElem_cons_zero, List.setIfInBounds_toArray, List.set_cons_zero, List.set_cons_succ]
              refine still_not (by rfl) ?_
              try simp only [Act.put, List.getElem_toArray, List.getElem_cons_succ, List.getElem_cons_zero, List.setIfInBounds_toArray, List.set_cons_zero, List.set_cons_succ]
              refine still_not (by rfl) ?_
              try simp only [Act.put, List.getElem_toArray, List.getElem_cons_succ, List.getElem_cons_zero, List.setIfInBounds_toArray, List.set_cons_zero, List.set_cons_succ]
              refine still_not (by rfl) ?_
              try simp only [Act.put, List.getElem_toArray, List.getElem_cons_succ, List.getElem_cons_zero, List.setIfInBounds_toArray, List.set_cons_zero, List.set_cons_succ]
              refine still_not (by rfl) ?_
              try simp only [Act.put, List.getElem_toArray, List.getElem_cons_succ, List.getElem_cons_zero, List.setIfInBounds_toArray, List.set_cons_zero, List.set_cons_succ]
              refine still_not (by rfl) ?_
              try simp only [Act.put, List.getElem_toArray, List.getElem_cons_succ, List.getElem_cons_zero, List.setIfInBounds_toArray, List.set_cons_zero, List.set_cons_succ]
              refine still_val (v := ?_) (by rfl) ?_ ?_
              rotate_left
              · first | (go_simp; done) | (go_simp; with_reducible rfl)
              try simp only [Act.put, List.getElem_toArray, List.getElem_cons_succ, List.getElem_cons_zero, List.setIfInBounds_toArray, List.set_cons_zero, List.set_cons_succ]
              refine still_end ?_
              go_wp2_with (go_at_call 39; refine (told_any ⟨#[112, 114, 101, 102, 105, 120]⟩ (I : Int) false _).mono ?_; rintro e w1 ⟨v, rfl, hv, hx1⟩)
              go_ret
              exact ⟨_, rfl, by rw [HR.out, if_neg (fun q => by rw [HST.out] at q; cases q.1)]; exact hv, (HEE.out.trans0 hx1).mono (fun g hg => .inr (by have := HABb.out; simp at hg; omega))⟩
            | false =>
              rw [hst] at h66
              have HST := Hs.hid hst
              clear hst
              by_cases he : s.e = 0
              · have he' : (s.e : Int) = 0 := by omega
                have HE0 := Hs.hid he
                clear he
                by_cases ho : s.o = old
                · have HO := Hs.hid ho
                  have hdo : decide (s.o = old) = true := decide_eq_true ho
                  clear ho
                  have HR2 : Hid (consN I M old root xs = if decide (s.l = root) = true then 0 else 12) := Hs.hid (by
                    rw [HR.out]
                    by_cases h : s.l = root
                    · rw [if_pos ⟨HST.out, HE0.out, HO.out, h⟩, if_pos (by simpa using h)]
                    · rw [if_neg (fun q => h q.2.2.2), if_neg (by simpa using h)])
                  go_upto_region 20 with fail
                  refine wp_region_stl_tail 24 (by kernel_rfl) (by kernel_rfl) ?_
                  simp only [List.take_succ_cons, List.take_zero, List.drop_succ_cons, List.drop_zero]
                  refine still_val (v := ?_) (by rfl) ?_ ?_
                  rotate_left
                  · first | (go_simp; done) | (go_simp; with_reducible rfl)
                  try simp only [Act.put, List.getElem_toArray, List.getElem_cons_succ, List.getElem_cons_zero, List.setIfInBounds_toArray, List.set_cons_zero, List.set_cons_succ]
                  refine still_val (v := ?_) (by rfl) ?_ ?_
                  rotate_left
                  · first | (go_simp; done) | (go_simp; with_reducible rfl)
                  try simp only [Act.put, List.getElem_toArray, List.getElem_cons_succ, List.getElem_cons_zero, List.setIfInBounds_toArray, List.set_cons_zero, List.set_cons_succ]
                  refine still_val (v := ?_) (by rfl) ?_ ?_
                  rotate_left
                  · first | (go_simp; done) | (go_simp; with_reducible rfl)
                  try simp only [Act.put, List.getElem_toArray, List.getElem_cons_succ, List.getElem_cons_zero, List.setIfInBounds_toArray, List.set_cons_zero, List.set_cons_succ]
                  refine still_val (v := ?_) (by rfl) ?_ ?_
                  rotate_left
                  · first | (go_simp; done) | (go_simp; with_reducible rfl)
                  try simp only [Act.put, List.getElem_toArray, List.getElem_cons_succ, List.getElem_cons_zero, List.setIfInBounds_toArray, List.set_cons_zero, List.set_cons_succ]
                  refine still_val (v := ?_) (by rfl) ?_ ?_
                  rotate_left
                  · first | (go_simp; done) | (go_simp; with_reducible rfl)
                  try simp only [Act.put, List.getElem_toArray, List.getElem_cons_succ, List.getElem_cons_zero, List.setIfInBounds_toArray, List.set_cons_zero, List.set_cons_succ]
                  refine still_val (v := ?_) (by rfl) ?_ ?_
                  rotate_left
                  · first | (go_simp; done) | (go_simp; with_reducible rfl)
                  try simp only [Act.put, List.getElem_toArray, List.getElem_cons_succ, List.getElem_cons_zero, List.setIfInBounds_toArray, List.set_cons_zero, List.set_cons_succ]
                  refine still_val (v := ?_) (by rfl) ?_ ?_
                  rotate_left
                  · first | (go_simp; done) | (go_simp; with_reducible rfl)
                  try simp only [Act.put, List.getElem_toArray, List.getElem_cons_succ, List.getElem_cons_zero, List.setIfInBounds_toArray, List.set_cons_zero, List.set_cons_succ]
                  refine still_val (v := ?_) (by rfl) ?_ ?_
                  rotate_left
                  · first | (go_simp; done) | (go_simp; with_reducible rfl)
                  try simp only [Act.put, List.getElem_toArray, List.getElem_cons_succ, List.getElem_cons_zero, List.setIfInBounds_toArray, List.set_cons_zero, List.set_cons_succ]
                  refine still_val (v := ?_) (by rfl) ?_ ?_
                  rotate_left
                  · first | (go_simp; done) | (go_simp; with_reducible rfl)
                  try simp only [Act.put, List.getElem_toArray, List.getElem_cons_succ, List.getElem_cons_zero, List.setIfInBounds_toArray, List.set_cons_zero, List.set_cons_succ]
                  refine still_val (v := ?_) (by rfl) ?_ ?_
                  rotate_left
                  · first | (go_simp; done) | (go_simp; with_reducible rfl)
                  try simp only [Act.put, List.getElem_toArray, List.getElem_cons_succ, List.getElem_cons_zero, List.setIfInBounds_toArray, List.set_cons_zero, List.set_cons_succ]
                  refine still_val (v := ?_) (by rfl) ?_ ?_
                  rotate_left
                  · first | (go_simp; done) | (go_simp; with_reducible rfl)
                  try simp only [Act.put, List.getElem_toArray, List.getElem_cons_succ, List.getElem_cons_zero, List.setIfInBounds_toArray, List.set_cons_zero, List.set_cons_succ]
                  refine still_val (v := ?_) (by rfl) ?_ ?_
                  rotate_left
                  · first | (go_simp; done) | (go_simp; with_reducible rfl)
                  try simp only [Act.put, List.getElem_toArray, List.getElem_cons_succ, List.getElem_cons_zero, List.setIfInBounds_toArray, List.set_cons_zero, List.set_cons_succ]
                  refine still_val (v := (.agg s.o.V)) (by rfl) (exec_load_midV (.tmp 115) rfl b 2 rfl s.o _ hWo) ?_
                  try simp only [Act.put, List.getElem_toArray, List.getElem_cons_succ, List.getElem_cons_zero, List.setIfInBounds_toArray, List.set_cons_zero, List.set_cons_succ]
                  refine still_val (v := ?_) (by rfl) ?_ ?_
                  rotate_left
                  · first | (go_simp; done) | (go_simp; with_reducible rfl)
                  try simp only [Act.put, List.getElem_toArray, List.getElem_cons_succ, List.getElem_cons_zero, List.setIfInBounds_toArray, List.set_cons_zero, List.set_cons_succ]
                  refine still_val (v := (.agg old.V)) (by rfl) (exec_load_midV (.tmp 117) rfl A 1 rfl old _ (head_root hA)) ?_
                  try simp only [Act.put, List.getElem_toArray, List.getElem_cons_succ, List.getElem_cons_zero, List.setIfInBounds_toArray, List.set_cons_zero, List.set_cons_succ]
                  refine still_val (v := (.bool (decide (s.o = old)))) (by rfl) (exec_eq_V (.tmp 116) (.tmp 118) _ rfl s.o old rfl rfl _) ?_
                  try simp only [Act.put, List.getElem_toArray, List.getElem_cons_succ, List.getElem_cons_zero, List.setIfInBounds_toArray, List.set_cons_zero, List.set_cons_succ]
                  refine still_val (v := ?_) (by rfl) ?_ ?_
                  rotate_left
                  · first | (go_simp; done) | (go_simp; with_reducible rfl)
                  try simp only [Act.put, List.getElem_toArray, List.getElem_cons_succ, List.getElem_cons_zero, List.setIfInBounds_toArray, List.set_cons_zero, List.set_cons_succ]
                  refine still_val (v := ?_) (by rfl) ?_ ?_
                  rotate_left
                  · first | (go_simp; done) | (go_simp; with_reducible rfl)
                  try simp only [Act.put, List.getElem_toArray, List.getElem_cons_succ, List.getElem_cons_zero, List.setIfInBounds_toArray, List.set_cons_zero, List.set_cons_succ]
                  refine still_val (v := ?_) (by rfl) ?_ ?_
                  rotate_left
                  · first | (go_simp; done) | (go_simp; with_reducible rfl)
                  try simp only [Act.put, List.getElem_toArray, List.getElem_cons_succ, List.getElem_cons_zero, List.setIfInBounds_toArray, List.set_cons_zero, List.set_cons_succ]
                  refine still_val (v := (.agg s.l.V)) (by rfl) (exec_load_midV (.tmp 122) rfl b 34 rfl s.l _ hWl) ?_
                  try simp only [Act.put, List.getElem_toArray, List.getElem_cons_succ, List.getElem_cons_zero, List.setIfInBounds_toArray, List.set_cons_zero, List.set_cons_succ]
                  refine still_val (v := ?_) (by rfl) ?_ ?_
                  rotate_left
                  · first | (go_simp; done) | (go_simp; with_reducible rfl)
                  try simp only [Act.put, List.getElem_toArray, List.getElem_cons_succ, List.getElem_cons_zero, List.setIfInBounds_toArray, List.set_cons_zero, List.set_cons_succ]
                  refine still_val (v := (.agg root.V)) (by rfl) (exec_load_midV (.tmp 124) rfl B 1 rfl root _ (head_root hB)) ?_
                  try simp only [Act.put, List.getElem_toArray, List.getElem_cons_succ, List.getElem_cons_zero, List.setIfInBounds_toArray, List.set_cons_zero, List.set_cons_succ]
                  refine still_val (v := (.bool (decide (s.l = root)))) (by rfl) (exec_eq_V (.tmp 123) (.tmp 125) _ rfl s.l root rfl rfl _) ?_
                  try simp only [Act.put, List.getElem_toArray, List.getElem_cons_succ, List.getElem_cons_zero, List.setIfInBounds_toArray, List.set_cons_zero, List.set_cons_succ]
                  refine still_val (v := ?_) (by rfl) ?_ ?_
                  rotate_left
                  · first | (go_simp; done) | (go_simp; with_reducible rfl)
                  try simp only [Act.put, List.getElem_toArray, List.getElem_cons_succ, List.getElem_cons_zero, List.setIfInBounds_toArray, List.set_cons_zero, List.set_cons_succ]
                  refine still_end ?_
                  go_wp2_with (go_at_call 39; refine (told_any ⟨#[112, 114, 101, 102, 105, 120]⟩ (I : Int) (decide (s.l = root)) _).mono ?_; rintro e w1 ⟨v, rfl, hv, hx1⟩)
                  go_ret
                  exact ⟨_, rfl, by rw [HR2.out]; exact hv, (HEE.out.trans0 hx1).mono (fun g hg => .inr (by have := HABb.out; simp at hg; omega))⟩
                · have HO := Hs.hid ho
                  have hdo : decide (s.o = old) = false := decide_eq_false ho
                  clear ho
                  go_upto_region 20 with fail
                  refine wp_region_stl_tail 24 (by kernel_rfl) (by kernel_rfl) ?_
                  simp only [List.take_succ_cons, List.take_zero, List.drop_succ_cons, List.drop_zero]
                  refine still_val (v := ?_) (by rfl) ?_ ?_
                  rotate_left
                  · first | (go_simp; done) | (go_simp; with_reducible rfl)
                  try simp only [Act.put, List.getElem_toArray, List.getElem_cons_succ, List.getElem_cons_zero, List.setIfInBounds_toArray, List.set_cons_zero, List.set_cons_succ]
                  refine still_val (v := ?_) (by rfl) ?_ ?_
                  rotate_left
                  · first | (go_simp; done) | (go_simp; with_reducible rfl)
                  try simp only [Act.put, List.getElem_toArray, List.getElem_cons_succ, List.getElem_cons_zero, List.setIfInBounds_toArray, List.set_cons_zero, List.set_cons_succ]
                  refine still_val (v := ?_) (by rfl) ?_ ?_
                  rotate_left
                  · first | (go_simp; done) | (go_simp; with_reducible rfl)
                  try simp only [Act.put, List.getElem_toArray, List.getElem_cons_succ, List.getElem_cons_zero, List.setIfInBounds_toArray, List.set_cons_zero, List.set_cons_succ]
                  refine still_val (v := ?_) (by rfl) ?_ ?_
                  rotate_left
                  · first | (go_simp; done) | (go_simp; with_reducible rfl)
                  try simp only [Act.put, List.getElem_toArray, List.getElem_cons_succ, List.getElem_cons_zero, List.setIfInBounds_toArray, List.set_cons_zero, List.set_cons_succ]
                  refine still_val (v := ?_) (by rfl) ?_ ?_
                  rotate_left
                  · first | (go_simp; done) | (go_simp; with_reducible rfl)
                  try simp only [Act.put, List.getElem_toArray, List.getElem_cons_succ, List.getElem_cons_zero, List.setIfInBounds_toArray, List.set_cons_zero, List.set_cons_succ]
                  refine still_val (v := ?_) (by rfl) ?_ ?_
                  rotate_left
                  · first | (go_simp; done) | (go_simp; with_reducible rfl)
                  try simp only [Act.put, List.getElem_toArray, List.getElem_cons_succ, List.getElem_cons_zero, List.setIfInBounds_toArray, List.set_cons_zero, List.set_cons_succ]
                  refine still_val (v := ?_) (by rfl) ?_ ?_
                  rotate_left
                  · first | (go_simp; done) | (go_simp; with_reducible rfl)
                  try simp only [Act.put, List.getElem_toArray, List.getElem_cons_succ, List.getElem_cons_zero, List.setIfInBounds_toArray, List.set_cons_zero, List.set_cons_succ]
                  refine still_val (v := ?_) (by rfl) ?_ ?_
                  rotate_left
                  · first | (go_simp; done) | (go_simp; with_reducible rfl)
                  try simp only [Act.put, List.getElem_toArray, List.getElem_cons_succ, List.getElem_cons_zero, List.setIfInBounds_toArray, List.set_cons_zero, List.set_cons_succ]
                  refine still_val (v := ?_) (by rfl) ?_ ?_
                  rotate_left
                  · first | (go_simp; done) | (go_simp; with_reducible rfl)
                  try simp only [Act.put, List.getElem_toArray, List.getElem_cons_succ, List.getElem_cons_zero, List.setIfInBounds_toArray, List.set_cons_zero, List.set_cons_succ]
                  refine still_val (v := ?_) (by rfl) ?_ ?_
                  rotate_left
                  · first | (go_simp; done) | (go_simp; with_reducible rfl)
                  try simp only [Act.put, List.getElem_toArray, List.getElem_cons_succ, List.getElem_cons_zero, List.setIfInBounds_toArray, List.set_cons_zero, List.set_cons_succ]
                  refine still_val (v := ?_) (by rfl) ?_ ?_
                  rotate_left
                  · first | (go_simp; done) | (go_simp; with_reducible rfl)
                  try simp only [Act.put, List.getElem_toArray, List.getElem_cons_succ, List.getElem_cons_zero, List.setIfInBounds_toArray, List.set_cons_zero, List.set_cons_succ]
                  refine still_val (v := ?_) (by rfl) ?_ ?_
                  rotate_left
                  · first | (go_simp; done) | (go_simp; with_reducible rfl)
                  try simp only [Act.put, List.getElem_toArray, List.getElem_cons_succ, List.getElem_cons_zero, List.setIfInBounds_toArray, List.set_cons_zero, List.set_cons_succ]
                  refine still_val (v := (.agg s.o.V)) (by rfl) (exec_load_midV (.tmp 115) rfl b 2 rfl s.o _ hWo) ?_
                  try simp only [Act.put, List.getElem_toArray, List.getElem_cons_succ, List.getElem_cons_zero, List.setIfInBounds_toArray, List.set_cons_zero, List.set_cons_succ]
                  refine still_val (v := ?_) (by rfl) ?_ ?_
                  rotate_left
                  · first | (go_simp; done) | (go_simp; with_reducible rfl)
                  try simp only [Act.put, List.getElem_toArray, List.getElem_cons_succ, List.getElem_cons_zero, List.setIfInBounds_toArray, List.set_cons_zero, List.set_cons_succ]
                  refine still_val (v := (.agg old.V)) (by rfl) (exec_load_midV (.tmp 117) rfl A 1 rfl old _ (head_root hA)) ?_
                  try simp only [Act.put, List.getElem_toArray, List.getElem_cons_succ, List.getElem_cons_zero, List.setIfInBounds_toArray, List.set_cons_zero, List.set_cons_succ]
                  refine still_val (v := (.bool (decide (s.o = old)))) (by rfl) (exec_eq_V (.tmp 116) (.tmp 118) _ rfl s.o old rfl rfl _) ?_
                  try simp only [Act.put, List.getElem_toArray, List.getElem_cons_succ, List.getElem_cons_zero, List.setIfInBounds_toArray, List.set_cons_zero, List.set_cons_succ]
                  refine still_val (v := ?_) (by rfl) ?_ ?_
                  rotate_left
                  · first | (go_simp; done) | (go_simp; with_reducible rfl)
                  try simp only [Act.put, List.getElem_toArray, List.getElem_cons_succ, List.getElem_cons_zero, List.setIfInBounds_toArray, List.set_cons_zero, List.set_cons_succ]
                  refine still_val (v := ?_) (by rfl) ?_ ?_
                  rotate_left
                  · first | (go_simp; done) | (go_simp; with_reducible rfl)
                  try simp only [Act.put, List.getElem_toArray, List.getElem_cons_succ, List.getElem_cons_zero, List.setIfInBounds_toArray, List.set_cons_zero, List.set_cons_succ]
                  refine still_not (by rfl) ?_
                  try simp only [Act.put, List.getElem_toArray, List.getElem_cons_succ, List.getElem_cons_zero, List.setIfInBounds_toArray, List.set_cons_zero, List.set_cons_succ]
                  refine still_not (by rfl) ?_
                  try simp only [Act.put, List.getElem_toArray, List.getElem_cons_succ, List.getElem_cons_zero, List.setIfInBounds_toArray, List.set_cons_zero, List.set_cons_succ]
                  refine still_not (by rfl) ?_
                  try simp only [Act.put, List.getElem_toArray, List.getElem_cons_succ, List.getElem_cons_zero, List.setIfInBounds_toArray, List.set_cons_zero, List.set_cons_succ]
                  refine still_not (by rfl) ?_
                  try simp only [Act.put, List.getElem_toArray, List.getElem_cons_succ, List.getElem_cons_zero, List.setIfInBounds_toArray, List.set_cons_zero, List.set_cons_succ]
                  refine still_not (by rfl) ?_
                  try simp only [Act.put, List.getElem_toArray, List.getElem_cons_succ, List.getElem_cons_zero, List.setIfInBounds_toArray, List.set_cons_zero, List.set_cons_succ]
                  refine still_val (v := ?_) (by rfl) ?_ ?_
                  rotate_left
                  · first | (go_simp; done) | (go_simp; with_reducible rfl)
                  try simp only [Act.put, List.getElem_toArray, List.getElem_cons_succ, List.getElem_cons_zero, List.setIfInBounds_toArray, List.set_cons_zero, List.set_cons_succ]
                  refine still_end ?_
                  go_wp2_with (go_at_call 39; refine (told_any ⟨#[112, 114, 101, 102, 105, 120]⟩ (I : Int) false _).mono ?_; rintro e w1 ⟨v, rfl, hv, hx1⟩)
                  go_ret
                  exact ⟨_, rfl, by rw [HR.out, if_neg (fun q => HO.out q.2.2.1)]; exact hv, (HEE.out.trans0 hx1).mono (fun g hg => .inr (by have := HABb.out; simp at hg; omega))⟩
              · have he' : ¬ (s.e : Int) = 0 := by omega
                have HE0 := Hs.hid he
                clear he
                have hbe : ((s.e : Int) == 0) = false := by simpa using he'
                go_upto_region 20 with fail
                refine wp_region_stl_tail 24 (by kernel_rfl) (by kernel_rfl) ?_
                simp only [List.take_succ_cons, List.take_zero, List.drop_succ_cons, List.drop_zero]
                refine still_val (v := ?_) (by rfl) ?_ ?_
                rotate_left
                · first | (go_simp; done) | (go_simp; with_reducible rfl)
                try simp only [Act.put, List.getElem_toArray, List.getElem_cons_succ, List.getElem_cons_zero, List.setIfInBounds_toArray, List.set_cons_zero, List.set_cons_succ]
                refine still_val (v := ?_) (by rfl) ?_ ?_
                rotate_left
                · first | (go_simp; done) | (go_simp; with_reducible rfl)
                try simp only [Act.put, List.getElem_toArray, List.getElem_cons_succ, List.getElem_cons_zero, List.setIfInBounds_toArray, List.set_cons_zero, List.set_cons_succ]
                refine still_val (v := ?_) (by rfl) ?_ ?_
                rotate_left
                · first | (go_simp; done) | (go_simp; with_reducible rfl)
                try simp only [Act.put, List.getElem_toArray, List.getElem_cons_succ, List.getElem_cons_zero, List.setIfInBounds_toArray, List.set_cons_zero, List.set_cons_succ]
                refine still_val (v := ?_) (by rfl) ?_ ?_
                rotate_left
                · first | (go_simp; done) | (go_simp; with_reducible rfl)
                try simp only [Act.put, List.getElem_toArray, List.getElem_cons_succ, List.getElem_cons_zero, List.setIfInBounds_toArray, List.set_cons_zero, List.set_cons_succ]
                refine still_val (v := ?_) (by rfl) ?_ ?_
                rotate_left
                · first | (go_simp; done) | (go_simp; with_reducible rfl)
                try simp only [Act.put, List.getElem_toArray, List.getElem_cons_succ, List.getElem_cons_zero, List.setIfInBounds_toArray, List.set_cons_zero, List.set_cons_succ]
                refine still_val (v := ?_) (by rfl) ?_ ?_
                rotate_left
                · first | (go_simp; done) | (go_simp; with_reducible rfl)
                try simp only [Act.put, List.getElem_toArray, List.getElem_cons_succ, List.getElem_cons_zero, List.setIfInBounds_toArray, List.set_cons_zero, List.set_cons_succ]
                refine still_val (v := ?_) (by rfl) ?_ ?_
                rotate_left
                · first | (go_simp; done) | (go_simp; with_reducible rfl)
                try simp only [Act.put, List.getElem_toArray, List.getElem_cons_succ, List.getElem_cons_zero, List.setIfInBounds_toArray, List.set_cons_zero, List.set_cons_succ]
                refine still_val (v := ?_) (by rfl) ?_ ?_
                rotate_left
                · first | (go_simp; done) | (go_simp; with_reducible rfl)
                try simp only [Act.put, List.getElem_toArray, List.getElem_cons_succ, List.getElem_cons_zero, List.setIfInBounds_toArray, List.set_cons_zero, List.set_cons_succ]
                refine still_val (v := ?_) (by rfl) ?_ ?_
                rotate_left
                · first | (go_simp; done) | (go_simp; with_reducible rfl)
                try simp only [Act.put, List.getElem_toArray, List.getElem_cons_succ, List.getElem_cons_zero, List.setIfInBounds_toArray, List.set_cons_zero, List.set_cons_succ]
                refine still_val (v := ?_) (by rfl) ?_ ?_
                rotate_left
                · first | (go_simp; done) | (go_simp; with_reducible rfl)
                try simp only [Act.put, List.getElem_toArray, List.getElem_cons_succ, List.getElem_cons_zero, List.setIfInBounds_toArray, List.set_cons_zero, List.set_cons_succ]
                refine still_val (v := ?_) (by rfl) ?_ ?_
                rotate_left
                · first | (go_simp; done) | (go_simp; with_reducible rfl)
                try simp only [Act.put, List.getElem_toArray, List.getElem_cons_succ, List.getElem_cons_zero, List.setIfInBounds_toArray, List.set_cons_zero, List.set_cons_succ]
                refine still_not (by rfl) ?_
                try simp only [Act.put, List.getElem_toArray, List.getElem_cons_succ, List.getElem_cons_zero, List.setIfInBounds_toArray, List.set_cons_zero, List.set_cons_succ]
                refine still_not (by rfl) ?_
                try simp only [Act.put, List.getElem_toArray, List.getElem_cons_succ, List.getElem_cons_zero, List.setIfInBounds_toArray, List.set_cons_zero, List.set_cons_succ]
                refine still_not (by rfl) ?_
                try simp only [Act.put, List.getElem_toArray, List.getElem_cons_succ, List.getElem_cons_zero, List.setIfInBounds_toArray, List.set_cons_zero, List.set_cons_succ]
                refine still_not (by rfl) ?_
                try simp only [Act.put, List.getElem_toArray, List.getElem_cons_succ, List.getElem_cons_zero, List.setIfInBounds_toArray, List.set_cons_zero, List.set_cons_succ]
                refine still_not (by rfl) ?_
                try simp only [Act.put, List.getElem_toArray, List.getElem_cons_succ, List.getElem_cons_zero, List.setIfInBounds_toArray, List.set_cons_zero, List.set_cons_succ]
                refine still_val (v := ?_) (by rfl) ?_ ?_
                rotate_left
                · first | (go_simp; done) | (go_simp; with_reducible rfl)
                try simp only [Act.put, List.getElem_toArray, List.getElem_cons_succ, List.getElem_cons_zero, List.setIfInBounds_toArray, List.set_cons_zero, List.set_cons_succ]
                refine still_val (v := ?_) (by rfl) ?_ ?_
                rotate_left
                · first | (go_simp; done) | (go_simp; with_reducible rfl)
                try simp only [Act.put, List.getElem_toArray, List.getElem_cons_succ, List.getElem_cons_zero, List.setIfInBounds_toArray, List.set_cons_zero, List.set_cons_succ]
                refine still_not (by rfl) ?_
                try simp only [Act.put, List.getElem_toArray, List.getElem_cons_succ, List.getElem_cons_zero, List.setIfInBounds_toArray, List.set_cons_zero, List.set_cons_succ]
                refine still_not (by rfl) ?_
                try simp only [Act.put, List.getElem_toArray, List.getElem_cons_succ, List.getElem_cons_zero, List.setIfInBounds_toArray, List.set_cons_zero, List.set_cons_succ]
                refine still_not (by rfl) ?_
                try simp only [Act.put, List.getElem_toArray, List.getElem_cons_succ, List.getElem_cons_zero, List.setIfInBounds_toArray, List.set_cons_zero, List.set_cons_succ]
                refine still_not (by rfl) ?_
                try simp only [Act.put, List.getElem_toArray, List.getElem_cons_succ, List.getElem_cons_zero, List.setIfInBounds_toArray, List.set_cons_zero, List.set_cons_succ]
                refine still_not (by rfl) ?_
                try simp only [Act.put, List.getElem_toArray, List.getElem_cons_succ, List.getElem_cons_zero, List.setIfInBounds_toArray, List.set_cons_zero, List.set_cons_succ]
                refine still_val (v := ?_) (by rfl) ?_ ?_
                rotate_left
                · first | (go_simp; done) | (go_simp; with_reducible rfl)
                try simp only [Act.put, List.getElem_toArray, List.getElem_cons_succ, List.getElem_cons_zero, List.setIfInBounds_toArray, List.set_cons_zero, List.set_cons_succ]
                refine still_end ?_
                go_wp2_with (go_at_call 39; refine (told_any ⟨#[112, 114, 101, 102, 105, 120]⟩ (I : Int) false _).mono ?_; rintro e w1 ⟨v, rfl, hv, hx1⟩)
                go_ret
                exact ⟨_, rfl, by rw [HR.out, if_neg (fun q => HE0.out q.2.1)]; exact hv, (HEE.out.trans0 hx1).mono (fun g hg => .inr (by have := HABb.out; simp at hg; omega))⟩
end Go.Proofs.Ytjicjadibaomkaa
set_option linter.unusedSimpArgs false
set_option linter.unusedVariables false
set_option maxHeartbeats 2000000
set_option maxRecDepth 100000
namespace Go.Proofs.Ytjicjadibaomkaa
open Go.RowKit Go.Hs Go.Dg

/-- A head's cells. -/
def headV (n : Int) (y : S32) : Array Value := #[.int .i64 n] ++ y.V
theorem headV_size (n : Int) (y : S32) : (headV n y).size = 33 := by unfold headV; rw [Array.size_append, y.size]; rfl
theorem headV_one (n : Int) (y : S32) : (headV n y).all (·.oneCell') = true := by
  rw [Array.all_eq_true']
  intro u hu
  unfold headV at hu
  rcases Array.mem_append.1 hu with h | h
  · simp at h; subst h; rfl
  · exact S32.ones y u (Array.mem_toList_iff.2 h)
def head0 : Array Value := headV 0 zeroS
theorem infoHead : (Try.prog.info? 49).map (fun i => (i.zero, i.size)) = some (some (.agg head0), 33) := by kernel_rfl
theorem headPlaces : (Try.prog.info? 49).bind (fun it => (Try.prog.underlying 49).bind fun d => match d with
    | .struct fields => (fields.toList.mapM (fun f => (Try.prog.info? f.type).map fun i => (f.offset, i.size))).map fun p => (it.zero, p)
    | _ => none) = some (some (.agg head0), [(0, 1), (1, 32)]) := by kernel_rfl
theorem fill_head (n : Int) (y : S32) : Instr.fill ([(0, 1), (1, 32)].toArray[·]?) head0 [(0, .int .i64 n), (1, .agg y.V)] = some (headV n y) := by
  have e1 : Instr.fill ([(0, 1), (1, 32)].toArray[·]?) head0 [(0, .int .i64 n), (1, .agg y.V)]
      = Instr.fill ([(0, 1), (1, 32)].toArray[·]?) (headV n zeroS) [(1, .agg y.V)] := by
    have hpl0 : ([(0, 1), (1, 32)].toArray : Array (Nat × Nat))[0]? = some (0, 1) := rfl
    have hc0 : (Value.int .i64 n).cells = #[.int .i64 n] := rfl
    have hz0 : head0.size = 33 := headV_size 0 zeroS
    have hs0 : head0.setIfInBounds 0 (.int .i64 n) = headV n zeroS := by
      apply Array.ext_getElem?
      intro i
      rw [Array.getElem?_setIfInBounds, hz0]
      unfold head0 headV
      by_cases hi : 0 = i
      · subst hi
        rw [if_pos rfl, if_pos (by decide), Array.getElem?_append_left (by simp)]; rfl
      · rw [if_neg hi, Array.getElem?_append_right (by simp; omega), Array.getElem?_append_right (by simp; omega)]; rfl
    rw [Instr.fill]
    simp only [hpl0, hc0, hz0]
    rw [if_neg (by simp)]
    have hfo : (#[Value.int IntKind.i64 n].zipIdx.foldl (fun cs (x : Value × Nat) => match x with | (c, j) => cs.setIfInBounds (0 + j) c) head0) = head0.setIfInBounds 0 (.int .i64 n) := rfl
    rw [hfo, hs0]
  rw [e1]
  have hc : (Value.agg y.V).cells = y.V := rfl
  have hpl : ([(0, 1), (1, 32)].toArray : Array (Nat × Nat))[1]? = some (1, 32) := rfl
  simp only [Instr.fill, hpl, hc, headV_size, y.size]
  rw [if_neg (by decide)]
  congr 1
  have hf : y.V.zipIdx.foldl (fun cs (p : Value × Nat) => cs.setIfInBounds (1 + p.2) p.1) (headV n zeroS) = (y.V.toList.zipIdx 0).foldl (fun a (p : Value × Nat) => a.setIfInBounds (1 + p.2) p.1) (headV n zeroS) := by
    rw [← Array.foldl_toList, Array.toList_zipIdx]
  have hf' : y.V.zipIdx.foldl (fun cs (x : Value × Nat) => match x with | (c, j) => cs.setIfInBounds (1 + j) c) (headV n zeroS) = (y.V.toList.zipIdx 0).foldl (fun a (p : Value × Nat) => a.setIfInBounds (1 + p.2) p.1) (headV n zeroS) := hf
  rw [hf']
  obtain ⟨h1, h2⟩ := fold_at 1 y.V.toList 0 (headV n zeroS)
  apply Array.ext_getElem?
  intro i
  rw [h2 i, headV_size, S32.tlen y]
  unfold headV
  by_cases hi : i = 0
  · subst hi
    rw [if_neg (by omega), Array.getElem?_append_left (by simp), Array.getElem?_append_left (by simp)]
  · by_cases h3 : i < 33
    · rw [if_pos (by omega), Array.getElem?_append_right (by simp; omega)]
      simp
    · rw [if_neg (by omega), Array.getElem?_eq_none (by rw [Array.size_append, zeroS.size]; simp; omega), Array.getElem?_eq_none (by rw [Array.size_append, y.size]; simp; omega)]
theorem head_built (n : Int) (y : S32) : Try.prog.built 49 [(0, .int .i64 n), (1, .agg y.V)] = some (headV n y) := by
  have hp := headPlaces
  have hf := fill_head n y
  unfold Program.built
  cases hi : Try.prog.info? 49 with
  | none => rw [hi] at hp; simp at hp
  | some it =>
    cases hu : Try.prog.underlying 49 with
    | none => rw [hi, hu] at hp; simp at hp
    | some d =>
      rw [hi, hu] at hp
      cases d with
      | struct fields =>
        simp only [Option.bind_some, Option.map_eq_some_iff] at hp
        obtain ⟨pl, h1, h2⟩ := hp
        have h3 := (Prod.mk.inj h2).1
        have h4 := (Prod.mk.inj h2).2
        subst h4
        simp only [h1, h3]
        exact hf
      | _ => simp at hp
theorem exec_load_rowHd {a : Act} {o : Oper} (y : Operand) (ho : o.op = Op.load 49 y) (g : Nat) (hy : a.eval y = .pointer (some ⟨g, 0, none⟩)) (n : Int) (x : S32) (w : World) (h : ∃ fr, w.heap[g]? = some (.cells (headV n x) 49 fr)) :
    (execOp a.eval o).run Try.prog w = .ok (.value (.agg (headV n x))) w := by
  obtain ⟨fr, h⟩ := h
  unfold execOp
  have := run_loadVar_row (P := Try.prog) w g 49 49 (headV n x) fr _ h Try.underlying49 rfl (by rw [headV_size]; exact (zero_of_info (P := Try.prog) infoHead).2)
  simp only [ho, hy, Instr.loadAt, Instr.sureAddr, Sem.run_bind, Sem.run_pure, Result.andThen_ok, this]
theorem leafS_any (s : ByteArray) (hs : s.size ≤ 99999999) (w : World) : Calls Try.prog 23 #[.string s] w fun e w' => ∃ y : S32, e = .returned (.agg y.V) ∧ Hid (y = dig (leaf2 s)) ∧ Ext [] w w' :=
  (leaf_any s hs w).mono fun e w' ⟨cs, h1, h2, h3⟩ => ⟨dig (leaf2 s), by rw [h1, h2.out, leaf2, dig_V], Hs.hid rfl, h3⟩
theorem pInclH_any (leaf : ByteArray) (hs : leaf.size ≤ 1000) (i n : Int) (hn : n ≤ 1000) (root : S32) (xs : List S32) (L : Nat) (hL : xs.length = L) (ao : Option Addr) (cap : Nat) (w : World) (hS : Sums32 w.heap ao cap xs) :
    Calls Try.prog 21 #[.string leaf, .int .i64 i, .agg (headV n root), .slice ao L cap] w fun e w' => ∃ v, e = .returned v ∧
      Hid (ErrIs w'.heap (inclN (dig (leaf2 leaf)) i n root xs) ⟨#[108, 101, 97, 102]⟩ i v) ∧ Ext [] w w' := by
  subst hL
  exact pIncl_any leaf hs i n hn root xs ao cap w hS
theorem pConsH_any (m n : Int) (hn : n ≤ 1000) (old root : S32) (xs : List S32) (ao : Option Addr) (cap : Nat) (w : World) (hS : Sums32 w.heap ao cap xs) :
    Calls Try.prog 22 #[.agg (headV m old), .agg (headV n root), .slice ao xs.length cap] w fun e w' => ∃ v, e = .returned v ∧
      Hid (ErrIs w'.heap (consN m n old root xs) ⟨#[112, 114, 101, 102, 105, 120]⟩ m v) ∧ Ext [] w w' := by
  by_cases h : m ≤ 0 ∨ n ≤ m
  · exact pConsA_any m n hn h old root xs ao cap w hS
  · obtain ⟨I, rfl⟩ : ∃ I : Nat, m = I := ⟨m.toNat, by omega⟩
    obtain ⟨M, rfl⟩ : ∃ M : Nat, n = M := ⟨n.toNat, by omega⟩
    exact pConsB_any I M (by omega) (by omega) (by omega) old root xs ao cap w hS
theorem pInclNil (leaf : ByteArray) (hs : leaf.size ≤ 1000) (i n : Int) (hn : n ≤ 1000) (root : S32) (xs : List S32) (hr : inclN (dig (leaf2 leaf)) i n root xs = 0) (L : Nat) (hL : xs.length = L) (ao : Option Addr) (cap : Nat) (w : World) (hS : Sums32 w.heap ao cap xs) :
    Calls Try.prog 21 #[.string leaf, .int .i64 i, .agg (headV n root), .slice ao L cap] w fun e w' => e = .returned .nilIface ∧ Ext [] w w' :=
  (pInclH_any leaf hs i n hn root xs L hL ao cap w hS).mono fun e w' ⟨v, h1, h2, h3⟩ => by
    rw [hr] at h2
    rcases h2.out with ⟨_, h⟩ | ⟨h, _⟩
    · exact ⟨by rw [h1, h], h3⟩
    · exact absurd rfl h
theorem pInclErr (r : Int) (h0 : r ≠ 0) (leaf : ByteArray) (hs : leaf.size ≤ 1000) (i n : Int) (hn : n ≤ 1000) (root : S32) (xs : List S32) (hr : inclN (dig (leaf2 leaf)) i n root xs = r) (L : Nat) (hL : xs.length = L) (ao : Option Addr) (cap : Nat) (w : World) (hS : Sums32 w.heap ao cap xs) :
    Calls Try.prog 21 #[.string leaf, .int .i64 i, .agg (headV n root), .slice ao L cap] w fun e w' => ∃ p, e = .returned (.iface 99 p) ∧ Hid (ErrIs w'.heap r ⟨#[108, 101, 97, 102]⟩ i (.iface 99 p)) ∧ Ext [] w w' :=
  (pInclH_any leaf hs i n hn root xs L hL ao cap w hS).mono fun e w' ⟨v, h1, h2, h3⟩ => by
    rw [hr] at h2
    rcases h2.out with ⟨h, _⟩ | ⟨h, h4⟩
    · exact absurd h h0
    · have h5 := h4
      obtain ⟨b, u, rfl, _, _⟩ := h4
      exact ⟨_, h1, Hs.hid (.inr ⟨h, h5⟩), h3⟩
/-- A slice of one sum, made where it is written, behind a guard. -/
theorem wpList_sumG {ops : Array Oper} {rest : List Oper} {o : Oper} {a : Act} {w : World} {Q : Exit → Act → World → Prop} (hw : Region.wanted o (yielded ops a.tmps) = true) (y : Operand) (ho : o.op = .buildSlice 28 1 #[(0, y)])
    (x : S32) (hy : a.eval y = .agg x.V)
    (h : wpList Try.prog ops Q rest (a.put o.dst (.slice (some ⟨w.heap.size, 0, none⟩) 1 1)) (w.alloc (.cells x.V 35))) : wpList Try.prog ops Q (o :: rest) a w := by
  obtain ⟨i0, hi, hz0, hz1, hz2⟩ := info_parts infoSumY
  refine wpList_step fun K' hK' => ?_
  rw [if_pos hw]
  refine wp_buildSlice 28 35 1 _ ho x.V i0 _ Try.underlying28 hi hz0 (by rw [hz1]; decide) (by rw [hz1]; decide) ?_ (hK' _ _ h)
  rw [hz1]
  have : (#[(0, y)].map fun (p : Nat × Operand) => (p.1, a.eval p.2)).toList = [(0, Value.agg x.V)] := by simp [hy]
  show Instr.fill _ _ (#[(0, y)].map fun (p : Nat × Operand) => (p.1, a.eval p.2)).toList = _
  rw [this]
  exact fill_sumV x _ (by simp)
/-- Two rows made one behind the other, each filled. -/
theorem row2_at (w : World) (o o' : Obj) (x : Array Value) : ((((w.alloc o).alloc o').setRow w.heap.size x)).heap[w.heap.size + 1]? = some o' := by
  rw [setRow_other _ _ _ _ (by omega)]
  have := heap_new (w.alloc o) o'
  rwa [show (w.alloc o).heap.size = w.heap.size + 1 by simp] at this
theorem row2_two (w : World) (z z' x y : Array Value) (t t' : TypeId) :
    ((((w.alloc (.cells z t)).alloc (.cells z' t')).setRow w.heap.size x).setRow (w.heap.size + 1) y).heap[w.heap.size]? = some (.cells x t (0, 0)) ∧
    ((((w.alloc (.cells z t)).alloc (.cells z' t')).setRow w.heap.size x).setRow (w.heap.size + 1) y).heap[w.heap.size + 1]? = some (.cells y t' (0, 0)) ∧
    Ext [] w ((((w.alloc (.cells z t)).alloc (.cells z' t')).setRow w.heap.size x).setRow (w.heap.size + 1) y) := by
  refine ⟨?_, ?_, ?_⟩
  · rw [setRow_other _ _ _ _ (by omega)]
    exact setRow_heap _ _ _ _ _ _ (heap_old' _ _ (heap_new w _))
  · exact setRow_heap _ _ _ _ _ _ (row2_at w _ _ x)
  · exact ((((Ext.refl [] w).alloc _).alloc _).trans (setRow_ext _ _) (fun g hg => .inr (by simp at hg; omega))).trans (setRow_ext _ _) (fun g hg => .inr (by simp at hg; omega))
/-- A sums' slice of one. -/
theorem sums_one {w : World} {R : Nat} {x : S32} {t : TypeId} {fr : Nat × Nat} (h : w.heap[R]? = some (.cells x.V t fr)) : Sums32 w.heap (some ⟨R, 0, none⟩) 1 [x] :=
  ⟨Nat.le_refl _, by decide, .inr ⟨R, 0, x.V, t, fr, rfl, h, fun k y hy j v hj => by
    cases k with
    | zero => simp at hy; subst hy; simpa using hj
    | succ k => simp at hy⟩⟩
end Go.Proofs.Ytjicjadibaomkaa
set_option linter.unusedSimpArgs false
set_option linter.unusedVariables false
set_option maxHeartbeats 2000000
set_option maxRecDepth 100000
namespace Go.Proofs.Ytjicjadibaomkaa
open Go.RowKit Go.Hs Go.Dg

theorem infoStrP : (Try.prog.info? 9).map (fun i => (i.zero, i.size, i.bytes)) = some (some (.string ⟨#[]⟩), 1, 16) := by kernel_rfl
/-- A slice of the sums' texts that the call owns. -/
def OwnX (h : Array Obj) (v : Value) (xs : List S32) : Prop := Own h 9 1 v xs.length (xs.map fun x => Value.string x.s)
theorem OwnX.ext {w w' : World} {F : List Nat} {v : Value} {xs : List S32} (o : OwnX w.heap v xs) (x : Ext F w w') (hF : ∀ g, v.ownBlock = some g → g ∉ F) : OwnX w'.heap v xs :=
  Own.same o fun g hg => x.block g (Own.lt o hg) (hF g hg)
theorem sums_any (ao : Option Addr) (len cap : Nat) (w : World) (ha : StrArg w ao len) : Calls Try.prog 17 #[.slice ao len cap] w fun e w' =>
    ∃ xs ao1 cap1 ao2 cap2, e = .returned (.tuple #[.slice ao1 (List.length xs) cap1, .slice ao2 (List.length xs) cap2]) ∧ Hid (xs.length ≤ 12 ∧ OwnV w'.heap (.slice ao1 xs.length cap1) xs ∧ OwnX w'.heap (.slice ao2 xs.length cap2) xs ∧
      (∀ g, (Value.slice ao1 xs.length cap1).ownBlock = some g → w.heap.size ≤ g) ∧ ∀ g, (Value.slice ao2 xs.length cap2).ownBlock = some g → w.heap.size ≤ g) ∧ Ext [] w w' := by
  obtain ⟨i0, hi, hz0, hz1, hz2⟩ := info_parts infoStrP
  have HI := Hs.hid (And.intro hi (And.intro hz0 (And.intro hz1 hz2)))
  clear hi hz0 hz1 hz2
  have hlen := ha.1
  have HA := Hs.hid ha
  clear ha
  have HZ := Hs.hid (show zeroS.V = #[.int .u8 0, .int .u8 0, .int .u8 0, .int .u8 0, .int .u8 0, .int .u8 0, .int .u8 0, .int .u8 0, .int .u8 0, .int .u8 0, .int .u8 0, .int .u8 0, .int .u8 0, .int .u8 0, .int .u8 0, .int .u8 0, .int .u8 0, .int .u8 0, .int .u8 0, .int .u8 0, .int .u8 0, .int .u8 0, .int .u8 0, .int .u8 0, .int .u8 0, .int .u8 0, .int .u8 0, .int .u8 0, .int .u8 0, .int .u8 0, .int .u8 0, .int .u8 0] from rfl)
  go_enter Try.func17, Try.ntmps17
  go_upto_region 3 with fail
  have hO1 := heap_old' _ (.cells #[] 9) (heap_new w (.cells #[] 35))
  have hO2 := heap_new (w.alloc (.cells #[] 35)) (.cells #[] 9)
  have hx0 := ((Ext.refl [] w).alloc (.cells #[] 35)).alloc (.cells #[] 9)
  have hsz1 : (w.alloc (.cells #[] 35)).heap.size = w.heap.size + 1 := by simp
  rw [hsz1] at hO2
  generalize (w.alloc (.cells #[] 35)).alloc (.cells #[] 9) = W at hO1 hO2 hx0 ⊢
  obtain ⟨R, hRR⟩ : ∃ R, w.heap.size = R := ⟨_, rfl⟩
  have HR := Hs.hid (show w.heap.size ≤ R from Nat.le_of_eq hRR)
  rw [hRR] at hO1 hO2 ⊢
  clear hRR hsz1
  go_wp2_with fail
  go_loopw [4, 5, 6] (fun s4 s5 s6 wr => ∃ (xs : List S32) (ao1 : Option Addr) (cap1 : Nat) (ao2 : Option Addr) (cap2 : Nat), s4 = .slice ao1 xs.length cap1 ∧ s5 = .slice ao2 xs.length cap2 ∧ s6 = .int .i64 (xs.length : Nat) ∧ Hid (xs.length ≤ 12 ∧ xs.length ≤ len) ∧
    Hid (OwnV wr.heap (.slice ao1 xs.length cap1) xs ∧ OwnX wr.heap (.slice ao2 xs.length cap2) xs) ∧ Hid ((∀ g, (Value.slice ao1 xs.length cap1).ownBlock = some g → w.heap.size ≤ g ∧ (Value.slice ao2 xs.length cap2).ownBlock ≠ some g) ∧ ∀ g, (Value.slice ao2 xs.length cap2).ownBlock = some g → w.heap.size ≤ g) ∧ Hid (Ext [] w wr)) (fun _ _ iv _ => 12 - (intOf iv).toNat)
  case atStart =>
    refine ⟨[], _, _, _, _, rfl, rfl, rfl, Hs.hid ⟨by decide, Nat.zero_le _⟩, Hs.hid ⟨⟨rfl, .inr ⟨R, 0, #[], rfl, Nat.zero_le _, hO1, Nat.le_refl _, by decide, rfl, rfl⟩⟩, ⟨rfl, .inr ⟨R + 1, 0, #[], rfl, Nat.zero_le _, hO2, Nat.le_refl _, by decide, rfl, rfl⟩⟩⟩, Hs.hid ⟨fun g hg => ?_, fun g hg => ?_⟩, Hs.hid hx0⟩
    · have := HR.out; simp [Value.ownBlock] at hg ⊢; omega
    · have := HR.out; simp [Value.ownBlock] at hg; omega
  case round =>
    clear hO1 hO2 hx0
    obtain ⟨xs, ao1, cap1, ao2, cap2, rfl, rfl, rfl, HL, HO, HF, HE⟩ := hrel
    obtain ⟨k, hk⟩ : ∃ k, xs.length = k := ⟨_, rfl⟩
    by_cases hlt : xs.length < len ∧ xs.length < 12
    · have h1 : ((xs.length : Nat) : Int) < len := by omega
      have h2 : ((xs.length : Nat) : Int) < 12 := by omega
      obtain ⟨a, t, rfl, _, hcell, hts⟩ := (HA.out.ext HE.out).2 xs.length hlt.1
      have HT := Hs.hid hts
      have HLT := Hs.hid hlt
      clear hts hlt hk
      go_upto_region 7 with (first
        | (go_at_call 20; refine (sum32_any t HT.out _).mono ?_; rintro e w1 ⟨x, rfl, hx, hx1⟩)
        | (refine wpList_store_row rfl 35 (.tmp 7) (.tmp 24) rfl w1.heap.size x.V rfl rfl _ _ (heap_new _ _) (by rw [x.size]; exact infoSum) (by rw [x.size]; rfl) x.one ?_))
      have hr7 := setRow_heap _ _ _ x.V _ _ (heap_new w1 (.cells zeroS.V 35))
      have hx7 := hx1.trans0 (boxExt (w := w1) (.cells zeroS.V 35) x.V)
      rw [HZ.out] at hr7 hx7
      obtain ⟨R7, hR7⟩ : ∃ g, w1.heap.size = g := ⟨_, rfl⟩
      have HR7 := Hs.hid (show wr.heap.size ≤ R7 by have := hx1.size; omega)
      rw [hR7] at hr7 hx7 ⊢
      clear hR7 hx
      generalize (w1.alloc _).setRow R7 x.V = W7 at hr7 hx7 ⊢
      have HO1 : Hid (OwnV (W7.alloc (.cells x.V 35)).heap (.slice ao1 xs.length cap1) xs) := Hs.hid ((HO.out.1.ext hx7 (fun _ _ => List.not_mem_nil)).ext ((Ext.refl [] _).alloc _) (fun _ _ => List.not_mem_nil))
      have HBB := Hs.hid (show (W7.alloc (.cells x.V 35)).heap[W7.heap.size]? = some (.cells (sumsV [x]).toArray 35 (0, 0)) by
        rw [show (sumsV [x]).toArray = x.V by simp [sumsV]]; exact heap_new _ _)
      go_upto_region 8 with (first
        | (refine wpList_yield (.agg x.V) (by rfl) (exec_load_rowV (.tmp 7) rfl R7 rfl x _ ⟨_, hr7⟩) ?_)
        | (refine wpList_sumV rfl (.tmp 26) rfl x rfl ?_)
        | (refine wpList_append_sumV rfl (.tmp 25) (.tmp 27) rfl (.slice ao1 xs.length cap1) xs rfl HO1.out W7.heap.size 1 [x] (0, 0) rfl rfl HBB.out (by have := HL.out.1; omega) ?_; intro ao3 cap3 w3 hO3 hx3 hf3))
      have hlt1 : ∀ g, (Value.slice ao1 xs.length cap1).ownBlock = some g → g < wr.heap.size := fun g hg => Own.lt HO.out.1 hg
      have hr3 := hx3.same (heap_old' _ (.cells x.V 35) hr7) (by
        intro hm
        have := hlt1 R7 (by simpa using hm)
        have := HR7.out; omega)
      have hcv := conv_V hr3
      have HE3 := Hs.hid (((HE.out.trans0 hx7).alloc (.cells x.V 35)).trans hx3 (fun g hg => .inr (HF.out.1 g (by simpa using hg)).1))
      have HO2 : Hid (OwnX (w3.alloc (.cells #[.string x.s] 9)).heap (.slice ao2 xs.length cap2) xs) := Hs.hid (by
        have o1 := (HO.out.2.ext hx7 (fun _ _ => List.not_mem_nil)).ext ((Ext.refl [] _).alloc (.cells x.V 35)) (fun _ _ => List.not_mem_nil)
        have o2 := o1.ext hx3 (fun g hg hm => (HF.out.1 g (by simpa using hm)).2 hg)
        exact o2.ext ((Ext.refl [] _).alloc _) (fun _ _ => List.not_mem_nil))
      have HX3 := Hs.hid (And.intro hO3 hf3)
      have HW7 := Hs.hid (show wr.heap.size ≤ W7.heap.size from hx7.size)
      have HSZ3 := Hs.hid (show W7.heap.size ≤ w3.heap.size by have := hx3.size; simp at this; omega)
      clear hO3 hf3 hx3 hx7 hr7 hr3
      go_wp2_with (at_builtin; refine wpList_append rfl (.tmp 29) (.tmp 32) 22 rfl 9 i0 _ 1 16 Try.underlying22 HI.out.1 HI.out.2.1 HI.out.2.2.1 HI.out.2.2.2 rfl (by decide) (.slice ao2 xs.length cap2) xs.length (xs.map fun x : S32 => Value.string x.s) rfl HO2.out ⟨w3.heap.size, 0, none⟩ 1 1 [.string x.s] rfl rfl (news_new w3 [.string x.s] 9) (by simp [Value.oneCell']) (by have := HL.out.1; unfold maxLen; omega) (by have := HL.out.1; omega) ?_; intro ao4 cap4 w4 hO4 hx4 hf4)
      go_round
      case rel =>
        have hl1 : (xs ++ [x]).length = xs.length + 1 := by simp
        have hlt2 : ∀ g, (Value.slice ao2 xs.length cap2).ownBlock = some g → g < wr.heap.size := fun g hg => Own.lt HO.out.2 hg
        refine ⟨xs ++ [x], ao3, cap3, ao4, cap4, by rw [hl1], by rw [hl1], by rw [hl1]; go_num, Hs.hid (by rw [hl1]; have := HLT.out; omega), Hs.hid ⟨?_, ?_⟩, Hs.hid ?_, Hs.hid ?_⟩
        · rw [hl1]
          refine (HX3.out.1.ext ((Ext.refl [] w3).alloc (.cells #[.string x.s] 9)) (fun _ _ => List.not_mem_nil)).ext hx4 (fun g hg hm => ?_)
          have hm' : (Value.slice ao2 xs.length cap2).ownBlock = some g := by simpa using hm
          have q := hlt2 g hm'
          rcases HX3.out.2 g hg with h | h
          · exact (HF.out.1 g h).2 hm'
          · have := HW7.out; simp at h; omega
        · unfold OwnX
          rw [hl1, List.map_append]
          exact hO4
        · rw [hl1]
          refine ⟨fun g hg => ⟨?_, fun h4 => ?_⟩, fun g hg => ?_⟩
          · rcases HX3.out.2 g hg with h | h
            · exact (HF.out.1 g h).1
            · have := HW7.out; have := HE.out.size; simp at h; omega
          · rcases hf4 g h4 with h | h
            · have q := hlt2 g h
              rcases HX3.out.2 g hg with h' | h'
              · exact (HF.out.1 g h').2 h
              · have := HW7.out; simp at h'; omega
            · have q := Own.lt HX3.out.1 hg
              simp at h; omega
          · rcases hf4 g hg with h | h
            · exact HF.out.2 g h
            · have := HE3.out.size; simp at h; omega
        · exact (HE3.out.alloc _).trans hx4 (fun g hg => .inr (HF.out.2 g (by simpa using hg)))
      case measure =>
        have := HLT.out
        simp [intOf]; omega
    · have h12 : ¬ (((xs.length : Nat) : Int) < len ∧ ((xs.length : Nat) : Int) < 12) := by omega
      clear hlt hk
      by_cases h1 : ((xs.length : Nat) : Int) < len
      · have h2 : ¬ ((xs.length : Nat) : Int) < 12 := fun h => h12 ⟨h1, h⟩
        clear h12
        go_wp2
        go_ret2
        exact ⟨xs, ao1, cap1, ao2, cap2, rfl, Hs.hid ⟨HL.out.1, HO.out.1, HO.out.2, fun g hg => (HF.out.1 g hg).1, HF.out.2⟩, HE.out⟩
      · clear h12
        go_wp2
        go_ret2
        exact ⟨xs, ao1, cap1, ao2, cap2, rfl, Hs.hid ⟨HL.out.1, HO.out.1, HO.out.2, fun g hg => (HF.out.1 g hg).1, HF.out.2⟩, HE.out⟩
end Go.Proofs.Ytjicjadibaomkaa
