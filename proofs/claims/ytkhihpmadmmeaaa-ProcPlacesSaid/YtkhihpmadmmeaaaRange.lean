/-
  A range over a map, the map as a list of keys and values, the iterator in whatever block.
-/
import Derived.Test.YtkhihpmadmmeaaaBase
import Derived.Maps.RangeRun
set_option linter.unusedSimpArgs false
set_option linter.unusedVariables false
set_option maxHeartbeats 1000000
namespace Go.Proofs.Ytkhihpmadmmeaaa
open Go.RowKit Go.Hs
open Go.ChangeMaps (setBlock)

def leftN (h : Array Obj) (r bm : Nat) : Nat := match h[r]?, h[bm]? with
  | some (.mapIter _ _ seen _), some (.map es _) => (leftOf es seen).size
  | _, _ => 0
theorem leftN_same {h h' : Array Obj} {r bm : Nat} (h1 : h'[r]? = h[r]?) (h2 : h'[bm]? = h[bm]?) : leftN h' r bm = leftN h r bm := by unfold leftN; rw [h1, h2]
section
variable {κ ν : Type} [DecidableEq κ] {enc : κ → Value} {venc : ν → Value} {l : List (κ × ν)} {w : World} {P : Program}
/-- Block r is an iterator over the map in block bm, which holds l. -/
def RangeAt (enc : κ → Value) (venc : ν → Value) (h : Array Obj) (r bm : Nat) (l : List (κ × ν)) : Prop :=
  ∃ es clock since c0 seen, h[bm]? = some (.map es clock) ∧ Ents enc venc es clock l ∧ h[r]? = some (.mapIter (some bm) since seen c0) ∧ (∀ x ∈ es.toList, x.born < since) ∧ since ≤ c0 ∧ since ≤ clock
theorem RangeAt.same {h h' : Array Obj} {r bm : Nat} (i : RangeAt enc venc h r bm l) (h1 : h'[r]? = h[r]?) (h2 : h'[bm]? = h[bm]?) : RangeAt enc venc h' r bm l := by
  obtain ⟨es, clock, since, c0, seen, a1, a2, a3, a4⟩ := i
  exact ⟨es, clock, since, c0, seen, h2.trans a1, a2, h1.trans a3, a4⟩
theorem RangeAt.map {h : Array Obj} {r bm : Nat} (i : RangeAt enc venc h r bm l) : MapAt enc venc h bm l := by
  obtain ⟨es, clock, since, c0, seen, a1, a2, _⟩ := i
  exact ⟨es, clock, a1, a2⟩
theorem RangeAt.lt {h : Array Obj} {r bm : Nat} (i : RangeAt enc venc h r bm l) : r < h.size := by
  obtain ⟨es, clock, since, c0, seen, _, _, a3, _⟩ := i
  exact lt_of_heap a3
theorem RangeAt.ext {F : List Nat} {w' : World} {r bm : Nat} (i : RangeAt enc venc w.heap r bm l) (hx : Ext F w w') (h1 : r ∉ F) (h2 : bm ∉ F) : RangeAt enc venc w'.heap r bm l ∧ leftN w'.heap r bm = leftN w.heap r bm :=
  ⟨i.same (hx.block r i.lt h1) (hx.block bm i.map.lt h2), leftN_same (hx.block r i.lt h1) (hx.block bm i.map.lt h2)⟩
theorem run_rangeAt {t k e : TypeId} {bm : Nat} (ht : P.underlying t = some (.map k e)) (m : MapAt enc venc w.heap bm l) :
    ∃ o, (Instr.range t (.map (some bm))).run P w = .ok (.pointer (some ⟨w.heap.size, 0, none⟩)) (w.alloc o) ∧ RangeAt enc venc (w.alloc o).heap w.heap.size bm l := by
  obtain ⟨es, clock, hb, E⟩ := m
  exact ⟨_, run_range_map w t k e bm es clock ht hb, es, clock, clock, clock, #[], heap_old' _ _ hb, E, heap_new _ _, E.clk, Nat.le_refl _, Nat.le_refl _⟩
theorem ext_setBlock (w : World) (r : Nat) (o : Obj) : Ext [r] w (setBlock w r o) := by
  refine ⟨rfl, rfl, rfl, ?_, fun k hk hn => ?_⟩
  · simp [setBlock]
  · simp at hn
    simp [setBlock, Array.getElem?_setIfInBounds, Ne.symm hn]
theorem run_nextAt {r bm : Nat} (ty : TypeId) (i : RangeAt enc venc w.heap r bm l) :
    (leftN w.heap r bm = 0 ∧ (Instr.next (.pointer (some ⟨r, 0, none⟩)) false ty).run P w = .ok (.tuple #[.bool false]) w) ∨
    ∃ p ∈ l, ∃ w1, leftN w1.heap r bm < leftN w.heap r bm ∧ (Instr.next (.pointer (some ⟨r, 0, none⟩)) false ty).run P w = .ok (.tuple #[.bool true, enc p.1, venc p.2]) w1 ∧
      (Instr.entry (.pointer (some ⟨r, 0, none⟩))).run P w1 = .ok (.tuple #[enc p.1, venc p.2]) w1 ∧ RangeAt enc venc w1.heap r bm l ∧ Ext [r] w w1 := by
  obtain ⟨es, clock, since, c0, seen, hb, E, hr, hold, hsc, hcl⟩ := i
  have hN : leftN w.heap r bm = (leftOf es seen).size := by unfold leftN; rw [hr, hb]
  rcases run_next_at (P := P) w ty r bm since c0 seen es clock hr hb hold hsc with ⟨h0, h1⟩ | ⟨e, he, w1, hw, h1⟩
  · exact .inl ⟨by rw [hN]; exact h0, h1⟩
  · right
    have hin := (mem_left he).1
    have hkv : (e.key, e.val) ∈ l.map (fun p => (enc p.1, venc p.2)) := by rw [← E.ents]; exact List.mem_map.2 ⟨e, hin, rfl⟩
    obtain ⟨p, hp, hpe⟩ := List.mem_map.1 hkv
    simp only [Prod.mk.injEq] at hpe
    have hrb : r ≠ bm := ne_block hr hb (by simp)
    have hh : w1.heap = w.heap := by rcases hw with rfl | rfl <;> rfl
    have hrlt := lt_of_heap hr
    have hr' : (setBlock w1 r (.mapIter (some bm) since (seen.push e.born) clock)).heap[r]? = some (.mapIter (some bm) since (seen.push e.born) clock) := by
      simp [setBlock, hh, hrlt]
    have hb' : (setBlock w1 r (.mapIter (some bm) since (seen.push e.born) clock)).heap[bm]? = some (.map es clock) := by
      simp [setBlock, hh, Array.getElem?_setIfInBounds, hrb, hb]
    have hnd : (es.toList.map (·.born)).Nodup := E.born.imp (fun h => by omega)
    refine ⟨p, hp, _, ?_, by rw [hpe.1, hpe.2]; exact h1, ?_, ⟨es, clock, since, clock, _, hb', E, hr', hold, hcl, hcl⟩, ?_⟩
    · rw [hN]
      unfold leftN
      rw [hr', hb']
      exact left_shrinks es seen e he
    · rw [hpe.1, hpe.2]
      exact run_entry_at _ r bm since seen es clock e hr' hb' hin hnd
    · have hE : Ext [r] w w1 := by rcases hw with rfl | rfl; exact Ext.refl _ _; exact (Ext.refl _ _).drew
      exact hE.trans' (ext_setBlock _ _ _)
theorem run_lenAt {bm : Nat} (m : MapAt enc venc w.heap bm l) : ∃ es clock, w.heap[bm]? = some (.map es clock) ∧ es.size = l.length := by
  obtain ⟨es, clock, hb, E⟩ := m
  refine ⟨es, clock, hb, ?_⟩
  have := congrArg List.length E.ents
  simpa using this
theorem run_lenMap {t k e : TypeId} (ty : TypeId) {bm : Nat} (ht : P.underlying t = some (.map k e)) (m : MapAt enc venc w.heap bm l) : (Builtin.len_ #[t] ty #[.map (some bm)]).run P w = .ok (.int .i64 l.length) w := by
  obtain ⟨es, clock, hb, hes⟩ := run_lenAt m
  simp [Builtin.len_, run_underlying ht, getObj, Sem.run, hb, Result.andThen, goInt, hes]
end
end Go.Proofs.Ytkhihpmadmmeaaa
