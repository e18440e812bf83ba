/-
  A drawn region of operations that change nothing, one operation at a time: taken, or skipped by its guard. The relation stands behind a structure: the elaborator does not look into it.
-/
import Derived.Test.YtnjjbolbemlceaaDoorBase
import Derived.StillTailTactics
namespace Go.Hs
open Go Go.RowKit
structure Stl (P : Program) (ops : Array Oper) (w : World) (Q : Act → Prop) (l : List Oper) (a : Act) : Prop where
  out : wpStill P ops w Q l a
theorem still_val {P : Program} {ops : Array Oper} {w : World} {Q : Act → Prop} {a : Act} {o : Oper} {rest : List Oper} {v : Value} (hw : Region.wanted o (yielded ops a.tmps) = true)
    (hr : (execOp a.eval o).run P w = .ok (.value v) w) (h : Stl P ops w Q rest (a.put o.dst v)) : Stl P ops w Q (o :: rest) a := by
  refine ⟨wpStill_step fun K hK => ?_⟩
  rw [if_pos hw]
  unfold Oper.still
  rw [hr, Oper.stillUpon_value]
  exact hK _ h.out
theorem still_ok {P : Program} {ops : Array Oper} {w : World} {Q : Act → Prop} {a : Act} {o : Oper} {rest : List Oper} (hw : Region.wanted o (yielded ops a.tmps) = true)
    (hr : (execOp a.eval o).run P w = .ok .skip w) (h : Stl P ops w Q rest (a.put o.dst undef)) : Stl P ops w Q (o :: rest) a := by
  refine ⟨wpStill_step fun K hK => ?_⟩
  rw [if_pos hw]
  unfold Oper.still
  rw [hr, Oper.stillUpon_skip]
  exact hK _ h.out
theorem still_not {P : Program} {ops : Array Oper} {w : World} {Q : Act → Prop} {a : Act} {o : Oper} {rest : List Oper} (hw : Region.wanted o (yielded ops a.tmps) = false)
    (h : Stl P ops w Q rest (a.put o.dst undef)) : Stl P ops w Q (o :: rest) a := by
  refine ⟨wpStill_step fun K hK => ?_⟩
  rw [if_neg (by rw [hw]; simp)]
  exact hK _ h.out
theorem still_call {P : Program} {ops : Array Oper} {w : World} {Q : Act → Prop} {a : Act} {o : Oper} {rest : List Oper} {v : Value} {f : FuncId} {args : Array Value} (hw : Region.wanted o (yielded ops a.tmps) = true)
    (hr : (execOp a.eval o).run P w = .ok (.enter f args) w) (hc : Calls P f args w fun e w'' => e = .returned v ∧ w'' = w) (h : Stl P ops w Q rest (a.put o.dst v)) : Stl P ops w Q (o :: rest) a := by
  refine ⟨wpStill_step fun K hK => ?_⟩
  rw [if_pos hw]
  unfold Oper.still
  rw [hr]
  exact ⟨rfl, v, hc, hK _ h.out⟩
theorem still_end {P : Program} {ops : Array Oper} {w : World} {Q : Act → Prop} {a : Act} (h : Q a) : Stl P ops w Q [] a := ⟨wpStill_nil h⟩
theorem wp_region_stl {P : Program} {id : Nat} {Q : Exit → Act → World → Prop} {a : Act} {w : World} {l : List Oper} (hm : P.follows .mixedOrders = true) (hB : Region.lexB .any l.toArray = true)
    (h : Stl P l.toArray w.drew (fun a' => Q .normal a' w.drew) l a) : (Code.region id l.toArray true).wp P Q a w :=
  wp_region_still_lit hm hB h.out
theorem wp_region_stl_tail {P : Program} {id : Nat} {Q : Exit → Act → World → Prop} {a : Act} {w : World} {l : List Oper} (n : Nat) (hm : P.follows .mixedOrders = true) (hB : Region.lexTailB .any l.toArray n = true)
    (h : Stl P l.toArray w.drew (fun a' => wpList P l.toArray Q (l.drop n) a' w.drew) (l.take n) a) : (Code.region id l.toArray true).wp P Q a w :=
  wp_region_still_tail n hm hB h.out
end Go.Hs
