/-
  errors.As to a fault.
-/
import Derived.Test.YtnjjbolbemlceaaDoorErrs2
set_option linter.unusedSimpArgs false
set_option linter.unusedVariables false
set_option maxHeartbeats 4000000
set_option maxRecDepth 100000
namespace Go.Proofs.YtnjjbolbemlceaaDoor
open Go.RowKit Go.Extern.Stop Go.Stop Go.Extern Go.Hs

theorem as_ep_hit (t : Nat) (b : Addr) (a : Addr) (old : Value) (w : World) (ha : w.cell? a = some (.pointer (some ⟨t, 0, none⟩))) (ht : w.heap[t]? = some (.cells #[old] 66 (0, 0))) :
    Calls Tryd.prog 56 #[.iface 66 (.pointer (some b)), .iface 71 (.pointer (some ⟨t, 0, none⟩)), .agg #[.pointer (some ⟨5, 71, none⟩), .pointer (some a), .int .u64 150], .iface 125 (.agg #[.pointer (some ⟨5, 66, none⟩)])] w
      fun ev w' => ev = .returned (.bool true) ∧ Ext [t] w w' ∧ w'.heap[t]? = some (.cells #[.pointer (some b)] 66 (0, 0)) := by
  have h10 := @run_callFunc_extern Tryd.prog 50 _ ReflectliteType.typeOf Tryd.func50 (by kernel_rfl) (by kernel_rfl) (by kernel_rfl) (by kernel_rfl)
  have h35 := @run_callFunc_extern Tryd.prog 128 _ (ReflectliteType.relation "AssignableTo" ReflectliteType.assignableTo) Tryd.func128 (by kernel_rfl) (by kernel_rfl) (by kernel_rfl) (by kernel_rfl)
  have h11 := @run_callFunc_extern Tryd.prog 67 _ (ReflectliteValue.method (ReflectliteValue.valueError "reflectlite.Value.Elem" 0) ReflectliteValue.elem) Tryd.func67 (by kernel_rfl) (by kernel_rfl) (by kernel_rfl) (by kernel_rfl)
  have h12 := @run_callFunc_extern Tryd.prog 68 _ ReflectliteValue.set Tryd.func68 (by kernel_rfl) (by kernel_rfl) (by kernel_rfl) (by kernel_rfl)
  have h6 := @run_callFunc_extern Tryd.prog 53 _ (fun args => ReflectliteValue.unpack (args.getD 0 (.tuple #[]))) Tryd.func53 (by kernel_rfl) (by kernel_rfl) (by kernel_rfl) (by kernel_rfl)
  have tP := typeOfEP
  have mA := methodAssignableTo
  have aPP := assignEPEP
  have vP := valueOfEP
  have hA := heap_new w (.cells #[.pointer (some ⟨5, 71, none⟩), .pointer (some a), .int .u64 150] 98)
  have E0 : Ext [] w (w.alloc (.cells #[.pointer (some ⟨5, 71, none⟩), .pointer (some a), .int .u64 150] 98)) := (Ext.refl _ _).alloc _
  have ha0 : (w.alloc (.cells #[.pointer (some ⟨5, 71, none⟩), .pointer (some a), .int .u64 150] 98)).cell? a = some (.pointer (some ⟨t, 0, none⟩)) := by
    rw [World.cell?_alloc_lt _ _ a (cellIn ha)]; exact ha
  have ht0 := E0.same ht (by simp)
  go_enter Tryd.func56, Tryd.ntmps56
  go_wp2
  generalize w.alloc (.cells #[.pointer (some ⟨5, 71, none⟩), .pointer (some a), .int .u64 150] 98) = W at *
  generalize w.heap.size = A at *
  have c0 := cellAt hA 0
  have c1 := cellAt hA 1
  have c2 := cellAt hA 2
  simp at c0 c1 c2
  refine wp_loop_rounds 1 ?_
  rw [rounds_succ]
  have el := elemVEPP a ⟨t, 0, none⟩ W ha0
  have st := setEP ⟨t, 0, none⟩ ⟨W.heap.size, 0, none⟩ b old (W.alloc (.cells #[.pointer (some b)] 66)) (by simp) (by have := cellAt (heap_old' W (.cells #[.pointer (some b)] 66) ht0) 0; simpa using this) (freeAt (heap_old' W _ ht0) 0)
  go_wp2
  go_ret
  refine ⟨rfl, (E0.alloc _ |>.mono (by simp)).setCell (.inl (by simp)) _, ?_⟩
  rw [heap_set (heap_old' W _ ht0) 0]
  rfl
theorem as_ep_miss (t : Nat) (n : Int) (a : Addr) (old : Value) (w : World) (ha : w.cell? a = some (.pointer (some ⟨t, 0, none⟩))) (ht : w.heap[t]? = some (.cells #[old] 66 (0, 0))) :
    Calls Tryd.prog 56 #[.iface 28 (.int .i64 n), .iface 71 (.pointer (some ⟨t, 0, none⟩)), .agg #[.pointer (some ⟨5, 71, none⟩), .pointer (some a), .int .u64 150], .iface 125 (.agg #[.pointer (some ⟨5, 66, none⟩)])] w
      fun ev w' => ev = .returned (.bool false) ∧ Ext [] w w' := by
  have h10 := @run_callFunc_extern Tryd.prog 50 _ ReflectliteType.typeOf Tryd.func50 (by kernel_rfl) (by kernel_rfl) (by kernel_rfl) (by kernel_rfl)
  have h35 := @run_callFunc_extern Tryd.prog 128 _ (ReflectliteType.relation "AssignableTo" ReflectliteType.assignableTo) Tryd.func128 (by kernel_rfl) (by kernel_rfl) (by kernel_rfl) (by kernel_rfl)
  have tN := typeOfEN
  have mA := methodAssignableTo
  have aNP := assignENEP
  have nN := noAsEN
  have uN := noUnwrapEN
  have sN := noUnwrapsEN
  have hA := heap_new w (.cells #[.pointer (some ⟨5, 71, none⟩), .pointer (some a), .int .u64 150] 98)
  have E0 : Ext [] w (w.alloc (.cells #[.pointer (some ⟨5, 71, none⟩), .pointer (some a), .int .u64 150] 98)) := (Ext.refl _ _).alloc _
  have ha0 : (w.alloc (.cells #[.pointer (some ⟨5, 71, none⟩), .pointer (some a), .int .u64 150] 98)).cell? a = some (.pointer (some ⟨t, 0, none⟩)) := by
    rw [World.cell?_alloc_lt _ _ a (cellIn ha)]; exact ha
  have ht0 := E0.same ht (by simp)
  go_enter Tryd.func56, Tryd.ntmps56
  go_wp2
  generalize w.alloc (.cells #[.pointer (some ⟨5, 71, none⟩), .pointer (some a), .int .u64 150] 98) = W at *
  generalize w.heap.size = A at *
  have c0 := cellAt hA 0
  have c1 := cellAt hA 1
  have c2 := cellAt hA 2
  simp at c0 c1 c2
  refine wp_loop_rounds 1 ?_
  rw [rounds_succ]
  go_wp2
  go_ret
  exact ⟨rfl, E0⟩
theorem as_fault_hit (t : Nat) (b : Addr) (old : Value) (w : World) (hg : Gd w) (ht : w.heap[t]? = some (.cells #[old] 66 (0, 0))) :
    Calls Tryd.prog 36 #[.iface 66 (.pointer (some b)), .iface 71 (.pointer (some ⟨t, 0, none⟩))] w
      fun ev w' => ev = .returned (.bool true) ∧ Ext [t] w w' ∧ w'.heap[t]? = some (.cells #[.pointer (some b)] 66 (0, 0)) := by
  have h6 := @run_callFunc_extern Tryd.prog 53 _ (fun args => ReflectliteValue.unpack (args.getD 0 (.tuple #[]))) Tryd.func53 (by kernel_rfl) (by kernel_rfl) (by kernel_rfl) (by kernel_rfl)
  have h7 := @run_callFunc_extern Tryd.prog 54 _ (ReflectliteValue.methodAny (ReflectliteValue.valueError "reflectlite.Value.Type" 0) (fun t _ _ _ => ReflectliteType.toType t)) Tryd.func54 (by kernel_rfl) (by kernel_rfl) (by kernel_rfl) (by kernel_rfl)
  have h8 := @run_callFunc_extern Tryd.prog 55 _ (ReflectliteValue.method (ReflectliteValue.valueError "reflectlite.Value.IsNil" 0) ReflectliteValue.isNil) Tryd.func55 (by kernel_rfl) (by kernel_rfl) (by kernel_rfl) (by kernel_rfl)
  have h27 := @run_callFunc_extern Tryd.prog 117 _ (ReflectliteType.abiMethod fun t => do pure (.int .u8 (← Rtype.kind t))) Tryd.func117 (by kernel_rfl) (by kernel_rfl) (by kernel_rfl) (by kernel_rfl)
  have h37 := @run_callFunc_extern Tryd.prog 130 _ (ReflectliteType.method ReflectliteType.elem) Tryd.func130 (by kernel_rfl) (by kernel_rfl) (by kernel_rfl) (by kernel_rfl)
  have h38 := @run_callFunc_extern Tryd.prog 131 _ (ReflectliteType.relation "Implements" ReflectliteType.implements_) Tryd.func131 (by kernel_rfl) (by kernel_rfl) (by kernel_rfl) (by kernel_rfl)
  have f6 := valueOfEPP
  have f7 := typeEPP
  have mK := methodKind
  have mE := methodElem
  have mI := methodImplements
  have k1 := kindEPP
  have k2 := kindEP
  have e1 := elemEPP
  have i1 := implementsEP
  have hgl := hg.lt
  have E0 : Ext [] w (w.alloc (.cells #[.pointer (some ⟨t, 0, none⟩)] 71)) := (Ext.refl _ _).alloc _
  have E1 := E0.alloc (.cells #[.pointer (some ⟨5, 71, none⟩), .pointer (some ⟨w.heap.size, 0, none⟩), .int .u64 150] 98)
  have hgd := hg.ext E1 (by simp)
  unfold Gd at hgd
  have n8 := isNilEPP ⟨w.heap.size, 0, none⟩ ⟨t, 0, none⟩ ((w.alloc (.cells #[.pointer (some ⟨t, 0, none⟩)] 71)).alloc (.cells #[.pointer (some ⟨5, 71, none⟩), .pointer (some ⟨w.heap.size, 0, none⟩), .int .u64 150] 98)) (by simp)
  have ht1 := E1.same ht (by simp)
  go_enter Tryd.func36, Tryd.ntmps36
  go_wp2_with (go_at_call 56; refine (as_ep_hit t b _ old _ (by simp) ht1).mono ?_; rintro e w1 ⟨rfl, hx, hy⟩)
  go_ret
  exact ⟨rfl, E1.mono (by simp) |>.trans' hx, hy⟩
theorem as_fault_miss (t : Nat) (n : Int) (old : Value) (w : World) (hg : Gd w) (ht : w.heap[t]? = some (.cells #[old] 66 (0, 0))) :
    Calls Tryd.prog 36 #[.iface 28 (.int .i64 n), .iface 71 (.pointer (some ⟨t, 0, none⟩))] w
      fun ev w' => ev = .returned (.bool false) ∧ Ext [] w w' := by
  have h6 := @run_callFunc_extern Tryd.prog 53 _ (fun args => ReflectliteValue.unpack (args.getD 0 (.tuple #[]))) Tryd.func53 (by kernel_rfl) (by kernel_rfl) (by kernel_rfl) (by kernel_rfl)
  have h7 := @run_callFunc_extern Tryd.prog 54 _ (ReflectliteValue.methodAny (ReflectliteValue.valueError "reflectlite.Value.Type" 0) (fun t _ _ _ => ReflectliteType.toType t)) Tryd.func54 (by kernel_rfl) (by kernel_rfl) (by kernel_rfl) (by kernel_rfl)
  have h8 := @run_callFunc_extern Tryd.prog 55 _ (ReflectliteValue.method (ReflectliteValue.valueError "reflectlite.Value.IsNil" 0) ReflectliteValue.isNil) Tryd.func55 (by kernel_rfl) (by kernel_rfl) (by kernel_rfl) (by kernel_rfl)
  have h27 := @run_callFunc_extern Tryd.prog 117 _ (ReflectliteType.abiMethod fun t => do pure (.int .u8 (← Rtype.kind t))) Tryd.func117 (by kernel_rfl) (by kernel_rfl) (by kernel_rfl) (by kernel_rfl)
  have h37 := @run_callFunc_extern Tryd.prog 130 _ (ReflectliteType.method ReflectliteType.elem) Tryd.func130 (by kernel_rfl) (by kernel_rfl) (by kernel_rfl) (by kernel_rfl)
  have h38 := @run_callFunc_extern Tryd.prog 131 _ (ReflectliteType.relation "Implements" ReflectliteType.implements_) Tryd.func131 (by kernel_rfl) (by kernel_rfl) (by kernel_rfl) (by kernel_rfl)
  have f6 := valueOfEPP
  have f7 := typeEPP
  have mK := methodKind
  have mE := methodElem
  have mI := methodImplements
  have k1 := kindEPP
  have k2 := kindEP
  have e1 := elemEPP
  have i1 := implementsEP
  have hgl := hg.lt
  have E0 : Ext [] w (w.alloc (.cells #[.pointer (some ⟨t, 0, none⟩)] 71)) := (Ext.refl _ _).alloc _
  have E1 := E0.alloc (.cells #[.pointer (some ⟨5, 71, none⟩), .pointer (some ⟨w.heap.size, 0, none⟩), .int .u64 150] 98)
  have hgd := hg.ext E1 (by simp)
  unfold Gd at hgd
  have n8 := isNilEPP ⟨w.heap.size, 0, none⟩ ⟨t, 0, none⟩ ((w.alloc (.cells #[.pointer (some ⟨t, 0, none⟩)] 71)).alloc (.cells #[.pointer (some ⟨5, 71, none⟩), .pointer (some ⟨w.heap.size, 0, none⟩), .int .u64 150] 98)) (by simp)
  have ht1 := E1.same ht (by simp)
  go_enter Tryd.func36, Tryd.ntmps36
  go_wp2_with (go_at_call 56; refine (as_ep_miss t n _ old _ (by simp) ht1).mono ?_; rintro e w1 ⟨rfl, hx⟩)
  go_ret
  exact ⟨rfl, E1.trans' hx⟩
end Go.Proofs.YtnjjbolbemlceaaDoor
