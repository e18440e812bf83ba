/-
  Errors without a number: errors.New's; what package errors and package fault say of them.
-/
import Derived.Test.YtnjjbolbemlceaaDoorFault5
set_option linter.unusedSimpArgs false
set_option linter.unusedVariables false
set_option maxHeartbeats 4000000
set_option maxRecDepth 100000
namespace Go.Proofs.YtnjjbolbemlceaaDoor
open Go.RowKit Go.Extern.Stop Go.Stop Go.Extern Go.Hs

theorem typeOfES (v : Value) (w : World) : (ReflectliteType.typeOf #[.iface 92 v]).run Tryd.prog w = .ok (.iface 125 (.agg #[.pointer (some ⟨5, 92, none⟩)])) w := by kernel_rfl
theorem assignESEN (w : World) : (ReflectliteType.relation "AssignableTo" ReflectliteType.assignableTo #[.agg #[.pointer (some ⟨5, 92, none⟩)], .iface 125 (.agg #[.pointer (some ⟨5, 28, none⟩)])]).run Tryd.prog w = .ok (.bool false) w := by kernel_rfl
theorem noAsES (v : Value) (xT : TypeId) (w : World) : (Instr.typeAssert (.iface 92 v) xT 135 true).run Tryd.prog w = .ok (.tuple #[.nilIface, .bool false]) w := run_typeAssert_lacksB Tryd.underlying135 (by kernel_rfl) (by kernel_rfl) v xT w
theorem noIsES (v : Value) (xT : TypeId) (w : World) : (Instr.typeAssert (.iface 92 v) xT 127 true).run Tryd.prog w = .ok (.tuple #[.nilIface, .bool false]) w := run_typeAssert_lacksB Tryd.underlying127 (by kernel_rfl) (by kernel_rfl) v xT w
theorem noUnwrapES (v : Value) (xT : TypeId) (w : World) : (Instr.typeAssert (.iface 92 v) xT 105 true).run Tryd.prog w = .ok (.tuple #[.nilIface, .bool false]) w := run_typeAssert_lacksB Tryd.underlying105 (by kernel_rfl) (by kernel_rfl) v xT w
theorem noUnwrapsES (v : Value) (xT : TypeId) (w : World) : (Instr.typeAssert (.iface 92 v) xT 130 true).run Tryd.prog w = .ok (.tuple #[.nilIface, .bool false]) w := run_typeAssert_lacksB Tryd.underlying130 (by kernel_rfl) (by kernel_rfl) v xT w
theorem cmpES (w : World) : ((ReflectliteType.method fun t => do Rtype.noPackHeld "Comparable" t; pure (.bool (← typeInfo t).comparable)) #[.agg #[.pointer (some ⟨5, 92, none⟩)]]).run Tryd.prog w = .ok (.bool true) w := by kernel_rfl
theorem compES : (Tryd.prog.info? 92).map (·.comparable) = some true := by kernel_rfl
theorem sizeES : (Tryd.prog.info? 94).map (·.size) = some 1 := by kernel_rfl
theorem isTypeES (v : Value) (xT : TypeId) (w : World) : (Instr.typeAssert (.iface 92 v) xT 66 true).run Tryd.prog w = .ok (.tuple #[.pointer none, .bool false]) w := by kernel_rfl
theorem eq_ep_es (a b : Value) (w : World) : (binOp .eql 25 (.iface 66 a) (.iface 92 b)).run Tryd.prog w = .ok (.bool false) w :=
  run_eql_iface_types _ _ _ _ Tryd.underlying25 (by decide) w
theorem eq_es_ep (a b : Value) (w : World) : (binOp .eql 25 (.iface 92 a) (.iface 66 b)).run Tryd.prog w = .ok (.bool false) w :=
  run_eql_iface_types _ _ _ _ Tryd.underlying25 (by decide) w
theorem eq_es_en (a b : Value) (w : World) : (binOp .eql 25 (.iface 92 a) (.iface 28 b)).run Tryd.prog w = .ok (.bool false) w :=
  run_eql_iface_types _ _ _ _ Tryd.underlying25 (by decide) w

theorem new_any (s : ByteArray) (w : World) : Calls Tryd.prog 34 #[.string s] w fun e w' => ∃ v, e = .returned v ∧ v = .iface 92 (.pointer (some ⟨w.heap.size, 0, none⟩)) ∧ w' = w.alloc (.cells #[.string s] 94) := by
  go_enter Tryd.func34, Tryd.ntmps34
  go_wp2
  go_ret
  exact ⟨_, rfl, rfl, rfl⟩
theorem in_es (s : ByteArray) (a : Int) (p : Value) (w : World) :
    Calls Tryd.prog 30 #[.string s, .int .i64 a, .iface 92 p] w fun ev w' => ∃ v, ev = .returned v ∧ v = .iface 66 (.pointer (some ⟨w.heap.size, 0, none⟩)) ∧ w' = w.alloc (.cells #[.string s, .int .i64 a, .iface 92 p] 68) := by
  have e1 := fun w => eq_es_en p (.int .i64 0) w
  go_enter Tryd.func30, Tryd.ntmps30
  go_wp2
  go_ret
  exact ⟨_, rfl, rfl, rfl⟩
theorem in_nil (s : ByteArray) (a : Int) (w : World) :
    Calls Tryd.prog 30 #[.string s, .int .i64 a, .nilIface] w fun ev w' => ev = .returned .nilIface ∧ Ext [] w w' := by
  go_enter Tryd.func30, Tryd.ntmps30
  go_wp2
  go_ret
  exact ⟨rfl, Ext.refl _ _⟩
theorem of_nil (w : World) : Calls Tryd.prog 17 #[.nilIface] w fun ev w' => ev = .returned (.int .i64 0) ∧ Ext [] w w' := by
  go_enter Tryd.func17, Tryd.ntmps17
  go_wp2
  go_ret
  exact ⟨rfl, Ext.refl _ _⟩
theorem where_nil (w : World) : Calls Tryd.prog 18 #[.nilIface] w fun ev w' => ev = .returned (.tuple #[.slice none 0 0, .int .i64 (-1)]) ∧ Ext [] w w' := by
  go_enter Tryd.func18, Tryd.ntmps18
  go_wp2
  refine wp_loop_rounds 1 ?_
  rw [rounds_succ]
  go_wp2_with (go_at_call 36; refine (as_nil _ _).mono ?_; rintro e w1 ⟨rfl, rfl⟩)
  go_ret2
  exact ⟨rfl, (Ext.refl _ _).alloc _⟩
theorem itoa1 (w : World) : Calls Tryd.prog 52 #[.int .i64 1] w fun e w' => e = .returned (.string ⟨#[49]⟩) ∧ w' = w := by
  go_enter Tryd.func52, Tryd.ntmps52
  go_wp2
  go_ret
  exact ⟨rfl, rfl⟩
theorem errE_iface {h : Array Obj} {ty : TypeId} {p : Value} : ∀ {L : List (ByteArray × Int)} {v : Value}, ErrV h (.iface ty p) L v → ∃ ty x, v = .iface ty x
  | [], v, e => ⟨_, _, e⟩
  | (s, a) :: L, v, ⟨b, u, h1, _⟩ => ⟨_, _, h1⟩
theorem as_en_miss (pe : Value) (t : Nat) (L : List (ByteArray × Int)) (v : Value) (a : Addr) (old : Value) (w : World) (hv : ErrV w.heap (.iface 92 pe) L v) (ha : w.cell? a = some (.pointer (some ⟨t, 0, none⟩))) (ht : w.heap[t]? = some (.cells #[old] 28 (0, 0))) :
    Calls Tryd.prog 56 #[v, .iface 72 (.pointer (some ⟨t, 0, none⟩)), .agg #[.pointer (some ⟨5, 72, none⟩), .pointer (some a), .int .u64 150], .iface 125 (.agg #[.pointer (some ⟨5, 28, none⟩)])] w
      fun ev w' => ev = .returned (.bool false) ∧ Ext [] w w' := by
  have h10 := @run_callFunc_extern Tryd.prog 50 _ ReflectliteType.typeOf Tryd.func50 (by kernel_rfl) (by kernel_rfl) (by kernel_rfl) (by kernel_rfl)
  have h35 := @run_callFunc_extern Tryd.prog 128 _ (ReflectliteType.relation "AssignableTo" ReflectliteType.assignableTo) Tryd.func128 (by kernel_rfl) (by kernel_rfl) (by kernel_rfl) (by kernel_rfl)
  have h11 := @run_callFunc_extern Tryd.prog 67 _ (ReflectliteValue.method (ReflectliteValue.valueError "reflectlite.Value.Elem" 0) ReflectliteValue.elem) Tryd.func67 (by kernel_rfl) (by kernel_rfl) (by kernel_rfl) (by kernel_rfl)
  have h12 := @run_callFunc_extern Tryd.prog 68 _ ReflectliteValue.set Tryd.func68 (by kernel_rfl) (by kernel_rfl) (by kernel_rfl) (by kernel_rfl)
  have h6 := @run_callFunc_extern Tryd.prog 53 _ (fun args => ReflectliteValue.unpack (args.getD 0 (.tuple #[]))) Tryd.func53 (by kernel_rfl) (by kernel_rfl) (by kernel_rfl) (by kernel_rfl)
  have tP := typeOfEP
  have tN := typeOfEN
  have mA := methodAssignableTo
  have aNN := assignENEN
  have aPN := assignEPEN
  have tS := typeOfES
  have aS := assignESEN
  have nS := noAsES
  have uS := noUnwrapES
  have sS := noUnwrapsES
  have nP := noAsEP
  have uP := hasUnwrapEP
  have mU := methodUnwrap
  go_enter Tryd.func56, Tryd.ntmps56
  go_wp2
  have hA := heap_new w (.cells #[.pointer (some ⟨5, 72, none⟩), .pointer (some a), .int .u64 150] 98)
  have E0 : Ext [] w (w.alloc (.cells #[.pointer (some ⟨5, 72, none⟩), .pointer (some a), .int .u64 150] 98)) := (Ext.refl _ _).alloc _
  have hv0 := hv.ext0 E0
  have ha0 : (w.alloc (.cells #[.pointer (some ⟨5, 72, none⟩), .pointer (some a), .int .u64 150] 98)).cell? a = some (.pointer (some ⟨t, 0, none⟩)) := by
    rw [World.cell?_alloc_lt _ _ a (cellIn ha)]; exact ha
  have ht0 := E0.same ht (by simp)
  generalize w.alloc (.cells #[.pointer (some ⟨5, 72, none⟩), .pointer (some a), .int .u64 150] 98) = W at *
  generalize w.heap.size = A at *
  go_loopg [0] L.length (fun n0 s0 wr => ∃ L0, L0.length = n0 ∧ ErrV W.heap (.iface 92 pe) L0 s0 ∧ W = wr)
  · exact ⟨L, rfl, hv0, rfl⟩
  obtain ⟨L0, rfl, hv1, rfl⟩ := hrel
  have c0 := cellAt hA 0
  have c1 := cellAt hA 1
  have c2 := cellAt hA 2
  simp at c0 c1 c2
  cases L0 with
  | nil =>
    cases hv1
    go_wp2
    go_ret
    exact ⟨rfl, E0⟩
  | cons p L0 =>
    obtain ⟨s, x⟩ := p
    obtain ⟨b, u, rfl, hb, hu⟩ := hv1
    have k2 := cellAt hb 2
    simp at k2
    obtain ⟨ty, y, rfl⟩ := (errE_iface hu)
    go_wp2
    go_roundg L0.length
    case measure => simp
    case rel => exact ⟨L0, rfl, hu, rfl⟩
theorem as_errno_miss (pe : Value) (t : Nat) (L : List (ByteArray × Int)) (v : Value) (old : Value) (w : World) (hg : Gd w) (hv : ErrV w.heap (.iface 92 pe) L v) (ht : w.heap[t]? = some (.cells #[old] 28 (0, 0))) :
    Calls Tryd.prog 36 #[v, .iface 72 (.pointer (some ⟨t, 0, none⟩))] w
      fun ev w' => ev = .returned (.bool false) ∧ Ext [] w w' := by
  have h6 := @run_callFunc_extern Tryd.prog 53 _ (fun args => ReflectliteValue.unpack (args.getD 0 (.tuple #[]))) Tryd.func53 (by kernel_rfl) (by kernel_rfl) (by kernel_rfl) (by kernel_rfl)
  have h7 := @run_callFunc_extern Tryd.prog 54 _ (ReflectliteValue.methodAny (ReflectliteValue.valueError "reflectlite.Value.Type" 0) (fun t _ _ _ => ReflectliteType.toType t)) Tryd.func54 (by kernel_rfl) (by kernel_rfl) (by kernel_rfl) (by kernel_rfl)
  have h8 := @run_callFunc_extern Tryd.prog 55 _ (ReflectliteValue.method (ReflectliteValue.valueError "reflectlite.Value.IsNil" 0) ReflectliteValue.isNil) Tryd.func55 (by kernel_rfl) (by kernel_rfl) (by kernel_rfl) (by kernel_rfl)
  have h27 := @run_callFunc_extern Tryd.prog 117 _ (ReflectliteType.abiMethod fun t => do pure (.int .u8 (← Rtype.kind t))) Tryd.func117 (by kernel_rfl) (by kernel_rfl) (by kernel_rfl) (by kernel_rfl)
  have h37 := @run_callFunc_extern Tryd.prog 130 _ (ReflectliteType.method ReflectliteType.elem) Tryd.func130 (by kernel_rfl) (by kernel_rfl) (by kernel_rfl) (by kernel_rfl)
  have h38 := @run_callFunc_extern Tryd.prog 131 _ (ReflectliteType.relation "Implements" ReflectliteType.implements_) Tryd.func131 (by kernel_rfl) (by kernel_rfl) (by kernel_rfl) (by kernel_rfl)
  have f6 := valueOfENP
  have f7 := typeENP
  have mK := methodKind
  have mE := methodElem
  have mI := methodImplements
  have k1 := kindENP
  have k2 := kindEN
  have e1 := elemENP
  have i1 := implementsEN
  have hgl := hg.lt
  have E0 : Ext [] w (w.alloc (.cells #[.pointer (some ⟨t, 0, none⟩)] 72)) := (Ext.refl _ _).alloc _
  have E1 := E0.alloc (.cells #[.pointer (some ⟨5, 72, none⟩), .pointer (some ⟨w.heap.size, 0, none⟩), .int .u64 150] 98)
  have hgd := hg.ext E1 (by simp)
  unfold Gd at hgd
  have n8 := isNilENP ⟨w.heap.size, 0, none⟩ ⟨t, 0, none⟩ ((w.alloc (.cells #[.pointer (some ⟨t, 0, none⟩)] 72)).alloc (.cells #[.pointer (some ⟨5, 72, none⟩), .pointer (some ⟨w.heap.size, 0, none⟩), .int .u64 150] 98)) (by simp)
  have hv1 := hv.ext0 E1
  have ht1 := E1.same ht (by simp)
  obtain ⟨ty, y, hvy⟩ := errE_iface hv
  subst hvy
  go_enter Tryd.func36, Tryd.ntmps36
  go_wp2_with (go_at_call 56; refine (as_en_miss pe t L _ _ old _ hv1 (by simp) ht1).mono ?_; rintro e w1 ⟨rfl, hx⟩)
  go_ret
  exact ⟨rfl, E1.trans' hx⟩
theorem of_miss (pe : Value) (L : List (ByteArray × Int)) (v : Value) (w : World) (hg : Gd w) (hv : ErrV w.heap (.iface 92 pe) L v) :
    Calls Tryd.prog 17 #[v] w fun ev w' => ev = .returned (.int .i64 2) ∧ Ext [] w w' := by
  have hA := heap_new w (.cells #[.int .i64 0] 28)
  have E0 : Ext [] w (w.alloc (.cells #[.int .i64 0] 28)) := (Ext.refl _ _).alloc _
  have hg1 := hg.ext E0 (by simp)
  have hv1 := hv.ext0 E0
  obtain ⟨ty, y, hvy⟩ := errE_iface hv
  subst hvy
  go_enter Tryd.func17, Tryd.ntmps17
  go_wp2_with (go_at_call 36; refine (as_errno_miss pe w.heap.size L _ _ _ hg1 hv1 hA).mono ?_; rintro e w1 ⟨rfl, hx⟩)
  go_ret
  exact ⟨rfl, E0.trans' hx⟩
theorem fis_es (b : Addr) (p : Value) (w : World) :
    Calls Tryd.prog 120 #[.pointer (some b), .iface 92 p] w fun ev w' => ev = .returned (.bool false) ∧ Ext [] w w' := by
  have tN := isTypeES
  go_enter Tryd.func120, Tryd.ntmps120
  go_wp2
  refine wp_region_stl (by kernel_rfl) (by kernel_rfl) ?_
  refine still_val (v := ?_) (by rfl) ?_ ?_
  rotate_left
  · first | (go_simp; done) | (go_simp; with_reducible rfl)
  try simp only [Act.put, List.getElem_toArray, List.getElem_cons_succ, List.getElem_cons_zero, List.setIfInBounds_toArray, List.set_cons_zero, List.set_cons_succ]
  refine still_val (v := ?_) (by rfl) ?_ ?_
  rotate_left
  · first | (go_simp; done) | (go_simp; with_reducible rfl)
  try simp only [Act.put, List.getElem_toArray, List.getElem_cons_succ, List.getElem_cons_zero, List.setIfInBounds_toArray, List.set_cons_zero, List.set_cons_succ]
  refine still_not (by rfl) ?_
  try simp only [Act.put, List.getElem_toArray, List.getElem_cons_succ, List.getElem_cons_zero, List.setIfInBounds_toArray, List.set_cons_zero, List.set_cons_succ]
  refine still_not (by rfl) ?_
  try simp only [Act.put, List.getElem_toArray, List.getElem_cons_succ, List.getElem_cons_zero, List.setIfInBounds_toArray, List.set_cons_zero, List.set_cons_succ]
  refine still_val (v := ?_) (by rfl) ?_ ?_
  rotate_left
  · first | (go_simp; done) | (go_simp; with_reducible rfl)
  try simp only [Act.put, List.getElem_toArray, List.getElem_cons_succ, List.getElem_cons_zero, List.setIfInBounds_toArray, List.set_cons_zero, List.set_cons_succ]
  refine still_val (v := ?_) (by rfl) ?_ ?_
  rotate_left
  · first | (go_simp; done) | (go_simp; with_reducible rfl)
  try simp only [Act.put, List.getElem_toArray, List.getElem_cons_succ, List.getElem_cons_zero, List.setIfInBounds_toArray, List.set_cons_zero, List.set_cons_succ]
  refine still_not (by rfl) ?_
  try simp only [Act.put, List.getElem_toArray, List.getElem_cons_succ, List.getElem_cons_zero, List.setIfInBounds_toArray, List.set_cons_zero, List.set_cons_succ]
  refine still_not (by rfl) ?_
  try simp only [Act.put, List.getElem_toArray, List.getElem_cons_succ, List.getElem_cons_zero, List.setIfInBounds_toArray, List.set_cons_zero, List.set_cons_succ]
  refine still_not (by rfl) ?_
  try simp only [Act.put, List.getElem_toArray, List.getElem_cons_succ, List.getElem_cons_zero, List.setIfInBounds_toArray, List.set_cons_zero, List.set_cons_succ]
  refine still_not (by rfl) ?_
  try simp only [Act.put, List.getElem_toArray, List.getElem_cons_succ, List.getElem_cons_zero, List.setIfInBounds_toArray, List.set_cons_zero, List.set_cons_succ]
  refine still_not (by rfl) ?_
  try simp only [Act.put, List.getElem_toArray, List.getElem_cons_succ, List.getElem_cons_zero, List.setIfInBounds_toArray, List.set_cons_zero, List.set_cons_succ]
  refine still_val (v := ?_) (by rfl) ?_ ?_
  rotate_left
  · first | (go_simp; done) | (go_simp; with_reducible rfl)
  try simp only [Act.put, List.getElem_toArray, List.getElem_cons_succ, List.getElem_cons_zero, List.setIfInBounds_toArray, List.set_cons_zero, List.set_cons_succ]
  refine still_val (v := ?_) (by rfl) ?_ ?_
  rotate_left
  · first | (go_simp; done) | (go_simp; with_reducible rfl)
  try simp only [Act.put, List.getElem_toArray, List.getElem_cons_succ, List.getElem_cons_zero, List.setIfInBounds_toArray, List.set_cons_zero, List.set_cons_succ]
  refine still_not (by rfl) ?_
  try simp only [Act.put, List.getElem_toArray, List.getElem_cons_succ, List.getElem_cons_zero, List.setIfInBounds_toArray, List.set_cons_zero, List.set_cons_succ]
  refine still_not (by rfl) ?_
  try simp only [Act.put, List.getElem_toArray, List.getElem_cons_succ, List.getElem_cons_zero, List.setIfInBounds_toArray, List.set_cons_zero, List.set_cons_succ]
  refine still_not (by rfl) ?_
  try simp only [Act.put, List.getElem_toArray, List.getElem_cons_succ, List.getElem_cons_zero, List.setIfInBounds_toArray, List.set_cons_zero, List.set_cons_succ]
  refine still_not (by rfl) ?_
  try simp only [Act.put, List.getElem_toArray, List.getElem_cons_succ, List.getElem_cons_zero, List.setIfInBounds_toArray, List.set_cons_zero, List.set_cons_succ]
  refine still_not (by rfl) ?_
  try simp only [Act.put, List.getElem_toArray, List.getElem_cons_succ, List.getElem_cons_zero, List.setIfInBounds_toArray, List.set_cons_zero, List.set_cons_succ]
  refine still_not (by rfl) ?_
  try simp only [Act.put, List.getElem_toArray, List.getElem_cons_succ, List.getElem_cons_zero, List.setIfInBounds_toArray, List.set_cons_zero, List.set_cons_succ]
  refine still_not (by rfl) ?_
  try simp only [Act.put, List.getElem_toArray, List.getElem_cons_succ, List.getElem_cons_zero, List.setIfInBounds_toArray, List.set_cons_zero, List.set_cons_succ]
  refine still_not (by rfl) ?_
  try simp only [Act.put, List.getElem_toArray, List.getElem_cons_succ, List.getElem_cons_zero, List.setIfInBounds_toArray, List.set_cons_zero, List.set_cons_succ]
  refine still_not (by rfl) ?_
  try simp only [Act.put, List.getElem_toArray, List.getElem_cons_succ, List.getElem_cons_zero, List.setIfInBounds_toArray, List.set_cons_zero, List.set_cons_succ]
  refine still_val (v := ?_) (by rfl) ?_ ?_
  rotate_left
  · first | (go_simp; done) | (go_simp; with_reducible rfl)
  try simp only [Act.put, List.getElem_toArray, List.getElem_cons_succ, List.getElem_cons_zero, List.setIfInBounds_toArray, List.set_cons_zero, List.set_cons_succ]
  refine still_val (v := ?_) (by rfl) ?_ ?_
  rotate_left
  · first | (go_simp; done) | (go_simp; with_reducible rfl)
  try simp only [Act.put, List.getElem_toArray, List.getElem_cons_succ, List.getElem_cons_zero, List.setIfInBounds_toArray, List.set_cons_zero, List.set_cons_succ]
  refine still_end ?_
  go_wp2
  go_ret
  exact ⟨rfl, (Ext.refl _ _).drew⟩
theorem is_es (o b : Nat) (s : ByteArray) (x : Int) (w : World) (ho : w.heap[o]? = some (.cells #[.string s, .int .i64 x, .iface 92 (.pointer (some ⟨b, 0, none⟩))] 68 (0, 0))) :
    Calls Tryd.prog 51 #[.iface 66 (.pointer (some ⟨o, 0, none⟩)), .iface 92 (.pointer (some ⟨b, 0, none⟩)), .bool true] w fun ev w' => ev = .returned (.bool true) ∧ Ext [] w w' := by
  obtain ⟨i, hi, hcmp⟩ := Option.map_eq_some_iff.1 compES
  obtain ⟨j, hj, hjs⟩ := Option.map_eq_some_iff.1 sizeES
  have e2 := eq_ep_es
  have iP := hasIsEP
  have mS := methodIs
  have uP := hasUnwrapEP
  have mU := methodUnwrap
  have k2 := cellAt ho 2
  simp at k2
  have hsame := fun w => run_eql_iface_ptr_same (P := Tryd.prog) w ⟨b, 0, none⟩ Tryd.underlying25 Tryd.underlying92 hi hcmp hj
  go_enter Tryd.func51, Tryd.ntmps51
  go_wp2
  refine wp_loop_rounds 2 ?_
  rw [rounds_succ]
  go_wp2_with (go_at_call 120; refine (fis_es _ _ _).mono ?_; rintro e w1 ⟨rfl, hx1⟩)
  have k3 := cell_same k2 (hx1.block o (lt_of_heap ho) (by simp))
  go_wp2
  rw [rounds_succ]
  go_wp2
  go_ret
  exact ⟨rfl, hx1⟩
theorem Is_es (o b : Nat) (s : ByteArray) (x : Int) (w : World) (ho : w.heap[o]? = some (.cells #[.string s, .int .i64 x, .iface 92 (.pointer (some ⟨b, 0, none⟩))] 68 (0, 0))) :
    Calls Tryd.prog 31 #[.iface 66 (.pointer (some ⟨o, 0, none⟩)), .iface 92 (.pointer (some ⟨b, 0, none⟩))] w fun ev w' => ev = .returned (.bool true) ∧ Ext [] w w' := by
  have h10 := @run_callFunc_extern Tryd.prog 50 _ ReflectliteType.typeOf Tryd.func50 (by kernel_rfl) (by kernel_rfl) (by kernel_rfl) (by kernel_rfl)
  have h32 := @run_callFunc_extern Tryd.prog 129 _ (ReflectliteType.method fun t => do Rtype.noPackHeld "Comparable" t; pure (.bool (← typeInfo t).comparable)) Tryd.func129 (by kernel_rfl) (by kernel_rfl) (by kernel_rfl) (by kernel_rfl)
  have tT := typeOfES
  have cT := cmpES
  simp only [bind_pure_comp] at cT
  have mR := methodComparable
  go_enter Tryd.func31, Tryd.ntmps31
  go_wp2_with (go_at_call 51; refine (is_es o b s x _ ho).mono ?_; rintro e w1 ⟨rfl, hx⟩)
  go_ret
  exact ⟨rfl, hx⟩
theorem within_bare (o : Nat) (s : ByteArray) (x : Int) (w : World) (ho : w.heap[o]? = some (.cells #[.string s, .int .i64 x, .nilIface] 68 (0, 0))) :
    Calls Tryd.prog 32 #[.iface 66 (.pointer (some ⟨o, 0, none⟩)), .string s] w fun ev w' => ev = .returned (.bool true) ∧ Ext [] w w' := by
  have h10 := @run_callFunc_extern Tryd.prog 50 _ ReflectliteType.typeOf Tryd.func50 (by kernel_rfl) (by kernel_rfl) (by kernel_rfl) (by kernel_rfl)
  have h32 := @run_callFunc_extern Tryd.prog 129 _ (ReflectliteType.method fun t => do Rtype.noPackHeld "Comparable" t; pure (.bool (← typeInfo t).comparable)) Tryd.func129 (by kernel_rfl) (by kernel_rfl) (by kernel_rfl) (by kernel_rfl)
  obtain ⟨i, hi, hcmp⟩ := Option.map_eq_some_iff.1 compEP
  obtain ⟨j, hj, hjs⟩ := Option.map_eq_some_iff.1 sizeFault
  have tT := typeOfEP
  have cT := cmpEP
  simp only [bind_pure_comp] at cT
  have mR := methodComparable
  have iP := hasIsEP
  have mS := methodIs
  have hA := heap_new w (.cells #[.string s, .int .i64 0, .nilIface] 68)
  have E0 : Ext [] w (w.alloc (.cells #[.string s, .int .i64 0, .nilIface] 68)) := (Ext.refl _ _).alloc _
  have ho1 := E0.same ho (by simp)
  have hne : o ≠ w.heap.size := Nat.ne_of_lt (lt_of_heap ho)
  have heq := run_eql_iface_ptr_other (P := Tryd.prog) (w.alloc (.cells #[.string s, .int .i64 0, .nilIface] 68)) (a := ⟨o, 0, none⟩) (b := ⟨w.heap.size, 0, none⟩) Tryd.underlying25 Tryd.underlying66 hi hcmp hj (by rw [hjs]; decide) (by simp [hne]) ho1 hA
  have hd : decide (s = s) = true := by simp
  have hf := fis_ep o w.heap.size s s x 0 _ _ ho1 hA
  rw [hd] at hf
  have HF := Hs.hid hf
  clear hf hne hd
  have c1 : Calls Tryd.prog 51 #[.iface 66 (.pointer (some ⟨o, 0, none⟩)), .iface 66 (.pointer (some ⟨w.heap.size, 0, none⟩)), .bool true] (w.alloc (.cells #[.string s, .int .i64 0, .nilIface] 68)) fun ev w' => ev = .returned (.bool true) ∧ Ext [] (w.alloc (.cells #[.string s, .int .i64 0, .nilIface] 68)) w' := by
    generalize w.alloc (.cells #[.string s, .int .i64 0, .nilIface] 68) = W at *
    generalize w.heap.size = A at *
    clear E0 ho
    go_enter Tryd.func51, Tryd.ntmps51
    go_wp2
    refine wp_loop_rounds 1 ?_
    rw [rounds_succ]
    go_wp2_with (go_at_call 120; refine HF.out.mono ?_; rintro e w1 ⟨rfl, hx1⟩)
    go_ret
    exact ⟨rfl, hx1⟩
  have c2 : Calls Tryd.prog 31 #[.iface 66 (.pointer (some ⟨o, 0, none⟩)), .iface 66 (.pointer (some ⟨w.heap.size, 0, none⟩))] (w.alloc (.cells #[.string s, .int .i64 0, .nilIface] 68)) fun ev w' => ev = .returned (.bool true) ∧ Ext [] (w.alloc (.cells #[.string s, .int .i64 0, .nilIface] 68)) w' := by
    have C1 := Hs.hid c1
    clear c1 heq hA ho1 E0 ho HF
    generalize w.alloc (.cells #[.string s, .int .i64 0, .nilIface] 68) = W at *
    generalize w.heap.size = A at *
    go_enter Tryd.func31, Tryd.ntmps31
    go_wp2_with (go_at_call 51; refine C1.out.mono ?_; rintro e w1 ⟨rfl, hx⟩)
    go_ret
    exact ⟨rfl, hx⟩
  have C2 := Hs.hid c2
  clear c1 c2 heq hA ho1 HF
  go_enter Tryd.func32, Tryd.ntmps32
  go_wp2_with (go_at_call 31; refine C2.out.mono ?_; rintro e w1 ⟨rfl, hx⟩)
  go_ret
  exact ⟨rfl, E0.trans' hx⟩
end Go.Proofs.YtnjjbolbemlceaaDoor
