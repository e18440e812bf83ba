/-
  errors.As and errors.Is over chains of faults.
-/
import Derived.Test.YtnjjbolbemlceaaDoorErrs
import Derived.Deep.LoopGhost
set_option linter.unusedSimpArgs false
set_option linter.unusedVariables false
set_option maxHeartbeats 4000000
set_option maxRecDepth 100000
namespace Go.Proofs.YtnjjbolbemlceaaDoor
open Go.RowKit Go.Extern.Stop Go.Stop Go.Extern Go.Hs

/-- A chain of faults, from outside in, behind which stands t. -/
def ErrV (h : Array Obj) (t : Value) : List (ByteArray × Int) → Value → Prop
  | [], v => v = t
  | (s, a) :: L, v => ∃ b u, v = .iface 66 (.pointer (some ⟨b, 0, none⟩)) ∧ h[b]? = some (.cells #[.string s, .int .i64 a, u] 68 (0, 0)) ∧ ErrV h t L u
def errN (n : Int) : Value := .iface 28 (.int .i64 n)
theorem ErrV.ext {F : List Nat} {t : Value} {w w' : World} (x : Ext F w w') (hF : ∀ b ∈ F, ∀ cs fr, w.heap[b]? ≠ some (.cells cs 68 fr)) : ∀ {L : List (ByteArray × Int)} {v : Value}, ErrV w.heap t L v → ErrV w'.heap t L v
  | [], v, h => h
  | (s, a) :: L, v, ⟨b, u, h1, h2, h3⟩ => ⟨b, u, h1, x.same h2 (fun hm => hF b hm _ _ h2), h3.ext x hF⟩
theorem ErrV.ext0 {t : Value} {w w' : World} {L : List (ByteArray × Int)} {v : Value} (h : ErrV w.heap t L v) (x : Ext [] w w') : ErrV w'.heap t L v := h.ext x (fun _ hb => by cases hb)
theorem ErrV.iface {h : Array Obj} {n : Int} : ∀ {L : List (ByteArray × Int)} {v : Value}, ErrV h (errN n) L v → ∃ ty x, v = .iface ty x
  | [], v, e => ⟨_, _, e⟩
  | (s, a) :: L, v, ⟨b, u, h1, _⟩ => ⟨_, _, h1⟩
theorem cellIn {w : World} {a : Addr} {v : Value} (h : w.cell? a = some v) : a.block < w.heap.size := by
  rcases Nat.lt_or_ge a.block w.heap.size with h1 | h1
  · exact h1
  · simp [World.cell?, Array.getElem?_eq_none h1] at h
/-- package errors' own variable. -/
def Gd (w : World) : Prop := w.cell? ⟨0, 0, none⟩ = some (.iface 125 (.agg #[.pointer (some ⟨5, 25, none⟩)]))

theorem Gd.lt {w : World} (g : Gd w) : 0 < w.heap.size := cellIn g
theorem cell_same {w w' : World} {a : Addr} {v : Value} (h : w.cell? a = some v) (e : w'.heap[a.block]? = w.heap[a.block]?) : w'.cell? a = some v := by
  rw [← h]; unfold World.cell?; rw [e]
theorem Gd.ext {F : List Nat} {w w' : World} (g : Gd w) (x : Ext F w w') (hF : 0 ∉ F) : Gd w' :=
  cell_same g (x.block _ g.lt hF)
theorem as_nil (t : Value) (w : World) :
    Calls Tryd.prog 36 #[.nilIface, t] w fun e w' => e = .returned (.bool false) ∧ w' = w := by
  go_enter Tryd.func36, Tryd.ntmps36
  go_wp2
  go_ret
  exact ⟨rfl, rfl⟩

theorem as_en (n : Int) (t : Nat) (L : List (ByteArray × Int)) (v : Value) (a : Addr) (old : Value) (w : World) (hv : ErrV w.heap (errN n) L v) (ha : w.cell? a = some (.pointer (some ⟨t, 0, none⟩))) (ht : w.heap[t]? = some (.cells #[old] 28 (0, 0))) :
    Calls Tryd.prog 56 #[v, .iface 72 (.pointer (some ⟨t, 0, none⟩)), .agg #[.pointer (some ⟨5, 72, none⟩), .pointer (some a), .int .u64 150], .iface 125 (.agg #[.pointer (some ⟨5, 28, none⟩)])] w
      fun ev w' => ev = .returned (.bool true) ∧ Ext [t] w w' ∧ w'.heap[t]? = some (.cells #[.int .i64 n] 28 (0, 0)) := by
  have h10 := @run_callFunc_extern Tryd.prog 50 _ ReflectliteType.typeOf Tryd.func50 (by kernel_rfl) (by kernel_rfl) (by kernel_rfl) (by kernel_rfl)
  have h35 := @run_callFunc_extern Tryd.prog 128 _ (ReflectliteType.relation "AssignableTo" ReflectliteType.assignableTo) Tryd.func128 (by kernel_rfl) (by kernel_rfl) (by kernel_rfl) (by kernel_rfl)
  have h11 := @run_callFunc_extern Tryd.prog 67 _ (ReflectliteValue.method (ReflectliteValue.valueError "reflectlite.Value.Elem" 0) ReflectliteValue.elem) Tryd.func67 (by kernel_rfl) (by kernel_rfl) (by kernel_rfl) (by kernel_rfl)
  have h12 := @run_callFunc_extern Tryd.prog 68 _ ReflectliteValue.set Tryd.func68 (by kernel_rfl) (by kernel_rfl) (by kernel_rfl) (by kernel_rfl)
  have h6 := @run_callFunc_extern Tryd.prog 53 _ (fun args => ReflectliteValue.unpack (args.getD 0 (.tuple #[]))) Tryd.func53 (by kernel_rfl) (by kernel_rfl) (by kernel_rfl) (by kernel_rfl)
  have tP := typeOfEP
  have tN := typeOfEN
  have mA := methodAssignableTo
  have aNN := assignENEN
  have aPN := assignEPEN
  have vN := valueOfEN
  have nP := noAsEP
  have uP := hasUnwrapEP
  have mU := methodUnwrap
  go_enter Tryd.func56, Tryd.ntmps56
  go_wp2
  have hA := heap_new w (.cells #[.pointer (some ⟨5, 72, none⟩), .pointer (some a), .int .u64 150] 98)
  have E0 : Ext [] w (w.alloc (.cells #[.pointer (some ⟨5, 72, none⟩), .pointer (some a), .int .u64 150] 98)) := (Ext.refl _ _).alloc _
  have hv0 := hv.ext0 E0
  have ha0 : (w.alloc (.cells #[.pointer (some ⟨5, 72, none⟩), .pointer (some a), .int .u64 150] 98)).cell? a = some (.pointer (some ⟨t, 0, none⟩)) := by
    rw [World.cell?_alloc_lt _ _ a (cellIn ha)]; exact ha
  have ht0 := E0.same ht (by simp)
  generalize w.alloc (.cells #[.pointer (some ⟨5, 72, none⟩), .pointer (some a), .int .u64 150] 98) = W at *
  generalize w.heap.size = A at *
  go_loopg [0] L.length (fun n0 s0 wr => ∃ L0, L0.length = n0 ∧ ErrV W.heap (errN n) L0 s0 ∧ W = wr)
  · exact ⟨L, rfl, hv0, rfl⟩
  obtain ⟨L0, rfl, hv1, rfl⟩ := hrel
  have c0 := cellAt hA 0
  have c1 := cellAt hA 1
  have c2 := cellAt hA 2
  simp at c0 c1 c2
  cases L0 with
  | nil =>
    cases hv1
    unfold errN
    have el := elemVENP a ⟨t, 0, none⟩ W ha0
    have st := setEN ⟨t, 0, none⟩ ⟨W.heap.size, 0, none⟩ n old (W.alloc (.cells #[.int .i64 n] 28)) (by simp) (by have := cellAt (heap_old' W (.cells #[.int .i64 n] 28) ht0) 0; simpa using this) (freeAt (heap_old' W _ ht0) 0)
    go_wp2
    go_ret
    refine ⟨rfl, (E0.alloc _ |>.mono (by simp)).setCell (.inl (by simp)) _, ?_⟩
    rw [heap_set (heap_old' W _ ht0) 0]
    rfl
  | cons p L0 =>
    obtain ⟨s, x⟩ := p
    obtain ⟨b, u, rfl, hb, hu⟩ := hv1
    have k2 := cellAt hb 2
    simp at k2
    obtain ⟨ty, y, rfl⟩ := hu.iface
    go_wp2
    go_roundg L0.length
    case measure => simp
    case rel => exact ⟨L0, rfl, hu, rfl⟩

theorem as_errno (n : Int) (t : Nat) (L : List (ByteArray × Int)) (v : Value) (old : Value) (w : World) (hg : Gd w) (hv : ErrV w.heap (errN n) L v) (ht : w.heap[t]? = some (.cells #[old] 28 (0, 0))) :
    Calls Tryd.prog 36 #[v, .iface 72 (.pointer (some ⟨t, 0, none⟩))] w
      fun ev w' => ev = .returned (.bool true) ∧ Ext [t] w w' ∧ w'.heap[t]? = some (.cells #[.int .i64 n] 28 (0, 0)) := by
  have h6 := @run_callFunc_extern Tryd.prog 53 _ (fun args => ReflectliteValue.unpack (args.getD 0 (.tuple #[]))) Tryd.func53 (by kernel_rfl) (by kernel_rfl) (by kernel_rfl) (by kernel_rfl)
  have h7 := @run_callFunc_extern Tryd.prog 54 _ (ReflectliteValue.methodAny (ReflectliteValue.valueError "reflectlite.Value.Type" 0) (fun t _ _ _ => ReflectliteType.toType t)) Tryd.func54 (by kernel_rfl) (by kernel_rfl) (by kernel_rfl) (by kernel_rfl)
  have h8 := @run_callFunc_extern Tryd.prog 55 _ (ReflectliteValue.method (ReflectliteValue.valueError "reflectlite.Value.IsNil" 0) ReflectliteValue.isNil) Tryd.func55 (by kernel_rfl) (by kernel_rfl) (by kernel_rfl) (by kernel_rfl)
  have h27 := @run_callFunc_extern Tryd.prog 117 _ (ReflectliteType.abiMethod fun t => do pure (.int .u8 (← Rtype.kind t))) Tryd.func117 (by kernel_rfl) (by kernel_rfl) (by kernel_rfl) (by kernel_rfl)
  have h37 := @run_callFunc_extern Tryd.prog 130 _ (ReflectliteType.method ReflectliteType.elem) Tryd.func130 (by kernel_rfl) (by kernel_rfl) (by kernel_rfl) (by kernel_rfl)
  have h38 := @run_callFunc_extern Tryd.prog 131 _ (ReflectliteType.relation "Implements" ReflectliteType.implements_) Tryd.func131 (by kernel_rfl) (by kernel_rfl) (by kernel_rfl) (by kernel_rfl)
  have f6 := valueOfENP
  have f7 := typeENP
  have mK := methodKind
  have mE := methodElem
  have mI := methodImplements
  have k1 := kindENP
  have k2 := kindEN
  have e1 := elemENP
  have i1 := implementsEN
  have hgl := hg.lt
  have E0 : Ext [] w (w.alloc (.cells #[.pointer (some ⟨t, 0, none⟩)] 72)) := (Ext.refl _ _).alloc _
  have E1 := E0.alloc (.cells #[.pointer (some ⟨5, 72, none⟩), .pointer (some ⟨w.heap.size, 0, none⟩), .int .u64 150] 98)
  have hgd := hg.ext E1 (by simp)
  unfold Gd at hgd
  have n8 := isNilENP ⟨w.heap.size, 0, none⟩ ⟨t, 0, none⟩ ((w.alloc (.cells #[.pointer (some ⟨t, 0, none⟩)] 72)).alloc (.cells #[.pointer (some ⟨5, 72, none⟩), .pointer (some ⟨w.heap.size, 0, none⟩), .int .u64 150] 98)) (by simp)
  have hv1 := hv.ext0 E1
  have ht1 := E1.same ht (by simp)
  obtain ⟨ty, y, hvy⟩ := hv.iface
  subst hvy
  go_enter Tryd.func36, Tryd.ntmps36
  go_wp2_with (go_at_call 56; refine (as_en n t L _ _ old _ hv1 (by simp) ht1).mono ?_; rintro e w1 ⟨rfl, hx, hy⟩)
  go_ret
  exact ⟨rfl, E1.mono (by simp) |>.trans' hx, hy⟩
end Go.Proofs.YtnjjbolbemlceaaDoor
