/-
  Texts of this claim, put together: Errs, Errs2, Laid, Errs3, Errs4, FaultA, FaultW, Fault2.
-/
import Derived.Test.YtjicjadibaomkaaDoorChecked
import Derived.LaidEql
import Derived.Stop.Asserts
import Derived.RowKitTokens
import Derived.Deep.LoopGhost
import Derived.Test.YtjicjadibaomkaaDoorRows
import Derived.ChangeSame
import Derived.ChangeVars
import Derived.JoinedOf
import Derived.RowKit
import Derived.LaidLaws
import Derived.LaidHandle
import Derived.Stop.Joined
import Derived.Deep.Slices
import Derived.Deep.Fields
import Derived.Carry
import Derived.ProofKit
import Derived.OpenShut
import Derived.Deep.Cut
import Derived.Test.YtjicjadibaomkaaDoorShelf
import Derived.Test.YtjicjadibaomkaaDoorPErx1
import Derived.Test.YtjicjadibaomkaaDoorMPp1
set_option linter.unusedSimpArgs false
set_option linter.unusedVariables false
set_option maxHeartbeats 2000000
set_option maxRecDepth 100000
namespace Go.Proofs.YtjicjadibaomkaaDoor
open Go.RowKit Go.Extern.Stop Go.Stop Go.Extern Go.Hs

/-! ### reflectlite's entries at this program's types -/
theorem valueOfEPP (t : Addr) (w : World) : (ReflectliteValue.unpack (.iface 107 (.pointer (some t)))).run Tryd.prog w
    = .ok (.agg #[.pointer (some ⟨5, 107, none⟩), .pointer (some ⟨w.heap.size, 0, none⟩), .int .u64 150]) (w.alloc (.cells #[.pointer (some t)] 107)) := by kernel_rfl
theorem valueOfENP (t : Addr) (w : World) : (ReflectliteValue.unpack (.iface 105 (.pointer (some t)))).run Tryd.prog w
    = .ok (.agg #[.pointer (some ⟨5, 105, none⟩), .pointer (some ⟨w.heap.size, 0, none⟩), .int .u64 150]) (w.alloc (.cells #[.pointer (some t)] 105)) := by kernel_rfl
theorem valueOfEP (e : Addr) (w : World) : (ReflectliteValue.unpack (.iface 106 (.pointer (some e)))).run Tryd.prog w
    = .ok (.agg #[.pointer (some ⟨5, 106, none⟩), .pointer (some ⟨w.heap.size, 0, none⟩), .int .u64 150]) (w.alloc (.cells #[.pointer (some e)] 106)) := by kernel_rfl
theorem valueOfEN (n : Int) (w : World) : (ReflectliteValue.unpack (.iface 70 (.int .i64 n))).run Tryd.prog w
    = .ok (.agg #[.pointer (some ⟨5, 70, none⟩), .pointer (some ⟨w.heap.size, 0, none⟩), .int .u64 130]) (w.alloc (.cells #[.int .i64 n] 70)) := by kernel_rfl
theorem typeEPP (a : Addr) (w : World) : (ReflectliteValue.methodAny (ReflectliteValue.valueError "reflectlite.Value.Type" 0) (fun t _ _ _ => ReflectliteType.toType t) #[.agg #[.pointer (some ⟨5, 107, none⟩), .pointer (some a), .int .u64 150]]).run Tryd.prog w
    = .ok (.iface 160 (.agg #[.pointer (some ⟨5, 107, none⟩)])) w := by kernel_rfl
theorem typeENP (a : Addr) (w : World) : (ReflectliteValue.methodAny (ReflectliteValue.valueError "reflectlite.Value.Type" 0) (fun t _ _ _ => ReflectliteType.toType t) #[.agg #[.pointer (some ⟨5, 105, none⟩), .pointer (some a), .int .u64 150]]).run Tryd.prog w
    = .ok (.iface 160 (.agg #[.pointer (some ⟨5, 105, none⟩)])) w := by kernel_rfl
theorem methodKind (h : Value) (w : World) : (Go.method 326 160 (.agg #[h]) "Kind").run Tryd.prog w = .ok (119, h) w := by kernel_rfl
theorem methodElem (h : Value) (w : World) : (Go.method 326 160 (.agg #[h]) "Elem").run Tryd.prog w = .ok (134, .agg #[h]) w := by kernel_rfl
theorem methodImplements (h : Value) (w : World) : (Go.method 326 160 (.agg #[h]) "Implements").run Tryd.prog w = .ok (135, .agg #[h]) w := by kernel_rfl
theorem methodAssignableTo (h : Value) (w : World) : (Go.method 326 160 (.agg #[h]) "AssignableTo").run Tryd.prog w = .ok (132, .agg #[h]) w := by kernel_rfl
theorem methodComparable (h : Value) (w : World) : (Go.method 326 160 (.agg #[h]) "Comparable").run Tryd.prog w = .ok (133, .agg #[h]) w := by kernel_rfl
theorem methodUnwrap (h : Value) (w : World) : (Go.method 326 106 h "Unwrap").run Tryd.prog w = .ok (126, h) w := by kernel_rfl
theorem methodIs (h : Value) (w : World) : (Go.method 326 106 h "Is").run Tryd.prog w = .ok (125, h) w := by kernel_rfl
theorem methodErrorEP (h : Value) (w : World) : (Go.method 326 106 h "Error").run Tryd.prog w = .ok (124, h) w := by kernel_rfl
theorem methodErrorEN (n : Int) (w : World) : (Go.method 326 70 (.int .i64 n) "Error").run Tryd.prog w = .ok (38, .int .i64 n) w := by kernel_rfl
theorem kindEPP (w : World) : ((ReflectliteType.abiMethod fun t => (fun a : Nat => Value.int IntKind.u8 (a : Int)) <$> Rtype.kind t) #[.pointer (some ⟨5, 107, none⟩)]).run Tryd.prog w = .ok (.int .u8 22) w := by kernel_rfl
theorem kindENP (w : World) : ((ReflectliteType.abiMethod fun t => (fun a : Nat => Value.int IntKind.u8 (a : Int)) <$> Rtype.kind t) #[.pointer (some ⟨5, 105, none⟩)]).run Tryd.prog w = .ok (.int .u8 22) w := by kernel_rfl
theorem kindEP (w : World) : ((ReflectliteType.abiMethod fun t => (fun a : Nat => Value.int IntKind.u8 (a : Int)) <$> Rtype.kind t) #[.pointer (some ⟨5, 106, none⟩)]).run Tryd.prog w = .ok (.int .u8 22) w := by kernel_rfl
theorem kindEN (w : World) : ((ReflectliteType.abiMethod fun t => (fun a : Nat => Value.int IntKind.u8 (a : Int)) <$> Rtype.kind t) #[.pointer (some ⟨5, 70, none⟩)]).run Tryd.prog w = .ok (.int .u8 2) w := by kernel_rfl
theorem elemEPP (w : World) : (ReflectliteType.method ReflectliteType.elem #[.agg #[.pointer (some ⟨5, 107, none⟩)]]).run Tryd.prog w = .ok (.iface 160 (.agg #[.pointer (some ⟨5, 106, none⟩)])) w := by kernel_rfl
theorem elemENP (w : World) : (ReflectliteType.method ReflectliteType.elem #[.agg #[.pointer (some ⟨5, 105, none⟩)]]).run Tryd.prog w = .ok (.iface 160 (.agg #[.pointer (some ⟨5, 70, none⟩)])) w := by kernel_rfl
theorem implementsEP (w : World) : (ReflectliteType.relation "Implements" ReflectliteType.implements_ #[.agg #[.pointer (some ⟨5, 106, none⟩)], .iface 160 (.agg #[.pointer (some ⟨5, 34, none⟩)])]).run Tryd.prog w = .ok (.bool true) w := by kernel_rfl
theorem implementsEN (w : World) : (ReflectliteType.relation "Implements" ReflectliteType.implements_ #[.agg #[.pointer (some ⟨5, 70, none⟩)], .iface 160 (.agg #[.pointer (some ⟨5, 34, none⟩)])]).run Tryd.prog w = .ok (.bool true) w := by kernel_rfl
theorem typeOfEP (v : Value) (w : World) : (ReflectliteType.typeOf #[.iface 106 v]).run Tryd.prog w = .ok (.iface 160 (.agg #[.pointer (some ⟨5, 106, none⟩)])) w := by kernel_rfl
theorem typeOfEN (v : Value) (w : World) : (ReflectliteType.typeOf #[.iface 70 v]).run Tryd.prog w = .ok (.iface 160 (.agg #[.pointer (some ⟨5, 70, none⟩)])) w := by kernel_rfl
theorem assignEPEP (w : World) : (ReflectliteType.relation "AssignableTo" ReflectliteType.assignableTo #[.agg #[.pointer (some ⟨5, 106, none⟩)], .iface 160 (.agg #[.pointer (some ⟨5, 106, none⟩)])]).run Tryd.prog w = .ok (.bool true) w := by kernel_rfl
theorem assignENEN (w : World) : (ReflectliteType.relation "AssignableTo" ReflectliteType.assignableTo #[.agg #[.pointer (some ⟨5, 70, none⟩)], .iface 160 (.agg #[.pointer (some ⟨5, 70, none⟩)])]).run Tryd.prog w = .ok (.bool true) w := by kernel_rfl
theorem assignENEP (w : World) : (ReflectliteType.relation "AssignableTo" ReflectliteType.assignableTo #[.agg #[.pointer (some ⟨5, 70, none⟩)], .iface 160 (.agg #[.pointer (some ⟨5, 106, none⟩)])]).run Tryd.prog w = .ok (.bool false) w := by kernel_rfl
theorem assignEPEN (w : World) : (ReflectliteType.relation "AssignableTo" ReflectliteType.assignableTo #[.agg #[.pointer (some ⟨5, 106, none⟩)], .iface 160 (.agg #[.pointer (some ⟨5, 70, none⟩)])]).run Tryd.prog w = .ok (.bool false) w := by kernel_rfl

/-! ### The entries that read or write memory -/
theorem rlm (z : Sem Value) (f : TypeId → Addr → Nat → Nat → Sem Value) (v : Value) :
    ReflectliteValue.method z f #[v] = (do match ← ReflectliteValue.parts v with | none => z | some (t, a, fl) => f t a fl (fl % 32)) := rfl
theorem rls (v x : Value) : ReflectliteValue.set #[v, x] = (do
    let (some (dst, a, fl), some (src, b, _)) := (← ReflectliteValue.parts v, ← ReflectliteValue.parts x)
      | unsupported (.noEntry "extern/(internal/reflectlite.Value).Set.zeroValue")
    if fl / ReflectliteValue.flagAddr % 2 == 0 then unsupported (.noEntry "extern/(internal/reflectlite.Value).Set.unaddressable")
    let val ← loadVar src b
    if ← Rtype.directlyAssignable dst src then storeVar dst a val
    else if ← Rtype.implements dst src then
      if (← Rtype.kind src) == 20 then
        match val with
        | .nilIface => unsupported (.noEntry "extern/reflectlite: a nil value of one interface type handed on as a value of another")
        | _ => storeVar dst a val
      else storeVar dst a (.iface src val)
    else panicString ("reflectlite.Set: value of type " ++ (← Rtype.spelt src) ++ " is not assignable to type " ++ (← Rtype.spelt dst))
    pure (.tuple #[])) := rfl
theorem partsEPP (a : Addr) (w : World) : (ReflectliteValue.parts (.agg #[.pointer (some ⟨5, 107, none⟩), .pointer (some a), .int .u64 150])).run Tryd.prog w = .ok (some (107, a, 150)) w := by kernel_rfl
theorem partsENP (a : Addr) (w : World) : (ReflectliteValue.parts (.agg #[.pointer (some ⟨5, 105, none⟩), .pointer (some a), .int .u64 150])).run Tryd.prog w = .ok (some (105, a, 150)) w := by kernel_rfl
theorem partsEPa (a : Addr) (w : World) : (ReflectliteValue.parts (.agg #[.pointer (some ⟨5, 106, none⟩), .pointer (some a), .int .u64 406])).run Tryd.prog w = .ok (some (106, a, 406)) w := by kernel_rfl
theorem partsEP (a : Addr) (w : World) : (ReflectliteValue.parts (.agg #[.pointer (some ⟨5, 106, none⟩), .pointer (some a), .int .u64 150])).run Tryd.prog w = .ok (some (106, a, 150)) w := by kernel_rfl
theorem partsENa (a : Addr) (w : World) : (ReflectliteValue.parts (.agg #[.pointer (some ⟨5, 70, none⟩), .pointer (some a), .int .u64 386])).run Tryd.prog w = .ok (some (70, a, 386)) w := by kernel_rfl
theorem partsEN (a : Addr) (w : World) : (ReflectliteValue.parts (.agg #[.pointer (some ⟨5, 70, none⟩), .pointer (some a), .int .u64 130])).run Tryd.prog w = .ok (some (70, a, 130)) w := by kernel_rfl
theorem elemOfEPP (w : World) : (Rtype.elem? 107).run Tryd.prog w = .ok (some 106) w := by kernel_rfl
theorem elemOfENP (w : World) : (Rtype.elem? 105).run Tryd.prog w = .ok (some 70) w := by kernel_rfl
theorem mkEP (p : Addr) (w : World) : (ReflectliteValue.mk 106 p ReflectliteValue.flagAddr).run Tryd.prog w = .ok (.agg #[.pointer (some ⟨5, 106, none⟩), .pointer (some p), .int .u64 406]) w := by kernel_rfl
theorem mkEN (p : Addr) (w : World) : (ReflectliteValue.mk 70 p ReflectliteValue.flagAddr).run Tryd.prog w = .ok (.agg #[.pointer (some ⟨5, 70, none⟩), .pointer (some p), .int .u64 386]) w := by kernel_rfl
theorem directEP (w : World) : (Rtype.directlyAssignable 106 106).run Tryd.prog w = .ok true w := by kernel_rfl
theorem directEN (w : World) : (Rtype.directlyAssignable 70 70).run Tryd.prog w = .ok true w := by kernel_rfl
theorem isNilEPP (a p : Addr) (W : World) (ha : W.cell? a = some (.pointer (some p))) :
    (ReflectliteValue.method (ReflectliteValue.valueError "reflectlite.Value.IsNil" 0) ReflectliteValue.isNil #[.agg #[.pointer (some ⟨5, 107, none⟩), .pointer (some a), .int .u64 150]]).run Tryd.prog W = .ok (.bool false) W := by
  rw [rlm]
  simp only [Sem.run_bind, partsEPP, Result.andThen]
  simp [ReflectliteValue.isNil, loadVar, isAgg, underlying, Tryd.underlying107, ha, Result.andThen]
theorem isNilENP (a p : Addr) (W : World) (ha : W.cell? a = some (.pointer (some p))) :
    (ReflectliteValue.method (ReflectliteValue.valueError "reflectlite.Value.IsNil" 0) ReflectliteValue.isNil #[.agg #[.pointer (some ⟨5, 105, none⟩), .pointer (some a), .int .u64 150]]).run Tryd.prog W = .ok (.bool false) W := by
  rw [rlm]
  simp only [Sem.run_bind, partsENP, Result.andThen]
  simp [ReflectliteValue.isNil, loadVar, isAgg, underlying, Tryd.underlying105, ha, Result.andThen]
theorem elemVEPP (a p : Addr) (W : World) (ha : W.cell? a = some (.pointer (some p))) :
    (ReflectliteValue.method (ReflectliteValue.valueError "reflectlite.Value.Elem" 0) ReflectliteValue.elem #[.agg #[.pointer (some ⟨5, 107, none⟩), .pointer (some a), .int .u64 150]]).run Tryd.prog W
      = .ok (.agg #[.pointer (some ⟨5, 106, none⟩), .pointer (some p), .int .u64 406]) W := by
  rw [rlm]
  simp only [Sem.run_bind, partsEPP, Result.andThen]
  simp [ReflectliteValue.elem, loadVar, isAgg, underlying, Tryd.underlying107, ha, Result.andThen, elemOfEPP, mkEP]
theorem elemVENP (a p : Addr) (W : World) (ha : W.cell? a = some (.pointer (some p))) :
    (ReflectliteValue.method (ReflectliteValue.valueError "reflectlite.Value.Elem" 0) ReflectliteValue.elem #[.agg #[.pointer (some ⟨5, 105, none⟩), .pointer (some a), .int .u64 150]]).run Tryd.prog W
      = .ok (.agg #[.pointer (some ⟨5, 70, none⟩), .pointer (some p), .int .u64 386]) W := by
  rw [rlm]
  simp only [Sem.run_bind, partsENP, Result.andThen]
  simp [ReflectliteValue.elem, loadVar, isAgg, underlying, Tryd.underlying105, ha, Result.andThen, elemOfENP, mkEN]
theorem setEP (ta b e : Addr) (old : Value) (W : World) (hb : W.cell? b = some (.pointer (some e))) (ht : W.cell? ta = some old) (hf : W.frozen? ta = false) :
    (ReflectliteValue.set #[.agg #[.pointer (some ⟨5, 106, none⟩), .pointer (some ta), .int .u64 406], .agg #[.pointer (some ⟨5, 106, none⟩), .pointer (some b), .int .u64 150]]).run Tryd.prog W
      = .ok (.tuple #[]) (W.setCell ta (.pointer (some e))) := by
  rw [rls]
  simp only [Sem.run_bind, partsEPa, partsEP, Result.andThen]
  simp [ReflectliteValue.flagAddr, loadVar, isAgg, underlying, Tryd.underlying106, hb, Result.andThen, directEP, storeVar, Value.cells, storeCells, Addr.add]
  rw [run_store Tryd.prog W ta _ _ (by rfl)]
  simp [ht, hf]
theorem setEN (ta b : Addr) (n : Int) (old : Value) (W : World) (hb : W.cell? b = some (.int .i64 n)) (ht : W.cell? ta = some old) (hf : W.frozen? ta = false) :
    (ReflectliteValue.set #[.agg #[.pointer (some ⟨5, 70, none⟩), .pointer (some ta), .int .u64 386], .agg #[.pointer (some ⟨5, 70, none⟩), .pointer (some b), .int .u64 130]]).run Tryd.prog W
      = .ok (.tuple #[]) (W.setCell ta (.int .i64 n)) := by
  rw [rls]
  simp only [Sem.run_bind, partsENa, partsEN, Result.andThen]
  simp [ReflectliteValue.flagAddr, loadVar, isAgg, underlying, Tryd.underlying70, hb, Result.andThen, directEN, storeVar, Value.cells, storeCells, Addr.add]
  rw [run_store Tryd.prog W ta _ _ (by rfl)]
  simp [ht, hf]

/-! ### The assertions -/
theorem noAsEP (v : Value) (xT : TypeId) (w : World) : (Instr.typeAssert (.iface 106 v) xT 164 true).run Tryd.prog w = .ok (.tuple #[.nilIface, .bool false]) w := run_typeAssert_lacksB Tryd.underlying164 (by kernel_rfl) (by kernel_rfl) v xT w
theorem noAsEN (v : Value) (xT : TypeId) (w : World) : (Instr.typeAssert (.iface 70 v) xT 164 true).run Tryd.prog w = .ok (.tuple #[.nilIface, .bool false]) w := run_typeAssert_lacksB Tryd.underlying164 (by kernel_rfl) (by kernel_rfl) v xT w
theorem hasIsEP (v : Value) (xT : TypeId) (w : World) : (Instr.typeAssert (.iface 106 v) xT 172 true).run Tryd.prog w = .ok (.tuple #[.iface 106 v, .bool true]) w := run_typeAssert_hasB Tryd.underlying172 (by kernel_rfl) v xT w
theorem noIsEN (v : Value) (xT : TypeId) (w : World) : (Instr.typeAssert (.iface 70 v) xT 172 true).run Tryd.prog w = .ok (.tuple #[.nilIface, .bool false]) w := run_typeAssert_lacksB Tryd.underlying172 (by kernel_rfl) (by kernel_rfl) v xT w
theorem hasUnwrapEP (v : Value) (xT : TypeId) (w : World) : (Instr.typeAssert (.iface 106 v) xT 167 true).run Tryd.prog w = .ok (.tuple #[.iface 106 v, .bool true]) w := run_typeAssert_hasB Tryd.underlying167 (by kernel_rfl) v xT w
theorem noUnwrapEN (v : Value) (xT : TypeId) (w : World) : (Instr.typeAssert (.iface 70 v) xT 167 true).run Tryd.prog w = .ok (.tuple #[.nilIface, .bool false]) w := run_typeAssert_lacksB Tryd.underlying167 (by kernel_rfl) (by kernel_rfl) v xT w
theorem noUnwrapsEN (v : Value) (xT : TypeId) (w : World) : (Instr.typeAssert (.iface 70 v) xT 169 true).run Tryd.prog w = .ok (.tuple #[.nilIface, .bool false]) w := run_typeAssert_lacksB Tryd.underlying169 (by kernel_rfl) (by kernel_rfl) v xT w
theorem compEP : (Tryd.prog.info? 106).map (·.comparable) = some true := by kernel_rfl
theorem compEN : (Tryd.prog.info? 70).map (·.comparable) = some true := by kernel_rfl
theorem sizeFault : (Tryd.prog.info? 109).map (·.size) = some 3 := by kernel_rfl
theorem isTypeEP (v : Value) (xT : TypeId) (w : World) : (Instr.typeAssert (.iface 106 v) xT 106 true).run Tryd.prog w = .ok (.tuple #[v, .bool true]) w := by kernel_rfl
theorem isTypeEN (v : Value) (xT : TypeId) (w : World) : (Instr.typeAssert (.iface 70 v) xT 106 true).run Tryd.prog w = .ok (.tuple #[.pointer none, .bool false]) w := by kernel_rfl
end Go.Proofs.YtjicjadibaomkaaDoor
set_option linter.unusedSimpArgs false
set_option linter.unusedVariables false
set_option maxHeartbeats 4000000
set_option maxRecDepth 100000
namespace Go.Proofs.YtjicjadibaomkaaDoor
open Go.RowKit Go.Extern.Stop Go.Stop Go.Extern Go.Hs

/-- A chain of faults, from outside in, behind which stands t. -/
def ErrV (h : Array Obj) (t : Value) : List (ByteArray × Int) → Value → Prop
  | [], v => v = t
  | (s, a) :: L, v => ∃ b u, v = .iface 106 (.pointer (some ⟨b, 0, none⟩)) ∧ h[b]? = some (.cells #[.string s, .int .i64 a, u] 109 (0, 0)) ∧ ErrV h t L u
def errN (n : Int) : Value := .iface 70 (.int .i64 n)
theorem ErrV.ext {F : List Nat} {t : Value} {w w' : World} (x : Ext F w w') (hF : ∀ b ∈ F, ∀ cs fr, w.heap[b]? ≠ some (.cells cs 109 fr)) : ∀ {L : List (ByteArray × Int)} {v : Value}, ErrV w.heap t L v → ErrV w'.heap t L v
  | [], v, h => h
  | (s, a) :: L, v, ⟨b, u, h1, h2, h3⟩ => ⟨b, u, h1, x.same h2 (fun hm => hF b hm _ _ h2), h3.ext x hF⟩
theorem ErrV.ext0 {t : Value} {w w' : World} {L : List (ByteArray × Int)} {v : Value} (h : ErrV w.heap t L v) (x : Ext [] w w') : ErrV w'.heap t L v := h.ext x (fun _ hb => by cases hb)
theorem ErrV.iface {h : Array Obj} {n : Int} : ∀ {L : List (ByteArray × Int)} {v : Value}, ErrV h (errN n) L v → ∃ ty x, v = .iface ty x
  | [], v, e => ⟨_, _, e⟩
  | (s, a) :: L, v, ⟨b, u, h1, _⟩ => ⟨_, _, h1⟩
theorem cellIn {w : World} {a : Addr} {v : Value} (h : w.cell? a = some v) : a.block < w.heap.size := by
  rcases Nat.lt_or_ge a.block w.heap.size with h1 | h1
  · exact h1
  · simp [World.cell?, Array.getElem?_eq_none h1] at h
/-- package errors' own variable. -/
def Gd (w : World) : Prop := w.cell? ⟨0, 0, none⟩ = some (.iface 160 (.agg #[.pointer (some ⟨5, 34, none⟩)]))

theorem Gd.lt {w : World} (g : Gd w) : 0 < w.heap.size := cellIn g
theorem cell_same {w w' : World} {a : Addr} {v : Value} (h : w.cell? a = some v) (e : w'.heap[a.block]? = w.heap[a.block]?) : w'.cell? a = some v := by
  rw [← h]; unfold World.cell?; rw [e]
theorem Gd.ext {F : List Nat} {w w' : World} (g : Gd w) (x : Ext F w w') (hF : 0 ∉ F) : Gd w' :=
  cell_same g (x.block _ g.lt hF)
theorem as_nil (t : Value) (w : World) :
    Calls Tryd.prog 49 #[.nilIface, t] w fun e w' => e = .returned (.bool false) ∧ w' = w := by
  go_enter Tryd.func49, Tryd.ntmps49
  go_wp2
  go_ret
  exact ⟨rfl, rfl⟩

theorem as_en (n : Int) (t : Nat) (L : List (ByteArray × Int)) (v : Value) (a : Addr) (old : Value) (w : World) (hv : ErrV w.heap (errN n) L v) (ha : w.cell? a = some (.pointer (some ⟨t, 0, none⟩))) (ht : w.heap[t]? = some (.cells #[old] 70 (0, 0))) :
    Calls Tryd.prog 67 #[v, .iface 105 (.pointer (some ⟨t, 0, none⟩)), .agg #[.pointer (some ⟨5, 105, none⟩), .pointer (some a), .int .u64 150], .iface 160 (.agg #[.pointer (some ⟨5, 70, none⟩)])] w
      fun ev w' => ev = .returned (.bool true) ∧ Ext [t] w w' ∧ w'.heap[t]? = some (.cells #[.int .i64 n] 70 (0, 0)) := by
  have h10 := @run_callFunc_extern Tryd.prog 68 _ ReflectliteType.typeOf Tryd.func68 (by kernel_rfl) (by kernel_rfl) (by kernel_rfl) (by kernel_rfl)
  have h35 := @run_callFunc_extern Tryd.prog 132 _ (ReflectliteType.relation "AssignableTo" ReflectliteType.assignableTo) Tryd.func132 (by kernel_rfl) (by kernel_rfl) (by kernel_rfl) (by kernel_rfl)
  have h11 := @run_callFunc_extern Tryd.prog 78 _ (ReflectliteValue.method (ReflectliteValue.valueError "reflectlite.Value.Elem" 0) ReflectliteValue.elem) Tryd.func78 (by kernel_rfl) (by kernel_rfl) (by kernel_rfl) (by kernel_rfl)
  have h12 := @run_callFunc_extern Tryd.prog 79 _ ReflectliteValue.set Tryd.func79 (by kernel_rfl) (by kernel_rfl) (by kernel_rfl) (by kernel_rfl)
  have h6 := @run_callFunc_extern Tryd.prog 64 _ (fun args => ReflectliteValue.unpack (args.getD 0 (.tuple #[]))) Tryd.func64 (by kernel_rfl) (by kernel_rfl) (by kernel_rfl) (by kernel_rfl)
  have tP := typeOfEP
  have tN := typeOfEN
  have mA := methodAssignableTo
  have aNN := assignENEN
  have aPN := assignEPEN
  have vN := valueOfEN
  have nP := noAsEP
  have uP := hasUnwrapEP
  have mU := methodUnwrap
  go_enter Tryd.func67, Tryd.ntmps67
  go_wp2
  have hA := heap_new w (.cells #[.pointer (some ⟨5, 105, none⟩), .pointer (some a), .int .u64 150] 134)
  have E0 : Ext [] w (w.alloc (.cells #[.pointer (some ⟨5, 105, none⟩), .pointer (some a), .int .u64 150] 134)) := (Ext.refl _ _).alloc _
  have hv0 := hv.ext0 E0
  have ha0 : (w.alloc (.cells #[.pointer (some ⟨5, 105, none⟩), .pointer (some a), .int .u64 150] 134)).cell? a = some (.pointer (some ⟨t, 0, none⟩)) := by
    rw [World.cell?_alloc_lt _ _ a (cellIn ha)]; exact ha
  have ht0 := E0.same ht (by simp)
  generalize w.alloc (.cells #[.pointer (some ⟨5, 105, none⟩), .pointer (some a), .int .u64 150] 134) = W at *
  generalize w.heap.size = A at *
  go_loopg [0] L.length (fun n0 s0 wr => ∃ L0, L0.length = n0 ∧ ErrV W.heap (errN n) L0 s0 ∧ W = wr)
  · exact ⟨L, rfl, hv0, rfl⟩
  obtain ⟨L0, rfl, hv1, rfl⟩ := hrel
  have c0 := cellAt hA 0
  have c1 := cellAt hA 1
  have c2 := cellAt hA 2
  simp at c0 c1 c2
  cases L0 with
  | nil =>
    cases hv1
    unfold errN
    have el := elemVENP a ⟨t, 0, none⟩ W ha0
    have st := setEN ⟨t, 0, none⟩ ⟨W.heap.size, 0, none⟩ n old (W.alloc (.cells #[.int .i64 n] 70)) (by simp) (by have := cellAt (heap_old' W (.cells #[.int .i64 n] 70) ht0) 0; simpa using this) (freeAt (heap_old' W _ ht0) 0)
    go_wp2
    go_ret
    refine ⟨rfl, (E0.alloc _ |>.mono (by simp)).setCell (.inl (by simp)) _, ?_⟩
    rw [heap_set (heap_old' W _ ht0) 0]
    rfl
  | cons p L0 =>
    obtain ⟨s, x⟩ := p
    obtain ⟨b, u, rfl, hb, hu⟩ := hv1
    have k2 := cellAt hb 2
    simp at k2
    obtain ⟨ty, y, rfl⟩ := hu.iface
    go_wp2
    go_roundg L0.length
    case measure => simp
    case rel => exact ⟨L0, rfl, hu, rfl⟩

theorem as_errno (n : Int) (t : Nat) (L : List (ByteArray × Int)) (v : Value) (old : Value) (w : World) (hg : Gd w) (hv : ErrV w.heap (errN n) L v) (ht : w.heap[t]? = some (.cells #[old] 70 (0, 0))) :
    Calls Tryd.prog 49 #[v, .iface 105 (.pointer (some ⟨t, 0, none⟩))] w
      fun ev w' => ev = .returned (.bool true) ∧ Ext [t] w w' ∧ w'.heap[t]? = some (.cells #[.int .i64 n] 70 (0, 0)) := by
  have h6 := @run_callFunc_extern Tryd.prog 64 _ (fun args => ReflectliteValue.unpack (args.getD 0 (.tuple #[]))) Tryd.func64 (by kernel_rfl) (by kernel_rfl) (by kernel_rfl) (by kernel_rfl)
  have h7 := @run_callFunc_extern Tryd.prog 65 _ (ReflectliteValue.methodAny (ReflectliteValue.valueError "reflectlite.Value.Type" 0) (fun t _ _ _ => ReflectliteType.toType t)) Tryd.func65 (by kernel_rfl) (by kernel_rfl) (by kernel_rfl) (by kernel_rfl)
  have h8 := @run_callFunc_extern Tryd.prog 66 _ (ReflectliteValue.method (ReflectliteValue.valueError "reflectlite.Value.IsNil" 0) ReflectliteValue.isNil) Tryd.func66 (by kernel_rfl) (by kernel_rfl) (by kernel_rfl) (by kernel_rfl)
  have h27 := @run_callFunc_extern Tryd.prog 119 _ (ReflectliteType.abiMethod fun t => do pure (.int .u8 (← Rtype.kind t))) Tryd.func119 (by kernel_rfl) (by kernel_rfl) (by kernel_rfl) (by kernel_rfl)
  have h37 := @run_callFunc_extern Tryd.prog 134 _ (ReflectliteType.method ReflectliteType.elem) Tryd.func134 (by kernel_rfl) (by kernel_rfl) (by kernel_rfl) (by kernel_rfl)
  have h38 := @run_callFunc_extern Tryd.prog 135 _ (ReflectliteType.relation "Implements" ReflectliteType.implements_) Tryd.func135 (by kernel_rfl) (by kernel_rfl) (by kernel_rfl) (by kernel_rfl)
  have f6 := valueOfENP
  have f7 := typeENP
  have mK := methodKind
  have mE := methodElem
  have mI := methodImplements
  have k1 := kindENP
  have k2 := kindEN
  have e1 := elemENP
  have i1 := implementsEN
  have hgl := hg.lt
  have E0 : Ext [] w (w.alloc (.cells #[.pointer (some ⟨t, 0, none⟩)] 105)) := (Ext.refl _ _).alloc _
  have E1 := E0.alloc (.cells #[.pointer (some ⟨5, 105, none⟩), .pointer (some ⟨w.heap.size, 0, none⟩), .int .u64 150] 134)
  have hgd := hg.ext E1 (by simp)
  unfold Gd at hgd
  have n8 := isNilENP ⟨w.heap.size, 0, none⟩ ⟨t, 0, none⟩ ((w.alloc (.cells #[.pointer (some ⟨t, 0, none⟩)] 105)).alloc (.cells #[.pointer (some ⟨5, 105, none⟩), .pointer (some ⟨w.heap.size, 0, none⟩), .int .u64 150] 134)) (by simp)
  have hv1 := hv.ext0 E1
  have ht1 := E1.same ht (by simp)
  obtain ⟨ty, y, hvy⟩ := hv.iface
  subst hvy
  go_enter Tryd.func49, Tryd.ntmps49
  go_wp2_with (go_at_call 67; refine (as_en n t L _ _ old _ hv1 (by simp) ht1).mono ?_; rintro e w1 ⟨rfl, hx, hy⟩)
  go_ret
  exact ⟨rfl, E1.mono (by simp) |>.trans' hx, hy⟩
end Go.Proofs.YtjicjadibaomkaaDoor
set_option linter.unusedSimpArgs false
set_option linter.unusedVariables false
namespace Go.Proofs.YtjicjadibaomkaaDoor
open Go.ChangeShapes Go.WideShapes Go.Deep Go.RowKit Go.Hs

theorem errType : Tryd.prog.globalNamed "errors.errorType" = some 0 := by kernel_rfl
theorem rtypeIs : (Tryd.prog.cutTypes.find? (·.1 == "internal/reflectlite.rtype")).map (·.2) = some 160 := by kernel_rfl
theorem oneErrRow : ((List.range 226).filter fun t => Tryd.prog.rowNamed t [101, 114, 114, 111, 114]) = [34] := by kernel_rfl
theorem typesSize : Tryd.prog.types.size = 226 := by kernel_rfl
def laidE : List (String × DataW Unit) := [("errors.errorType", Rows.laid_errors_errorType)]
theorem gd_of_laid {W : World} (h : laidMetH Tryd.prog laidE W) : Gd W := by
  have h' : laidMet Tryd.prog [] W ∧ handlesMet Tryd.prog laidE W := h
  obtain ⟨name, u, ty, e1, e2, e3, e4, e5⟩ := h'.2 _ (List.mem_singleton.2 rfl)
  have en : name = [101, 114, 114, 111, 114] := (Option.some.inj e1).symm
  subst en
  obtain rfl := Option.some.inj (rtypeIs.symm.trans e2)
  have hm : ty ∈ (List.range 226).filter fun t => Tryd.prog.rowNamed t [101, 114, 114, 111, 114] := List.mem_filter.2 ⟨List.mem_range.2 (by rw [← typesSize]; exact e3), e4⟩
  rw [oneErrRow] at hm
  obtain rfl := List.mem_singleton.1 hm
  have hh : typeHandle Tryd.prog 34 = .pointer (some ⟨5, 34, none⟩) := by kernel_rfl
  rw [hh] at e5
  unfold Gd
  simpa using World.var?_cell errType e5 0
noncomputable def laidWorld (os : Os) : World :=
  let w0 := World.holding Tryd.prog os ⟨#[], #[], []⟩
  { w0 with heap := w0.heap.modify 0 fun
      | .cells _ t frozen => .cells #[.iface 160 (.agg #[.pointer (some ⟨5, 34, none⟩)])] t frozen
      | o => o }
theorem laidWorld_met (os : Os) (args : Array Value) : laidMetH Tryd.prog laidE ((laidWorld os).forCall (fun _ _ => 0) ⟨#[], args, []⟩).memory :=
  laidMetH_of_parts (laidMet_nil _ _) (by kernel_rfl)
end Go.Proofs.YtjicjadibaomkaaDoor
set_option linter.unusedSimpArgs false
set_option linter.unusedVariables false
set_option maxHeartbeats 4000000
set_option maxRecDepth 100000
namespace Go.Proofs.YtjicjadibaomkaaDoor
open Go.RowKit Go.Extern.Stop Go.Stop Go.Extern Go.Hs

theorem as_ep_hit (t : Nat) (b : Addr) (a : Addr) (old : Value) (w : World) (ha : w.cell? a = some (.pointer (some ⟨t, 0, none⟩))) (ht : w.heap[t]? = some (.cells #[old] 106 (0, 0))) :
    Calls Tryd.prog 67 #[.iface 106 (.pointer (some b)), .iface 107 (.pointer (some ⟨t, 0, none⟩)), .agg #[.pointer (some ⟨5, 107, none⟩), .pointer (some a), .int .u64 150], .iface 160 (.agg #[.pointer (some ⟨5, 106, none⟩)])] w
      fun ev w' => ev = .returned (.bool true) ∧ Ext [t] w w' ∧ w'.heap[t]? = some (.cells #[.pointer (some b)] 106 (0, 0)) := by
  have h10 := @run_callFunc_extern Tryd.prog 68 _ ReflectliteType.typeOf Tryd.func68 (by kernel_rfl) (by kernel_rfl) (by kernel_rfl) (by kernel_rfl)
  have h35 := @run_callFunc_extern Tryd.prog 132 _ (ReflectliteType.relation "AssignableTo" ReflectliteType.assignableTo) Tryd.func132 (by kernel_rfl) (by kernel_rfl) (by kernel_rfl) (by kernel_rfl)
  have h11 := @run_callFunc_extern Tryd.prog 78 _ (ReflectliteValue.method (ReflectliteValue.valueError "reflectlite.Value.Elem" 0) ReflectliteValue.elem) Tryd.func78 (by kernel_rfl) (by kernel_rfl) (by kernel_rfl) (by kernel_rfl)
  have h12 := @run_callFunc_extern Tryd.prog 79 _ ReflectliteValue.set Tryd.func79 (by kernel_rfl) (by kernel_rfl) (by kernel_rfl) (by kernel_rfl)
  have h6 := @run_callFunc_extern Tryd.prog 64 _ (fun args => ReflectliteValue.unpack (args.getD 0 (.tuple #[]))) Tryd.func64 (by kernel_rfl) (by kernel_rfl) (by kernel_rfl) (by kernel_rfl)
  have tP := typeOfEP
  have mA := methodAssignableTo
  have aPP := assignEPEP
  have vP := valueOfEP
  have hA := heap_new w (.cells #[.pointer (some ⟨5, 107, none⟩), .pointer (some a), .int .u64 150] 134)
  have E0 : Ext [] w (w.alloc (.cells #[.pointer (some ⟨5, 107, none⟩), .pointer (some a), .int .u64 150] 134)) := (Ext.refl _ _).alloc _
  have ha0 : (w.alloc (.cells #[.pointer (some ⟨5, 107, none⟩), .pointer (some a), .int .u64 150] 134)).cell? a = some (.pointer (some ⟨t, 0, none⟩)) := by
    rw [World.cell?_alloc_lt _ _ a (cellIn ha)]; exact ha
  have ht0 := E0.same ht (by simp)
  go_enter Tryd.func67, Tryd.ntmps67
  go_wp2
  generalize w.alloc (.cells #[.pointer (some ⟨5, 107, none⟩), .pointer (some a), .int .u64 150] 134) = W at *
  generalize w.heap.size = A at *
  have c0 := cellAt hA 0
  have c1 := cellAt hA 1
  have c2 := cellAt hA 2
  simp at c0 c1 c2
  refine wp_loop_rounds 1 ?_
  rw [rounds_succ]
  have el := elemVEPP a ⟨t, 0, none⟩ W ha0
  have st := setEP ⟨t, 0, none⟩ ⟨W.heap.size, 0, none⟩ b old (W.alloc (.cells #[.pointer (some b)] 106)) (by simp) (by have := cellAt (heap_old' W (.cells #[.pointer (some b)] 106) ht0) 0; simpa using this) (freeAt (heap_old' W _ ht0) 0)
  go_wp2
  go_ret
  refine ⟨rfl, (E0.alloc _ |>.mono (by simp)).setCell (.inl (by simp)) _, ?_⟩
  rw [heap_set (heap_old' W _ ht0) 0]
  rfl
theorem as_ep_miss (t : Nat) (n : Int) (a : Addr) (old : Value) (w : World) (ha : w.cell? a = some (.pointer (some ⟨t, 0, none⟩))) (ht : w.heap[t]? = some (.cells #[old] 106 (0, 0))) :
    Calls Tryd.prog 67 #[.iface 70 (.int .i64 n), .iface 107 (.pointer (some ⟨t, 0, none⟩)), .agg #[.pointer (some ⟨5, 107, none⟩), .pointer (some a), .int .u64 150], .iface 160 (.agg #[.pointer (some ⟨5, 106, none⟩)])] w
      fun ev w' => ev = .returned (.bool false) ∧ Ext [] w w' := by
  have h10 := @run_callFunc_extern Tryd.prog 68 _ ReflectliteType.typeOf Tryd.func68 (by kernel_rfl) (by kernel_rfl) (by kernel_rfl) (by kernel_rfl)
  have h35 := @run_callFunc_extern Tryd.prog 132 _ (ReflectliteType.relation "AssignableTo" ReflectliteType.assignableTo) Tryd.func132 (by kernel_rfl) (by kernel_rfl) (by kernel_rfl) (by kernel_rfl)
  have tN := typeOfEN
  have mA := methodAssignableTo
  have aNP := assignENEP
  have nN := noAsEN
  have uN := noUnwrapEN
  have sN := noUnwrapsEN
  have hA := heap_new w (.cells #[.pointer (some ⟨5, 107, none⟩), .pointer (some a), .int .u64 150] 134)
  have E0 : Ext [] w (w.alloc (.cells #[.pointer (some ⟨5, 107, none⟩), .pointer (some a), .int .u64 150] 134)) := (Ext.refl _ _).alloc _
  have ha0 : (w.alloc (.cells #[.pointer (some ⟨5, 107, none⟩), .pointer (some a), .int .u64 150] 134)).cell? a = some (.pointer (some ⟨t, 0, none⟩)) := by
    rw [World.cell?_alloc_lt _ _ a (cellIn ha)]; exact ha
  have ht0 := E0.same ht (by simp)
  go_enter Tryd.func67, Tryd.ntmps67
  go_wp2
  generalize w.alloc (.cells #[.pointer (some ⟨5, 107, none⟩), .pointer (some a), .int .u64 150] 134) = W at *
  generalize w.heap.size = A at *
  have c0 := cellAt hA 0
  have c1 := cellAt hA 1
  have c2 := cellAt hA 2
  simp at c0 c1 c2
  refine wp_loop_rounds 1 ?_
  rw [rounds_succ]
  go_wp2
  go_ret
  exact ⟨rfl, E0⟩
theorem as_fault_hit (t : Nat) (b : Addr) (old : Value) (w : World) (hg : Gd w) (ht : w.heap[t]? = some (.cells #[old] 106 (0, 0))) :
    Calls Tryd.prog 49 #[.iface 106 (.pointer (some b)), .iface 107 (.pointer (some ⟨t, 0, none⟩))] w
      fun ev w' => ev = .returned (.bool true) ∧ Ext [t] w w' ∧ w'.heap[t]? = some (.cells #[.pointer (some b)] 106 (0, 0)) := by
  have h6 := @run_callFunc_extern Tryd.prog 64 _ (fun args => ReflectliteValue.unpack (args.getD 0 (.tuple #[]))) Tryd.func64 (by kernel_rfl) (by kernel_rfl) (by kernel_rfl) (by kernel_rfl)
  have h7 := @run_callFunc_extern Tryd.prog 65 _ (ReflectliteValue.methodAny (ReflectliteValue.valueError "reflectlite.Value.Type" 0) (fun t _ _ _ => ReflectliteType.toType t)) Tryd.func65 (by kernel_rfl) (by kernel_rfl) (by kernel_rfl) (by kernel_rfl)
  have h8 := @run_callFunc_extern Tryd.prog 66 _ (ReflectliteValue.method (ReflectliteValue.valueError "reflectlite.Value.IsNil" 0) ReflectliteValue.isNil) Tryd.func66 (by kernel_rfl) (by kernel_rfl) (by kernel_rfl) (by kernel_rfl)
  have h27 := @run_callFunc_extern Tryd.prog 119 _ (ReflectliteType.abiMethod fun t => do pure (.int .u8 (← Rtype.kind t))) Tryd.func119 (by kernel_rfl) (by kernel_rfl) (by kernel_rfl) (by kernel_rfl)
  have h37 := @run_callFunc_extern Tryd.prog 134 _ (ReflectliteType.method ReflectliteType.elem) Tryd.func134 (by kernel_rfl) (by kernel_rfl) (by kernel_rfl) (by kernel_rfl)
  have h38 := @run_callFunc_extern Tryd.prog 135 _ (ReflectliteType.relation "Implements" ReflectliteType.implements_) Tryd.func135 (by kernel_rfl) (by kernel_rfl) (by kernel_rfl) (by kernel_rfl)
  have f6 := valueOfEPP
  have f7 := typeEPP
  have mK := methodKind
  have mE := methodElem
  have mI := methodImplements
  have k1 := kindEPP
  have k2 := kindEP
  have e1 := elemEPP
  have i1 := implementsEP
  have hgl := hg.lt
  have E0 : Ext [] w (w.alloc (.cells #[.pointer (some ⟨t, 0, none⟩)] 107)) := (Ext.refl _ _).alloc _
  have E1 := E0.alloc (.cells #[.pointer (some ⟨5, 107, none⟩), .pointer (some ⟨w.heap.size, 0, none⟩), .int .u64 150] 134)
  have hgd := hg.ext E1 (by simp)
  unfold Gd at hgd
  have n8 := isNilEPP ⟨w.heap.size, 0, none⟩ ⟨t, 0, none⟩ ((w.alloc (.cells #[.pointer (some ⟨t, 0, none⟩)] 107)).alloc (.cells #[.pointer (some ⟨5, 107, none⟩), .pointer (some ⟨w.heap.size, 0, none⟩), .int .u64 150] 134)) (by simp)
  have ht1 := E1.same ht (by simp)
  go_enter Tryd.func49, Tryd.ntmps49
  go_wp2_with (go_at_call 67; refine (as_ep_hit t b _ old _ (by simp) ht1).mono ?_; rintro e w1 ⟨rfl, hx, hy⟩)
  go_ret
  exact ⟨rfl, E1.mono (by simp) |>.trans' hx, hy⟩
theorem as_fault_miss (t : Nat) (n : Int) (old : Value) (w : World) (hg : Gd w) (ht : w.heap[t]? = some (.cells #[old] 106 (0, 0))) :
    Calls Tryd.prog 49 #[.iface 70 (.int .i64 n), .iface 107 (.pointer (some ⟨t, 0, none⟩))] w
      fun ev w' => ev = .returned (.bool false) ∧ Ext [] w w' := by
  have h6 := @run_callFunc_extern Tryd.prog 64 _ (fun args => ReflectliteValue.unpack (args.getD 0 (.tuple #[]))) Tryd.func64 (by kernel_rfl) (by kernel_rfl) (by kernel_rfl) (by kernel_rfl)
  have h7 := @run_callFunc_extern Tryd.prog 65 _ (ReflectliteValue.methodAny (ReflectliteValue.valueError "reflectlite.Value.Type" 0) (fun t _ _ _ => ReflectliteType.toType t)) Tryd.func65 (by kernel_rfl) (by kernel_rfl) (by kernel_rfl) (by kernel_rfl)
  have h8 := @run_callFunc_extern Tryd.prog 66 _ (ReflectliteValue.method (ReflectliteValue.valueError "reflectlite.Value.IsNil" 0) ReflectliteValue.isNil) Tryd.func66 (by kernel_rfl) (by kernel_rfl) (by kernel_rfl) (by kernel_rfl)
  have h27 := @run_callFunc_extern Tryd.prog 119 _ (ReflectliteType.abiMethod fun t => do pure (.int .u8 (← Rtype.kind t))) Tryd.func119 (by kernel_rfl) (by kernel_rfl) (by kernel_rfl) (by kernel_rfl)
  have h37 := @run_callFunc_extern Tryd.prog 134 _ (ReflectliteType.method ReflectliteType.elem) Tryd.func134 (by kernel_rfl) (by kernel_rfl) (by kernel_rfl) (by kernel_rfl)
  have h38 := @run_callFunc_extern Tryd.prog 135 _ (ReflectliteType.relation "Implements" ReflectliteType.implements_) Tryd.func135 (by kernel_rfl) (by kernel_rfl) (by kernel_rfl) (by kernel_rfl)
  have f6 := valueOfEPP
  have f7 := typeEPP
  have mK := methodKind
  have mE := methodElem
  have mI := methodImplements
  have k1 := kindEPP
  have k2 := kindEP
  have e1 := elemEPP
  have i1 := implementsEP
  have hgl := hg.lt
  have E0 : Ext [] w (w.alloc (.cells #[.pointer (some ⟨t, 0, none⟩)] 107)) := (Ext.refl _ _).alloc _
  have E1 := E0.alloc (.cells #[.pointer (some ⟨5, 107, none⟩), .pointer (some ⟨w.heap.size, 0, none⟩), .int .u64 150] 134)
  have hgd := hg.ext E1 (by simp)
  unfold Gd at hgd
  have n8 := isNilEPP ⟨w.heap.size, 0, none⟩ ⟨t, 0, none⟩ ((w.alloc (.cells #[.pointer (some ⟨t, 0, none⟩)] 107)).alloc (.cells #[.pointer (some ⟨5, 107, none⟩), .pointer (some ⟨w.heap.size, 0, none⟩), .int .u64 150] 134)) (by simp)
  have ht1 := E1.same ht (by simp)
  go_enter Tryd.func49, Tryd.ntmps49
  go_wp2_with (go_at_call 67; refine (as_ep_miss t n _ old _ (by simp) ht1).mono ?_; rintro e w1 ⟨rfl, hx⟩)
  go_ret
  exact ⟨rfl, E1.trans' hx⟩
end Go.Proofs.YtjicjadibaomkaaDoor
set_option linter.unusedSimpArgs false
set_option linter.unusedVariables false
set_option maxHeartbeats 4000000
set_option maxRecDepth 100000
namespace Go.Proofs.YtjicjadibaomkaaDoor
open Go.RowKit Go.Extern.Stop Go.Stop Go.Extern Go.Hs

theorem eq_en (a b : Int) (w : World) : (binOp .eql 34 (.iface 70 (.int .i64 a)) (.iface 70 (.int .i64 b))).run Tryd.prog w = .ok (.bool (a == b)) w := by
  obtain ⟨i, hi, hcmp⟩ := Option.map_eq_some_iff.1 compEN
  have h : ∀ d : Nat, (Op.equalIn (d + 2) 34 (.iface 70 (.int .i64 a)) (.iface 70 (.int .i64 b))).run Tryd.prog w = .ok (a == b) w := fun d => by
    simp [Op.equalIn, run_underlying Tryd.underlying34, run_underlying Tryd.underlying70, typeInfo, hi, hcmp]
  simp only [binOp]
  simp [Op.equal, Op.maxDepth, h 9998]
theorem eq_ep_en (a b : Value) (w : World) : (binOp .eql 34 (.iface 106 a) (.iface 70 b)).run Tryd.prog w = .ok (.bool false) w :=
  run_eql_iface_types _ _ _ _ Tryd.underlying34 (by decide) w
theorem eq_en_ep (a b : Value) (w : World) : (binOp .eql 34 (.iface 70 a) (.iface 106 b)).run Tryd.prog w = .ok (.bool false) w :=
  run_eql_iface_types _ _ _ _ Tryd.underlying34 (by decide) w

theorem str_beq (r s : ByteArray) : (r.toList == s.toList) = decide (r = s) := by
  have h : ∀ a b : ByteArray, a.toList = b.toList → a = b := fun a b e => by
    rw [ByteArray.toList_eq, ByteArray.toList_eq] at e
    exact ByteArray.ext (Array.toList_inj.1 e)
  by_cases e : r = s
  · subst e; simp
  · rw [decide_eq_false e, beq_eq_false_iff_ne]; exact fun h1 => e (h _ _ h1)
theorem fis_en (b : Addr) (m : Int) (w : World) :
    Calls Tryd.prog 125 #[.pointer (some b), errN m] w fun ev w' => ev = .returned (.bool false) ∧ Ext [] w w' := by
  have tN := isTypeEN
  unfold errN
  go_enter Tryd.func125, Tryd.ntmps125
  go_wp2
  refine wp_region_stl (by kernel_rfl) (by kernel_rfl) ?_
  refine still_val (v := ?_) (by rfl) ?_ ?_
  rotate_left
  · first | (go_simp; done) | (go_simp; with_reducible rfl)
  try simp only [Act.put, List.getElem_toArray, List.getElem_cons_succ, List.getElem_cons_zero, List.setIfInBounds_toArray, List.set_cons_zero, List.set_cons_succ]
  refine still_val (v := ?_) (by rfl) ?_ ?_
  rotate_left
  · first | (go_simp; done) | (go_simp; with_reducible rfl)
  try simp only [Act.put, List.getElem_toArray, List.getElem_cons_succ, List.getElem_cons_zero, List.setIfInBounds_toArray, List.set_cons_zero, List.set_cons_succ]
  refine still_not (by rfl) ?_
  try simp only [Act.put, List.getElem_toArray, List.getElem_cons_succ, List.getElem_cons_zero, List.setIfInBounds_toArray, List.set_cons_zero, List.set_cons_succ]
  refine still_not (by rfl) ?_
  try simp only [Act.put, List.getElem_toArray, List.getElem_cons_succ, List.getElem_cons_zero, List.setIfInBounds_toArray, List.set_cons_zero, List.set_cons_succ]
  refine still_val (v := ?_) (by rfl) ?_ ?_
  rotate_left
  · first | (go_simp; done) | (go_simp; with_reducible rfl)
  try simp only [Act.put, List.getElem_toArray, List.getElem_cons_succ, List.getElem_cons_zero, List.setIfInBounds_toArray, List.set_cons_zero, List.set_cons_succ]
  refine still_val (v := ?_) (by rfl) ?_ ?_
  rotate_left
  · first | (go_simp; done) | (go_simp; with_reducible rfl)
  try simp only [Act.put, List.getElem_toArray, List.getElem_cons_succ, List.getElem_cons_zero, List.setIfInBounds_toArray, List.set_cons_zero, List.set_cons_succ]
  refine still_not (by rfl) ?_
  try simp only [Act.put, List.getElem_toArray, List.getElem_cons_succ, List.getElem_cons_zero, List.setIfInBounds_toArray, List.set_cons_zero, List.set_cons_succ]
  refine still_not (by rfl) ?_
  try simp only [Act.put, List.getElem_toArray, List.getElem_cons_succ, List.getElem_cons_zero, List.setIfInBounds_toArray, List.set_cons_zero, List.set_cons_succ]
  refine still_not (by rfl) ?_
  try simp only [Act.put, List.getElem_toArray, List.getElem_cons_succ, List.getElem_cons_zero, List.setIfInBounds_toArray, List.set_cons_zero, List.set_cons_succ]
  refine still_not (by rfl) ?_
  try simp only [Act.put, List.getElem_toArray, List.getElem_cons_succ, List.getElem_cons_zero, List.setIfInBounds_toArray, List.set_cons_zero, List.set_cons_succ]
  refine still_not (by rfl) ?_
  try simp only [Act.put, List.getElem_toArray, List.getElem_cons_succ, List.getElem_cons_zero, List.setIfInBounds_toArray, List.set_cons_zero, List.set_cons_succ]
  refine still_val (v := ?_) (by rfl) ?_ ?_
  rotate_left
  · first | (go_simp; done) | (go_simp; with_reducible rfl)
  try simp only [Act.put, List.getElem_toArray, List.getElem_cons_succ, List.getElem_cons_zero, List.setIfInBounds_toArray, List.set_cons_zero, List.set_cons_succ]
  refine still_val (v := ?_) (by rfl) ?_ ?_
  rotate_left
  · first | (go_simp; done) | (go_simp; with_reducible rfl)
  try simp only [Act.put, List.getElem_toArray, List.getElem_cons_succ, List.getElem_cons_zero, List.setIfInBounds_toArray, List.set_cons_zero, List.set_cons_succ]
  refine still_not (by rfl) ?_
  try simp only [Act.put, List.getElem_toArray, List.getElem_cons_succ, List.getElem_cons_zero, List.setIfInBounds_toArray, List.set_cons_zero, List.set_cons_succ]
  refine still_not (by rfl) ?_
  try simp only [Act.put, List.getElem_toArray, List.getElem_cons_succ, List.getElem_cons_zero, List.setIfInBounds_toArray, List.set_cons_zero, List.set_cons_succ]
  refine still_not (by rfl) ?_
  try simp only [Act.put, List.getElem_toArray, List.getElem_cons_succ, List.getElem_cons_zero, List.setIfInBounds_toArray, List.set_cons_zero, List.set_cons_succ]
  refine still_not (by rfl) ?_
  try simp only [Act.put, List.getElem_toArray, List.getElem_cons_succ, List.getElem_cons_zero, List.setIfInBounds_toArray, List.set_cons_zero, List.set_cons_succ]
  refine still_not (by rfl) ?_
  try simp only [Act.put, List.getElem_toArray, List.getElem_cons_succ, List.getElem_cons_zero, List.setIfInBounds_toArray, List.set_cons_zero, List.set_cons_succ]
  refine still_not (by rfl) ?_
  try simp only [Act.put, List.getElem_toArray, List.getElem_cons_succ, List.getElem_cons_zero, List.setIfInBounds_toArray, List.set_cons_zero, List.set_cons_succ]
  refine still_not (by rfl) ?_
  try simp only [Act.put, List.getElem_toArray, List.getElem_cons_succ, List.getElem_cons_zero, List.setIfInBounds_toArray, List.set_cons_zero, List.set_cons_succ]
  refine still_not (by rfl) ?_
  try simp only [Act.put, List.getElem_toArray, List.getElem_cons_succ, List.getElem_cons_zero, List.setIfInBounds_toArray, List.set_cons_zero, List.set_cons_succ]
  refine still_not (by rfl) ?_
  try simp only [Act.put, List.getElem_toArray, List.getElem_cons_succ, List.getElem_cons_zero, List.setIfInBounds_toArray, List.set_cons_zero, List.set_cons_succ]
  refine still_val (v := ?_) (by rfl) ?_ ?_
  rotate_left
  · first | (go_simp; done) | (go_simp; with_reducible rfl)
  try simp only [Act.put, List.getElem_toArray, List.getElem_cons_succ, List.getElem_cons_zero, List.setIfInBounds_toArray, List.set_cons_zero, List.set_cons_succ]
  refine still_val (v := ?_) (by rfl) ?_ ?_
  rotate_left
  · first | (go_simp; done) | (go_simp; with_reducible rfl)
  try simp only [Act.put, List.getElem_toArray, List.getElem_cons_succ, List.getElem_cons_zero, List.setIfInBounds_toArray, List.set_cons_zero, List.set_cons_succ]
  refine still_end ?_
  go_wp2
  go_ret
  exact ⟨rfl, (Ext.refl _ _).drew⟩
theorem fis_ep (b q : Nat) (s r : ByteArray) (x y : Int) (u : Value) (w : World) (hb : w.heap[b]? = some (.cells #[.string s, .int .i64 x, u] 109 (0, 0))) (hq : w.heap[q]? = some (.cells #[.string r, .int .i64 y, .nilIface] 109 (0, 0))) :
    Calls Tryd.prog 125 #[.pointer (some ⟨b, 0, none⟩), .iface 106 (.pointer (some ⟨q, 0, none⟩))] w fun ev w' => ev = .returned (.bool (decide (r = s))) ∧ Ext [] w w' := by
  have tN := isTypeEP
  have b0 := cellAt hb 0
  have q0 := cellAt hq 0
  have q2 := cellAt hq 2
  simp at b0 q0 q2
  go_enter Tryd.func125, Tryd.ntmps125
  go_wp2
  refine wp_region_stl (by kernel_rfl) (by kernel_rfl) ?_
  refine still_val (v := ?_) (by rfl) ?_ ?_
  rotate_left
  · first | (go_simp; done) | (go_simp; with_reducible rfl)
  try simp only [Act.put, List.getElem_toArray, List.getElem_cons_succ, List.getElem_cons_zero, List.setIfInBounds_toArray, List.set_cons_zero, List.set_cons_succ]
  refine still_val (v := ?_) (by rfl) ?_ ?_
  rotate_left
  · first | (go_simp; done) | (go_simp; with_reducible rfl)
  try simp only [Act.put, List.getElem_toArray, List.getElem_cons_succ, List.getElem_cons_zero, List.setIfInBounds_toArray, List.set_cons_zero, List.set_cons_succ]
  refine still_val (v := ?_) (by rfl) ?_ ?_
  rotate_left
  · first | (go_simp; done) | (go_simp; with_reducible rfl)
  try simp only [Act.put, List.getElem_toArray, List.getElem_cons_succ, List.getElem_cons_zero, List.setIfInBounds_toArray, List.set_cons_zero, List.set_cons_succ]
  refine still_val (v := ?_) (by rfl) ?_ ?_
  rotate_left
  · first | (go_simp; done) | (go_simp; with_reducible rfl)
  try simp only [Act.put, List.getElem_toArray, List.getElem_cons_succ, List.getElem_cons_zero, List.setIfInBounds_toArray, List.set_cons_zero, List.set_cons_succ]
  refine still_val (v := ?_) (by rfl) ?_ ?_
  rotate_left
  · first | (go_simp; done) | (go_simp; with_reducible rfl)
  try simp only [Act.put, List.getElem_toArray, List.getElem_cons_succ, List.getElem_cons_zero, List.setIfInBounds_toArray, List.set_cons_zero, List.set_cons_succ]
  refine still_val (v := ?_) (by rfl) ?_ ?_
  rotate_left
  · first | (go_simp; done) | (go_simp; with_reducible rfl)
  try simp only [Act.put, List.getElem_toArray, List.getElem_cons_succ, List.getElem_cons_zero, List.setIfInBounds_toArray, List.set_cons_zero, List.set_cons_succ]
  refine still_val (v := ?_) (by rfl) ?_ ?_
  rotate_left
  · first | (go_simp; done) | (go_simp; with_reducible rfl)
  try simp only [Act.put, List.getElem_toArray, List.getElem_cons_succ, List.getElem_cons_zero, List.setIfInBounds_toArray, List.set_cons_zero, List.set_cons_succ]
  refine still_val (v := ?_) (by rfl) ?_ ?_
  rotate_left
  · first | (go_simp; done) | (go_simp; with_reducible rfl)
  try simp only [Act.put, List.getElem_toArray, List.getElem_cons_succ, List.getElem_cons_zero, List.setIfInBounds_toArray, List.set_cons_zero, List.set_cons_succ]
  refine still_val (v := ?_) (by rfl) ?_ ?_
  rotate_left
  · first | (go_simp; done) | (go_simp; with_reducible rfl)
  try simp only [Act.put, List.getElem_toArray, List.getElem_cons_succ, List.getElem_cons_zero, List.setIfInBounds_toArray, List.set_cons_zero, List.set_cons_succ]
  refine still_val (v := ?_) (by rfl) ?_ ?_
  rotate_left
  · first | (go_simp; done) | (go_simp; with_reducible rfl)
  try simp only [Act.put, List.getElem_toArray, List.getElem_cons_succ, List.getElem_cons_zero, List.setIfInBounds_toArray, List.set_cons_zero, List.set_cons_succ]
  refine still_val (v := ?_) (by rfl) ?_ ?_
  rotate_left
  · first | (go_simp; done) | (go_simp; with_reducible rfl)
  try simp only [Act.put, List.getElem_toArray, List.getElem_cons_succ, List.getElem_cons_zero, List.setIfInBounds_toArray, List.set_cons_zero, List.set_cons_succ]
  refine still_val (v := ?_) (by rfl) ?_ ?_
  rotate_left
  · first | (go_simp; done) | (go_simp; with_reducible rfl)
  try simp only [Act.put, List.getElem_toArray, List.getElem_cons_succ, List.getElem_cons_zero, List.setIfInBounds_toArray, List.set_cons_zero, List.set_cons_succ]
  refine still_val (v := ?_) (by rfl) ?_ ?_
  rotate_left
  · first | (go_simp; done) | (go_simp; with_reducible rfl)
  try simp only [Act.put, List.getElem_toArray, List.getElem_cons_succ, List.getElem_cons_zero, List.setIfInBounds_toArray, List.set_cons_zero, List.set_cons_succ]
  refine still_val (v := ?_) (by rfl) ?_ ?_
  rotate_left
  · first | (go_simp; done) | (go_simp; with_reducible rfl)
  try simp only [Act.put, List.getElem_toArray, List.getElem_cons_succ, List.getElem_cons_zero, List.setIfInBounds_toArray, List.set_cons_zero, List.set_cons_succ]
  refine still_val (v := ?_) (by rfl) ?_ ?_
  rotate_left
  · first | (go_simp; done) | (go_simp; with_reducible rfl)
  try simp only [Act.put, List.getElem_toArray, List.getElem_cons_succ, List.getElem_cons_zero, List.setIfInBounds_toArray, List.set_cons_zero, List.set_cons_succ]
  refine still_val (v := ?_) (by rfl) ?_ ?_
  rotate_left
  · first | (go_simp; done) | (go_simp; with_reducible rfl)
  try simp only [Act.put, List.getElem_toArray, List.getElem_cons_succ, List.getElem_cons_zero, List.setIfInBounds_toArray, List.set_cons_zero, List.set_cons_succ]
  refine still_val (v := ?_) (by rfl) ?_ ?_
  rotate_left
  · first | (go_simp; done) | (go_simp; with_reducible rfl)
  try simp only [Act.put, List.getElem_toArray, List.getElem_cons_succ, List.getElem_cons_zero, List.setIfInBounds_toArray, List.set_cons_zero, List.set_cons_succ]
  refine still_val (v := ?_) (by rfl) ?_ ?_
  rotate_left
  · first | (go_simp; done) | (go_simp; with_reducible rfl)
  try simp only [Act.put, List.getElem_toArray, List.getElem_cons_succ, List.getElem_cons_zero, List.setIfInBounds_toArray, List.set_cons_zero, List.set_cons_succ]
  refine still_val (v := ?_) (by rfl) ?_ ?_
  rotate_left
  · first | (go_simp; done) | (go_simp; with_reducible rfl)
  try simp only [Act.put, List.getElem_toArray, List.getElem_cons_succ, List.getElem_cons_zero, List.setIfInBounds_toArray, List.set_cons_zero, List.set_cons_succ]
  refine still_val (v := ?_) (by rfl) ?_ ?_
  rotate_left
  · first | (go_simp; done) | (go_simp; with_reducible rfl)
  try simp only [Act.put, List.getElem_toArray, List.getElem_cons_succ, List.getElem_cons_zero, List.setIfInBounds_toArray, List.set_cons_zero, List.set_cons_succ]
  refine still_val (v := ?_) (by rfl) ?_ ?_
  rotate_left
  · first | (go_simp; done) | (go_simp; with_reducible rfl)
  try simp only [Act.put, List.getElem_toArray, List.getElem_cons_succ, List.getElem_cons_zero, List.setIfInBounds_toArray, List.set_cons_zero, List.set_cons_succ]
  refine still_val (v := ?_) (by rfl) ?_ ?_
  rotate_left
  · first | (go_simp; done) | (go_simp; with_reducible rfl)
  try simp only [Act.put, List.getElem_toArray, List.getElem_cons_succ, List.getElem_cons_zero, List.setIfInBounds_toArray, List.set_cons_zero, List.set_cons_succ]
  refine still_val (v := ?_) (by rfl) ?_ ?_
  rotate_left
  · first | (go_simp; done) | (go_simp; with_reducible rfl)
  try simp only [Act.put, List.getElem_toArray, List.getElem_cons_succ, List.getElem_cons_zero, List.setIfInBounds_toArray, List.set_cons_zero, List.set_cons_succ]
  refine still_val (v := ?_) (by rfl) ?_ ?_
  rotate_left
  · first | (go_simp; done) | (go_simp; with_reducible rfl)
  try simp only [Act.put, List.getElem_toArray, List.getElem_cons_succ, List.getElem_cons_zero, List.setIfInBounds_toArray, List.set_cons_zero, List.set_cons_succ]
  refine still_end ?_
  go_wp2
  go_ret
  exact ⟨congrArg (fun z => Ending.returned (.bool z)) (str_beq r s), (Ext.refl _ _).drew⟩
theorem fis_full (b q : Nat) (s r : ByteArray) (x y : Int) (u : Value) (ty : TypeId) (z : Value) (w : World) (hb : w.heap[b]? = some (.cells #[.string s, .int .i64 x, u] 109 (0, 0))) (hq : w.heap[q]? = some (.cells #[.string r, .int .i64 y, .iface ty z] 109 (0, 0))) :
    Calls Tryd.prog 125 #[.pointer (some ⟨b, 0, none⟩), .iface 106 (.pointer (some ⟨q, 0, none⟩))] w fun ev w' => ev = .returned (.bool false) ∧ Ext [] w w' := by
  have tN := isTypeEP
  have b0 := cellAt hb 0
  have q0 := cellAt hq 0
  have q2 := cellAt hq 2
  simp at b0 q0 q2
  go_enter Tryd.func125, Tryd.ntmps125
  go_wp2
  refine wp_region_stl (by kernel_rfl) (by kernel_rfl) ?_
  refine still_val (v := ?_) (by rfl) ?_ ?_
  rotate_left
  · first | (go_simp; done) | (go_simp; with_reducible rfl)
  try simp only [Act.put, List.getElem_toArray, List.getElem_cons_succ, List.getElem_cons_zero, List.setIfInBounds_toArray, List.set_cons_zero, List.set_cons_succ]
  refine still_val (v := ?_) (by rfl) ?_ ?_
  rotate_left
  · first | (go_simp; done) | (go_simp; with_reducible rfl)
  try simp only [Act.put, List.getElem_toArray, List.getElem_cons_succ, List.getElem_cons_zero, List.setIfInBounds_toArray, List.set_cons_zero, List.set_cons_succ]
  refine still_val (v := ?_) (by rfl) ?_ ?_
  rotate_left
  · first | (go_simp; done) | (go_simp; with_reducible rfl)
  try simp only [Act.put, List.getElem_toArray, List.getElem_cons_succ, List.getElem_cons_zero, List.setIfInBounds_toArray, List.set_cons_zero, List.set_cons_succ]
  refine still_val (v := ?_) (by rfl) ?_ ?_
  rotate_left
  · first | (go_simp; done) | (go_simp; with_reducible rfl)
  try simp only [Act.put, List.getElem_toArray, List.getElem_cons_succ, List.getElem_cons_zero, List.setIfInBounds_toArray, List.set_cons_zero, List.set_cons_succ]
  refine still_val (v := ?_) (by rfl) ?_ ?_
  rotate_left
  · first | (go_simp; done) | (go_simp; with_reducible rfl)
  try simp only [Act.put, List.getElem_toArray, List.getElem_cons_succ, List.getElem_cons_zero, List.setIfInBounds_toArray, List.set_cons_zero, List.set_cons_succ]
  refine still_val (v := ?_) (by rfl) ?_ ?_
  rotate_left
  · first | (go_simp; done) | (go_simp; with_reducible rfl)
  try simp only [Act.put, List.getElem_toArray, List.getElem_cons_succ, List.getElem_cons_zero, List.setIfInBounds_toArray, List.set_cons_zero, List.set_cons_succ]
  refine still_val (v := ?_) (by rfl) ?_ ?_
  rotate_left
  · first | (go_simp; done) | (go_simp; with_reducible rfl)
  try simp only [Act.put, List.getElem_toArray, List.getElem_cons_succ, List.getElem_cons_zero, List.setIfInBounds_toArray, List.set_cons_zero, List.set_cons_succ]
  refine still_val (v := ?_) (by rfl) ?_ ?_
  rotate_left
  · first | (go_simp; done) | (go_simp; with_reducible rfl)
  try simp only [Act.put, List.getElem_toArray, List.getElem_cons_succ, List.getElem_cons_zero, List.setIfInBounds_toArray, List.set_cons_zero, List.set_cons_succ]
  refine still_val (v := ?_) (by rfl) ?_ ?_
  rotate_left
  · first | (go_simp; done) | (go_simp; with_reducible rfl)
  try simp only [Act.put, List.getElem_toArray, List.getElem_cons_succ, List.getElem_cons_zero, List.setIfInBounds_toArray, List.set_cons_zero, List.set_cons_succ]
  refine still_val (v := ?_) (by rfl) ?_ ?_
  rotate_left
  · first | (go_simp; done) | (go_simp; with_reducible rfl)
  try simp only [Act.put, List.getElem_toArray, List.getElem_cons_succ, List.getElem_cons_zero, List.setIfInBounds_toArray, List.set_cons_zero, List.set_cons_succ]
  refine still_val (v := ?_) (by rfl) ?_ ?_
  rotate_left
  · first | (go_simp; done) | (go_simp; with_reducible rfl)
  try simp only [Act.put, List.getElem_toArray, List.getElem_cons_succ, List.getElem_cons_zero, List.setIfInBounds_toArray, List.set_cons_zero, List.set_cons_succ]
  refine still_val (v := ?_) (by rfl) ?_ ?_
  rotate_left
  · first | (go_simp; done) | (go_simp; with_reducible rfl)
  try simp only [Act.put, List.getElem_toArray, List.getElem_cons_succ, List.getElem_cons_zero, List.setIfInBounds_toArray, List.set_cons_zero, List.set_cons_succ]
  refine still_val (v := ?_) (by rfl) ?_ ?_
  rotate_left
  · first | (go_simp; done) | (go_simp; with_reducible rfl)
  try simp only [Act.put, List.getElem_toArray, List.getElem_cons_succ, List.getElem_cons_zero, List.setIfInBounds_toArray, List.set_cons_zero, List.set_cons_succ]
  refine still_not (by rfl) ?_
  try simp only [Act.put, List.getElem_toArray, List.getElem_cons_succ, List.getElem_cons_zero, List.setIfInBounds_toArray, List.set_cons_zero, List.set_cons_succ]
  refine still_not (by rfl) ?_
  try simp only [Act.put, List.getElem_toArray, List.getElem_cons_succ, List.getElem_cons_zero, List.setIfInBounds_toArray, List.set_cons_zero, List.set_cons_succ]
  refine still_not (by rfl) ?_
  try simp only [Act.put, List.getElem_toArray, List.getElem_cons_succ, List.getElem_cons_zero, List.setIfInBounds_toArray, List.set_cons_zero, List.set_cons_succ]
  refine still_not (by rfl) ?_
  try simp only [Act.put, List.getElem_toArray, List.getElem_cons_succ, List.getElem_cons_zero, List.setIfInBounds_toArray, List.set_cons_zero, List.set_cons_succ]
  refine still_not (by rfl) ?_
  try simp only [Act.put, List.getElem_toArray, List.getElem_cons_succ, List.getElem_cons_zero, List.setIfInBounds_toArray, List.set_cons_zero, List.set_cons_succ]
  refine still_not (by rfl) ?_
  try simp only [Act.put, List.getElem_toArray, List.getElem_cons_succ, List.getElem_cons_zero, List.setIfInBounds_toArray, List.set_cons_zero, List.set_cons_succ]
  refine still_not (by rfl) ?_
  try simp only [Act.put, List.getElem_toArray, List.getElem_cons_succ, List.getElem_cons_zero, List.setIfInBounds_toArray, List.set_cons_zero, List.set_cons_succ]
  refine still_not (by rfl) ?_
  try simp only [Act.put, List.getElem_toArray, List.getElem_cons_succ, List.getElem_cons_zero, List.setIfInBounds_toArray, List.set_cons_zero, List.set_cons_succ]
  refine still_not (by rfl) ?_
  try simp only [Act.put, List.getElem_toArray, List.getElem_cons_succ, List.getElem_cons_zero, List.setIfInBounds_toArray, List.set_cons_zero, List.set_cons_succ]
  refine still_val (v := ?_) (by rfl) ?_ ?_
  rotate_left
  · first | (go_simp; done) | (go_simp; with_reducible rfl)
  try simp only [Act.put, List.getElem_toArray, List.getElem_cons_succ, List.getElem_cons_zero, List.setIfInBounds_toArray, List.set_cons_zero, List.set_cons_succ]
  refine still_val (v := ?_) (by rfl) ?_ ?_
  rotate_left
  · first | (go_simp; done) | (go_simp; with_reducible rfl)
  try simp only [Act.put, List.getElem_toArray, List.getElem_cons_succ, List.getElem_cons_zero, List.setIfInBounds_toArray, List.set_cons_zero, List.set_cons_succ]
  refine still_end ?_
  go_wp2
  go_ret
  exact ⟨rfl, (Ext.refl _ _).drew⟩
end Go.Proofs.YtjicjadibaomkaaDoor
set_option linter.unusedSimpArgs false
set_option linter.unusedVariables false
set_option maxHeartbeats 4000000
set_option maxRecDepth 100000
namespace Go.Proofs.YtjicjadibaomkaaDoor
open Go.RowKit Go.Extern.Stop Go.Stop Go.Extern Go.Hs

theorem infoStrF : (Tryd.prog.info? 9).map (fun i => (i.zero, i.size, i.bytes)) = some (some (.string ⟨#[]⟩), 1, 16) := by kernel_rfl
theorem in_num (s : ByteArray) (a n : Int) (hn : n ≠ 0) (w : World) :
    Calls Tryd.prog 36 #[.string s, .int .i64 a, errN n] w fun ev w' => ∃ v, ev = .returned v ∧ v = .iface 106 (.pointer (some ⟨w.heap.size, 0, none⟩)) ∧ w' = w.alloc (.cells #[.string s, .int .i64 a, errN n] 109) := by
  have e1 := eq_en n 0
  rw [show (n == (0 : Int)) = false by simpa using hn] at e1
  unfold errN
  go_enter Tryd.func36, Tryd.ntmps36
  go_wp2
  go_ret
  exact ⟨_, rfl, rfl, rfl⟩
theorem in_ep (s : ByteArray) (a : Int) (p : Value) (w : World) :
    Calls Tryd.prog 36 #[.string s, .int .i64 a, .iface 106 p] w fun ev w' => ∃ v, ev = .returned v ∧ v = .iface 106 (.pointer (some ⟨w.heap.size, 0, none⟩)) ∧ w' = w.alloc (.cells #[.string s, .int .i64 a, .iface 106 p] 109) := by
  have e1 := fun w => eq_ep_en p (.int .i64 0) w
  go_enter Tryd.func36, Tryd.ntmps36
  go_wp2
  go_ret
  exact ⟨_, rfl, rfl, rfl⟩
theorem in_ok (s : ByteArray) (a : Int) (w : World) :
    Calls Tryd.prog 36 #[.string s, .int .i64 a, errN 0] w fun ev w' => ev = .returned .nilIface ∧ Ext [] w w' := by
  have e1 := eq_en 0 0
  simp only [beq_self_eq_true] at e1
  unfold errN
  go_enter Tryd.func36, Tryd.ntmps36
  go_wp2
  go_ret
  exact ⟨rfl, Ext.refl _ _⟩
theorem ErrV.alloc {t : Value} {w : World} {L : List (ByteArray × Int)} {v : Value} (h : ErrV w.heap t L v) (o : Obj) : ErrV (w.alloc o).heap t L v := h.ext0 ((Ext.refl [] w).alloc o)
theorem faultOf_any (n : Int) (L : List (ByteArray × Int)) (v : Value) (w : World) (hg : Gd w) (hv : ErrV w.heap (errN n) L v) :
    Calls Tryd.prog 30 #[v] w fun ev w' => ev = .returned (.int .i64 n) ∧ Ext [] w w' := by
  have hA := heap_new w (.cells #[.int .i64 0] 70)
  have E0 : Ext [] w (w.alloc (.cells #[.int .i64 0] 70)) := (Ext.refl _ _).alloc _
  have hg1 := hg.ext E0 (by simp)
  have hv1 := hv.ext0 E0
  obtain ⟨ty, y, hvy⟩ := hv.iface
  subst hvy
  go_enter Tryd.func30, Tryd.ntmps30
  go_wp2_with (go_at_call 49; refine (as_errno n w.heap.size L _ _ _ hg1 hv1 hA).mono ?_; rintro e w1 ⟨rfl, hx, hy⟩; have k0 := cellAt hy 0; simp at k0)
  go_ret
  exact ⟨rfl, E0.trans hx (by simp)⟩
end Go.Proofs.YtjicjadibaomkaaDoor
set_option linter.unusedSimpArgs false
set_option linter.unusedVariables false
set_option maxHeartbeats 4000000
set_option maxRecDepth 100000
namespace Go.Proofs.YtjicjadibaomkaaDoor
open Go.RowKit Go.Extern.Stop Go.Stop Go.Extern Go.Hs

/-- The place that Where tells. -/
def lastAt : Int → List (ByteArray × Int) → Int
  | d, [] => d
  | _, p :: L => lastAt p.2 L
def namesE (L : List (ByteArray × Int)) : List ByteArray := L.map (·.1)
theorem where_any (n : Int) (L : List (ByteArray × Int)) (hL : L.length ≤ 1000) (v : Value) (w : World) (hg : Gd w) (hv : ErrV w.heap (errN n) L v) :
    Calls Tryd.prog 31 #[v] w fun ev w' => ∃ s, ev = .returned (.tuple #[s, .int .i64 (lastAt (-1) L)]) ∧ Own w'.heap 9 1 s L.length ((namesE L).map Value.string) ∧ Ext [] w w' ∧ ∀ g, s.ownBlock = some g → w.heap.size ≤ g := by
  obtain ⟨i0, hi, hz0, hz1, hz2⟩ := info_parts infoStrF
  have HI := Hs.hid (And.intro hi (And.intro hz0 (And.intro hz1 hz2)))
  clear hi hz0 hz1 hz2
  go_enter Tryd.func31, Tryd.ntmps31
  go_wp2
  go_loopg [0, 4, 5] L.length (fun n0 s0 s4 s5 wr => ∃ L0 L1 ao cap d, L0.length = n0 ∧ ErrV wr.heap (errN n) L0 s0 ∧ s4 = .slice ao L1.length cap ∧ s5 = .int .i64 d ∧ Own wr.heap 9 1 (.slice ao L1.length cap) L1.length ((namesE L1).map Value.string) ∧ Ext [] w wr ∧ Hid (L = L1 ++ L0 ∧ lastAt d L0 = lastAt (-1) L ∧ ∀ g, (Value.slice ao L1.length cap).ownBlock = some g → w.heap.size ≤ g))
  · exact ⟨L, [], none, 0, -1, rfl, hv, rfl, rfl, ⟨rfl, .inl ⟨rfl, rfl⟩⟩, Ext.refl _ _, Hs.hid ⟨rfl, rfl, fun g h => by cases h⟩⟩
  obtain ⟨L0, L1, ao, cap, d, rfl, hv1, rfl, rfl, hO, hx, hH⟩ := hrel
  have hA := heap_new wr (.cells #[.pointer none] 106)
  have E0 : Ext [] wr (wr.alloc (.cells #[.pointer none] 106)) := (Ext.refl _ _).alloc _
  have hg1 := hg.ext (hx.trans' E0) (by simp)
  have hv2 := hv1.ext0 E0
  cases L0 with
  | nil =>
    cases hv2
    cases hv1
    unfold errN
    go_wp2_with (go_at_call 49; refine (as_fault_miss wr.heap.size n _ _ hg1 hA).mono ?_; rintro e w1 ⟨rfl, hx1⟩)
    go_ret2
    obtain ⟨h1, h2, h3⟩ := hH.out
    rw [List.append_nil] at h1
    subst h1
    refine ⟨_, by rw [← h2]; rfl, (hO.same fun g hg => ?_), hx.trans' (E0.trans' hx1), h3⟩
    exact (E0.trans' hx1).block g (hO.lt hg) (by simp)
  | cons p L0 =>
    obtain ⟨s, x⟩ := p
    obtain ⟨b, u, rfl, hb, hu⟩ := hv2
    have hbne : b ≠ wr.heap.size := fun e => by subst e; rw [hA] at hb; simp at hb
    go_upto_region 6 with (go_at_call 49; refine (as_fault_hit wr.heap.size ⟨b, 0, none⟩ _ _ hg1 hA).mono ?_; rintro e w1 ⟨rfl, hx1, hy1⟩)
    have hb1 := hx1.same hb (by simpa using hbne)
    have k0 := cellAt hy1 0
    have b0 := cellAt hb1 0
    have b1 := cellAt hb1 1
    have b2 := cellAt hb1 2
    simp at k0 b0 b1 b2
    have hO1 : Own w1.heap 9 1 (.slice ao L1.length cap) L1.length ((namesE L1).map Value.string) := hO.same fun g hg => (E0.block g (hO.lt hg) (by simp)) ▸ hx1.block g (Nat.lt_of_lt_of_le (hO.lt hg) E0.size) (by have := hO.lt hg; simp; omega)
    have hext : Ext [] w (w1.alloc (.cells #[.string s] 9)) := (hx.trans' E0 |>.trans hx1 (fun g hg => .inr (by simp at hg; subst hg; exact hx.size))).alloc _
    have hl1 : L1.length ≤ 1000 := by have := congrArg List.length hH.out.1; simp at this; omega
    go_upto_region 7 with (at_builtin; refine wpList_append rfl (.tmp 13) (.tmp 18) 72 rfl 9 i0 _ 1 16 Tryd.underlying72 HI.out.1 HI.out.2.1 HI.out.2.2.1 HI.out.2.2.2 rfl (by decide) (.slice ao L1.length cap) L1.length _ rfl (hO1.same fun g hg => heap_old _ _ (hO1.lt hg)) ⟨w1.heap.size, 0, none⟩ 1 1 [.string s] rfl rfl (news_new w1 [.string s] 9) (by simp [Value.oneCell']) (by unfold maxLen; omega) (by omega) ?_; intro ao3 cap3 w3 hO3 hx3 hg3)
    have hg4 : ∀ g ∈ (Value.slice ao L1.length cap).ownBlock.toList, ∃ cur, (w1.alloc (.cells #[.string s] 9)).heap[g]? = some (.cells cur 9 (0, 0)) := fun g hg => by
      obtain ⟨cur, hc⟩ := Own.block hO1 (g := g) (by simpa using hg)
      exact ⟨cur, heap_old' _ _ hc⟩
    have hbF : ∀ x cs, (w1.alloc (.cells #[.string s] 9)).heap[x]? = some (.cells cs 109 (0, 0)) → x ∉ (Value.slice ao L1.length cap).ownBlock.toList := fun x cs hx hm => by
      obtain ⟨cur, hc⟩ := hg4 x hm
      rw [hx] at hc
      simp at hc
    have hb3 := hx3.same (heap_old' _ _ hb1) (hbF b _ (heap_old' _ _ hb1))
    have hy3 := hx3.same (heap_old' _ _ hy1) (fun hm => by obtain ⟨cur, hc⟩ := hg4 _ hm; rw [heap_old' _ _ hy1] at hc; simp at hc)
    have hu3 : ErrV w3.heap (errN n) L0 u := by
      have h1 := hu.ext hx1 (fun g hg cs fr h => by simp at hg; subst hg; rw [hA] at h; simp at h)
      have h2 := h1.alloc (.cells #[.string s] 9)
      exact h2.ext hx3 (fun g hg cs fr h => by obtain ⟨cur, hc⟩ := hg4 g hg; rw [h] at hc; simp at hc)
    clear k0 b0 b1 b2
    have k0 := cellAt hy3 0
    have b1 := cellAt hb3 1
    have b2 := cellAt hb3 2
    simp at k0 b1 b2
    go_wp2
    go_roundg L0.length
    case measure => simp
    case rel =>
      refine ⟨L0, L1 ++ [(s, x)], ao3, cap3, x, rfl, hu3, by simp, rfl, ?_, hext.trans hx3 (fun g hg => .inr (hH.out.2.2 g (by simpa using hg))), Hs.hid ⟨?_, ?_, ?_⟩⟩
      · have : namesE (L1 ++ [(s, x)]) = namesE L1 ++ [s] := by simp [namesE]
        rw [this, List.map_append, List.length_append]
        exact hO3
      · rw [hH.out.1]; simp
      · exact hH.out.2.1
      · intro g hg
        rcases hg3 g (by rw [List.length_append] at hg; exact hg) with h | h
        · exact hH.out.2.2 g h
        · exact Nat.le_trans hext.size h
end Go.Proofs.YtjicjadibaomkaaDoor
set_option linter.unusedSimpArgs false
set_option linter.unusedVariables false
set_option maxHeartbeats 4000000
set_option maxRecDepth 100000
namespace Go.Proofs.YtjicjadibaomkaaDoor
open Go.RowKit Go.Extern.Stop Go.Stop Go.Extern Go.Hs

/-- A number's word. -/
def errWord (n : Nat) : ByteArray := (PEr.api_Errno_Error.f 100 n).getD ⟨#[]⟩
theorem errWord_some : ∀ n : Nat, n < 21 → PEr.api_Errno_Error.f 100 (n : Int) = some (errWord n) := by decide +kernel
theorem errWord_size : ∀ n : Nat, n < 21 → (errWord n).size ≤ 8 := by decide +kernel
theorem errno_any (n : Nat) (hn : n < 21) (w : World) : Calls Tryd.prog 38 #[.int .i64 n] w fun e w' => e = .returned (.string (errWord n)) ∧ Ext [] w w' :=
  (PEr.api_Errno_Error.calls 100 n _ w (errWord_some n hn)).mono fun e w' ⟨h1, h2⟩ => ⟨h1, Ext.ofBelow h2⟩
/-- The path: the steps and the word, with slashes between. -/
def pathB (L : List (ByteArray × Int)) (n : Nat) : ByteArray := ⟨(Lib.join ((namesE L ++ [errWord n]).map (·.data.toList)) [47]).toArray⟩
theorem joinTail_le (sep : List UInt8) (c : Nat) : ∀ r : List (List UInt8), (∀ x ∈ r, x.length ≤ c) → (Lib.joinTail sep r).length ≤ r.length * (sep.length + c)
  | [], _ => by simp [Lib.joinTail]
  | x :: r, h => by
    have ih := joinTail_le sep c r (fun y hy => h y (by simp [hy]))
    have hx := h x (by simp)
    simp only [Lib.joinTail, List.map_cons, List.flatten_cons, List.length_append, List.length_cons] at *
    rw [Nat.add_mul]
    omega
theorem join_le (sep : List UInt8) (c : Nat) (r : List (List UInt8)) (h : ∀ x ∈ r, x.length ≤ c) : (Lib.join r sep).length ≤ c + r.length * (sep.length + c) := by
  cases r with
  | nil => simp [Lib.join_nil]
  | cons x r =>
    rw [Lib.join_cons, List.length_append]
    have h1 := joinTail_le sep c r (fun y hy => h y (by simp [hy]))
    have h2 := h x (by simp)
    rw [List.length_cons, Nat.add_mul]
    omega
theorem Own.strings {w : World} {e : TypeId} {ao : Option Addr} {cap : Nat} {xs : List ByteArray} (h0 : 0 < xs.length) (h : Own w.heap e 1 (.slice ao xs.length cap) xs.length (xs.map Value.string)) :
    ∃ g, ao = some ⟨g, 0, none⟩ ∧ g < w.heap.size ∧ xs.length ≤ cap ∧ ∀ (j : Nat) x, xs[j]? = some x → w.cell? ⟨g, 0 + j, none⟩ = some (.string x) := by
  rcases h.2 with ⟨_, h1⟩ | ⟨g, cap', cur, h1, _, hg, hn, hm, hsz, ht⟩
  · omega
  · simp only [Value.slice.injEq] at h1
    obtain ⟨rfl, _, rfl⟩ := h1
    refine ⟨g, rfl, lt_of_heap hg, hn, fun j x hj => ?_⟩
    have hjl := (List.getElem?_eq_some_iff.1 hj).1
    rw [Nat.zero_add, cellAt hg]
    have : (cur.toList.take (xs.length * 1))[j]? = some (.string x) := by rw [ht, List.getElem?_map, hj]; rfl
    rw [List.getElem?_take, if_pos (by omega)] at this
    simpa using this
theorem path_any (n : Nat) (hn : n < 21) (L : List (ByteArray × Int)) (hL : L.length ≤ 100) (hs : ∀ p ∈ L, p.1.size ≤ 100) (v : Value) (w : World) (hg : Gd w) (hv : ErrV w.heap (errN n) L v) :
    Calls Tryd.prog 14 #[v] w fun ev w' => ev = .returned (.string (pathB L n)) ∧ Ext [] w w' := by
  obtain ⟨i0, hi, hz0, hz1, hz2⟩ := info_parts infoStrF
  have HI := Hs.hid (And.intro hi (And.intro hz0 (And.intro hz1 hz2)))
  have hlen : (namesE L ++ [errWord n]).length = L.length + 1 := by simp [namesE]
  have hjoin : (Lib.join ((namesE L ++ [errWord n]).map (·.data.toList)) [47]).length ≤ 140737488355328 := by
    have := join_le [47] 100 ((namesE L ++ [errWord n]).map (·.data.toList)) (by
      intro x hx
      obtain ⟨y, hy, rfl⟩ := List.mem_map.1 hx
      have : y.size ≤ 100 := by
        rcases List.mem_append.1 hy with h | h
        · obtain ⟨p, hp, rfl⟩ := List.mem_map.1 h; exact hs p hp
        · obtain rfl := List.mem_singleton.1 h; have := errWord_size n hn; omega
      show y.data.toList.length ≤ 100
      rw [Array.length_toList]; exact this)
    rw [List.length_map, hlen] at this
    have h1 : ([47] : List UInt8).length = 1 := rfl
    rw [h1] at this
    have h2 : (L.length + 1) * (1 + 100) ≤ 101 * 101 := Nat.mul_le_mul (by omega) (by omega)
    omega
  have HJ := Hs.hid hjoin
  have HS := Hs.hid hs
  clear hi hz0 hz1 hz2 hjoin hs
  go_enter Tryd.func14, Tryd.ntmps14
  go_upto_region 2 with (first
    | (go_at_call 31; refine (where_any n L (by omega) v _ hg hv).mono ?_; rintro e w1 ⟨s, rfl, hO, hx, hf⟩)
    | fail)
  obtain ⟨ao, cap, rfl⟩ := Own.form (w := w1) hO
  have hg1 := hg.ext hx (by simp)
  have hv1 := hv.ext0 hx
  go_wp2_with (first
    | (go_at_call 30; refine (faultOf_any n L v _ hg1 hv1).mono ?_; rintro e w2 ⟨rfl, hx2⟩)
    | (go_at_call 38; refine (errno_any n hn _).mono ?_; rintro e w3 ⟨rfl, hx3⟩)
    | (at_builtin; refine wpList_append rfl (.tmp 10) (.tmp 14) 72 rfl 9 i0 _ 1 16 Tryd.underlying72 HI.out.1 HI.out.2.1 HI.out.2.2.1 HI.out.2.2.2 rfl (by decide) (.slice ao L.length cap) L.length _ rfl (hO.same fun g hg => ((hx2.trans' hx3).alloc (.cells #[.string (errWord n)] 9)).block g (hO.lt hg) (by simp)) ⟨w3.heap.size, 0, none⟩ 1 1 [.string (errWord n)] rfl rfl (news_new w3 [.string (errWord n)] 9) (by simp [Value.oneCell']) (by unfold maxLen; omega) (by omega) ?_; intro ao3 cap3 w4 hO4 hx4 hg4)
    | (go_at_call 37
       have hmap : (namesE L).map Value.string ++ [Value.string (errWord n)] = (namesE L ++ [errWord n]).map Value.string := by simp
       rw [hmap, ← hlen] at hO4
       rw [← hlen]
       obtain ⟨g, rfl, hgl, hcap, hcells⟩ := Own.strings (by rw [hlen]; omega) hO4
       refine (Tryd.strings_Join g 0 cap3 (namesE L ++ [errWord n]) ⟨#[47]⟩ w4 hcells hgl (by rw [hlen]; omega) hcap HJ.out).mono ?_
       rintro e w5 ⟨rfl, hx5⟩))
  go_ret
  refine ⟨?_, ?_⟩
  · unfold pathB
    rw [List.map_append]
    rfl
  have e4 := ((hx.trans' (hx2.trans' hx3)).alloc (.cells #[.string (errWord n)] 9)).trans hx4 (fun g hg => .inr (hf g (by simpa using hg)))
  exact e4.trans' (Ext.ofBelow hx5)
end Go.Proofs.YtjicjadibaomkaaDoor
