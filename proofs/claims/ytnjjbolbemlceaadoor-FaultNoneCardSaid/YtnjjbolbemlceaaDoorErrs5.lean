/-
  errors.Is over chains of faults: at a number, at a bare fault of a step, at an error of the chain.
-/
import Derived.Test.YtnjjbolbemlceaaDoorErrs4
import Derived.Deep.LoopGhost
set_option linter.unusedSimpArgs false
set_option linter.unusedVariables false
set_option maxHeartbeats 4000000
set_option maxRecDepth 100000
namespace Go.Proofs.YtnjjbolbemlceaaDoor
open Go.RowKit Go.Extern.Stop Go.Stop Go.Extern Go.Hs

theorem cmpEP (w : World) : ((ReflectliteType.method fun t => do Rtype.noPackHeld "Comparable" t; pure (.bool (← typeInfo t).comparable)) #[.agg #[.pointer (some ⟨5, 66, none⟩)]]).run Tryd.prog w = .ok (.bool true) w := by kernel_rfl
theorem cmpEN (w : World) : ((ReflectliteType.method fun t => do Rtype.noPackHeld "Comparable" t; pure (.bool (← typeInfo t).comparable)) #[.agg #[.pointer (some ⟨5, 28, none⟩)]]).run Tryd.prog w = .ok (.bool true) w := by kernel_rfl
theorem is_en (n m : Int) (L : List (ByteArray × Int)) (v : Value) (w : World) (hv : ErrV w.heap (errN n) L v) :
    Calls Tryd.prog 51 #[v, errN m, .bool true] w fun ev w' => ev = .returned (.bool (decide (n = m))) ∧ Ext [] w w' := by
  have e1 := eq_en
  have e2 := eq_ep_en
  have iP := hasIsEP
  have iN := noIsEN
  have mS := methodIs
  have uP := hasUnwrapEP
  have mU := methodUnwrap
  have uN := noUnwrapEN
  have sN := noUnwrapsEN
  unfold errN
  go_enter Tryd.func51, Tryd.ntmps51
  go_wp2
  go_loopg [0] L.length (fun n0 s0 wr => ∃ L0, L0.length = n0 ∧ ErrV wr.heap (errN n) L0 s0 ∧ Ext [] w wr)
  · exact ⟨L, rfl, hv, Ext.refl _ _⟩
  obtain ⟨L0, rfl, hv1, hx⟩ := hrel
  cases L0 with
  | nil =>
    cases hv1
    unfold errN
    by_cases hnm : n = m
    · subst hnm
      have e3 := e1 n n
      simp only [beq_self_eq_true] at e3
      go_wp2
      go_ret
      exact ⟨by simp, hx⟩
    · have e3 := e1 n m
      rw [show (n == m) = false by simpa using hnm] at e3
      clear e1
      go_wp2
      go_ret
      exact ⟨by simp [hnm], hx⟩
  | cons p L0 =>
    obtain ⟨s, x⟩ := p
    obtain ⟨b, u, rfl, hb, hu⟩ := hv1
    have k2 := cellAt hb 2
    simp at k2
    obtain ⟨ty, y, rfl⟩ := hu.iface
    go_wp2_with (go_at_call 120; refine (fis_en _ m _).mono ?_; rintro e w1 ⟨rfl, hx1⟩)
    have k3 := cell_same k2 (hx1.block b (lt_of_heap hb) (by simp))
    go_wp2
    go_roundg L0.length
    case measure => simp
    case rel => exact ⟨L0, rfl, hu.ext0 hx1, hx.trans' hx1⟩
theorem is_ep (n : Int) (q : Nat) (r : ByteArray) (y0 : Int) (L : List (ByteArray × Int)) (v : Value) (w : World) (hv : ErrV w.heap (errN n) L v) (hq : w.heap[q]? = some (.cells #[.string r, .int .i64 y0, .nilIface] 68 (0, 0))) :
    Calls Tryd.prog 51 #[v, .iface 66 (.pointer (some ⟨q, 0, none⟩)), .bool true] w fun ev w' => ev = .returned (.bool (L.any fun p => decide (r = p.1))) ∧ Ext [] w w' := by
  obtain ⟨i, hi, hcmp⟩ := Option.map_eq_some_iff.1 compEP
  obtain ⟨j, hj, hjs⟩ := Option.map_eq_some_iff.1 sizeFault
  have e2 := eq_en_ep
  have iP := hasIsEP
  have iN := noIsEN
  have mS := methodIs
  have uP := hasUnwrapEP
  have mU := methodUnwrap
  have uN := noUnwrapEN
  have sN := noUnwrapsEN
  go_enter Tryd.func51, Tryd.ntmps51
  go_wp2
  go_loopg [0] L.length (fun n0 s0 wr => ∃ L0, L0.length = n0 ∧ ErrV wr.heap (errN n) L0 s0 ∧ Ext [] w wr ∧ Hid ((L.any fun p => decide (r = p.1)) = L0.any fun p => decide (r = p.1)))
  · exact ⟨L, rfl, hv, Ext.refl _ _, Hs.hid rfl⟩
  obtain ⟨L0, rfl, hv1, hx, hH⟩ := hrel
  have hq1 := hx.same hq (by simp)
  cases L0 with
  | nil =>
    cases hv1
    unfold errN
    go_wp2
    go_ret
    exact ⟨by rw [hH.out]; rfl, hx⟩
  | cons p L0 =>
    obtain ⟨s, x⟩ := p
    obtain ⟨b, u, rfl, hb, hu⟩ := hv1
    have k2 := cellAt hb 2
    simp at k2
    obtain ⟨ty, y, rfl⟩ := hu.iface
    have hbq : b ≠ q := fun e => by subst e; rw [hb] at hq1; simp at hq1
    have heq := run_eql_iface_ptr_other (P := Tryd.prog) wr (a := ⟨b, 0, none⟩) (b := ⟨q, 0, none⟩) Tryd.underlying25 Tryd.underlying66 hi hcmp hj (by rw [hjs]; decide) (by simp [hbq]) hb hq1
    by_cases hrs : r = s
    · have hd : decide (r = s) = true := by simp [hrs]
      go_wp2_with (go_at_call 120; refine (fis_ep b q s r x y0 _ _ hb hq1).mono ?_; rw [hd]; rintro e w1 ⟨rfl, hx1⟩)
      go_ret
      exact ⟨by rw [hH.out]; simp [hrs], hx.trans' hx1⟩
    · have hd : decide (r = s) = false := by simp [hrs]
      go_wp2_with (go_at_call 120; refine (fis_ep b q s r x y0 _ _ hb hq1).mono ?_; rw [hd]; rintro e w1 ⟨rfl, hx1⟩)
      have k3 := cell_same k2 (hx1.block b (lt_of_heap hb) (by simp))
      go_wp2
      go_roundg L0.length
      case measure => simp
      case rel => exact ⟨L0, rfl, hu.ext0 hx1, hx.trans' hx1, Hs.hid (by rw [hH.out]; simp [hrs])⟩
theorem is_wrap (o q : Nat) (s s2 : ByteArray) (x x2 : Int) (ty : TypeId) (z : Value) (w : World) (ho : w.heap[o]? = some (.cells #[.string s, .int .i64 x, .iface 66 (.pointer (some ⟨q, 0, none⟩))] 68 (0, 0))) (hq : w.heap[q]? = some (.cells #[.string s2, .int .i64 x2, .iface ty z] 68 (0, 0))) (hne : o ≠ q) :
    Calls Tryd.prog 51 #[.iface 66 (.pointer (some ⟨o, 0, none⟩)), .iface 66 (.pointer (some ⟨q, 0, none⟩)), .bool true] w fun ev w' => ev = .returned (.bool true) ∧ Ext [] w w' := by
  obtain ⟨i, hi, hcmp⟩ := Option.map_eq_some_iff.1 compEP
  obtain ⟨j, hj, hjs⟩ := Option.map_eq_some_iff.1 sizeFault
  have iP := hasIsEP
  have mS := methodIs
  have uP := hasUnwrapEP
  have mU := methodUnwrap
  have k2 := cellAt ho 2
  simp at k2
  have heq := run_eql_iface_ptr_other (P := Tryd.prog) w (a := ⟨o, 0, none⟩) (b := ⟨q, 0, none⟩) Tryd.underlying25 Tryd.underlying66 hi hcmp hj (by rw [hjs]; decide) (by simp [hne]) ho hq
  have hsame := fun w => run_eql_iface_ptr_same (P := Tryd.prog) w ⟨q, 0, none⟩ Tryd.underlying25 Tryd.underlying66 hi hcmp hj
  go_enter Tryd.func51, Tryd.ntmps51
  go_wp2
  refine wp_loop_rounds 2 ?_
  rw [rounds_succ]
  go_wp2_with (go_at_call 120; refine (fis_full o q s s2 x x2 _ ty z _ ho hq).mono ?_; rintro e w1 ⟨rfl, hx1⟩)
  have k3 := cell_same k2 (hx1.block o (lt_of_heap ho) (by simp))
  go_wp2
  rw [rounds_succ]
  go_wp2
  go_ret
  exact ⟨rfl, hx1⟩
theorem Is_en (n m : Int) (L : List (ByteArray × Int)) (v : Value) (w : World) (hv : ErrV w.heap (errN n) L v) :
    Calls Tryd.prog 31 #[v, errN m] w fun ev w' => ev = .returned (.bool (decide (n = m))) ∧ Ext [] w w' := by
  have h10 := @run_callFunc_extern Tryd.prog 50 _ ReflectliteType.typeOf Tryd.func50 (by kernel_rfl) (by kernel_rfl) (by kernel_rfl) (by kernel_rfl)
  have h32 := @run_callFunc_extern Tryd.prog 129 _ (ReflectliteType.method fun t => do Rtype.noPackHeld "Comparable" t; pure (.bool (← typeInfo t).comparable)) Tryd.func129 (by kernel_rfl) (by kernel_rfl) (by kernel_rfl) (by kernel_rfl)
  have tT := typeOfEN
  have cT := cmpEN
  simp only [bind_pure_comp] at cT
  have mR := methodComparable
  obtain ⟨ty, y, hvy⟩ := hv.iface
  subst hvy
  unfold errN
  go_enter Tryd.func31, Tryd.ntmps31
  go_wp2_with (go_at_call 51; refine (is_en n m L _ _ hv).mono ?_; rintro e w1 ⟨rfl, hx⟩)
  go_ret
  exact ⟨rfl, hx⟩
theorem Is_ep (n : Int) (q : Nat) (r : ByteArray) (y0 : Int) (L : List (ByteArray × Int)) (v : Value) (w : World) (hv : ErrV w.heap (errN n) L v) (hq : w.heap[q]? = some (.cells #[.string r, .int .i64 y0, .nilIface] 68 (0, 0))) :
    Calls Tryd.prog 31 #[v, .iface 66 (.pointer (some ⟨q, 0, none⟩))] w fun ev w' => ev = .returned (.bool (L.any fun p => decide (r = p.1))) ∧ Ext [] w w' := by
  have h10 := @run_callFunc_extern Tryd.prog 50 _ ReflectliteType.typeOf Tryd.func50 (by kernel_rfl) (by kernel_rfl) (by kernel_rfl) (by kernel_rfl)
  have h32 := @run_callFunc_extern Tryd.prog 129 _ (ReflectliteType.method fun t => do Rtype.noPackHeld "Comparable" t; pure (.bool (← typeInfo t).comparable)) Tryd.func129 (by kernel_rfl) (by kernel_rfl) (by kernel_rfl) (by kernel_rfl)
  have tT := typeOfEP
  have cT := cmpEP
  simp only [bind_pure_comp] at cT
  have mR := methodComparable
  obtain ⟨ty, y, hvy⟩ := hv.iface
  subst hvy
  go_enter Tryd.func31, Tryd.ntmps31
  go_wp2_with (go_at_call 51; refine (is_ep n q r y0 L _ _ hv hq).mono ?_; rintro e w1 ⟨rfl, hx⟩)
  go_ret
  exact ⟨rfl, hx⟩
theorem Is_wrap (o q : Nat) (s s2 : ByteArray) (x x2 : Int) (ty : TypeId) (z : Value) (w : World) (ho : w.heap[o]? = some (.cells #[.string s, .int .i64 x, .iface 66 (.pointer (some ⟨q, 0, none⟩))] 68 (0, 0))) (hq : w.heap[q]? = some (.cells #[.string s2, .int .i64 x2, .iface ty z] 68 (0, 0))) (hne : o ≠ q) :
    Calls Tryd.prog 31 #[.iface 66 (.pointer (some ⟨o, 0, none⟩)), .iface 66 (.pointer (some ⟨q, 0, none⟩))] w fun ev w' => ev = .returned (.bool true) ∧ Ext [] w w' := by
  have h10 := @run_callFunc_extern Tryd.prog 50 _ ReflectliteType.typeOf Tryd.func50 (by kernel_rfl) (by kernel_rfl) (by kernel_rfl) (by kernel_rfl)
  have h32 := @run_callFunc_extern Tryd.prog 129 _ (ReflectliteType.method fun t => do Rtype.noPackHeld "Comparable" t; pure (.bool (← typeInfo t).comparable)) Tryd.func129 (by kernel_rfl) (by kernel_rfl) (by kernel_rfl) (by kernel_rfl)
  have tT := typeOfEP
  have cT := cmpEP
  simp only [bind_pure_comp] at cT
  have mR := methodComparable
  go_enter Tryd.func31, Tryd.ntmps31
  go_wp2_with (go_at_call 51; refine (is_wrap o q s s2 x x2 ty z _ ho hq hne).mono ?_; rintro e w1 ⟨rfl, hx⟩)
  go_ret
  exact ⟨rfl, hx⟩
end Go.Proofs.YtnjjbolbemlceaaDoor
