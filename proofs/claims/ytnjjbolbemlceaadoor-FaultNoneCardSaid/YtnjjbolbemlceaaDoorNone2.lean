/-
  FaultNone.
-/
import Derived.Test.YtnjjbolbemlceaaDoorNone
import Derived.Test.YtnjjbolbemlceaaDoorStillS
import Derived.Deep.Cut
set_option linter.unusedSimpArgs false
set_option linter.unusedVariables false
set_option maxHeartbeats 4000000
set_option maxRecDepth 100000
namespace Go.Proofs.YtnjjbolbemlceaaDoor
open Go.RowKit Go.Extern.Stop Go.Stop Go.Extern Go.Hs

theorem error_bare (b : Nat) (s t : ByteArray) (x : Int) (hs : s.size ≤ 100) (ht : t.size ≤ 100) (w : World) (hb : w.heap[b]? = some (.cells #[.string s, .int .i64 x, .nilIface] 68 (0, 0)))
    (hI : ∀ w, Calls Tryd.prog 52 #[.int .i64 x] w fun e w' => e = .returned (.string t) ∧ w' = w) :
    Calls Tryd.prog 35 #[.pointer (some ⟨b, 0, none⟩)] w fun e w' => e = .returned (.string (s ++ ⟨#[32]⟩ ++ t ++ ⟨#[58, 32]⟩ ++ ⟨#[110, 111, 116, 104, 105, 110, 103]⟩)) ∧ Ext [] w w' := by
  have b0 := cellAt hb 0
  have b1 := cellAt hb 1
  have b2 := cellAt hb 2
  simp at b0 b1 b2
  go_enter Tryd.func35, Tryd.ntmps35
  go_upto_region 4 with fail
  have n1 : ¬ 9223372036854775807 < s.size + 1 := by omega
  have n2 : ¬ 9223372036854775807 < s.size + 1 + t.size := by omega
  have n3 : ¬ 9223372036854775807 < s.size + 1 + t.size + 2 := by omega
  have n4 : ¬ 9223372036854775807 < s.size + 1 + t.size + 2 + 7 := by omega
  clear hs ht
  refine wp_region_stl (by kernel_rfl) (by kernel_rfl) ?_
  refine still_val (v := ?_) (by rfl) ?_ ?_
  rotate_left
  · first | (go_simp; done) | (go_simp; with_reducible rfl)
  try simp only [Act.put, List.getElem_toArray, List.getElem_cons_succ, List.getElem_cons_zero, List.setIfInBounds_toArray, List.set_cons_zero, List.set_cons_succ]
  refine still_val (v := ?_) (by rfl) ?_ ?_
  rotate_left
  · first | (go_simp; done) | (go_simp; with_reducible rfl)
  try simp only [Act.put, List.getElem_toArray, List.getElem_cons_succ, List.getElem_cons_zero, List.setIfInBounds_toArray, List.set_cons_zero, List.set_cons_succ]
  refine still_val (v := ?_) (by rfl) ?_ ?_
  rotate_left
  · first | (go_simp; done) | (go_simp; with_reducible rfl)
  try simp only [Act.put, List.getElem_toArray, List.getElem_cons_succ, List.getElem_cons_zero, List.setIfInBounds_toArray, List.set_cons_zero, List.set_cons_succ]
  refine still_val (v := ?_) (by rfl) ?_ ?_
  rotate_left
  · first | (go_simp; done) | (go_simp; with_reducible rfl)
  try simp only [Act.put, List.getElem_toArray, List.getElem_cons_succ, List.getElem_cons_zero, List.setIfInBounds_toArray, List.set_cons_zero, List.set_cons_succ]
  refine still_val (v := ?_) (by rfl) ?_ ?_
  rotate_left
  · first | (go_simp; done) | (go_simp; with_reducible rfl)
  try simp only [Act.put, List.getElem_toArray, List.getElem_cons_succ, List.getElem_cons_zero, List.setIfInBounds_toArray, List.set_cons_zero, List.set_cons_succ]
  refine still_val (v := ?_) (by rfl) ?_ ?_
  rotate_left
  · first | (go_simp; done) | (go_simp; with_reducible rfl)
  try simp only [Act.put, List.getElem_toArray, List.getElem_cons_succ, List.getElem_cons_zero, List.setIfInBounds_toArray, List.set_cons_zero, List.set_cons_succ]
  refine still_val (v := ?_) (by rfl) ?_ ?_
  rotate_left
  · first | (go_simp; done) | (go_simp; with_reducible rfl)
  try simp only [Act.put, List.getElem_toArray, List.getElem_cons_succ, List.getElem_cons_zero, List.setIfInBounds_toArray, List.set_cons_zero, List.set_cons_succ]
  refine still_val (v := ?_) (by rfl) ?_ ?_
  rotate_left
  · first | (go_simp; done) | (go_simp; with_reducible rfl)
  try simp only [Act.put, List.getElem_toArray, List.getElem_cons_succ, List.getElem_cons_zero, List.setIfInBounds_toArray, List.set_cons_zero, List.set_cons_succ]
  refine still_val (v := ?_) (by rfl) ?_ ?_
  rotate_left
  · first | (go_simp; done) | (go_simp; with_reducible rfl)
  try simp only [Act.put, List.getElem_toArray, List.getElem_cons_succ, List.getElem_cons_zero, List.setIfInBounds_toArray, List.set_cons_zero, List.set_cons_succ]
  refine still_call (by rfl) (by first | (go_simp; done) | (go_simp; with_reducible rfl)) (hI _) ?_
  try simp only [Act.put, List.getElem_toArray, List.getElem_cons_succ, List.getElem_cons_zero, List.setIfInBounds_toArray, List.set_cons_zero, List.set_cons_succ]
  refine still_val (v := ?_) (by rfl) ?_ ?_
  rotate_left
  · first | (go_simp; done) | (go_simp; with_reducible rfl)
  try simp only [Act.put, List.getElem_toArray, List.getElem_cons_succ, List.getElem_cons_zero, List.setIfInBounds_toArray, List.set_cons_zero, List.set_cons_succ]
  refine still_val (v := ?_) (by rfl) ?_ ?_
  rotate_left
  · first | (go_simp; done) | (go_simp; with_reducible rfl)
  try simp only [Act.put, List.getElem_toArray, List.getElem_cons_succ, List.getElem_cons_zero, List.setIfInBounds_toArray, List.set_cons_zero, List.set_cons_succ]
  refine still_val (v := ?_) (by rfl) ?_ ?_
  rotate_left
  · first | (go_simp; done) | (go_simp; with_reducible rfl)
  try simp only [Act.put, List.getElem_toArray, List.getElem_cons_succ, List.getElem_cons_zero, List.setIfInBounds_toArray, List.set_cons_zero, List.set_cons_succ]
  refine still_val (v := ?_) (by rfl) ?_ ?_
  rotate_left
  · first | (go_simp; done) | (go_simp; with_reducible rfl)
  try simp only [Act.put, List.getElem_toArray, List.getElem_cons_succ, List.getElem_cons_zero, List.setIfInBounds_toArray, List.set_cons_zero, List.set_cons_succ]
  refine still_val (v := ?_) (by rfl) ?_ ?_
  rotate_left
  · first | (go_simp; done) | (go_simp; with_reducible rfl)
  try simp only [Act.put, List.getElem_toArray, List.getElem_cons_succ, List.getElem_cons_zero, List.setIfInBounds_toArray, List.set_cons_zero, List.set_cons_succ]
  refine still_end ?_
  go_wp2
  go_ret
  exact ⟨rfl, (Ext.refl _ _).drew⟩
theorem within_plain (b : Nat) (s : ByteArray) (w : World) :
    Calls Tryd.prog 32 #[.iface 92 (.pointer (some ⟨b, 0, none⟩)), .string s] w fun ev w' => ev = .returned (.bool false) ∧ Ext [] w w' := by
  have h10 := @run_callFunc_extern Tryd.prog 50 _ ReflectliteType.typeOf Tryd.func50 (by kernel_rfl) (by kernel_rfl) (by kernel_rfl) (by kernel_rfl)
  have h32 := @run_callFunc_extern Tryd.prog 129 _ (ReflectliteType.method fun t => do Rtype.noPackHeld "Comparable" t; pure (.bool (← typeInfo t).comparable)) Tryd.func129 (by kernel_rfl) (by kernel_rfl) (by kernel_rfl) (by kernel_rfl)
  have tT := typeOfEP
  have cT := cmpEP
  simp only [bind_pure_comp] at cT
  have mR := methodComparable
  have e1 := eq_es_ep
  have nS := noIsES
  have uS := noUnwrapES
  have sS := noUnwrapsES
  have E0 : Ext [] w (w.alloc (.cells #[.string s, .int .i64 0, .nilIface] 68)) := (Ext.refl _ _).alloc _
  have c1 : ∀ (q : Nat) (W : World), Calls Tryd.prog 51 #[.iface 92 (.pointer (some ⟨b, 0, none⟩)), .iface 66 (.pointer (some ⟨q, 0, none⟩)), .bool true] W fun ev w' => ev = .returned (.bool false) ∧ w' = W := fun q W => by
    go_enter Tryd.func51, Tryd.ntmps51
    go_wp2
    refine wp_loop_rounds 1 ?_
    rw [rounds_succ]
    go_wp2
    go_ret
    exact ⟨rfl, rfl⟩
  have C1 := Hs.hid c1
  clear c1
  have c2 : ∀ (q : Nat) (W : World), Calls Tryd.prog 31 #[.iface 92 (.pointer (some ⟨b, 0, none⟩)), .iface 66 (.pointer (some ⟨q, 0, none⟩))] W fun ev w' => ev = .returned (.bool false) ∧ w' = W := fun q W => by
    go_enter Tryd.func31, Tryd.ntmps31
    go_wp2_with (go_at_call 51; refine (C1.out _ _).mono ?_; rintro e w1 ⟨rfl, rfl⟩)
    go_ret
    exact ⟨rfl, rfl⟩
  have C2 := Hs.hid c2
  clear c2
  go_enter Tryd.func32, Tryd.ntmps32
  go_wp2_with (go_at_call 31; refine (C2.out _ _).mono ?_; rintro e w1 ⟨rfl, rfl⟩)
  go_ret
  exact ⟨rfl, E0⟩
theorem faultNone_any (step word : ByteArray) (at0 : Int) (w : World) (hg : Gd w) (hs : step.size ≤ maxLen) (hw : word.size ≤ maxLen) :
    Calls Tryd.prog 8 #[.string step, .string word, .int .i64 at0] w fun e w' => e = .returned (.bool true) ∧ Ext [] w w' := by
  have HS := Hs.hid hs
  have HW := Hs.hid hw
  clear hs hw
  have CS : Hid (∀ w, Calls Tryd.prog 20 #[.string step, .int .i64 10] w fun e w' => e = .returned (.string (cutB step 10)) ∧ w' = w) := Hs.hid (fun w => cutF_any step 10 (by decide) w HS.out)
  have CW : Hid (∀ w, Calls Tryd.prog 20 #[.string word, .int .i64 10] w fun e w' => e = .returned (.string (cutB word 10)) ∧ w' = w) := Hs.hid (fun w => cutF_any word 10 (by decide) w HW.out)
  go_enter Tryd.func8, Tryd.ntmps8
  go_upto_region 2 with (first
    | (go_at_call 20; with_reducible refine (CS.out _).mono ?_; rintro e w1 ⟨rfl, rfl⟩)
    | (go_at_call 20; with_reducible refine (CW.out _).mono ?_; rintro e w1 ⟨rfl, rfl⟩))
  have hst := cutB_size step 10
  clear CS CW
  generalize cutB step 10 = st at *
  generalize cutB word 10 = wd at *
  have HST := Hs.hid hst
  clear hst
  have hgw := hg
  go_upto_region 4 with (go_at_call 10; refine (awake3_any _ (by assumption)).mono ?_; rintro e w2 ⟨rfl, hx2⟩)
  go_upto_region 5 with (go_at_call 34; refine (new_any wd _).mono ?_; rintro e w3 ⟨v3, rfl, hv3, hw3⟩; subst hv3; have HW3 := Hs.hid hw3; clear hw3)
  go_upto_region 6 with (go_at_call 30; refine (in_es st at0 _ _).mono ?_; rintro e w4 ⟨v4, rfl, hv4, hw4⟩; subst hv4; have HW4 := Hs.hid hw4; clear hw4)
  go_upto_region 8 with (go_at_call 18; refine (where_nil _).mono ?_; rintro e w6 ⟨rfl, hx6⟩; have HX6 := Hs.hid hx6; clear hx6)
  have e23 : Ext [] w2 w3 := by rw [HW3.out]; exact (Ext.refl _ _).alloc _
  have e34 : Ext [] w3 w4 := by rw [HW4.out]; exact (Ext.refl _ _).alloc _
  have r4 : w4.heap[w3.heap.size]? = some (.cells #[.string st, .int .i64 at0, .iface 92 (.pointer (some ⟨w2.heap.size, 0, none⟩))] 68 (0, 0)) := by rw [HW4.out]; exact heap_new w3 _
  have e46 : Ext [] w4 w6 := ((Ext.refl [] w4).alloc _).trans' HX6.out
  have hB : w6.heap[w4.heap.size]? = some (.cells #[.string st, .int .i64 1, .nilIface] 68 (0, 0)) := HX6.out.same (heap_new w4 _) (by simp)
  have hE := e46.same r4 (by simp)
  have HT := Hs.hid (hx2.trans' (e23.trans' (e34.trans' e46)))
  have HG6 := Hs.hid (hgw.ext HT.out (by simp))
  have HB := Hs.hid hB
  have HEE := Hs.hid hE
  clear hB hE e46 r4 e23 e34 hx2 hgw hg HW3 HW4 HX6
  have htx : (st ++ ⟨#[32]⟩ ++ ⟨#[49]⟩ ++ ⟨#[58, 32]⟩ ++ ⟨#[110, 111, 116, 104, 105, 110, 103]⟩ : ByteArray) = (st ++ ⟨#[32, 49, 58, 32, 110, 111, 116, 104, 105, 110, 103]⟩) := by
    apply ByteArray.ext
    simp [ByteArray.data_append]
  have HTX := Hs.hid htx
  clear htx
  have hs10 := HST.out
  have n1 : ¬ 9223372036854775807 < st.size + 11 := by omega
  clear hs10
  have C1 : Hid (∀ w', Ext [] w6 w' → Calls Tryd.prog 30 #[.string st, .int .i64 at0, .nilIface] w' fun e w'' => e = .returned .nilIface ∧ Ext [] w' w'') := Hs.hid (fun w' hw' => in_nil st at0 w')
  have C2 : Hid (∀ w', Ext [] w6 w' → Calls Tryd.prog 17 #[.nilIface] w' fun e w'' => e = .returned (.int .i64 0) ∧ Ext [] w' w'') := Hs.hid (fun w' hw' => of_nil w')
  have C3 : Hid (∀ w', Ext [] w6 w' → Calls Tryd.prog 17 #[.iface 66 (.pointer (some ⟨w3.heap.size, 0, none⟩))] w' fun e w'' => e = .returned (.int .i64 2) ∧ Ext [] w' w'') := Hs.hid (fun w' hw' => of_miss _ [(st, at0)] _ w' (HG6.out.ext hw' (by simp)) ⟨_, _, rfl, hw'.same HEE.out (by simp), rfl⟩)
  have C4 : Hid (∀ w', Ext [] w6 w' → Calls Tryd.prog 31 #[.iface 66 (.pointer (some ⟨w3.heap.size, 0, none⟩)), .iface 92 (.pointer (some ⟨w2.heap.size, 0, none⟩))] w' fun e w'' => e = .returned (.bool true) ∧ Ext [] w' w'') := Hs.hid (fun w' hw' => Is_es w3.heap.size w2.heap.size st at0 w' (hw'.same HEE.out (by simp)))
  have C5 : Hid (∀ w', Ext [] w6 w' → Calls Tryd.prog 35 #[.pointer (some ⟨w4.heap.size, 0, none⟩)] w' fun e w'' => e = .returned (.string (st ++ ⟨#[32, 49, 58, 32, 110, 111, 116, 104, 105, 110, 103]⟩)) ∧ Ext [] w' w'') := Hs.hid (fun w' hw' => by have := error_bare w4.heap.size st ⟨#[49]⟩ 1 (by have := HST.out; omega) (by decide) w' (hw'.same HB.out (by simp)) itoa1; rw [HTX.out] at this; exact this)
  have C6 : Hid (∀ w', Ext [] w6 w' → Calls Tryd.prog 32 #[.iface 66 (.pointer (some ⟨w4.heap.size, 0, none⟩)), .string st] w' fun e w'' => e = .returned (.bool true) ∧ Ext [] w' w'') := Hs.hid (fun w' hw' => within_bare w4.heap.size st 1 w' (hw'.same HB.out (by simp)))
  have C7 : Hid (∀ w', Ext [] w6 w' → Calls Tryd.prog 32 #[.iface 92 (.pointer (some ⟨w2.heap.size, 0, none⟩)), .string st] w' fun e w'' => e = .returned (.bool false) ∧ Ext [] w' w'') := Hs.hid (fun w' hw' => within_plain w2.heap.size st w')
  have HE : Hid (Ext [] w6 w6) := Hs.hid (Ext.refl _ _)
  go_wp2_with (first
    | (go_at_call 30; with_reducible refine (C1.out _ HE.out).mono ?_; rintro e w9 ⟨rfl, hx9⟩; replace HE := Hs.hid (HE.out.trans' hx9); clear hx9)
    | (go_at_call 17; with_reducible refine (C2.out _ HE.out).mono ?_; rintro e w9 ⟨rfl, hx9⟩; replace HE := Hs.hid (HE.out.trans' hx9); clear hx9)
    | (go_at_call 17; with_reducible refine (C3.out _ HE.out).mono ?_; rintro e w9 ⟨rfl, hx9⟩; replace HE := Hs.hid (HE.out.trans' hx9); clear hx9)
    | (go_at_call 31; with_reducible refine (C4.out _ HE.out).mono ?_; rintro e w9 ⟨rfl, hx9⟩; replace HE := Hs.hid (HE.out.trans' hx9); clear hx9)
    | (go_at_call 35; with_reducible refine (C5.out _ HE.out).mono ?_; rintro e w9 ⟨rfl, hx9⟩; replace HE := Hs.hid (HE.out.trans' hx9); clear hx9)
    | (go_at_call 32; with_reducible refine (C6.out _ HE.out).mono ?_; rintro e w9 ⟨rfl, hx9⟩; replace HE := Hs.hid (HE.out.trans' hx9); clear hx9)
    | (go_at_call 32; with_reducible refine (C7.out _ HE.out).mono ?_; rintro e w9 ⟨rfl, hx9⟩; replace HE := Hs.hid (HE.out.trans' hx9); clear hx9))
  go_ret
  exact ⟨rfl, HT.out.trans' HE.out⟩
end Go.Proofs.YtnjjbolbemlceaaDoor
