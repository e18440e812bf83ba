/-
  FaultWraps.
-/
import Derived.Test.YtnjjbolbemlceaaDoorFault5
set_option linter.unusedSimpArgs false
set_option linter.unusedVariables false
set_option maxHeartbeats 4000000
set_option maxRecDepth 100000
namespace Go.Proofs.YtnjjbolbemlceaaDoor
open Go.RowKit Go.Extern.Stop Go.Stop Go.Extern Go.Hs

theorem lastAt_ne {L : List (ByteArray × Int)} (h : L ≠ []) (d d' : Int) : lastAt d L = lastAt d' L := by
  cases L with
  | nil => exact absurd rfl h
  | cons p L => rfl
theorem join_cons2 (x y : List UInt8) (r : List (List UInt8)) (sep : List UInt8) : Lib.join (x :: y :: r) sep = x ++ (sep ++ Lib.join (y :: r) sep) := by
  rw [Lib.join_cons, Lib.join_cons]
  simp [Lib.joinTail]
theorem pathB_cons (s : ByteArray) (a : Int) (L : List (ByteArray × Int)) (n : Nat) : pathB ((s, a) :: L) n = s ++ ⟨#[47]⟩ ++ pathB L n := by
  have key : ∀ (xs : List (List UInt8)), xs ≠ [] → Lib.join (s.data.toList :: xs) [47] = s.data.toList ++ ([47] ++ Lib.join xs [47]) := by
    intro xs hx
    cases xs with
    | nil => exact absurd rfl hx
    | cons y r => exact join_cons2 _ _ _ _
  unfold pathB
  have h1 : (namesE ((s, a) :: L) ++ [errWord n]).map (·.data.toList) = s.data.toList :: (namesE L ++ [errWord n]).map (·.data.toList) := by simp [namesE]
  rw [h1, key _ (by simp)]
  apply ByteArray.ext
  simp [ByteArray.data_append]
theorem pathB_size (L : List (ByteArray × Int)) (n : Nat) (hn : n < 21) (hL : L.length ≤ 100) (hs : ∀ p ∈ L, p.1.size ≤ 100) : (pathB L n).size ≤ 100000 := by
  have hlen : (namesE L ++ [errWord n]).length = L.length + 1 := by simp [namesE]
  have := join_le [47] 100 ((namesE L ++ [errWord n]).map (·.data.toList)) (by
    intro x hx
    obtain ⟨y, hy, rfl⟩ := List.mem_map.1 hx
    have : y.size ≤ 100 := by
      rcases List.mem_append.1 hy with h | h
      · obtain ⟨p, hp, rfl⟩ := List.mem_map.1 h; exact hs p hp
      · obtain rfl := List.mem_singleton.1 h; have := errWord_size n hn; omega
    show y.data.toList.length ≤ 100
    rw [Array.length_toList]; exact this)
  rw [List.length_map, hlen] at this
  have h1 : ([47] : List UInt8).length = 1 := rfl
  rw [h1] at this
  have h2 : (L.length + 1) * (1 + 100) ≤ 101 * 101 := Nat.mul_le_mul (by omega) (by omega)
  show (Lib.join ((namesE L ++ [errWord n]).map (·.data.toList)) [47]).toArray.size ≤ 100000
  rw [List.size_toArray]
  omega
theorem own_first {w : World} {ao : Option Addr} {cap m : Nat} {x : ByteArray} {xs : List ByteArray} (h : Own w.heap 9 1 (.slice ao (m + 1) cap) (m + 1) ((x :: xs).map Value.string)) : ∃ g, ao = some ⟨g, 0, none⟩ ∧ w.cell? ⟨g, 0, none⟩ = some (.string x) := by
  rcases h.2 with ⟨_, h1⟩ | ⟨g, cap', cur, h1, _, hg, hn, hm, hsz, ht⟩
  · omega
  · simp only [Value.slice.injEq] at h1
    obtain ⟨rfl, _, rfl⟩ := h1
    refine ⟨g, rfl, ?_⟩
    rw [cellAt hg]
    have : (cur.toList.take ((m + 1) * 1))[0]? = some (.string x) := by rw [ht]; rfl
    rw [List.getElem?_take, if_pos (by omega)] at this
    simpa using this
theorem faultWraps_any (ao : Option Addr) (len cap : Nat) (n : Int) (step : ByteArray) (at0 : Int) (w : World) (hg : Gd w) (hA : StepArg w ao len) (hst : step.size ≤ maxLen) :
    Calls Tryd.prog 6 #[.slice ao len cap, .int .i64 n, .string step, .int .i64 at0] w fun e w' => e = .returned (.bool true) ∧ Ext [] w w' := by
  have HST := Hs.hid hst
  clear hst
  go_enter Tryd.func6, Tryd.ntmps6
  go_upto_region 3 with (go_at_call 10; refine (awake3_any _ hg).mono ?_; rintro e w1 ⟨rfl, hx1⟩)
  have HG1 := Hs.hid (hg.ext hx1 (by simp))
  have HA1 := Hs.hid (hA.ext hx1)
  clear hA
  go_upto_region 5 with (first
    | (go_at_call 11; refine (wrapped_any ao len cap n _ HG1.out HA1.out).mono ?_; rintro e w2 ⟨v1, k1, L1, a1, c1, rfl, hv1, hf1⟩)
    | (go_at_call 20; refine (cutF_any step 10 (by decide) _ HST.out).mono ?_; rintro e w3 ⟨rfl, rfl⟩))
  have hcs := cutB_size step 10
  generalize cutB step 10 = st at *
  have HG2 := Hs.hid (HG1.out.ext hf1.ext (by simp))
  have HX2 := Hs.hid (hx1.trans' hf1.ext)
  have HV1 := Hs.hid hv1
  have HL := Hs.hid (And.intro hf1.len (And.intro hf1.six hf1.names))
  have hk6 := hf1.six
  have HCS := Hs.hid hcs
  have HN := Hs.hid (numE_eq n)
  clear HA1 HG1 hx1 hv1 hf1 hcs
  go_upto_region 6 with (go_at_call 30; refine (in_chain st at0 (numE n : Nat) (by have := HN.out; omega) L1 v1 _ HV1.out).mono ?_; rintro e w4 ⟨v4, rfl, hv4, hr4, hc4, hx4⟩)
  subst hv4
  have HR4 := Hs.hid hr4
  have HV4 := Hs.hid hc4
  have HV14 := Hs.hid (HV1.out.ext0 hx4)
  have HG4 := Hs.hid (HG2.out.ext hx4 (by simp))
  have HX4 := Hs.hid (HX2.out.trans' hx4)
  have HX24 := Hs.hid hx4
  clear hr4 hc4 hx4
  go_upto_region 7 with (go_at_call 18; refine (where_any (numE n : Nat) L1 (by have := HL.out; omega) v1 _ HG4.out HV14.out).mono ?_; rintro e w5 ⟨s5, rfl, hO5, hx5, hf5⟩)
  obtain ⟨ao5, cap5, hs5⟩ := Own.form (w := w5) hO5
  subst hs5
  have HG5 := Hs.hid (HG4.out.ext hx5 (by simp))
  have HV5 := Hs.hid (HV4.out.ext0 hx5)
  have HV15 := Hs.hid (HV14.out.ext0 hx5)
  have HX5 := Hs.hid (HX4.out.trans' hx5)
  have HX45 := Hs.hid (HX24.out.trans' hx5)
  have HR5 := Hs.hid (hx5.same HR4.out (by simp))
  clear hO5 hx5 hf5
  have hl8 : ((st, at0) :: L1).length ≤ 1000 := by have := HL.out; rw [List.length_cons]; omega
  have c8 : Calls Tryd.prog 18 #[.iface 66 (.pointer (some ⟨w3.heap.size, 0, none⟩))] w5 fun ev w' => ∃ ao6 k6 cap6 z g6, ev = .returned (.tuple #[.slice (some ⟨g6, 0, none⟩) k6 cap6, .int .i64 z]) ∧ ao6 = some g6 ∧ Hid (z = lastAt at0 L1 ∧ k6 = L1.length + 1 ∧ w'.cell? ⟨g6, 0, none⟩ = some (.string st)) ∧ Hid (Ext [] w5 w') := by
    refine (where_any (numE n : Nat) ((st, at0) :: L1) hl8 _ _ HG5.out HV5.out).mono ?_
    rintro e w6 ⟨s6, rfl, hO6, hx6, hf6⟩
    obtain ⟨ao6, cap6, hs6⟩ := Own.form (w := w6) hO6
    subst hs6
    rw [List.length_cons, show namesE ((st, at0) :: L1) = st :: namesE L1 from rfl] at hO6
    have hO7 := hO6
    obtain ⟨g6, hao, c6⟩ := own_first (m := L1.length) (x := st) (xs := namesE L1) hO7
    subst hao
    rw [List.length_cons, show lastAt (-1) ((st, at0) :: L1) = lastAt at0 L1 from rfl]
    refine ⟨some g6, L1.length + 1, cap6, lastAt at0 L1, g6, rfl, rfl, Hs.hid ⟨rfl, rfl, c6⟩, Hs.hid hx6⟩
  have C8 := Hs.hid c8
  clear c8 hl8
  go_upto_region 8 with (go_at_call 18; refine C8.out.mono ?_; rintro e w6 ⟨ao6, k6, cap6, z6, g6, rfl, _, HZ, HX56⟩)
  have HG6 := Hs.hid (HG5.out.ext HX56.out (by simp))
  have HV6 := Hs.hid (HV5.out.ext0 HX56.out)
  have HV16 := Hs.hid (HV15.out.ext0 HX56.out)
  have HX6 := Hs.hid (HX5.out.trans' HX56.out)
  have HX46 := Hs.hid (HX45.out.trans' HX56.out)
  have HIs : Hid (∀ w', Ext [] w6 w' → Calls Tryd.prog 31 #[.iface 66 (.pointer (some ⟨w3.heap.size, 0, none⟩)), v1] w' fun e w'' => e = .returned (.bool true) ∧ Ext [] w' w'') := Hs.hid (by
    intro w' hw'
    have hr := (HX46.out.trans' hw')
    have h4 := HV6.out.ext0 hw'
    have h1 := HV16.out.ext0 hw'
    have hw3 := HV1.out
    generalize hL : L1 = LL at h4 h1 hw3
    cases LL with
    | nil =>
      cases h1
      have := Is_en (numE n : Nat) (numE n : Nat) [(st, at0)] _ w' h4
      simpa using this
    | cons p LL =>
      obtain ⟨s2, x2⟩ := p
      obtain ⟨b, u, rfl, hb, hu⟩ := h1
      obtain ⟨b', u', hbb, hb', _⟩ := hw3
      simp only [Value.iface.injEq, Value.pointer.injEq, Option.some.injEq, Addr.mk.injEq, true_and, and_true] at hbb
      subst hbb
      obtain ⟨ty, z, rfl⟩ := hu.iface
      have hro := hw'.same (HX56.out.same HR5.out (by simp)) (by simp)
      exact Is_wrap w3.heap.size b st s2 at0 x2 ty z w' hro hb (fun e => by have := lt_of_heap hb'; omega))
  obtain ⟨hz6, hk6e, c6⟩ := HZ.out
  obtain ⟨kk, hkk⟩ : ∃ kk, L1.length = kk := ⟨_, rfl⟩
  have hk1 : k1 = kk := by rw [← hkk]; exact HL.out.1.symm
  rw [hkk] at hk6e
  subst hk1 hk6e hz6
  have HKK := Hs.hid hkk
  rw [hkk]
  clear hkk HZ
  have HLN : Hid (((st, at0) :: L1).length ≤ 100 ∧ (∀ p ∈ ((st, at0) :: L1), p.1.size ≤ 100) ∧ L1.length ≤ 100 ∧ ∀ p ∈ L1, p.1.size ≤ 100) := Hs.hid ⟨by have := HL.out; rw [List.length_cons]; omega, fun p hp => by
    rcases List.mem_cons.1 hp with rfl | h
    · have := HCS.out; show st.size ≤ 100; omega
    · have := HL.out.2.2 p h; omega, by have := HL.out; omega, fun p hp => by have := HL.out.2.2 p hp; omega⟩
  have hps := pathB_size L1 (numE n) HN.out.2.2 HLN.out.2.2.1 HLN.out.2.2.2
  have hst2 := HCS.out
  have n1 : ¬ 9223372036854775807 < st.size + 1 := by omega
  have n2 : ¬ 9223372036854775807 < st.size + 1 + (pathB L1 (numE n)).size := by omega
  clear hps hst2
  by_cases h0 : k1 = 0
  · have hL0 : L1 = [] := List.eq_nil_of_length_eq_zero (by rw [HKK.out]; exact h0)
    subst h0
    have hla : lastAt at0 L1 = at0 := by rw [hL0]; rfl
    rw [hla]
    generalize lastAt (-1) L1 = pl
    have HL0 := Hs.hid hL0
    clear hL0 hla
    go_wp2_with (first
      | (go_at_call 17; with_reducible refine (faultOf_any (numE n : Nat) ((st, at0) :: L1) (.iface 66 (.pointer (some ⟨w3.heap.size, 0, none⟩))) w6 HG6.out HV6.out).mono ?_; rintro e w7 ⟨rfl, hx7⟩; have HX7 := Hs.hid hx7; clear hx7)
      | (go_at_call 17; with_reducible refine (faultOf_any (numE n : Nat) L1 v1 w7 (HG6.out.ext HX7.out (by simp)) (HV16.out.ext0 HX7.out)).mono ?_; rintro e w8 ⟨rfl, hx8⟩; have HX8 := Hs.hid (HX7.out.trans' hx8); clear hx8)
      | (go_at_call 15; with_reducible refine (path_any (numE n) HN.out.2.2 ((st, at0) :: L1) (HLN.out.1) (HLN.out.2.1) (.iface 66 (.pointer (some ⟨w3.heap.size, 0, none⟩))) w8 (HG6.out.ext HX8.out (by simp)) (HV6.out.ext0 HX8.out)).mono ?_; rw [pathB_cons]; rintro e w9 ⟨rfl, hx9⟩; have HX9 := Hs.hid (HX8.out.trans' hx9); clear hx9)
      | (go_at_call 15; with_reducible refine (path_any (numE n) HN.out.2.2 L1 (HLN.out.2.2.1) (HLN.out.2.2.2) v1 w9 (HG6.out.ext HX9.out (by simp)) (HV16.out.ext0 HX9.out)).mono ?_; rintro e w10 ⟨rfl, hx10⟩; have HX10 := Hs.hid (HX9.out.trans' hx10); clear hx10)
      | (go_at_call 31; refine (HIs.out _ HX10.out).mono ?_; rintro e w11 ⟨rfl, hx11⟩; have HX11 := Hs.hid (HX10.out.trans' hx11); clear hx11))
    go_ret
    exact ⟨rfl, HX6.out.trans' HX11.out⟩
  · have hL0 : L1 ≠ [] := fun e => h0 (by rw [← HKK.out, e]; rfl)
    have hla : lastAt at0 L1 = lastAt (-1) L1 := lastAt_ne hL0 _ _
    rw [hla]
    generalize lastAt (-1) L1 = pl
    have hk0 : (0 : Int) < k1 := by omega
    have HL0 := Hs.hid hL0
    clear hL0 hla
    go_wp2_with (first
      | (go_at_call 17; with_reducible refine (faultOf_any (numE n : Nat) ((st, at0) :: L1) (.iface 66 (.pointer (some ⟨w3.heap.size, 0, none⟩))) w6 HG6.out HV6.out).mono ?_; rintro e w7 ⟨rfl, hx7⟩; have HX7 := Hs.hid hx7; clear hx7)
      | (go_at_call 17; with_reducible refine (faultOf_any (numE n : Nat) L1 v1 w7 (HG6.out.ext HX7.out (by simp)) (HV16.out.ext0 HX7.out)).mono ?_; rintro e w8 ⟨rfl, hx8⟩; have HX8 := Hs.hid (HX7.out.trans' hx8); clear hx8)
      | (go_at_call 15; with_reducible refine (path_any (numE n) HN.out.2.2 ((st, at0) :: L1) (HLN.out.1) (HLN.out.2.1) (.iface 66 (.pointer (some ⟨w3.heap.size, 0, none⟩))) w8 (HG6.out.ext HX8.out (by simp)) (HV6.out.ext0 HX8.out)).mono ?_; rw [pathB_cons]; rintro e w9 ⟨rfl, hx9⟩; have HX9 := Hs.hid (HX8.out.trans' hx9); clear hx9)
      | (go_at_call 15; with_reducible refine (path_any (numE n) HN.out.2.2 L1 (HLN.out.2.2.1) (HLN.out.2.2.2) v1 w9 (HG6.out.ext HX9.out (by simp)) (HV16.out.ext0 HX9.out)).mono ?_; rintro e w10 ⟨rfl, hx10⟩; have HX10 := Hs.hid (HX9.out.trans' hx10); clear hx10)
      | (go_at_call 31; refine (HIs.out _ HX10.out).mono ?_; rintro e w11 ⟨rfl, hx11⟩; have HX11 := Hs.hid (HX10.out.trans' hx11); clear hx11))
    go_ret
    exact ⟨rfl, HX6.out.trans' HX11.out⟩
end Go.Proofs.YtnjjbolbemlceaaDoor
