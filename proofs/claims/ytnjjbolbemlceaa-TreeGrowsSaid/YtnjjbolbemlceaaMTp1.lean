/-
  Texts of this claim, put together: Parts, Parts2.
-/
import Derived.Deep.CutBlock
import Derived.Test.YtnjjbolbemlceaaMTd3
set_option linter.unusedSimpArgs false
set_option linter.unusedVariables false
set_option maxHeartbeats 2000000
set_option maxRecDepth 100000
namespace Go.Proofs.Ytnjjbolbemlceaa
open Go.RowKit Go.Hs Go.Dg

theorem and7 (n : Int) : Go.bits .and .i64 n 7 = n % 8 := by
  have h127 : (BitVec.ofInt 64 7).toNat = 2 ^ 3 - 1 := by decide
  have key : (BitVec.ofInt 64 n &&& BitVec.ofInt 64 7).toNat = (n % ((2 ^ 64 : Nat) : Int)).toNat % 2 ^ 3 := by
    rw [BitVec.toNat_and, BitVec.toNat_ofInt, h127, Nat.and_two_pow_sub_one_eq_mod]
  show IntKind.i64.wrap ((BitVec.ofInt 64 n &&& BitVec.ofInt 64 7).toNat : Nat) = n % 8
  rw [key, IntKind.wrap_i64]
  omega
theorem elemStrs : Try.prog.underlying 30 = some (.slice (Try.prog.elem 30)) := by kernel_rfl
theorem elemStr : Try.prog.elem 30 = 9 := by kernel_rfl
theorem strs_sliced {h : Array Obj} {ao : Option Addr} {cap : Nat} {ls : List ByteArray} (o : OwnT h (.slice ao ls.length cap) ls) {i j : Nat} (hij : i ≤ j) (hj : j ≤ ls.length) : Strs h (sliced ao i j cap 1) ((ls.drop i).take (j - i)) := by
  have hlen : ((ls.drop i).take (j - i)).length = j - i := by rw [List.length_take, List.length_drop]; omega
  unfold sliced
  rcases o.2 with ⟨h1, h0⟩ | ⟨g, cap', cur, h1, _, hg, hn, hm, hs, ht⟩
  · simp only [Value.slice.injEq] at h1
    have hl : ls = [] := List.eq_nil_of_length_eq_zero h0
    subst hl
    simp only [List.length_nil] at hj
    refine .inl ⟨by simp, ?_⟩
    rw [show j - i = 0 by omega]
    exact ⟨_, _, rfl⟩
  · simp only [Value.slice.injEq] at h1
    obtain ⟨rfl, _, rfl⟩ := h1
    by_cases hc : cap = i
    · rw [if_pos hc, show j - i = 0 by omega]
      exact .inl ⟨by simp, _, _, rfl⟩
    · rw [if_neg hc, Nat.mul_one]
      refine .inr ⟨g, i, cap - i, cur, 9, (0, 0), ?_, hg, fun k s hk => ?_⟩
      · rw [hlen]
        simp only [Option.map_some]
        rw [add_off]
      · have hkl := (List.getElem?_eq_some_iff.1 hk).1
        rw [hlen] at hkl
        rw [List.getElem?_take, if_pos hkl, List.getElem?_drop] at hk
        have h2 : (cur.toList.take (ls.length * 1))[i + k]? = some (.string s) := by rw [ht, List.getElem?_map, hk]; rfl
        rw [List.getElem?_take, if_pos (by omega)] at h2
        simpa using h2
theorem sizeStr (w : World) : (sizeOf 9).run Try.prog w = .ok 1 w := by
  obtain ⟨i0, hi, hz0, hz1, hz2⟩ := info_parts infoStr
  simp [sizeOf, typeInfo, hi, hz1]
theorem exec_slice_lh {a : Act} {o : Oper} (x lo hi : Operand) (ho : o.op = Op.slice 30 x (some lo) (some hi) none) {ao : Option Addr} {cap n : Nat} (hx : a.eval x = .slice ao n cap) {zi zj : Int} (hlo : a.eval lo = .int .i64 zi) (hhi : a.eval hi = .int .i64 zj)
    (i j : Nat) (hzi : zi = i) (hzj : zj = j) (hij : i ≤ j) (hj : j ≤ cap) (w : World) : (execOp a.eval o).run Try.prog w = .ok (.value (sliced ao i j cap 1)) w := by
  subst hzi hzj
  unfold execOp
  simp only [ho, hx, Option.map_some, Option.map_none, hlo, hhi, Sem.run_bind, run_sliceAt_slice (t := 30) (h := elemStrs), run_slice_lh (t := 30) (a := ao) (len := n) (cap := cap) (ht := elemStrs) (kl := .i64) (kh := .i64) (l := (i : Int)) (h := (j : Int)) (h0 := by omega) (h1 := by omega) (h2 := by omega), elemStr, sizeStr, Result.andThen_ok, Sem.run_pure, Int.toNat_natCast]
theorem exec_slice_l {a : Act} {o : Oper} (x lo : Operand) (ho : o.op = Op.slice 30 x (some lo) none none) {ao : Option Addr} {cap n : Nat} (hx : a.eval x = .slice ao n cap) {zi : Int} (hlo : a.eval lo = .int .i64 zi)
    (i : Nat) (hzi : zi = i) (hij : i ≤ n) (w : World) : (execOp a.eval o).run Try.prog w = .ok (.value (sliced ao i n cap 1)) w := by
  subst hzi
  unfold execOp
  simp only [ho, hx, Option.map_some, Option.map_none, hlo, Sem.run_bind, run_sliceAt_slice (t := 30) (h := elemStrs), run_slice_l (t := 30) (a := ao) (len := n) (cap := cap) (ht := elemStrs) (kl := .i64) (l := (i : Int)) (h0 := by omega) (h1 := by omega), elemStr, sizeStr, Result.andThen_ok, Sem.run_pure, Int.toNat_natCast]
theorem OwnT.far {w w' : World} {T M floor : Nat} {L ls : List ByteArray} {v : Value} (o : OwnT w.heap v ls) (t : Tr w.heap T M L floor) (x : Ext [T, M] w w') : OwnT w'.heap v ls := by
  obtain ⟨l, t, _⟩ := t
  refine o.ext' x fun g hg hm => ?_
  obtain ⟨cur, hc⟩ := Own.block o hg
  simp only [List.mem_cons, List.not_mem_nil, or_false] at hm
  rcases hm with rfl | rfl
  · exact absurd hc (by rw [t.cells]; simp)
  · exact absurd rfl (t.map.ne hc)
theorem OwnT.capLe {h : Array Obj} {ao : Option Addr} {n cap : Nat} {ls : List ByteArray} (o : OwnT h (.slice ao n cap) ls) : n ≤ cap := by
  rcases o.2 with ⟨h1, h0⟩ | ⟨g, cap', cur, h1, _, hg, hn, hm, hs, ht⟩
  · simp only [Value.slice.injEq] at h1; omega
  · simp only [Value.slice.injEq] at h1; omega
end Go.Proofs.Ytnjjbolbemlceaa
set_option linter.unusedSimpArgs false
set_option linter.unusedVariables false
set_option maxHeartbeats 2000000
set_option maxRecDepth 100000
namespace Go.Proofs.Ytnjjbolbemlceaa
open Go.RowKit Go.Hs Go.Dg

/-- Two trees that lie apart. -/
structure Apart (T1 M1 T2 M2 : Nat) : Prop where
  a : T1 ≠ T2
  b : T1 ≠ M2
  c : M1 ≠ T2
  d : M1 ≠ M2
theorem Tr.lt {h : Array Obj} {T M floor : Nat} {L : List ByteArray} (t : Tr h T M L floor) : T < h.size ∧ M < h.size := by
  obtain ⟨l, t, _⟩ := t; exact ⟨lt_of_heap t.cells, t.map.lt⟩
theorem Apart.of {h : Array Obj} {T1 M1 floor : Nat} {L : List ByteArray} (t : Tr h T1 M1 L floor) {T2 M2 : Nat} (h1 : h.size ≤ T2) (h2 : h.size ≤ M2) : Apart T1 M1 T2 M2 := by
  have := t.lt; exact ⟨by omega, by omega, by omega, by omega⟩
/-- A change of the second tree leaves the first one. -/
theorem Tr.other {w w' : World} {T1 M1 T2 M2 floor : Nat} {L : List ByteArray} (t : Tr w.heap T1 M1 L floor) (x : Ext [T2, M2] w w') (h : Apart T1 M1 T2 M2) : Tr w'.heap T1 M1 L floor :=
  t.ext x (by simp; exact ⟨h.a, h.b⟩) (by simp; exact ⟨h.c, h.d⟩)
theorem Tr.other' {w w' : World} {T1 M1 T2 M2 floor : Nat} {L : List ByteArray} (t : Tr w.heap T2 M2 L floor) (x : Ext [T1, M1] w w') (h : Apart T1 M1 T2 M2) : Tr w'.heap T2 M2 L floor :=
  t.ext x (by simp; exact ⟨Ne.symm h.a, Ne.symm h.c⟩) (by simp; exact ⟨Ne.symm h.b, Ne.symm h.d⟩)
theorem p30 : (2 : Nat) ^ 30 = 1073741824 := by decide
/-- The two trees, the leaves; the second tree has the first k. -/
structure PSt (w2 wr : World) (T1 M1 T2 M2 : Nat) (v : Value) (ls : List ByteArray) (k : Nat) : Prop where
  a : Tr wr.heap T1 M1 ls 0
  b : Tr wr.heap T2 M2 (ls.take k) 0
  o : OwnT wr.heap v ls
  x : Ext [] w2 wr
theorem take_more (ls : List ByteArray) (k j : Nat) (h : k ≤ j) : ls.take k ++ (ls.drop k).take (j - k) = ls.take j := by
  obtain ⟨d, rfl⟩ : ∃ d, j = k + d := ⟨j - k, by omega⟩
  rw [List.take_add, show k + d - k = d by omega]
theorem treeParts_any (ao : Option Addr) (len cap : Nat) (n : Int) (co : Option Addr) (clen ccap : Nat) (w : World) (ha : StrArg w ao len) (hc : IntArg w co clen) : Calls Try.prog 4 #[.slice ao len cap, .int .i64 n, .slice co clen ccap] w fun e w' => e = .returned (.bool true) ∧ Ext [] w w' := by
  have HA := Hs.hid ha
  have HC := Hs.hid hc
  have hcl := hc.1
  clear ha hc
  go_enter Try.func4, Try.ntmps4
  go_upto_region 4 with (first
    | (go_at_call 12; refine (awake9_any _).mono ?_; rintro e w1 ⟨rfl, hx1⟩)
    | (go_at_call 13; refine (leaves_any ao len cap n _ (HA.out.ext hx1)).mono ?_; rintro e w2 ⟨v, ls, rfl, hO, hL, hOg, hx2⟩))
  have hxw := hx1.trans0 hx2
  clear hx1 hx2 hOg
  obtain ⟨ao2, cap2, rfl⟩ := hO.form
  obtain ⟨N, hN⟩ : ∃ N, ls.length = N := ⟨_, rfl⟩
  have hN40 : N ≤ 40 := by have := hL.out.1; omega
  have hN40' : (N : Int) ≤ 40 := by omega
  have hcap2 := hO.capLe
  rw [hN] at hcap2 ⊢
  rw [hN] at hO
  have HN := Hs.hid hN
  clear hN
  go_upto_region 6 with (first
    | (go_at_call 14; refine (new_tr w2).mono ?_; rintro e w3 ⟨T1, M1, rfl, t1, hx1, hT1, hM1, hTM1⟩)
    | (go_at_call 14; refine (new_tr w3).mono ?_; rintro e w4 ⟨T2, M2, rfl, t2, hx2, hT2, hM2, hTM2⟩; have hap := Apart.of t1 hT2 hM2; have t1' := t1.ext0 hx2; have hO4 := (hO.ext0 hx1).ext0 hx2; have hg2 := (show w2.heap.size ≤ T2 ∧ w2.heap.size ≤ M2 by have := hx1.size; omega))
    | (go_at_call 15; refine (append_tr t1' (v := .slice ao2 N cap2) (ls := ls) (by have := hO4.strs; exact this) (Hs.hid (fun s hs => by have := hL.out.2 s hs; omega)) (by have := p30; have := HN.out; simp; omega)).mono ?_; rintro e w5 ⟨rfl, t3, hx3⟩))
  rw [List.nil_append] at t3
  have hst : PSt w2 w5 T1 M1 T2 M2 (.slice ao2 N cap2) ls 0 := ⟨t3, t2.other' hx3 hap, hO4.far t1' hx3, (hx1.trans0 hx2).trans hx3 (fun g hg => .inr (by have := hx1.size; simp at hg; rcases hg with rfl | rfl; exact hT1; exact hM1))⟩
  have HG := Hs.hid (And.intro hap hg2)
  clear t3 t2 hO4 t1' hx1 hx2 hx3 t1 hT1 hM1 hTM1 hT2 hM2 hTM2 hap hg2 hO
  go_upto_block 0 with fail
  go_cut [10] (fun s10 wx => ∃ k : Nat, s10 = .int .i64 k ∧ k ≤ N ∧ PSt w2 wx T1 M1 T2 M2 (.slice ao2 N cap2) ls k)
  case first =>
    go_wp2_with fail
    go_loopw [10, 11] (fun av iv wr => ∃ k i : Nat, av = .int .i64 k ∧ iv = .int .i64 i ∧ k ≤ N ∧ i ≤ 20 ∧ PSt w2 wr T1 M1 T2 M2 (.slice ao2 N cap2) ls k) (fun _ iv _ => 20 - (intOf iv).toNat)
    case atStart => exact ⟨0, 0, rfl, rfl, by omega, by omega, hst⟩
    case round =>
      clear hst
      obtain ⟨k, i, rfl, rfl, hk, hi20, hst⟩ := hrel
      by_cases h1 : i < clen
      · by_cases h2 : i < 20
        · have h2' : (i : Int) < 20 := by omega
          obtain ⟨a, z, rfl, hal, hcell⟩ := (HC.out.ext (hxw.trans0 hst.x)).2 i h1
          obtain ⟨c, hz, hc8⟩ : ∃ c : Nat, Go.bits .and .i64 z 7 = (c : Int) ∧ c < 8 := ⟨(z % 8).toNat, by rw [and7]; omega, by omega⟩
          obtain ⟨j, hj, hkj, hjN⟩ : ∃ j : Nat, min ((k : Int) + (c : Int)) (N : Int) = (j : Int) ∧ k ≤ j ∧ j ≤ N := ⟨min (k + c) N, by omega, by omega, by omega⟩
          have hc8' : (c : Int) < 8 := by omega
          have HB := Hs.hid (And.intro hkj (And.intro hjN (show j ≤ cap2 by omega)))
          have hsv0 := (show Strs wr.heap (sliced ao2 k j cap2 1) ((ls.drop k).take (j - k)) by have := hst.o; rw [← HN.out] at this; exact strs_sliced this hkj (by rw [HN.out]; exact hjN))
          obtain ⟨sv, hsv⟩ : ∃ sv, sliced ao2 k j cap2 1 = sv := ⟨_, rfl⟩
          rw [hsv] at hsv0
          have HSV := Hs.hid (And.intro hsv hsv0)
          clear hkj hjN hsv hsv0
          go_wp2_with (first
            | (refine wpList_yield sv (by rfl) (by rw [← HSV.out.1]; exact exec_slice_lh _ _ _ rfl rfl rfl rfl k j rfl rfl HB.out.1 HB.out.2.2 _) ?_)
            | (go_at_call 15; refine (append_tr hst.b (v := sv) (ls := (ls.drop k).take (j - k)) HSV.out.2 (Hs.hid (fun s hs => by have := hL.out.2 s (List.mem_of_mem_drop (List.mem_of_mem_take hs)); omega)) (by have := p30; have := HN.out; simp; omega)).mono ?_; rintro e w6 ⟨rfl, t6, hx6⟩))
          go_round
          case rel =>
            rw [take_more _ _ _ HB.out.1] at t6
            exact ⟨j, i + 1, rfl, by go_num, HB.out.2.1, by omega, ⟨hst.a.other hx6 HG.out.1, t6, hst.o.far hst.b hx6, hst.x.trans hx6 (fun g hg => .inr (by simp at hg; rcases hg with rfl | rfl; exact HG.out.2.1; exact HG.out.2.2))⟩⟩
          case measure => simp [intOf]; omega
        · have h2' : ¬ (i : Int) < 20 := by omega
          go_wp2
          go_meet
          exact ⟨k, rfl, hk, hst⟩
      · go_wp2
        go_meet
        exact ⟨k, rfl, hk, hst⟩
  case rest =>
    obtain ⟨k, rfl, hk, hst⟩ := hcut
    have hsv0 := (show Strs wc.heap (sliced ao2 k N cap2 1) ((ls.drop k).take (N - k)) by have := hst.o; rw [← HN.out] at this ⊢; exact strs_sliced this (by rw [HN.out]; exact hk) (Nat.le_refl _))
    obtain ⟨sv, hsv⟩ : ∃ sv, sliced ao2 k N cap2 1 = sv := ⟨_, rfl⟩
    rw [hsv] at hsv0
    have HSV := Hs.hid (And.intro hsv hsv0)
    clear hsv hsv0
    go_upto_region 14 with (first
      | (refine wpList_yield sv (by rfl) (by rw [← HSV.out.1]; exact exec_slice_l _ _ rfl rfl rfl k rfl hk _) ?_)
      | (go_at_call 15; refine (append_tr hst.b (v := sv) (ls := (ls.drop k).take (N - k)) HSV.out.2 (Hs.hid (fun s hs => by have := hL.out.2 s (List.mem_of_mem_drop (List.mem_of_mem_take hs)); omega)) (by have := p30; have := HN.out; simp; omega)).mono ?_; rintro e w6 ⟨rfl, t6, hx6⟩))
    rw [take_more _ _ _ hk, ← HN.out, List.take_length] at t6
    have ta := hst.a.other hx6 HG.out.1
    have hxw6 := hxw.trans0 (hst.x.trans hx6 (fun g hg => .inr (by simp at hg; rcases hg with rfl | rfl; exact HG.out.2.1; exact HG.out.2.2)))
    have hNl : ls.length ≤ 2 ^ 30 := by have := p30; have := HN.out; omega
    have HNL := Hs.hid (And.intro hNl (show N ≤ ls.length by have := HN.out; omega))
    clear hst hx6 hNl
    obtain ⟨rt, hrt⟩ : ∃ rt, rootT ls N = rt := ⟨_, rfl⟩
    have HRT := Hs.hid hrt
    clear hrt
    go_upto_region 15 with (first
      | (go_at_call 16; refine (root_any N ta HNL.out.1 HNL.out.2 (Nat.zero_le _)).mono ?_; rintro e w8 ⟨cs, rfl, hcs, hx8⟩; rw [HRT.out] at hcs; have hq := hcs.out; subst hq; have hB8 := zeroSum w8)
      | (refine wpList_store_row rfl 27 (.tmp 13) (.tmp 64) rfl _ (digV rt) rfl rfl _ _ hB8 (by rw [digV_size]; exact infoSum) (by rw [digV_size]; exact bytesL_size _) (digV_one _) ?_))
    have hB9 := setRow_heap _ _ _ (digV rt) _ _ hB8
    have hx9 : Ext [] w6 ((w8.alloc (.cells #[.int .u8 0, .int .u8 0, .int .u8 0, .int .u8 0, .int .u8 0, .int .u8 0, .int .u8 0, .int .u8 0, .int .u8 0, .int .u8 0, .int .u8 0, .int .u8 0, .int .u8 0, .int .u8 0, .int .u8 0, .int .u8 0, .int .u8 0, .int .u8 0, .int .u8 0, .int .u8 0, .int .u8 0, .int .u8 0, .int .u8 0, .int .u8 0, .int .u8 0, .int .u8 0, .int .u8 0, .int .u8 0, .int .u8 0, .int .u8 0, .int .u8 0, .int .u8 0] 27)).setRow w8.heap.size (digV rt)) := (hx8.alloc _).trans (setRow_ext _ _) (fun g hg => .inr (by simp at hg; have := hx8.size; omega))
    generalize (w8.alloc (.cells #[.int .u8 0, .int .u8 0, .int .u8 0, .int .u8 0, .int .u8 0, .int .u8 0, .int .u8 0, .int .u8 0, .int .u8 0, .int .u8 0, .int .u8 0, .int .u8 0, .int .u8 0, .int .u8 0, .int .u8 0, .int .u8 0, .int .u8 0, .int .u8 0, .int .u8 0, .int .u8 0, .int .u8 0, .int .u8 0, .int .u8 0, .int .u8 0, .int .u8 0, .int .u8 0, .int .u8 0, .int .u8 0, .int .u8 0, .int .u8 0, .int .u8 0, .int .u8 0] 27)).setRow w8.heap.size (digV rt) = W9 at hB9 hx9 ⊢
    generalize w8.heap.size = R at hB9 ⊢
    clear hB8 hx8
    have ta9 := ta.ext0 hx9
    have tb9 := t6.ext0 hx9
    have hxw9 := hxw6.trans0 hx9
    clear ta t6 hxw6 hx9
    go_upto_region 16 with (first
      | (go_at_call 16; refine (root_any N tb9 HNL.out.1 HNL.out.2 (Nat.zero_le _)).mono ?_; rintro e w10 ⟨cs, rfl, hcs, hx10⟩; rw [HRT.out] at hcs; have hq := hcs.out; subst hq; have hB10 := zeroSum w10)
      | (refine wpList_store_row rfl 27 (.tmp 15) (.tmp 71) rfl _ (digV rt) rfl rfl _ _ hB10 (by rw [digV_size]; exact infoSum) (by rw [digV_size]; exact bytesL_size _) (digV_one _) ?_))
    have hC11 := setRow_heap _ _ _ (digV rt) _ _ hB10
    have hx11 : Ext [] W9 ((w10.alloc (.cells #[.int .u8 0, .int .u8 0, .int .u8 0, .int .u8 0, .int .u8 0, .int .u8 0, .int .u8 0, .int .u8 0, .int .u8 0, .int .u8 0, .int .u8 0, .int .u8 0, .int .u8 0, .int .u8 0, .int .u8 0, .int .u8 0, .int .u8 0, .int .u8 0, .int .u8 0, .int .u8 0, .int .u8 0, .int .u8 0, .int .u8 0, .int .u8 0, .int .u8 0, .int .u8 0, .int .u8 0, .int .u8 0, .int .u8 0, .int .u8 0, .int .u8 0, .int .u8 0] 27)).setRow w10.heap.size (digV rt)) := (hx10.alloc _).trans (setRow_ext _ _) (fun g hg => .inr (by simp at hg; have := hx10.size; omega))
    generalize (w10.alloc (.cells #[.int .u8 0, .int .u8 0, .int .u8 0, .int .u8 0, .int .u8 0, .int .u8 0, .int .u8 0, .int .u8 0, .int .u8 0, .int .u8 0, .int .u8 0, .int .u8 0, .int .u8 0, .int .u8 0, .int .u8 0, .int .u8 0, .int .u8 0, .int .u8 0, .int .u8 0, .int .u8 0, .int .u8 0, .int .u8 0, .int .u8 0, .int .u8 0, .int .u8 0, .int .u8 0, .int .u8 0, .int .u8 0, .int .u8 0, .int .u8 0, .int .u8 0, .int .u8 0] 27)).setRow w10.heap.size (digV rt) = W11 at hC11 hx11 ⊢
    generalize w10.heap.size = R2 at hC11 ⊢
    clear hB10 hx10
    have ta11 := ta9.ext0 hx11
    have tb11 := tb9.ext0 hx11
    have hB11 := hx11.same hB9 (by simp)
    have hxw11 := hxw9.trans0 hx11
    clear ta9 tb9 hxw9 hx11 hB9
    have eq1 := eqS_self rt
    go_wp2_with (first
      | (refine wpList_yield (.agg (digV rt)) (by rfl) (exec_load_row (.tmp 13) rfl R rfl rt _ ⟨_, hB11⟩) ?_)
      | (refine wpList_yield (.agg (digV rt)) (by rfl) (exec_load_row (.tmp 15) rfl R2 rfl rt _ ⟨_, hC11⟩) ?_)
      | (refine wpList_yield (.bool (eqS rt rt)) (by rfl) (exec_eq_sum (.tmp 80) (.tmp 81) _ rfl rt rt rfl rfl _) ?_)
      | (go_at_call 17; (with_reducible refine (kept_tr ta11).mono ?_); rintro e w12 ⟨ca, rfl, hca, hw⟩; subst w12)
      | (go_at_call 17; (with_reducible refine (kept_tr tb11).mono ?_); rintro e w12 ⟨cb, rfl, hcb, hw⟩; subst w12; obtain rfl := hca.out.eq hcb.out)
      | (go_at_call 18; (with_reducible refine (len_tr ta11).mono ?_); rintro e w12 ⟨rfl, hw⟩; subst w12)
      | (go_at_call 18; (with_reducible refine (len_tr tb11).mono ?_); rintro e w12 ⟨rfl, hw⟩; subst w12))
    go_ret
    exact ⟨rfl, hxw11⟩
end Go.Proofs.Ytnjjbolbemlceaa
