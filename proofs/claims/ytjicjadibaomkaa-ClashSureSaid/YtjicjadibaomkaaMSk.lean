/-
  Texts of this claim, put together: CSureP, CSure.
-/
import Derived.Test.YtjicjadibaomkaaMSi
import Derived.Test.YtjicjadibaomkaaMSj
set_option linter.unusedSimpArgs false
set_option linter.unusedVariables false
set_option maxHeartbeats 8000000
set_option maxRecDepth 100000
namespace Go.Proofs.Ytjicjadibaomkaa
open Go.RowKit Go.Hs Go.Dg

theorem exec_neTrue {a : Act} {o : Oper} (x y : Operand) (t : TypeId) (ho : o.op = Op.binOp .neq 35 x y t) (p q : S32) (hx : a.eval x = .agg p.V) (hy : a.eval y = .agg q.V) (h : p ≠ q) (w : World) :
    (execOp a.eval o).run Try.prog w = .ok (.value (.bool true)) w := by
  rw [exec_neV x y t ho p q hx hy w]; simp [h]
theorem nePair0 (w : World) : (binOp .neq 43 (.agg #[.string ⟨#[]⟩, .string ⟨#[]⟩]) (.agg #[.string ⟨#[]⟩, .string ⟨#[]⟩])).run Try.prog w = .ok (.bool false) w := by kernel_rfl
theorem guardPair : Try.prog.eqGuardType Try.prog.depth 43 = false := by kernel_rfl
theorem exec_nePair0 {a : Act} {o : Oper} (x y : Operand) (t : TypeId) (ho : o.op = Op.binOp .neq 43 x y t) (hx : a.eval x = .agg #[.string ⟨#[]⟩, .string ⟨#[]⟩]) (hy : a.eval y = .agg #[.string ⟨#[]⟩, .string ⟨#[]⟩]) (w : World) :
    (execOp a.eval o).run Try.prog w = .ok (.value (.bool false)) w := by
  have hg : (eqGuard .neq 43 x y (.agg #[.string ⟨#[]⟩, .string ⟨#[]⟩]) (.agg #[.string ⟨#[]⟩, .string ⟨#[]⟩])).run Try.prog w = .ok () w := by simp [eqGuard, Sem.run_bind, guardPair, Sem.run]
  unfold execOp
  simp only [ho, hx, hy, Sem.run_bind, hg, Result.andThen_ok, nePair0, Sem.run_pure]
theorem pairYes_any (p q : ByteArray) (hp : p.size ≤ 1001) (hq : q.size ≤ 1001) (h : p ≠ q ∧ dig p = dig q) (w : World) : Calls Try.prog 15 #[.agg #[.string p, .string q]] w fun e w' => e = .returned (.bool true) ∧ Ext [] w w' := by
  have h1 := pairIs_any p q (by omega) (by omega) w
  have h2 : isPair p q = true := by
    unfold isPair
    rw [ba_eqF h.1]
    have h3 : digN p = digN q := congrArg S32.l h.2
    simp [h3]
  rw [h2] at h1
  exact h1
theorem OwnT.lv {h : Array Obj} {ao : Option Addr} {n cap : Nat} {ls : List ByteArray} (o : OwnT h (.slice ao n cap) ls) (hn : ls.length = n) : LvArg h ao ls ∧ cap ≤ 9223372036854775807 ∧ n ≤ cap := by
  refine ⟨?_, ?_, o.capLe⟩
  · by_cases h0 : n = 0
    · exact .inl (List.eq_nil_of_length_eq_zero (by omega))
    · obtain ⟨g, rfl, hA, _⟩ := o.leafAt (by omega)
      exact .inr ⟨g, rfl, hA⟩
  · rcases o.2 with ⟨h1, h0⟩ | ⟨g, cap', cur, h1, _, hg, hnc, hm, hs, ht⟩
    · simp at h1; omega
    · simp at h1; unfold maxLen at hm; omega
theorem incl_right (ls : List ByteArray) (N k : Nat) (hk : k < N) (s : ByteArray) (hs : ls[k]? = some s) : inclN (dig (leaf2 s)) (k : Int) (N : Int) (dig (rootT ls N)) ((pathT ls k N 0).map dig) = 0 := by
  obtain ⟨h1, h2⟩ := path_fold ls N N 0 k (Nat.le_refl _) hk
  rw [Nat.zero_add] at h1 h2
  rw [List.getD_eq_getElem?_getD, hs, Option.getD_some] at h2
  unfold inclN
  rw [if_neg (by omega), Int.toNat_natCast, Int.toNat_natCast, if_pos ⟨by rw [List.length_map]; exact h1, by rw [h2, rootT_pos _ _ (by omega)]⟩]
theorem cut20 (s : ByteArray) (w : World) (hs : s.size ≤ maxLen) : Calls Try.prog 16 #[.string s, .int .i64 20] w fun e w' => ∃ t : ByteArray, e = .returned (.string t) ∧ t.size ≤ 20 ∧ w' = w := cutE_any s 20 (by decide) w hs
theorem ba_cases (a b : ByteArray) : (a = b ∧ (a.toList == b.toList) = true) ∨ (a ≠ b ∧ (a.toList == b.toList) = false) := by
  by_cases h : a = b
  · exact .inl ⟨h, by rw [h]; exact ba_eqT b⟩
  · exact .inr ⟨h, ba_eqF h⟩
end Go.Proofs.Ytjicjadibaomkaa
set_option linter.unusedSimpArgs false
set_option linter.unusedVariables false
set_option maxHeartbeats 8000000
set_option maxRecDepth 100000
namespace Go.Proofs.Ytjicjadibaomkaa
open Go.RowKit Go.Hs Go.Dg

theorem clashSure_any (ao : Option Addr) (len cap : Nat) (n i m : Int) (a b : ByteArray) (aP : Option Addr) (lP cP : Nat) (aQ : Option Addr) (lQ cQ : Nat) (w : World) (hl : StrArg w ao len) (hp : StrArg w aP lP) (hq : StrArg w aQ lQ) (ha : a.size ≤ maxLen) (hb : b.size ≤ maxLen) :
    Calls Try.prog 4 #[.slice ao len cap, .int .i64 n, .int .i64 i, .int .i64 m, .string a, .string b, .slice aP lP cP, .slice aQ lQ cQ] w fun e w' => e = .returned (.bool true) ∧ Ext [] w w' := by
  have HA := Hs.hid (And.intro hl (And.intro hp hq))
  have HAB := Hs.hid (And.intro ha hb)
  clear hl hp hq ha hb
  go_enter Try.func4, Try.ntmps4
  go_upto_region 5 with (first
    | (go_at_call 5; refine (awake11_any _).mono ?_; rintro e w1 ⟨rfl, hx1⟩)
    | (go_at_call 6; refine (leaves_any ao len cap _ _ (HA.out.1.ext hx1)).mono ?_; rintro e w2 ⟨v, ls, rfl, hO, hL, hOg, hx2⟩)
    | (go_at_call 16; with_reducible refine (cut20 a _ HAB.out.1).mono ?_; rintro e w3 ⟨a1, rfl, ha1, hw3⟩; subst w3)
    | (go_at_call 16; with_reducible refine (cut20 b _ HAB.out.2).mono ?_; rintro e w3 ⟨b1, rfl, hb1, hw3⟩; subst w3))
  have hxw := hx1.trans0 hx2
  have HAB1 := Hs.hid (And.intro ha1 hb1)
  have HA1M := Hs.hid (show a1.size ≤ maxLen by unfold maxLen; omega)
  have HB1M := Hs.hid (show b1.size ≤ maxLen by unfold maxLen; omega)
  clear hx1 hx2 hOg ha1 hb1
  obtain ⟨ao2, cap2, rfl⟩ := hO.form
  obtain ⟨N, hN⟩ : ∃ N, ls.length = N := ⟨_, rfl⟩
  have hN40 : N ≤ 40 := by have := hL.out.1; omega
  have hN40' : (N : Int) ≤ 40 := by omega
  rw [hN] at hO ⊢
  obtain ⟨_, hcm, hcap2⟩ := hO.lv hN
  have HN := Hs.hid hN
  clear hN
  go_upto_region 6 with (go_at_call 17; with_reducible refine (sums_any aP lP cP _ (HA.out.2.1.ext hxw)).mono ?_; rintro e w3 ⟨xs, aX, cX, aX2, cX2, rfl, hxs, hx3⟩)
  have hxw3 := hxw.trans0 hx3
  go_upto_region 7 with (go_at_call 17; with_reducible refine (sums_any aQ lQ cQ _ (HA.out.2.2.ext hxw3)).mono ?_; rintro e w4 ⟨ys, aY, cY, aY2, cY2, rfl, hys, hx4⟩)
  have HXS := Hs.hid (sums_own (hxs.out.2.1.ext hx4 (fun _ _ => List.not_mem_nil)))
  have HYS := Hs.hid (sums_own hys.out.2.1)
  have hO4 := hO.ext0 (hx3.trans0 hx4)
  have hxw4 := hxw3.trans0 hx4
  obtain ⟨lx, hlx⟩ : ∃ l, xs.length = l := ⟨_, rfl⟩
  obtain ⟨ly, hly⟩ : ∃ l, ys.length = l := ⟨_, rfl⟩
  rw [hlx, hly]
  have HLX := Hs.hid (And.intro hlx hly)
  clear hxs hys hx3 hx4 hxw hxw3 hO hlx hly
  go_upto_region 9 with (first
    | (go_at_call 7; refine (new_tr _).mono ?_; rintro e w5 ⟨T, M, rfl, t1, hx1, hT, hM, hTM⟩)
    | (go_at_call 8; refine (append_tr t1 (v := .slice ao2 N cap2) (ls := ls) (hO4.ext0 hx1).strs (Hs.hid (fun s hs => by have := hL.out.2 s hs; omega)) (by have h5 := p30c; have := HN.out; simp; omega)).mono ?_; rintro e w6 ⟨rfl, t2, hx2⟩))
  have hx3 : Ext [] w4 w6 := hx1.trans hx2 (fun g hg => .inr (by simp at hg hT hM; rcases hg with rfl | rfl; exact hT; exact hM))
  rw [List.nil_append] at t2
  have hLV := ((hO4.ext0 hx3).lv HN.out).1
  have HX6 := Hs.hid (And.intro (HXS.out.ext hx3 (by simp)) (HYS.out.ext hx3 (by simp)))
  have hxw6 := hxw4.trans0 hx3
  clear hx1 hx2 hx3 hT hM hTM t1 hO4 hxw4 HXS HYS
  go_upto_region 10 with (first
    | (go_at_call 11; refine (rootS_any N t2 (by have h5 := p30c; have := HN.out; omega) (by have := HN.out; omega) (Nat.zero_le _)).mono ?_; rintro e w7 ⟨rt, rfl, hrt, hx7⟩)
    | (refine wpList_store_row rfl 35 (.tmp 23) (.tmp 75) rfl w7.heap.size rt.V rfl rfl _ _ (heap_new w7 _) (by rw [rt.size]; exact infoSum) (by rw [rt.size]; rfl) rt.one ?_))
  have hR := setRow_heap _ _ _ rt.V _ _ (heap_new w7 (.cells #[.int .u8 0, .int .u8 0, .int .u8 0, .int .u8 0, .int .u8 0, .int .u8 0, .int .u8 0, .int .u8 0, .int .u8 0, .int .u8 0, .int .u8 0, .int .u8 0, .int .u8 0, .int .u8 0, .int .u8 0, .int .u8 0, .int .u8 0, .int .u8 0, .int .u8 0, .int .u8 0, .int .u8 0, .int .u8 0, .int .u8 0, .int .u8 0, .int .u8 0, .int .u8 0, .int .u8 0, .int .u8 0, .int .u8 0, .int .u8 0, .int .u8 0, .int .u8 0] 35))
  have hx8 := boxExt' (w := w7) (.cells #[.int .u8 0, .int .u8 0, .int .u8 0, .int .u8 0, .int .u8 0, .int .u8 0, .int .u8 0, .int .u8 0, .int .u8 0, .int .u8 0, .int .u8 0, .int .u8 0, .int .u8 0, .int .u8 0, .int .u8 0, .int .u8 0, .int .u8 0, .int .u8 0, .int .u8 0, .int .u8 0, .int .u8 0, .int .u8 0, .int .u8 0, .int .u8 0, .int .u8 0, .int .u8 0, .int .u8 0, .int .u8 0, .int .u8 0, .int .u8 0, .int .u8 0, .int .u8 0] 35) rt.V
  generalize (w7.alloc (.cells #[.int .u8 0, .int .u8 0, .int .u8 0, .int .u8 0, .int .u8 0, .int .u8 0, .int .u8 0, .int .u8 0, .int .u8 0, .int .u8 0, .int .u8 0, .int .u8 0, .int .u8 0, .int .u8 0, .int .u8 0, .int .u8 0, .int .u8 0, .int .u8 0, .int .u8 0, .int .u8 0, .int .u8 0, .int .u8 0, .int .u8 0, .int .u8 0, .int .u8 0, .int .u8 0, .int .u8 0, .int .u8 0, .int .u8 0, .int .u8 0, .int .u8 0, .int .u8 0] 35)).setRow w7.heap.size rt.V = w8 at hR hx8 ⊢
  obtain ⟨R, hRR⟩ : ∃ R, w7.heap.size = R := ⟨_, rfl⟩
  rw [hRR] at hR ⊢
  clear hRR
  have hz33 := (zero_of_info (P := Try.prog) infoHead)
  go_upto_region 11 with (first
    | (refine wpList_yield (.agg rt.V) (by rfl) (exec_load_rowV (.tmp 23) rfl R rfl rt _ ⟨_, hR⟩) ?_)
    | (refine wpList_yield (.agg (headV N rt)) (by rfl) (exec_build #[(0, .tmp 78), (1, .tmp 79)] rfl [(0, .int .i64 N), (1, .agg rt.V)] _ _ (by first | (go_simp; done) | (go_simp; rfl) | (simp [Act.eval]; done)) (head_built N rt)) ?_)
    | (refine wpList_store_row rfl 49 (.tmp 25) (.tmp 80) rfl w8.heap.size (headV N rt) rfl rfl _ _ (heap_new w8 _) (by rw [headV_size]; exact hz33.2) (by rw [headV_size]; rfl) (headV_one _ _) ?_))
  have hH := setRow_heap _ _ _ (headV N rt) _ _ (heap_new w8 (.cells head0 49))
  have hx9 := boxExt' (w := w8) (.cells head0 49) (headV N rt)
  generalize (w8.alloc (.cells head0 49)).setRow w8.heap.size (headV N rt) = w9 at hH hx9 ⊢
  obtain ⟨Hh, hHH⟩ : ∃ R, w8.heap.size = R := ⟨_, rfl⟩
  rw [hHH] at hH ⊢
  have hx79 := (hx7.trans0 hx8).trans0 hx9
  have t9 := t2.ext0 hx79
  have hLV9 := hLV.ext0 hx79
  have HX9 := Hs.hid (And.intro (HX6.out.1.ext hx79 (by simp)) (HX6.out.2.ext hx79 (by simp)))
  have hxw9 := hxw6.trans0 hx79
  have HRT := Hs.hid hrt.out
  clear hHH hx7 hx8 hx9 hx79 t2 hLV HX6 hxw6 hR hrt hz33
  have HLF := Hs.hid (cleaves_any i N (by omega) rt a1 b1 (by have := HAB1.out.1; omega) (by have := HAB1.out.2; omega) xs ys aX cX lx aY cY ly HLX.out.1 HLX.out.2 w9 HX9.out.1 HX9.out.2)
  go_upto_region 12 with (first
    | (refine wpList_yield (.agg (headV N rt)) (by rfl) (exec_load_rowHd (.tmp 25) rfl Hh rfl N rt _ ⟨_, hH⟩) ?_)
    | (go_at_call 18; with_reducible refine (HLF.out).mono ?_; rintro e w10 ⟨pc, qc, okc, rfl, hc, hx10⟩))
  have hx11 := hx10.alloc (.cells #[.string pc, .string qc] 43)
  have hcC := heap_new w10 (.cells #[.string pc, .string qc] 43)
  generalize w10.alloc (.cells #[.string pc, .string qc] 43) = w11 at hx11 hcC ⊢
  obtain ⟨Cc, hCC⟩ : ∃ R, w10.heap.size = R := ⟨_, rfl⟩
  rw [hCC] at hcC ⊢
  have hH11 := hx11.same hH List.not_mem_nil
  have t11 := t9.ext0 hx11
  have HLV := Hs.hid (fun w' (h : Ext [] w11 w') => hLV9.ext0 (hx11.trans0 h))
  have HX11 := Hs.hid (HX9.out.1.ext hx11 (by simp))
  have hxw11 := hxw9.trans0 hx11
  clear hCC hx10 hH t9 hLV9 HX9 hxw9 HLF
  have HPF := Hs.hid (fun (cl : S32) (m : Int) (zs : List S32) (az : Option Addr) (cz nz : Nat) (hz : zs.length = nz) w' (h : Ext [] w11 w') (hs : Sums32 w'.heap az cz zs) => cprefix_any ls hL ao2 N cap2 HN.out.symm hcap2 hcm m cl zs az cz nz hz w' (HLV.out w' h) hs)
  go_upto_region 13 with (first
    | (go_at_call 20; refine (sum32_any a1 HA1M.out _).mono ?_; rintro e w12 ⟨sa, rfl, hsa, hx12⟩)
    | (go_at_call 19; with_reducible refine (HPF.out sa m xs aX cX lx HLX.out.1 _ hx12 (HX11.out.ext hx12 (by simp))).mono ?_; intro e w13 hr; unfold PairE at hr; obtain ⟨pd, qd, okd, rfl, hd, hx13⟩ := hr))
  have hx14 := (hx12.trans0 hx13).alloc (.cells #[.string pd, .string qd] 43)
  have hdC := heap_new w13 (.cells #[.string pd, .string qd] 43)
  generalize w13.alloc (.cells #[.string pd, .string qd] 43) = w14 at hx14 hdC ⊢
  obtain ⟨Dd, hDD⟩ : ∃ R, w13.heap.size = R := ⟨_, rfl⟩
  rw [hDD] at hdC ⊢
  have hH14 := hx14.same hH11 List.not_mem_nil
  have t14 := t11.ext0 hx14
  have hcC14 := hx14.same hcC List.not_mem_nil
  have hxw14 := hxw11.trans0 hx14
  have HE14 := Hs.hid hx14
  clear hDD hx11 hx12 hx13 hx14 hH11 t11 hcC hxw11 hsa HX11
  go_cut [131] (fun s131 wx => s131 = .bool false ∧ Ext [] w14 wx)
  case first =>
    have c0 := cellAt hcC14 0
    have c1 := cellAt hcC14 1
    have d0 := cellAt hdC 0
    have d1 := cellAt hdC 1
    simp at c0 c1 d0 d1
    cases okc
    · obtain ⟨rfl, rfl⟩ := hc.out.no rfl
      cases okd
      · obtain ⟨rfl, rfl⟩ := hd.out.no rfl
        go_wp2_with (first | (refine wpList_yield (.bool false) (by rfl) (exec_nePair0 (.tmp 118) (.tmp 119) _ rfl rfl rfl _) ?_) | (refine wpList_yield (.bool false) (by rfl) (exec_nePair0 (.tmp 127) (.tmp 128) _ rfl rfl rfl _) ?_))
        go_meet
        exact ⟨rfl, Ext.refl _ _⟩
      · have HY := Hs.hid (pairYes_any pd qd hd.out.sp hd.out.sq (hd.out.yes rfl))
        go_wp2_with (first
          | (go_at_call 15; with_reducible refine (HY.out _).mono ?_; rintro e w15 ⟨rfl, hx15⟩; have k1 := hx15.same hcC14 List.not_mem_nil; have k2 := hx15.same hdC List.not_mem_nil; have c0' := cellAt k1 0; have c1' := cellAt k1 1; have d0' := cellAt k2 0; have d1' := cellAt k2 1; simp at c0' c1' d0' d1'; clear k1 k2)
          | (refine wpList_yield (.bool false) (by rfl) (exec_nePair0 (.tmp 118) (.tmp 119) _ rfl rfl rfl _) ?_) | (refine wpList_yield (.bool false) (by rfl) (exec_nePair0 (.tmp 127) (.tmp 128) _ rfl rfl rfl _) ?_))
        go_meet
        exact ⟨rfl, hx15⟩
    · have HYc := Hs.hid (pairYes_any pc qc hc.out.sp hc.out.sq (hc.out.yes rfl))
      cases okd
      · obtain ⟨rfl, rfl⟩ := hd.out.no rfl
        go_wp2_with (first
          | (go_at_call 15; with_reducible refine (HYc.out _).mono ?_; rintro e w15 ⟨rfl, hx15⟩; have k1 := hx15.same hcC14 List.not_mem_nil; have k2 := hx15.same hdC List.not_mem_nil; have c0' := cellAt k1 0; have c1' := cellAt k1 1; have d0' := cellAt k2 0; have d1' := cellAt k2 1; simp at c0' c1' d0' d1'; clear k1 k2)
          | (refine wpList_yield (.bool false) (by rfl) (exec_nePair0 (.tmp 118) (.tmp 119) _ rfl rfl rfl _) ?_) | (refine wpList_yield (.bool false) (by rfl) (exec_nePair0 (.tmp 127) (.tmp 128) _ rfl rfl rfl _) ?_))
        go_meet
        exact ⟨rfl, hx15⟩
      · have HY := Hs.hid (pairYes_any pd qd hd.out.sp hd.out.sq (hd.out.yes rfl))
        go_wp2_with (first
          | (go_at_call 15; with_reducible refine (HYc.out _).mono ?_; rintro e w15 ⟨rfl, hx15⟩; have k1 := hx15.same hcC14 List.not_mem_nil; have k2 := hx15.same hdC List.not_mem_nil; have c0' := cellAt k1 0; have c1' := cellAt k1 1; have d0' := cellAt k2 0; have d1' := cellAt k2 1; simp at c0' c1' d0' d1'; clear k1 k2)
          | (go_at_call 15; with_reducible refine (HY.out _).mono ?_; rintro e w16 ⟨rfl, hx16⟩)
          | (refine wpList_yield (.bool false) (by rfl) (exec_nePair0 (.tmp 118) (.tmp 119) _ rfl rfl rfl _) ?_) | (refine wpList_yield (.bool false) (by rfl) (exec_nePair0 (.tmp 127) (.tmp 128) _ rfl rfl rfl _) ?_))
        go_meet
        exact ⟨rfl, hx15.trans0 hx16⟩
  case rest =>
    obtain ⟨rfl, hE15⟩ := hcut
    have hH15 := hE15.same hH14 List.not_mem_nil
    have t15 := t14.ext0 hE15
    have HLV15 := Hs.hid (HLV.out _ (HE14.out.trans0 hE15))
    have HE15 := Hs.hid (HE14.out.trans0 hE15)
    have hxw15 := hxw14.trans0 hE15
    clear hcC14 hdC hH14 t14 hxw14 hE15 hc hd HE14
    go_wp2_with fail
    go_loopw [134] (fun kv wr => ∃ k : Nat, kv = .int .i64 k ∧ k ≤ N ∧ Ext [] wc wr) (fun kv _ => N - (intOf kv).toNat)
    case atStart => exact ⟨0, rfl, Nat.zero_le _, Ext.refl _ _⟩
    case round =>
      obtain ⟨k, rfl, hkN, hEr⟩ := hrel
      by_cases hlt : k < N
      · have hk2 : (k : Int) < N := by omega
        have hkN2 : (k : Int) ≤ N := by omega
        obtain ⟨s1, hs1⟩ : ∃ s, ls[k]? = some s := ⟨_, List.getElem?_eq_getElem (by have := HN.out; omega)⟩
        have hs20 := hL.out.2 s1 (List.mem_of_getElem? hs1)
        obtain ⟨LB, rfl, hLA⟩ : ∃ b, ao2 = some ⟨b, 0, none⟩ ∧ LeafAt wr.heap b 0 ls := by
          rcases HLV15.out.ext0 hEr with h | h
          · have := HN.out; rw [h] at this; simp at this; omega
          · exact h
        have hc5 := hLA.cell hs1
        rw [Nat.zero_add] at hc5
        have t16 := t15.ext0 hEr
        have hH16 := hEr.same hH15 List.not_mem_nil
        have HS1 := Hs.hid hs1
        have HKL := Hs.hid hlt
        have HEK := Hs.hid (HE15.out.trans0 hEr)
        clear hLA hs1
        go_upto_region 19 with (go_at_call 9; refine (incl_any k N t16 (by have h5 := p30c; have := HN.out; omega) (by have := HN.out; omega) HKL.out (Nat.zero_le _)).mono ?_; rintro e w17 ⟨vz, rfl, hOz, _, hx17⟩)
        obtain ⟨az, cz, rfl⟩ := hOz.form
        have hSz := hOz.sums.2
        have hir := incl_right ls N k HKL.out s1 HS1.out
        rw [← HRT.out] at hir
        obtain ⟨zs, hzs⟩ : ∃ zs, (pathT ls k N 0).map dig = zs := ⟨_, rfl⟩
        obtain ⟨nz, hnz⟩ : ∃ p, (pathT ls k N 0).length = p := ⟨_, rfl⟩
        have hzl : zs.length = nz := by rw [← hzs, List.length_map, hnz]
        rw [hzs] at hSz hir
        rw [hnz]
        have HLF := Hs.hid (cleaves_any k N (by omega) rt s1 b1 (by omega) (by have := HAB1.out.2; omega) zs zs az cz nz az cz nz hzl hzl w17 hSz hSz)
        have hH17 := hx17.same hH16 List.not_mem_nil
        have t17 := t16.ext0 hx17
        have HZQ := Hs.hid (And.intro hzl (And.intro hir hSz))
        have hE17 := hEr.trans0 hx17
        replace HEK := Hs.hid (HEK.out.trans0 hx17)
        clear hSz hir hzs hnz hzl hOz hx17 t16 hH16 hc5 hs20 hEr
        go_upto_region 20 with (first
          | (refine wpList_yield (.agg (headV N rt)) (by rfl) (exec_load_rowHd (.tmp 25) rfl Hh rfl N rt _ ⟨_, hH17⟩) ?_)
          | (go_at_call 18; with_reducible refine (HLF.out).mono ?_; rintro e w18 ⟨pe, qe, oke, rfl, he, hx18⟩))
        have hx19 := hx18.alloc (.cells #[.string pe, .string qe] 43)
        have heC := heap_new w18 (.cells #[.string pe, .string qe] 43)
        generalize w18.alloc (.cells #[.string pe, .string qe] 43) = w19 at hx19 heC ⊢
        obtain ⟨Ee, hEE⟩ : ∃ R, w18.heap.size = R := ⟨_, rfl⟩
        rw [hEE] at heC ⊢
        have hH19 := hx19.same hH17 List.not_mem_nil
        have t19 := t17.ext0 hx19
        have hE19 := hE17.trans0 hx19
        have HSZ := Hs.hid (HZQ.out.2.2.ext hx19 (by simp))
        replace HEK := Hs.hid (HEK.out.trans0 hx19)
        clear hEE hx18 hx19 hH17 t17 hE17 HLF
        go_cut [177] (fun s177 wx => s177 = .bool false ∧ Ext [] w19 wx)
        case first =>
          have c0 := cellAt heC 0
          have c1 := cellAt heC 1
          simp at c0 c1
          rcases ba_cases s1 b1 with ⟨hsb, eb⟩ | ⟨hne, eb⟩
          · obtain rfl : oke = false := by
              cases oke
              · rfl
              · exact absurd hsb (he.out.isOk.1 rfl).1
            obtain ⟨rfl, rfl⟩ := he.out.no rfl
            clear hsb
            go_wp2_with fail
            go_meet
            exact ⟨rfl, Ext.refl _ _⟩
          · by_cases hi : inclN (dig (leaf2 b1)) (k : Int) (N : Int) rt zs = 0
            · obtain rfl : oke = true := he.out.isOk.2 ⟨hne, HZQ.out.2.1, hi⟩
              have HY := Hs.hid (pairYes_any pe qe he.out.sp he.out.sq (he.out.yes rfl))
              have HI := Hs.hid (pInclNil b1 (by have := HAB1.out.2; omega) k N (by omega) rt zs hi nz HZQ.out.1 az cz w19 HSZ.out)
              clear hne hi
              go_wp2_with (first
                | (refine wpList_yield (.agg (headV N rt)) (by rfl) (exec_load_rowHd (.tmp 25) rfl Hh rfl N rt _ ⟨_, hH19⟩) ?_)
                | (go_at_call 21; with_reducible refine (HI.out).mono ?_; rintro e w20 ⟨rfl, hx20⟩; have c0' := cellAt (hx20.same heC List.not_mem_nil) 0; have c1' := cellAt (hx20.same heC List.not_mem_nil) 1; simp at c0' c1')
                | (go_at_call 15; with_reducible refine (HY.out _).mono ?_; rintro e w21 ⟨rfl, hx21⟩))
              go_meet
              exact ⟨rfl, hx20.trans0 hx21⟩
            · obtain rfl : oke = false := by
                cases oke
                · rfl
                · exact absurd (he.out.isOk.1 rfl).2.2 hi
              obtain ⟨rfl, rfl⟩ := he.out.no rfl
              have HI := Hs.hid (pInclErr _ hi b1 (by have := HAB1.out.2; omega) k N (by omega) rt zs rfl nz HZQ.out.1 az cz w19 HSZ.out)
              clear hne hi
              go_wp2_with (first
                | (refine wpList_yield (.agg (headV N rt)) (by rfl) (exec_load_rowHd (.tmp 25) rfl Hh rfl N rt _ ⟨_, hH19⟩) ?_)
                | (go_at_call 21; with_reducible refine (HI.out).mono ?_; rintro e w20 ⟨pp, rfl, _, hx20⟩))
              go_meet
              exact ⟨rfl, hx20⟩
        case rest =>
          obtain ⟨rfl, hE20⟩ := hcut
          have hH20 := hE20.same hH19 List.not_mem_nil
          have t20 := t19.ext0 hE20
          have hE21 := hE19.trans0 hE20
          replace HEK := Hs.hid (HEK.out.trans0 hE20)
          clear heC he hH19 t19 hE19 hE20 HSZ HZQ
          go_upto_region 23 with (first
            | (go_at_call 11; refine (rootS_any k t20 (by have h5 := p30c; have := HN.out; omega) (by have := HN.out; have := HKL.out; omega) (Nat.zero_le _)).mono ?_; rintro e w22 ⟨old, rfl, hold, hx22⟩)
            | (refine wpList_store_row rfl 35 (.tmp 36) (.tmp 182) rfl w22.heap.size old.V rfl rfl _ _ (heap_new w22 _) (by rw [old.size]; exact infoSum) (by rw [old.size]; rfl) old.one ?_))
          have hR := setRow_heap _ _ _ old.V _ _ (heap_new w22 (.cells #[.int .u8 0, .int .u8 0, .int .u8 0, .int .u8 0, .int .u8 0, .int .u8 0, .int .u8 0, .int .u8 0, .int .u8 0, .int .u8 0, .int .u8 0, .int .u8 0, .int .u8 0, .int .u8 0, .int .u8 0, .int .u8 0, .int .u8 0, .int .u8 0, .int .u8 0, .int .u8 0, .int .u8 0, .int .u8 0, .int .u8 0, .int .u8 0, .int .u8 0, .int .u8 0, .int .u8 0, .int .u8 0, .int .u8 0, .int .u8 0, .int .u8 0, .int .u8 0] 35))
          have hx23 := boxExt' (w := w22) (.cells #[.int .u8 0, .int .u8 0, .int .u8 0, .int .u8 0, .int .u8 0, .int .u8 0, .int .u8 0, .int .u8 0, .int .u8 0, .int .u8 0, .int .u8 0, .int .u8 0, .int .u8 0, .int .u8 0, .int .u8 0, .int .u8 0, .int .u8 0, .int .u8 0, .int .u8 0, .int .u8 0, .int .u8 0, .int .u8 0, .int .u8 0, .int .u8 0, .int .u8 0, .int .u8 0, .int .u8 0, .int .u8 0, .int .u8 0, .int .u8 0, .int .u8 0, .int .u8 0] 35) old.V
          generalize (w22.alloc (.cells #[.int .u8 0, .int .u8 0, .int .u8 0, .int .u8 0, .int .u8 0, .int .u8 0, .int .u8 0, .int .u8 0, .int .u8 0, .int .u8 0, .int .u8 0, .int .u8 0, .int .u8 0, .int .u8 0, .int .u8 0, .int .u8 0, .int .u8 0, .int .u8 0, .int .u8 0, .int .u8 0, .int .u8 0, .int .u8 0, .int .u8 0, .int .u8 0, .int .u8 0, .int .u8 0, .int .u8 0, .int .u8 0, .int .u8 0, .int .u8 0, .int .u8 0, .int .u8 0] 35)).setRow w22.heap.size old.V = w23 at hR hx23 ⊢
          obtain ⟨Ro, hRR⟩ : ∃ R, w22.heap.size = R := ⟨_, rfl⟩
          rw [hRR] at hR ⊢
          have hx223 := hx22.trans0 hx23
          have hH23 := hx223.same hH20 List.not_mem_nil
          have t23 := t20.ext0 hx223
          have hE23 := hE21.trans0 hx223
          replace HEK := Hs.hid (HEK.out.trans0 hx223)
          clear hRR hx22 hx23 hx223 hH20 t20 hE21
          go_upto_region 24 with (go_at_call 13; refine (cons_any k N t23 (by have h5 := p30c; have := HN.out; omega) (by have := HN.out; omega) (by have := HKL.out; omega) (Nat.zero_le _)).mono ?_; rintro e w24 ⟨vw, rfl, hOw, _, hx24⟩)
          obtain ⟨aw, cw, rfl⟩ := hOw.form
          have hSw := hOw.sums.2
          obtain ⟨ws, hws⟩ : ∃ zs, (consT ls k N).map dig = zs := ⟨_, rfl⟩
          obtain ⟨nw, hnw⟩ : ∃ p, (consT ls k N).length = p := ⟨_, rfl⟩
          have hwl : ws.length = nw := by rw [← hws, List.length_map, hnw]
          rw [hws] at hSw
          rw [hnw]
          have hH24 := hx24.same hH23 List.not_mem_nil
          have hR24 := hx24.same hR List.not_mem_nil
          have hE24 := hE23.trans0 hx24
          replace HEK := Hs.hid (HEK.out.trans0 hx24)
          have HWL := Hs.hid (And.intro hwl hSw)
          clear hSw hwl hws hnw hOw hx24 hH23 t23 hE23 hR
          go_upto_region 25 with (first
            | (refine wpList_yield (.agg old.V) (by rfl) (exec_load_rowV (.tmp 36) rfl Ro rfl old _ ⟨_, hR24⟩) ?_)
            | (go_at_call 19; with_reducible refine (HPF.out old k ws aw cw nw HWL.out.1 _ HEK.out HWL.out.2).mono ?_; intro e w25 hr; unfold PairE at hr; obtain ⟨pf, qf, okf, rfl, hf, hx25⟩ := hr))
          obtain rfl : okf = false := by
            cases okf
            · rfl
            · have h9 := (hf.out.isOk.1 rfl).2.2.2
              rw [Int.toNat_natCast] at h9
              exact absurd hold.out.symm h9
          have hx26 := hx25.alloc (.cells #[.string pf, .string qf] 43)
          generalize w25.alloc (.cells #[.string pf, .string qf] 43) = w26 at hx26 ⊢
          have hH26 := hx26.same hH24 List.not_mem_nil
          have hR26 := hx26.same hR24 List.not_mem_nil
          have hE26 := hE24.trans0 hx26
          replace HEK := Hs.hid (HEK.out.trans0 hx26)
          have HW26 := Hs.hid (HWL.out.2.ext hx26 (by simp))
          clear hx25 hx26 hH24 hR24 hE24 hf
          go_upto_region 28 with (first
            | (go_at_call 20; refine (sum32_any b1 HB1M.out _).mono ?_; rintro e w27 ⟨sb, rfl, hsb, hx27⟩)
            | (go_at_call 19; with_reducible refine (HPF.out sb k ws aw cw nw HWL.out.1 _ (HEK.out.trans0 hx27) (HW26.out.ext hx27 (by simp))).mono ?_; intro e w28 hr; unfold PairE at hr; obtain ⟨pv, qv, okv, rfl, hv, hx28⟩ := hr))
          have hx29 := (hx27.trans0 hx28).alloc (.cells #[.string pv, .string qv] 43)
          have hvC := heap_new w28 (.cells #[.string pv, .string qv] 43)
          generalize w28.alloc (.cells #[.string pv, .string qv] 43) = WK at hx29 hvC ⊢
          obtain ⟨Vv, hVV⟩ : ∃ R, w28.heap.size = R := ⟨_, rfl⟩
          rw [hVV] at hvC ⊢
          have hHK := hx29.same hH26 List.not_mem_nil
          have hOK := hx29.same hR26 List.not_mem_nil
          have hEK := hE26.trans0 hx29
          have HSB := Hs.hid hsb.out
          have HWK := Hs.hid (HW26.out.ext hx29 (by simp))
          clear hVV hx27 hx28 hx29 hH26 hR26 hE26 hsb HW26
          by_cases hcn : consN (k : Int) (N : Int) sb rt ws = 0
          · have HCO := Hs.hid (fun w' (h : Ext [] WK w') => pConsNil k N (by omega) sb rt ws hcn nw HWL.out.1 aw cw w' (HWK.out.ext h (by simp)))
            by_cases hso : sb = old
            · obtain rfl : okv = false := by
                cases okv
                · rfl
                · have h9 := (hv.out.isOk.1 rfl).2.2.2
                  rw [Int.toNat_natCast] at h9
                  exact absurd (hso.trans hold.out).symm h9
              obtain rfl : old = sb := hso.symm
              clear hcn hso hold
              refine wp_region_noPanic ?_
              refine wp_region_held_drew (S := (fun w' => Ext [] WK w')) (by kernel_rfl) ?_ (fun hHeld => ?_)
              · ((try dsimp only); exact (Ext.refl [] WK).drew)
              refine wpAnyH_take (i := 0) (v := ?_) rfl (by kernel_rfl) (by kernel_rfl) (by kernel_rfl) (fun _ _ _ h => h) (Or.inl ⟨by rfl, ?_⟩) (by assumption) ?_
              rotate_left
              · (intro w hSw; (try dsimp only at hSw); first | (go_simp; done) | (go_simp; with_reducible rfl))
              try simp only [Act.put, List.getElem_toArray, List.getElem_cons_succ, List.getElem_cons_zero, List.setIfInBounds_toArray, List.set_cons_zero, List.set_cons_succ]
              refine wpAnyH_take (i := 1) (v := ?_) rfl (by kernel_rfl) (by kernel_rfl) (by kernel_rfl) (fun _ _ _ h => h) (Or.inl ⟨by rfl, ?_⟩) (by assumption) ?_
              rotate_left
              · (intro w hSw; (try dsimp only at hSw); first | (go_simp; done) | (go_simp; with_reducible rfl))
              try simp only [Act.put, List.getElem_toArray, List.getElem_cons_succ, List.getElem_cons_zero, List.setIfInBounds_toArray, List.set_cons_zero, List.set_cons_succ]
              refine wpAnyH_take (i := 4) (v := _) rfl (by kernel_rfl) (by kernel_rfl) (by kernel_rfl) (fun _ _ _ h => h) (yieldsIf_of (.agg (headV (N : Int) rt)) (by rfl) (fun w' hw => exec_load_rowHd (.tmp 25) rfl Hh rfl (N : Int) rt w' ⟨_, hw.same hHK List.not_mem_nil⟩)) (by assumption) ?_
              try simp only [Act.put, List.getElem_toArray, List.getElem_cons_succ, List.getElem_cons_zero, List.setIfInBounds_toArray, List.set_cons_zero, List.set_cons_succ]
              refine wpAnyH_take (i := 5) (v := ?_) rfl (by kernel_rfl) (by kernel_rfl) (by kernel_rfl) (fun _ _ _ h => h) (Or.inl ⟨by rfl, ?_⟩) (by assumption) ?_
              rotate_left
              · (intro w hSw; (try dsimp only at hSw); first | (go_simp; done) | (go_simp; with_reducible rfl))
              try simp only [Act.put, List.getElem_toArray, List.getElem_cons_succ, List.getElem_cons_zero, List.setIfInBounds_toArray, List.set_cons_zero, List.set_cons_succ]
              refine wpAnyH_ready (rs := [2]) (by kernel_rfl) (by simp) ?_
              refine AllReadyH.cons rfl (fun K hK => ?_) AllReadyH.nil
              go_simp
              (go_at_call 20; refine (sum32_any b1 HB1M.out _).mono ?_; rintro e w31 ⟨s31, rfl, hs31, hx31⟩; have hq31 : s31 = old := hs31.out.trans HSB.out.symm; subst s31)
              go_wp2_with fail
              refine hK.out _ _ ?_ (fun hHeld => ?_)
              · ((try dsimp only); exact Ext.trans0 hHeld hx31)
              clear hK K
              try simp only [Act.put, List.getElem_toArray, List.getElem_cons_succ, List.getElem_cons_zero, List.setIfInBounds_toArray, List.set_cons_zero, List.set_cons_succ]
              refine wpAnyH_take (i := 3) (v := _) rfl (by kernel_rfl) (by kernel_rfl) (by kernel_rfl) (fun _ _ _ h => h) (yieldsIf_of (.agg (headV (k : Int) old)) (by rfl) (fun w' hw => exec_build #[(0, .tmp 210), (1, .tmp 212)] rfl [(0, .int .i64 (k : Int)), (1, .agg old.V)] _ _ (by first | (go_simp; done) | (go_simp; rfl) | (simp [Act.eval]; done)) (head_built (k : Int) old))) (by assumption) ?_
              try simp only [Act.put, List.getElem_toArray, List.getElem_cons_succ, List.getElem_cons_zero, List.setIfInBounds_toArray, List.set_cons_zero, List.set_cons_succ]
              refine wpAnyH_ready (rs := [6]) (by kernel_rfl) (by simp) ?_
              refine AllReadyH.cons rfl (fun K hK => ?_) AllReadyH.nil
              go_simp
              (go_at_call 22; with_reducible refine (HCO.out _ hHeld).mono ?_; rintro e w32 ⟨rfl, hx32⟩)
              go_wp2_with fail
              refine hK.out _ _ ?_ (fun hHeld => ?_)
              · ((try dsimp only); exact Ext.trans0 hHeld hx32)
              clear hK K
              try simp only [Act.put, List.getElem_toArray, List.getElem_cons_succ, List.getElem_cons_zero, List.setIfInBounds_toArray, List.set_cons_zero, List.set_cons_succ]
              refine wpAnyH_take (i := 7) (v := ?_) rfl (by kernel_rfl) (by kernel_rfl) (by kernel_rfl) (fun _ _ _ h => h) (Or.inl ⟨by rfl, ?_⟩) (by assumption) ?_
              rotate_left
              · (intro w hSw; (try dsimp only at hSw); first | (go_simp; done) | (go_simp; with_reducible rfl))
              try simp only [Act.put, List.getElem_toArray, List.getElem_cons_succ, List.getElem_cons_zero, List.setIfInBounds_toArray, List.set_cons_zero, List.set_cons_succ]
              refine wpAnyH_take (i := 8) (v := ?_) rfl (by kernel_rfl) (by kernel_rfl) (by kernel_rfl) (fun _ _ _ h => h) (Or.inl ⟨by rfl, ?_⟩) (by assumption) ?_
              rotate_left
              · (intro w hSw; (try dsimp only at hSw); first | (go_simp; done) | (go_simp; with_reducible rfl))
              try simp only [Act.put, List.getElem_toArray, List.getElem_cons_succ, List.getElem_cons_zero, List.setIfInBounds_toArray, List.set_cons_zero, List.set_cons_succ]
              refine wpAnyH_take (i := 9) (v := ?_) rfl (by kernel_rfl) (by kernel_rfl) (by kernel_rfl) (fun _ _ _ h => h) (Or.inl ⟨by rfl, ?_⟩) (by assumption) ?_
              rotate_left
              · (intro w hSw; (try dsimp only at hSw); first | (go_simp; done) | (go_simp; with_reducible rfl))
              try simp only [Act.put, List.getElem_toArray, List.getElem_cons_succ, List.getElem_cons_zero, List.setIfInBounds_toArray, List.set_cons_zero, List.set_cons_succ]
              refine wpAnyH_take (i := 11) (v := _) rfl (by kernel_rfl) (by kernel_rfl) (by kernel_rfl) (fun _ _ _ h => h) (yieldsIf_of (.agg old.V) (by rfl) (fun w' hw => exec_load_rowV (.tmp 36) rfl Ro rfl old w' ⟨_, hw.same hOK List.not_mem_nil⟩)) (by assumption) ?_
              try simp only [Act.put, List.getElem_toArray, List.getElem_cons_succ, List.getElem_cons_zero, List.setIfInBounds_toArray, List.set_cons_zero, List.set_cons_succ]
              refine wpAnyH_ready (rs := [10]) (by kernel_rfl) (by simp) ?_
              refine AllReadyH.cons rfl (fun K hK => ?_) AllReadyH.nil
              go_simp
              (go_at_call 20; refine (sum32_any b1 HB1M.out _).mono ?_; rintro e w33 ⟨s33, rfl, hs33, hx33⟩; have hq33 : s33 = old := hs33.out.trans HSB.out.symm; subst s33)
              go_wp2_with fail
              refine hK.out _ _ ?_ (fun hHeld => ?_)
              · ((try dsimp only); exact Ext.trans0 hHeld hx33)
              clear hK K
              try simp only [Act.put, List.getElem_toArray, List.getElem_cons_succ, List.getElem_cons_zero, List.setIfInBounds_toArray, List.set_cons_zero, List.set_cons_succ]
              refine wpAnyH_take (i := 12) (v := _) rfl (by kernel_rfl) (by kernel_rfl) (by kernel_rfl) (fun _ _ _ h => h) (yieldsIf_of (.bool false) (by rfl) (fun w' hw => exec_neSame (.tmp 220) (.tmp 221) _ rfl old rfl rfl w')) (by assumption) ?_
              try simp only [Act.put, List.getElem_toArray, List.getElem_cons_succ, List.getElem_cons_zero, List.setIfInBounds_toArray, List.set_cons_zero, List.set_cons_succ]
              refine wpAnyH_take (i := 13) (v := ?_) rfl (by kernel_rfl) (by kernel_rfl) (by kernel_rfl) (fun _ _ _ h => h) (Or.inl ⟨by rfl, ?_⟩) (by assumption) ?_
              rotate_left
              · (intro w hSw; (try dsimp only at hSw); first | (go_simp; done) | (go_simp; with_reducible rfl))
              try simp only [Act.put, List.getElem_toArray, List.getElem_cons_succ, List.getElem_cons_zero, List.setIfInBounds_toArray, List.set_cons_zero, List.set_cons_succ]
              refine wpAnyH_take (i := 14) (v := ?_) rfl (by kernel_rfl) (by kernel_rfl) (by kernel_rfl) (fun _ _ _ h => h) (Or.inl ⟨by rfl, ?_⟩) (by assumption) ?_
              rotate_left
              · (intro w hSw; (try dsimp only at hSw); first | (go_simp; done) | (go_simp; with_reducible rfl))
              try simp only [Act.put, List.getElem_toArray, List.getElem_cons_succ, List.getElem_cons_zero, List.setIfInBounds_toArray, List.set_cons_zero, List.set_cons_succ]
              refine wpAnyH_done (by kernel_rfl) ?_ _
              refine NoPanic.normal ?_
              go_wp2_with fail
              go_round
              case rel => exact ⟨k + 1, by go_num, by omega, hEK.trans0 hHeld⟩
              case measure => simp [intOf]; omega
            · obtain rfl : okv = true := hv.out.isOk.2 ⟨by omega, by omega, by rw [← HRT.out]; exact hcn, by rw [Int.toNat_natCast, ← hold.out]; exact Ne.symm hso⟩
              have HY := Hs.hid (pairYes_any pv qv hv.out.sp hv.out.sq (hv.out.yes rfl))
              have HSN := Hs.hid hso
              clear hcn hso hold
              refine wp_region_noPanic ?_
              refine wp_region_held_drew (S := (fun w' => Ext [] WK w')) (by kernel_rfl) ?_ (fun hHeld => ?_)
              · ((try dsimp only); exact (Ext.refl [] WK).drew)
              refine wpAnyH_take (i := 0) (v := ?_) rfl (by kernel_rfl) (by kernel_rfl) (by kernel_rfl) (fun _ _ _ h => h) (Or.inl ⟨by rfl, ?_⟩) (by assumption) ?_
              rotate_left
              · (intro w hSw; (try dsimp only at hSw); first | (go_simp; done) | (go_simp; with_reducible rfl))
              try simp only [Act.put, List.getElem_toArray, List.getElem_cons_succ, List.getElem_cons_zero, List.setIfInBounds_toArray, List.set_cons_zero, List.set_cons_succ]
              refine wpAnyH_take (i := 1) (v := ?_) rfl (by kernel_rfl) (by kernel_rfl) (by kernel_rfl) (fun _ _ _ h => h) (Or.inl ⟨by rfl, ?_⟩) (by assumption) ?_
              rotate_left
              · (intro w hSw; (try dsimp only at hSw); first | (go_simp; done) | (go_simp; with_reducible rfl))
              try simp only [Act.put, List.getElem_toArray, List.getElem_cons_succ, List.getElem_cons_zero, List.setIfInBounds_toArray, List.set_cons_zero, List.set_cons_succ]
              refine wpAnyH_take (i := 4) (v := _) rfl (by kernel_rfl) (by kernel_rfl) (by kernel_rfl) (fun _ _ _ h => h) (yieldsIf_of (.agg (headV (N : Int) rt)) (by rfl) (fun w' hw => exec_load_rowHd (.tmp 25) rfl Hh rfl (N : Int) rt w' ⟨_, hw.same hHK List.not_mem_nil⟩)) (by assumption) ?_
              try simp only [Act.put, List.getElem_toArray, List.getElem_cons_succ, List.getElem_cons_zero, List.setIfInBounds_toArray, List.set_cons_zero, List.set_cons_succ]
              refine wpAnyH_take (i := 5) (v := ?_) rfl (by kernel_rfl) (by kernel_rfl) (by kernel_rfl) (fun _ _ _ h => h) (Or.inl ⟨by rfl, ?_⟩) (by assumption) ?_
              rotate_left
              · (intro w hSw; (try dsimp only at hSw); first | (go_simp; done) | (go_simp; with_reducible rfl))
              try simp only [Act.put, List.getElem_toArray, List.getElem_cons_succ, List.getElem_cons_zero, List.setIfInBounds_toArray, List.set_cons_zero, List.set_cons_succ]
              refine wpAnyH_ready (rs := [2]) (by kernel_rfl) (by simp) ?_
              refine AllReadyH.cons rfl (fun K hK => ?_) AllReadyH.nil
              go_simp
              (go_at_call 20; refine (sum32_any b1 HB1M.out _).mono ?_; rintro e w31 ⟨s31, rfl, hs31, hx31⟩; have hq31 : s31 = sb := hs31.out.trans HSB.out.symm; subst s31)
              go_wp2_with fail
              refine hK.out _ _ ?_ (fun hHeld => ?_)
              · ((try dsimp only); exact Ext.trans0 hHeld hx31)
              clear hK K
              try simp only [Act.put, List.getElem_toArray, List.getElem_cons_succ, List.getElem_cons_zero, List.setIfInBounds_toArray, List.set_cons_zero, List.set_cons_succ]
              refine wpAnyH_take (i := 3) (v := _) rfl (by kernel_rfl) (by kernel_rfl) (by kernel_rfl) (fun _ _ _ h => h) (yieldsIf_of (.agg (headV (k : Int) sb)) (by rfl) (fun w' hw => exec_build #[(0, .tmp 210), (1, .tmp 212)] rfl [(0, .int .i64 (k : Int)), (1, .agg sb.V)] _ _ (by first | (go_simp; done) | (go_simp; rfl) | (simp [Act.eval]; done)) (head_built (k : Int) sb))) (by assumption) ?_
              try simp only [Act.put, List.getElem_toArray, List.getElem_cons_succ, List.getElem_cons_zero, List.setIfInBounds_toArray, List.set_cons_zero, List.set_cons_succ]
              refine wpAnyH_ready (rs := [6]) (by kernel_rfl) (by simp) ?_
              refine AllReadyH.cons rfl (fun K hK => ?_) AllReadyH.nil
              go_simp
              (go_at_call 22; with_reducible refine (HCO.out _ hHeld).mono ?_; rintro e w32 ⟨rfl, hx32⟩)
              go_wp2_with fail
              refine hK.out _ _ ?_ (fun hHeld => ?_)
              · ((try dsimp only); exact Ext.trans0 hHeld hx32)
              clear hK K
              try simp only [Act.put, List.getElem_toArray, List.getElem_cons_succ, List.getElem_cons_zero, List.setIfInBounds_toArray, List.set_cons_zero, List.set_cons_succ]
              refine wpAnyH_take (i := 7) (v := ?_) rfl (by kernel_rfl) (by kernel_rfl) (by kernel_rfl) (fun _ _ _ h => h) (Or.inl ⟨by rfl, ?_⟩) (by assumption) ?_
              rotate_left
              · (intro w hSw; (try dsimp only at hSw); first | (go_simp; done) | (go_simp; with_reducible rfl))
              try simp only [Act.put, List.getElem_toArray, List.getElem_cons_succ, List.getElem_cons_zero, List.setIfInBounds_toArray, List.set_cons_zero, List.set_cons_succ]
              refine wpAnyH_take (i := 8) (v := ?_) rfl (by kernel_rfl) (by kernel_rfl) (by kernel_rfl) (fun _ _ _ h => h) (Or.inl ⟨by rfl, ?_⟩) (by assumption) ?_
              rotate_left
              · (intro w hSw; (try dsimp only at hSw); first | (go_simp; done) | (go_simp; with_reducible rfl))
              try simp only [Act.put, List.getElem_toArray, List.getElem_cons_succ, List.getElem_cons_zero, List.setIfInBounds_toArray, List.set_cons_zero, List.set_cons_succ]
              refine wpAnyH_take (i := 9) (v := ?_) rfl (by kernel_rfl) (by kernel_rfl) (by kernel_rfl) (fun _ _ _ h => h) (Or.inl ⟨by rfl, ?_⟩) (by assumption) ?_
              rotate_left
              · (intro w hSw; (try dsimp only at hSw); first | (go_simp; done) | (go_simp; with_reducible rfl))
              try simp only [Act.put, List.getElem_toArray, List.getElem_cons_succ, List.getElem_cons_zero, List.setIfInBounds_toArray, List.set_cons_zero, List.set_cons_succ]
              refine wpAnyH_take (i := 11) (v := _) rfl (by kernel_rfl) (by kernel_rfl) (by kernel_rfl) (fun _ _ _ h => h) (yieldsIf_of (.agg old.V) (by rfl) (fun w' hw => exec_load_rowV (.tmp 36) rfl Ro rfl old w' ⟨_, hw.same hOK List.not_mem_nil⟩)) (by assumption) ?_
              try simp only [Act.put, List.getElem_toArray, List.getElem_cons_succ, List.getElem_cons_zero, List.setIfInBounds_toArray, List.set_cons_zero, List.set_cons_succ]
              refine wpAnyH_ready (rs := [10]) (by kernel_rfl) (by simp) ?_
              refine AllReadyH.cons rfl (fun K hK => ?_) AllReadyH.nil
              go_simp
              (go_at_call 20; refine (sum32_any b1 HB1M.out _).mono ?_; rintro e w33 ⟨s33, rfl, hs33, hx33⟩; have hq33 : s33 = sb := hs33.out.trans HSB.out.symm; subst s33)
              go_wp2_with fail
              refine hK.out _ _ ?_ (fun hHeld => ?_)
              · ((try dsimp only); exact Ext.trans0 hHeld hx33)
              clear hK K
              try simp only [Act.put, List.getElem_toArray, List.getElem_cons_succ, List.getElem_cons_zero, List.setIfInBounds_toArray, List.set_cons_zero, List.set_cons_succ]
              refine wpAnyH_take (i := 12) (v := _) rfl (by kernel_rfl) (by kernel_rfl) (by kernel_rfl) (fun _ _ _ h => h) (yieldsIf_of (.bool true) (by rfl) (fun w' hw => exec_neTrue (.tmp 220) (.tmp 221) _ rfl sb old rfl rfl HSN.out w')) (by assumption) ?_
              try simp only [Act.put, List.getElem_toArray, List.getElem_cons_succ, List.getElem_cons_zero, List.setIfInBounds_toArray, List.set_cons_zero, List.set_cons_succ]
              refine wpAnyH_take (i := 13) (v := ?_) rfl (by kernel_rfl) (by kernel_rfl) (by kernel_rfl) (fun _ _ _ h => h) (Or.inl ⟨by rfl, ?_⟩) (by assumption) ?_
              rotate_left
              · (intro w hSw; (try dsimp only at hSw); first | (go_simp; done) | (go_simp; with_reducible rfl))
              try simp only [Act.put, List.getElem_toArray, List.getElem_cons_succ, List.getElem_cons_zero, List.setIfInBounds_toArray, List.set_cons_zero, List.set_cons_succ]
              refine wpAnyH_take (i := 14) (v := ?_) rfl (by kernel_rfl) (by kernel_rfl) (by kernel_rfl) (fun _ _ _ h => h) (Or.inl ⟨by rfl, ?_⟩) (by assumption) ?_
              rotate_left
              · (intro w hSw; (try dsimp only at hSw); first | (go_simp; done) | (go_simp; with_reducible rfl))
              try simp only [Act.put, List.getElem_toArray, List.getElem_cons_succ, List.getElem_cons_zero, List.setIfInBounds_toArray, List.set_cons_zero, List.set_cons_succ]
              refine wpAnyH_done (by kernel_rfl) ?_ _
              refine NoPanic.normal ?_
              have c0' := cellAt (hHeld.same hvC List.not_mem_nil) 0
              have c1' := cellAt (hHeld.same hvC List.not_mem_nil) 1
              simp at c0' c1'
              go_wp2_with (go_at_call 15; with_reducible refine (HY.out _).mono ?_; rintro e w34 ⟨rfl, hx34⟩)
              go_round
              case rel => exact ⟨k + 1, by go_num, by omega, (hEK.trans0 hHeld).trans0 hx34⟩
              case measure => simp [intOf]; omega
          · obtain rfl : okv = false := by
              cases okv
              · rfl
              · have h9 := (hv.out.isOk.1 rfl).2.2.1
                rw [← HRT.out] at h9
                exact absurd h9 hcn
            have HCO := Hs.hid (fun w' (h : Ext [] WK w') => pConsErr k N (by omega) sb rt ws hcn nw HWL.out.1 aw cw w' (HWK.out.ext h (by simp)))
            clear hcn hold
            refine wp_region_noPanic ?_
            refine wp_region_held_drew (S := (fun w' => Ext [] WK w')) (by kernel_rfl) ?_ (fun hHeld => ?_)
            · ((try dsimp only); exact (Ext.refl [] WK).drew)
            refine wpAnyH_take (i := 0) (v := ?_) rfl (by kernel_rfl) (by kernel_rfl) (by kernel_rfl) (fun _ _ _ h => h) (Or.inl ⟨by rfl, ?_⟩) (by assumption) ?_
            rotate_left
            · (intro w hSw; (try dsimp only at hSw); first | (go_simp; done) | (go_simp; with_reducible rfl))
            try simp only [Act.put, List.getElem_toArray, List.getElem_cons_succ, List.getElem_cons_zero, List.setIfInBounds_toArray, List.set_cons_zero, List.set_cons_succ]
            refine wpAnyH_take (i := 1) (v := ?_) rfl (by kernel_rfl) (by kernel_rfl) (by kernel_rfl) (fun _ _ _ h => h) (Or.inl ⟨by rfl, ?_⟩) (by assumption) ?_
            rotate_left
            · (intro w hSw; (try dsimp only at hSw); first | (go_simp; done) | (go_simp; with_reducible rfl))
            try simp only [Act.put, List.getElem_toArray, List.getElem_cons_succ, List.getElem_cons_zero, List.setIfInBounds_toArray, List.set_cons_zero, List.set_cons_succ]
            refine wpAnyH_take (i := 4) (v := _) rfl (by kernel_rfl) (by kernel_rfl) (by kernel_rfl) (fun _ _ _ h => h) (yieldsIf_of (.agg (headV (N : Int) rt)) (by rfl) (fun w' hw => exec_load_rowHd (.tmp 25) rfl Hh rfl (N : Int) rt w' ⟨_, hw.same hHK List.not_mem_nil⟩)) (by assumption) ?_
            try simp only [Act.put, List.getElem_toArray, List.getElem_cons_succ, List.getElem_cons_zero, List.setIfInBounds_toArray, List.set_cons_zero, List.set_cons_succ]
            refine wpAnyH_take (i := 5) (v := ?_) rfl (by kernel_rfl) (by kernel_rfl) (by kernel_rfl) (fun _ _ _ h => h) (Or.inl ⟨by rfl, ?_⟩) (by assumption) ?_
            rotate_left
            · (intro w hSw; (try dsimp only at hSw); first | (go_simp; done) | (go_simp; with_reducible rfl))
            try simp only [Act.put, List.getElem_toArray, List.getElem_cons_succ, List.getElem_cons_zero, List.setIfInBounds_toArray, List.set_cons_zero, List.set_cons_succ]
            refine wpAnyH_ready (rs := [2]) (by kernel_rfl) (by simp) ?_
            refine AllReadyH.cons rfl (fun K hK => ?_) AllReadyH.nil
            go_simp
            (go_at_call 20; refine (sum32_any b1 HB1M.out _).mono ?_; rintro e w31 ⟨s31, rfl, hs31, hx31⟩; have hq31 : s31 = sb := hs31.out.trans HSB.out.symm; subst s31)
            go_wp2_with fail
            refine hK.out _ _ ?_ (fun hHeld => ?_)
            · ((try dsimp only); exact Ext.trans0 hHeld hx31)
            clear hK K
            try simp only [Act.put, List.getElem_toArray, List.getElem_cons_succ, List.getElem_cons_zero, List.setIfInBounds_toArray, List.set_cons_zero, List.set_cons_succ]
            refine wpAnyH_take (i := 3) (v := _) rfl (by kernel_rfl) (by kernel_rfl) (by kernel_rfl) (fun _ _ _ h => h) (yieldsIf_of (.agg (headV (k : Int) sb)) (by rfl) (fun w' hw => exec_build #[(0, .tmp 210), (1, .tmp 212)] rfl [(0, .int .i64 (k : Int)), (1, .agg sb.V)] _ _ (by first | (go_simp; done) | (go_simp; rfl) | (simp [Act.eval]; done)) (head_built (k : Int) sb))) (by assumption) ?_
            try simp only [Act.put, List.getElem_toArray, List.getElem_cons_succ, List.getElem_cons_zero, List.setIfInBounds_toArray, List.set_cons_zero, List.set_cons_succ]
            refine wpAnyH_ready (rs := [6]) (by kernel_rfl) (by simp) ?_
            refine AllReadyH.cons rfl (fun K hK => ?_) AllReadyH.nil
            go_simp
            (go_at_call 22; with_reducible refine (HCO.out _ hHeld).mono ?_; rintro e w32 ⟨pp, rfl, hx32⟩)
            go_wp2_with fail
            refine hK.out _ _ ?_ (fun hHeld => ?_)
            · ((try dsimp only); exact Ext.trans0 hHeld hx32)
            clear hK K
            try simp only [Act.put, List.getElem_toArray, List.getElem_cons_succ, List.getElem_cons_zero, List.setIfInBounds_toArray, List.set_cons_zero, List.set_cons_succ]
            refine wpAnyH_take (i := 7) (v := ?_) rfl (by kernel_rfl) (by kernel_rfl) (by kernel_rfl) (fun _ _ _ h => h) (Or.inl ⟨by rfl, ?_⟩) (by assumption) ?_
            rotate_left
            · (intro w hSw; (try dsimp only at hSw); first | (go_simp; done) | (go_simp; with_reducible rfl))
            try simp only [Act.put, List.getElem_toArray, List.getElem_cons_succ, List.getElem_cons_zero, List.setIfInBounds_toArray, List.set_cons_zero, List.set_cons_succ]
            refine wpAnyH_take (i := 8) (v := ?_) rfl (by kernel_rfl) (by kernel_rfl) (by kernel_rfl) (fun _ _ _ h => h) (Or.inl ⟨by rfl, ?_⟩) (by assumption) ?_
            rotate_left
            · (intro w hSw; (try dsimp only at hSw); first | (go_simp; done) | (go_simp; with_reducible rfl))
            try simp only [Act.put, List.getElem_toArray, List.getElem_cons_succ, List.getElem_cons_zero, List.setIfInBounds_toArray, List.set_cons_zero, List.set_cons_succ]
            refine wpAnyH_take (i := 9) (v := undef) rfl (by kernel_rfl) (by kernel_rfl) (by kernel_rfl) (fun _ _ _ h => h) (Or.inr ⟨by rfl, rfl⟩) (by assumption) ?_
            try simp only [Act.put, List.getElem_toArray, List.getElem_cons_succ, List.getElem_cons_zero, List.setIfInBounds_toArray, List.set_cons_zero, List.set_cons_succ]
            refine wpAnyH_take (i := 10) (v := undef) rfl (by kernel_rfl) (by kernel_rfl) (by kernel_rfl) (fun _ _ _ h => h) (Or.inr ⟨by rfl, rfl⟩) (by assumption) ?_
            try simp only [Act.put, List.getElem_toArray, List.getElem_cons_succ, List.getElem_cons_zero, List.setIfInBounds_toArray, List.set_cons_zero, List.set_cons_succ]
            refine wpAnyH_take (i := 11) (v := undef) rfl (by kernel_rfl) (by kernel_rfl) (by kernel_rfl) (fun _ _ _ h => h) (Or.inr ⟨by rfl, rfl⟩) (by assumption) ?_
            try simp only [Act.put, List.getElem_toArray, List.getElem_cons_succ, List.getElem_cons_zero, List.setIfInBounds_toArray, List.set_cons_zero, List.set_cons_succ]
            refine wpAnyH_take (i := 12) (v := undef) rfl (by kernel_rfl) (by kernel_rfl) (by kernel_rfl) (fun _ _ _ h => h) (Or.inr ⟨by rfl, rfl⟩) (by assumption) ?_
            try simp only [Act.put, List.getElem_toArray, List.getElem_cons_succ, List.getElem_cons_zero, List.setIfInBounds_toArray, List.set_cons_zero, List.set_cons_succ]
            refine wpAnyH_take (i := 13) (v := ?_) rfl (by kernel_rfl) (by kernel_rfl) (by kernel_rfl) (fun _ _ _ h => h) (Or.inl ⟨by rfl, ?_⟩) (by assumption) ?_
            rotate_left
            · (intro w hSw; (try dsimp only at hSw); first | (go_simp; done) | (go_simp; with_reducible rfl))
            try simp only [Act.put, List.getElem_toArray, List.getElem_cons_succ, List.getElem_cons_zero, List.setIfInBounds_toArray, List.set_cons_zero, List.set_cons_succ]
            refine wpAnyH_take (i := 14) (v := ?_) rfl (by kernel_rfl) (by kernel_rfl) (by kernel_rfl) (fun _ _ _ h => h) (Or.inl ⟨by rfl, ?_⟩) (by assumption) ?_
            rotate_left
            · (intro w hSw; (try dsimp only at hSw); first | (go_simp; done) | (go_simp; with_reducible rfl))
            try simp only [Act.put, List.getElem_toArray, List.getElem_cons_succ, List.getElem_cons_zero, List.setIfInBounds_toArray, List.set_cons_zero, List.set_cons_succ]
            refine wpAnyH_done (by kernel_rfl) ?_ _
            refine NoPanic.normal ?_
            go_wp2_with fail
            go_round
            case rel => exact ⟨k + 1, by go_num, by omega, hEK.trans0 hHeld⟩
            case measure => simp [intOf]; omega

      · have hlt2 : ¬ (k : Int) < N := by omega
        go_wp2
        go_ret
        exact ⟨rfl, hxw15.trans0 hEr⟩
end Go.Proofs.Ytjicjadibaomkaa
