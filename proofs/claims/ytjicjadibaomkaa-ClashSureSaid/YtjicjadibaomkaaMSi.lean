/-
  Texts of this claim, put together: CWhole.
-/
import Derived.Test.YtjicjadibaomkaaMSh
set_option linter.unusedSimpArgs false
set_option linter.unusedVariables false
set_option maxHeartbeats 4000000
set_option maxRecDepth 100000
namespace Go.Proofs.Ytjicjadibaomkaa
open Go.RowKit Go.Hs Go.Dg

theorem exec_neV {a : Act} {o : Oper} (x y : Operand) (t : TypeId) (ho : o.op = Op.binOp .neq 35 x y t) (p q : S32) (hx : a.eval x = .agg p.V) (hy : a.eval y = .agg q.V) (w : World) :
    (execOp a.eval o).run Try.prog w = .ok (.value (.bool (!decide (p = q)))) w := by
  unfold execOp
  simp only [ho, hx, hy, Sem.run_bind, run_guard_sum _ _ _ _ _ _ (.inr rfl), Result.andThen_ok, binOp, run_eq_V, Sem.run_pure]
theorem exec_neSame {a : Act} {o : Oper} (x y : Operand) (t : TypeId) (ho : o.op = Op.binOp .neq 35 x y t) (p : S32) (hx : a.eval x = .agg p.V) (hy : a.eval y = .agg p.V) (w : World) :
    (execOp a.eval o).run Try.prog w = .ok (.value (.bool false)) w := by
  rw [exec_neV x y t ho p p hx hy w]; simp
theorem isPair_same (a : ByteArray) : isPair a a = false := by unfold isPair; simp
theorem pairSame_any (a : ByteArray) (ha : a.size ≤ 100000) (w : World) : Calls Try.prog 15 #[.agg #[.string a, .string a]] w fun e w' => e = .returned (.bool false) ∧ Ext [] w w' := by
  have := pairIs_any a a ha ha w
  rw [isPair_same] at this
  exact this
theorem OwnS.sums {h : Array Obj} {ao : Option Addr} {n cap : Nat} {ts : List ByteArray} (o : OwnS h (.slice ao n cap) ts) : n = ts.length ∧ Sums32 h ao cap (ts.map dig) := by
  have hn : n = ts.length := by rcases o.2 with ⟨h1, h0⟩ | ⟨g, c, cur, h1, _⟩ <;> simp at h1 <;> omega
  subst hn
  refine ⟨rfl, sums_own (xs := ts.map dig) ?_⟩
  have e : sumsV (ts.map dig) = sumsC ts := by
    unfold sumsV sumsC
    rw [List.flatMap_map]
    congr 1
    funext x
    rw [dig_V]
  unfold OwnV
  rw [List.length_map, e]; exact o
theorem rootT_pos (L : List ByteArray) (m : Nat) (h : 1 ≤ m) : rootT L m = mthT L m 0 := if_neg (by omega)
/-- The tree's root, as a sum. -/
theorem rootS_any {w : World} {T M floor : Nat} {L : List ByteArray} (m : Nat) (t : Tr w.heap T M L floor) (hN : L.length ≤ 2 ^ 30) (hm : m ≤ L.length) (hf : floor ≤ m) :
    Calls Try.prog 11 #[.pointer (some ⟨T, 0, none⟩), .int .i64 m] w fun e w' => ∃ y : S32, e = .returned (.tuple #[.agg y.V, .int .i64 0]) ∧ Hid (y = dig (rootT L m)) ∧ Ext [] w w' :=
  (root_any m t hN hm hf).mono fun e w' ⟨cs, h1, h2, h3⟩ => ⟨dig (rootT L m), by rw [h1, h2.out, dig_V], Hs.hid rfl, h3⟩
theorem p30c : (2 : Nat) ^ 30 = 1073741824 := by decide
theorem clashWhole_any (ao : Option Addr) (len cap : Nat) (n i m : Int) (w : World) (ha : StrArg w ao len) : Calls Try.prog 3 #[.slice ao len cap, .int .i64 n, .int .i64 i, .int .i64 m] w fun e w' => e = .returned (.bool true) ∧ Ext [] w w' := by
  have HA := Hs.hid ha
  clear ha
  go_enter Try.func3, Try.ntmps3
  go_upto_region 4 with (first
    | (go_at_call 5; refine (awake11_any _).mono ?_; rintro e w1 ⟨rfl, hx1⟩)
    | (go_at_call 6; refine (leaves_any ao len cap _ _ (HA.out.ext hx1)).mono ?_; rintro e w2 ⟨v, ls, rfl, hO, hL, hOg, hx2⟩))
  have hxw := hx1.trans0 hx2
  clear hx1 hx2 hOg
  obtain ⟨ao2, cap2, rfl⟩ := hO.form
  obtain ⟨N, hN⟩ : ∃ N, ls.length = N := ⟨_, rfl⟩
  have hN40 : N ≤ 40 := by have := hL.out.1; omega
  have hN40' : (N : Int) ≤ 40 := by omega
  have hcap2 := hO.capLe
  rw [hN] at hO hcap2 ⊢
  have HN := Hs.hid hN
  clear hN
  by_cases h0 : N = 0
  · have h0' : ((N : Int) == 0) = true := by simp [h0]
    have H0 := Hs.hid h0
    clear h0
    go_wp2
    go_ret
    exact ⟨rfl, hxw⟩
  · have h0' : ((N : Int) == 0) = false := by simp; omega
    have h1N : (1 : Int) ≤ N := by omega
    have H0 := Hs.hid h0
    obtain ⟨c1, q1, e1, e2, e3, e4, e5⟩ := pick_num i N (by omega)
    obtain ⟨c2, q2, f1, f2, f3, f4, f5⟩ := pick_num m N (by omega)
    have e6 : (q1 : Int) < N := by omega
    have f6 : (q2 : Int) < N := by omega
    obtain ⟨m', hm'⟩ : ∃ m', 1 + q2 = m' := ⟨_, rfl⟩
    have f7 : IntKind.i64.wrap (m' : Int) = (m' : Int) := by rw [IntKind.wrap_i64]; omega
    have f8 : (1 : Int) + (q2 : Int) = (m' : Int) := by omega
    have HQ := Hs.hid (And.intro e5 f5)
    have HM := Hs.hid (show 1 ≤ m' ∧ m' ≤ N by omega)
    clear hm'
    have hn0 : ¬ N = 0 := h0
    clear h0 e5 f5
    go_upto_region 7 with fail
    refine wp_region_noPanic ?_
    refine wp_region_held_drew (S := (fun _ => True)) (by kernel_rfl) ?_ (fun hHeld => ?_)
    · ((try dsimp only); all_goals trivial)
    refine wpAnyH_take (i := 0) (v := ?_) rfl (by kernel_rfl) (by kernel_rfl) (by kernel_rfl) (fun _ _ _ h => h) (Or.inl ⟨by rfl, ?_⟩) (by assumption) ?_
    rotate_left
    · (intro w hSw; (try dsimp only at hSw); first | (go_simp; done) | (go_simp; with_reducible rfl))
    try simp only [Act.put, List.getElem_toArray, List.getElem_cons_succ, List.getElem_cons_zero, List.setIfInBounds_toArray, List.set_cons_zero, List.set_cons_succ]
    refine wpAnyH_take (i := 1) (v := ?_) rfl (by kernel_rfl) (by kernel_rfl) (by kernel_rfl) (fun _ _ _ h => h) (Or.inl ⟨by rfl, ?_⟩) (by assumption) ?_
    rotate_left
    · (intro w hSw; (try dsimp only at hSw); first | (go_simp; done) | (go_simp; with_reducible rfl))
    try simp only [Act.put, List.getElem_toArray, List.getElem_cons_succ, List.getElem_cons_zero, List.setIfInBounds_toArray, List.set_cons_zero, List.set_cons_succ]
    refine wpAnyH_take (i := 2) (v := ?_) rfl (by kernel_rfl) (by kernel_rfl) (by kernel_rfl) (fun _ _ _ h => h) (Or.inl ⟨by rfl, ?_⟩) (by assumption) ?_
    rotate_left
    · (intro w hSw; (try dsimp only at hSw); first | (go_simp; done) | (go_simp; with_reducible rfl))
    try simp only [Act.put, List.getElem_toArray, List.getElem_cons_succ, List.getElem_cons_zero, List.setIfInBounds_toArray, List.set_cons_zero, List.set_cons_succ]
    refine wpAnyH_take (i := 3) (v := ?_) rfl (by kernel_rfl) (by kernel_rfl) (by kernel_rfl) (fun _ _ _ h => h) (Or.inl ⟨by rfl, ?_⟩) (by assumption) ?_
    rotate_left
    · (intro w hSw; (try dsimp only at hSw); first | (go_simp; done) | (go_simp; with_reducible rfl))
    try simp only [Act.put, List.getElem_toArray, List.getElem_cons_succ, List.getElem_cons_zero, List.setIfInBounds_toArray, List.set_cons_zero, List.set_cons_succ]
    refine wpAnyH_take (i := 4) (v := ?_) rfl (by kernel_rfl) (by kernel_rfl) (by kernel_rfl) (fun _ _ _ h => h) (Or.inl ⟨by rfl, ?_⟩) (by assumption) ?_
    rotate_left
    · (intro w hSw; (try dsimp only at hSw); first | (go_simp; done) | (go_simp; with_reducible rfl))
    try simp only [Act.put, List.getElem_toArray, List.getElem_cons_succ, List.getElem_cons_zero, List.setIfInBounds_toArray, List.set_cons_zero, List.set_cons_succ]
    refine wpAnyH_take (i := 5) (v := ?_) rfl (by kernel_rfl) (by kernel_rfl) (by kernel_rfl) (fun _ _ _ h => h) (Or.inl ⟨by rfl, ?_⟩) (by assumption) ?_
    rotate_left
    · (intro w hSw; (try dsimp only at hSw); first | (go_simp; done) | (go_simp; with_reducible rfl))
    try simp only [Act.put, List.getElem_toArray, List.getElem_cons_succ, List.getElem_cons_zero, List.setIfInBounds_toArray, List.set_cons_zero, List.set_cons_succ]
    refine wpAnyH_take (i := 6) (v := ?_) rfl (by kernel_rfl) (by kernel_rfl) (by kernel_rfl) (fun _ _ _ h => h) (Or.inl ⟨by rfl, ?_⟩) (by assumption) ?_
    rotate_left
    · (intro w hSw; (try dsimp only at hSw); first | (go_simp; done) | (go_simp; with_reducible rfl))
    try simp only [Act.put, List.getElem_toArray, List.getElem_cons_succ, List.getElem_cons_zero, List.setIfInBounds_toArray, List.set_cons_zero, List.set_cons_succ]
    refine wpAnyH_take (i := 7) (v := ?_) rfl (by kernel_rfl) (by kernel_rfl) (by kernel_rfl) (fun _ _ _ h => h) (Or.inl ⟨by rfl, ?_⟩) (by assumption) ?_
    rotate_left
    · (intro w hSw; (try dsimp only at hSw); first | (go_simp; done) | (go_simp; with_reducible rfl))
    try simp only [Act.put, List.getElem_toArray, List.getElem_cons_succ, List.getElem_cons_zero, List.setIfInBounds_toArray, List.set_cons_zero, List.set_cons_succ]
    refine wpAnyH_take (i := 8) (v := ?_) rfl (by kernel_rfl) (by kernel_rfl) (by kernel_rfl) (fun _ _ _ h => h) (Or.inl ⟨by rfl, ?_⟩) (by assumption) ?_
    rotate_left
    · (intro w hSw; (try dsimp only at hSw); first | (go_simp; done) | (go_simp; with_reducible rfl))
    try simp only [Act.put, List.getElem_toArray, List.getElem_cons_succ, List.getElem_cons_zero, List.setIfInBounds_toArray, List.set_cons_zero, List.set_cons_succ]
    refine wpAnyH_take (i := 9) (v := ?_) rfl (by kernel_rfl) (by kernel_rfl) (by kernel_rfl) (fun _ _ _ h => h) (Or.inl ⟨by rfl, ?_⟩) (by assumption) ?_
    rotate_left
    · (intro w hSw; (try dsimp only at hSw); first | (go_simp; done) | (go_simp; with_reducible rfl))
    try simp only [Act.put, List.getElem_toArray, List.getElem_cons_succ, List.getElem_cons_zero, List.setIfInBounds_toArray, List.set_cons_zero, List.set_cons_succ]
    refine wpAnyH_take (i := 10) (v := ?_) rfl (by kernel_rfl) (by kernel_rfl) (by kernel_rfl) (fun _ _ _ h => h) (Or.inl ⟨by rfl, ?_⟩) (by assumption) ?_
    rotate_left
    · (intro w hSw; (try dsimp only at hSw); first | (go_simp; done) | (go_simp; with_reducible rfl))
    try simp only [Act.put, List.getElem_toArray, List.getElem_cons_succ, List.getElem_cons_zero, List.setIfInBounds_toArray, List.set_cons_zero, List.set_cons_succ]
    refine wpAnyH_done (by kernel_rfl) ?_ _
    refine NoPanic.normal ?_
    go_upto_region 10 with (first
      | (go_at_call 7; refine (new_tr _).mono ?_; rintro e w3 ⟨T, M, rfl, t1, hx1, hT, hM, hTM⟩)
      | (go_at_call 8; refine (append_tr t1 (v := .slice ao2 N cap2) (ls := ls) (hO.ext0 (((Ext.refl [] w2).drew).trans0 hx1)).strs (Hs.hid (fun s hs => by have := hL.out.2 s hs; omega)) (by have h5 := p30c; have := HN.out; simp; omega)).mono ?_; rintro e w4 ⟨rfl, t2, hx2⟩))
    have hx3 : Ext [] w2 w4 := ((Ext.refl [] w2).drew.trans0 hx1).trans hx2 (fun g hg => .inr (by simp at hg hT hM; rcases hg with rfl | rfl; exact hT; exact hM))
    have hxw4 := hxw.trans0 hx3
    rw [List.nil_append] at t2
    obtain ⟨LB, rfl, hLA, hcm⟩ := (hO.ext0 hx3).leafAt (by have := HM.out; omega)
    have hcm' : cap2 ≤ 9223372036854775807 := by unfold maxLen at hcm; omega
    obtain ⟨s1, hs1⟩ : ∃ s, ls[q1]? = some s := ⟨_, List.getElem?_eq_getElem (by have := HN.out; have := HQ.out.1; omega)⟩
    have hs20 := hL.out.2 s1 (List.mem_of_getElem? hs1)
    clear hx1 hx2 hx3 hT hM hTM t1 hO hxw
    go_upto_region 11 with (go_at_call 9; refine (incl_any q1 N t2 (by have h5 := p30c; have := HN.out; omega) (by have := HN.out; omega) HQ.out.1 (Nat.zero_le _)).mono ?_; rintro e w5 ⟨vp, rfl, hO5, _, hx5⟩)
    obtain ⟨a5, c5, rfl⟩ := hO5.form
    obtain ⟨hpl, hpf⟩ := path_fold ls N N 0 q1 (Nat.le_refl _) HQ.out.1
    rw [Nat.zero_add] at hpl hpf
    rw [List.getD_eq_getElem?_getD, hs1, Option.getD_some] at hpf
    have hS5 := hO5.sums.2
    obtain ⟨xs, hxs⟩ : ∃ xs, (pathT ls q1 N 0).map dig = xs := ⟨_, rfl⟩
    rw [hxs] at hS5 hpf
    obtain ⟨p1, hp1⟩ : ∃ p, (pathT ls q1 N 0).length = p := ⟨_, rfl⟩
    have hxl : xs.length = p1 := by rw [← hxs, List.length_map, hp1]
    rw [hp1] at hpl ⊢
    have hway := way_mth s1 (by omega) N N q1 xs a5 c5 (Nat.le_refl _) HQ.out.1 (by omega) w5 hS5
    rw [hxl] at hway
    have HW := Hs.hid hway
    have hLA5 := hLA.ext0 hx5
    have t5 := t2.ext0 hx5
    have hxw5 := hxw4.trans0 hx5
    have hc5 := hLA5.cell hs1
    rw [Nat.zero_add] at hc5
    have hp40 : p1 ≤ 40 := by rw [hpl]; exact Nat.le_trans (dirs_le N q1) hN40
    have hp40' : (p1 : Int) ≤ 40 := by omega
    have hpw : IntKind.i64.wrap ((p1 : Int) + 1) = (p1 : Int) + 1 := by rw [IntKind.wrap_i64]; omega
    have hpn : (!((p1 : Int) + 1 == (p1 : Int) + 1)) = false := by simp
    have hpd : (p1 : Int) + 1 - 1 = p1 := by omega
    have hpl1 : (p1 : Int) < (p1 : Int) + 1 := by omega
    have hpw2 : IntKind.i64.wrap (p1 : Int) = (p1 : Int) := by rw [IntKind.wrap_i64]; omega
    have HPL := Hs.hid hpl
    have HPF := Hs.hid hpf
    have HXL := Hs.hid hxl
    clear hway hS5 hO5 hx5 t2 hxw4 hLA hp1 hxs hpl hpf hxl
    go_upto_region 12 with (go_at_call 10; with_reducible refine (HW.out).mono ?_; intro e w6 hr; unfold WayE at hr; obtain ⟨vw, okw, rfl, hvw, hx6⟩ := hr)
    obtain rfl : okw = true := by rw [hvw.out.isOk, HXL.out, HPL.out]; simp
    obtain ⟨gw, cw, rfl, hOw, _⟩ := hvw.out.yes rfl
    have hTl := wayL_len (dirs q1 N) xs [leaf2 s1] (by rw [HXL.out, HPL.out])
    have hTr := wayL_root (dirs q1 N) xs [leaf2 s1] _ (by rw [HXL.out, HPL.out]) rfl
    rw [show dig ([leaf2 s1].headD ⟨#[]⟩) = dig (leaf2 s1) from rfl, HPF.out] at hTr
    have hTlast := wayL_last (dirs q1 N) xs [leaf2 s1] (by simp)
    have hTs := wayL_sizes (dirs q1 N) xs [leaf2 s1] 1001 (by decide) (by intro t ht; simp at ht; rw [ht, leaf2_size]; omega)
    generalize wayL (dirs q1 N) xs [leaf2 s1] = TT at hOw hTl hTr hTlast hTs ⊢
    obtain ⟨h0, T', rfl⟩ : ∃ h0 T', TT = h0 :: T' := by
      cases TT with
      | nil => exact absurd hTl (by simp; omega)
      | cons a b => exact ⟨a, b, rfl⟩
    have hTl2 : (h0 :: T').length = p1 + 1 := by rw [hTl, HXL.out]; simp; omega
    rw [hTl2]
    have hlastg : (h0 :: T')[p1]? = some (leaf2 s1) := by
      have h9 := hTlast
      rw [List.getLast?_eq_getElem?, hTl2] at h9
      simpa using h9
    have hLA6 := hLA5.ext0 hx6
    have t6 := t5.ext0 hx6
    have hxw6 := hxw5.trans0 hx6
    obtain ⟨L1, hL1⟩ : ∃ L1, leaf2 s1 = L1 := ⟨_, rfl⟩
    have hlt : ⟨#[0]⟩ ++ s1 = L1 := hL1
    rw [hL1] at hlastg
    have HC0' : Hid (∀ w', Ext [] w6 w' → w'.cell? ⟨gw, 0, none⟩ = some (.string h0)) := Hs.hid (fun w' hx => by
      have o := hOw.ext' hx (fun _ _ => List.not_mem_nil)
      exact Own.cells (w := w') rfl o (g := gw) rfl 0 (.string h0) rfl)
    have HC1' : Hid (∀ w', Ext [] w6 w' → w'.cell? ⟨gw, p1, none⟩ = some (.string L1)) := Hs.hid (fun w' hx => by
      have o := hOw.ext' hx (fun _ _ => List.not_mem_nil)
      have := Own.cells (w := w') rfl o (g := gw) rfl p1 (.string L1) (by rw [List.getElem?_map, hlastg]; rfl)
      rwa [add_off] at this)
    have HC2' : Hid (∀ w', Ext [] w6 w' → w'.cell? ⟨LB, q1, none⟩ = some (.string s1)) := Hs.hid (fun w' hx => by
      have := (hLA6.ext0 hx).cell hs1
      rwa [Nat.zero_add] at this)
    have HS0 := Hs.hid (show h0.size ≤ 100000000 by have := hTs h0 (by simp); omega)
    have hsz : ¬ 9223372036854775807 < 1 + s1.size := by omega
    have HTR := Hs.hid hTr
    clear hTl hTr hTlast hTs hOw hvw hL1 hlastg hTl2 hLA5 t5 hxw5 hc5 HW hs20 hx6
    go_upto_region 13 with (first
      | (go_at_call 11; refine (rootS_any N t6 (by have h5 := p30c; have := HN.out; omega) (by have := HN.out; omega) (Nat.zero_le _)).mono ?_; rintro e w7 ⟨rt, rfl, hrt, hx7⟩)
      | (refine wpList_store_row rfl 35 (.tmp 15) (.tmp 72) rfl w7.heap.size rt.V rfl rfl _ _ (heap_new w7 _) (by rw [rt.size]; exact infoSum) (by rw [rt.size]; rfl) rt.one ?_))
    have hR := setRow_heap _ _ _ rt.V _ _ (heap_new w7 (.cells #[.int .u8 0, .int .u8 0, .int .u8 0, .int .u8 0, .int .u8 0, .int .u8 0, .int .u8 0, .int .u8 0, .int .u8 0, .int .u8 0, .int .u8 0, .int .u8 0, .int .u8 0, .int .u8 0, .int .u8 0, .int .u8 0, .int .u8 0, .int .u8 0, .int .u8 0, .int .u8 0, .int .u8 0, .int .u8 0, .int .u8 0, .int .u8 0, .int .u8 0, .int .u8 0, .int .u8 0, .int .u8 0, .int .u8 0, .int .u8 0, .int .u8 0, .int .u8 0] 35))
    have hx8 := boxExt' (w := w7) (.cells #[.int .u8 0, .int .u8 0, .int .u8 0, .int .u8 0, .int .u8 0, .int .u8 0, .int .u8 0, .int .u8 0, .int .u8 0, .int .u8 0, .int .u8 0, .int .u8 0, .int .u8 0, .int .u8 0, .int .u8 0, .int .u8 0, .int .u8 0, .int .u8 0, .int .u8 0, .int .u8 0, .int .u8 0, .int .u8 0, .int .u8 0, .int .u8 0, .int .u8 0, .int .u8 0, .int .u8 0, .int .u8 0, .int .u8 0, .int .u8 0, .int .u8 0, .int .u8 0] 35) rt.V
    generalize (w7.alloc (.cells #[.int .u8 0, .int .u8 0, .int .u8 0, .int .u8 0, .int .u8 0, .int .u8 0, .int .u8 0, .int .u8 0, .int .u8 0, .int .u8 0, .int .u8 0, .int .u8 0, .int .u8 0, .int .u8 0, .int .u8 0, .int .u8 0, .int .u8 0, .int .u8 0, .int .u8 0, .int .u8 0, .int .u8 0, .int .u8 0, .int .u8 0, .int .u8 0, .int .u8 0, .int .u8 0, .int .u8 0, .int .u8 0, .int .u8 0, .int .u8 0, .int .u8 0, .int .u8 0] 35)).setRow w7.heap.size rt.V = w8 at hR hx8 ⊢
    obtain ⟨R, hRR⟩ : ∃ R, w7.heap.size = R := ⟨_, rfl⟩
    rw [hRR] at hR ⊢
    clear hRR
    have hx68 := hx7.trans0 hx8
    have HT0 := Hs.hid (show dig h0 = rt by rw [hrt.out, rootT_pos _ _ (by have := HM.out; omega)]; exact HTR.out)
    have HC0 := Hs.hid (fun w' (h : Ext [] w8 w') => HC0'.out w' (hx68.trans0 h))
    have HC1 := Hs.hid (fun w' (h : Ext [] w8 w') => HC1'.out w' (hx68.trans0 h))
    have HC2 := Hs.hid (fun w' (h : Ext [] w8 w') => HC2'.out w' (hx68.trans0 h))
    have t8 := t6.ext0 hx68
    have hLA8 := hLA6.ext0 hx68
    have hxw8 := hxw6.trans0 hx68
    clear hx7 hx8 hx68 HC0' HC1' HC2' t6 hLA6 hxw6 HTR hrt
    refine wp_region_noPanic ?_
    refine wp_region_held_drew (S := (fun w' => Ext [] w8 w')) (by kernel_rfl) ?_ (fun hHeld => ?_)
    · ((try dsimp only); exact (Ext.refl [] w8).drew)
    refine wpAnyH_take (i := 0) (v := ?_) rfl (by kernel_rfl) (by kernel_rfl) (by kernel_rfl) (fun _ _ _ h => h) (Or.inl ⟨by rfl, ?_⟩) (by assumption) ?_
    rotate_left
    · (intro w hSw; (try dsimp only at hSw); first | (go_simp; done) | (go_simp; with_reducible rfl))
    try simp only [Act.put, List.getElem_toArray, List.getElem_cons_succ, List.getElem_cons_zero, List.setIfInBounds_toArray, List.set_cons_zero, List.set_cons_succ]
    refine wpAnyH_take (i := 1) (v := ?_) rfl (by kernel_rfl) (by kernel_rfl) (by kernel_rfl) (fun _ _ _ h => h) (Or.inl ⟨by rfl, ?_⟩) (by assumption) ?_
    rotate_left
    · (intro w hSw; (try dsimp only at hSw); first | (go_simp; done) | (go_simp; with_reducible rfl))
    try simp only [Act.put, List.getElem_toArray, List.getElem_cons_succ, List.getElem_cons_zero, List.setIfInBounds_toArray, List.set_cons_zero, List.set_cons_succ]
    refine wpAnyH_take (i := 2) (v := ?_) rfl (by kernel_rfl) (by kernel_rfl) (by kernel_rfl) (fun _ _ _ h => h) (Or.inl ⟨by rfl, ?_⟩) (by assumption) ?_
    rotate_left
    · (intro w hSw; (try dsimp only at hSw); first | (go_simp; done) | (go_simp; with_reducible rfl))
    try simp only [Act.put, List.getElem_toArray, List.getElem_cons_succ, List.getElem_cons_zero, List.setIfInBounds_toArray, List.set_cons_zero, List.set_cons_succ]
    refine wpAnyH_take (i := 3) (v := ?_) rfl (by kernel_rfl) (by kernel_rfl) (by kernel_rfl) (fun _ _ _ h => h) (Or.inl ⟨by rfl, ?_⟩) (by assumption) ?_
    rotate_left
    · (intro w hSw; (try dsimp only at hSw); first | (go_simp; done) | (go_simp; with_reducible rfl))
    try simp only [Act.put, List.getElem_toArray, List.getElem_cons_succ, List.getElem_cons_zero, List.setIfInBounds_toArray, List.set_cons_zero, List.set_cons_succ]
    refine wpAnyH_take (i := 4) (v := ?_) rfl (by kernel_rfl) (by kernel_rfl) (by kernel_rfl) (fun _ _ _ h => h) (Or.inl ⟨by rfl, ?_⟩) (by assumption) ?_
    rotate_left
    · (intro w hSw; (try dsimp only at hSw); first | (go_simp; done) | (go_simp; with_reducible rfl))
    try simp only [Act.put, List.getElem_toArray, List.getElem_cons_succ, List.getElem_cons_zero, List.setIfInBounds_toArray, List.set_cons_zero, List.set_cons_succ]
    refine wpAnyH_take (i := 5) (v := ?_) rfl (by kernel_rfl) (by kernel_rfl) (by kernel_rfl) (fun _ _ _ h => h) (Or.inl ⟨by rfl, ?_⟩) (by assumption) ?_
    rotate_left
    · (intro w hSw; (try dsimp only at hSw); have hc0 := HC0.out _ hSw; first | (go_simp; done) | (go_simp; with_reducible rfl))
    try simp only [Act.put, List.getElem_toArray, List.getElem_cons_succ, List.getElem_cons_zero, List.setIfInBounds_toArray, List.set_cons_zero, List.set_cons_succ]
    refine wpAnyH_take (i := 7) (v := _) rfl (by kernel_rfl) (by kernel_rfl) (by kernel_rfl) (fun _ _ _ h => h) (yieldsIf_of (.agg rt.V) (by rfl) (fun w' hw => exec_load_rowV (.tmp 15) rfl R rfl rt w' ⟨_, hw.same hR List.not_mem_nil⟩)) (by assumption) ?_
    try simp only [Act.put, List.getElem_toArray, List.getElem_cons_succ, List.getElem_cons_zero, List.setIfInBounds_toArray, List.set_cons_zero, List.set_cons_succ]
    refine wpAnyH_ready (rs := [6]) (by kernel_rfl) (by simp) ?_
    refine AllReadyH.cons rfl (fun K hK => ?_) AllReadyH.nil
    go_simp
    (go_at_call 12; refine (ofS_any h0 HS0.out _).mono ?_; rintro e w9 ⟨z9, rfl, hz9, hx9⟩; have hzr : z9 = rt := (by rw [hz9.out, HT0.out]); subst z9)
    go_wp2_with fail
    refine hK.out _ _ ?_ (fun hHeld => ?_)
    · ((try dsimp only); exact hHeld.trans0 hx9)
    clear hK K
    try simp only [Act.put, List.getElem_toArray, List.getElem_cons_succ, List.getElem_cons_zero, List.setIfInBounds_toArray, List.set_cons_zero, List.set_cons_succ]
    refine wpAnyH_take (i := 8) (v := _) rfl (by kernel_rfl) (by kernel_rfl) (by kernel_rfl) (fun _ _ _ h => h) (yieldsIf_of (.bool false) (by rfl) (fun w' hw => exec_neSame (.tmp 80) (.tmp 81) _ rfl rt rfl rfl w')) (by assumption) ?_
    try simp only [Act.put, List.getElem_toArray, List.getElem_cons_succ, List.getElem_cons_zero, List.setIfInBounds_toArray, List.set_cons_zero, List.set_cons_succ]
    refine wpAnyH_take (i := 9) (v := ?_) rfl (by kernel_rfl) (by kernel_rfl) (by kernel_rfl) (fun _ _ _ h => h) (Or.inl ⟨by rfl, ?_⟩) (by assumption) ?_
    rotate_left
    · (intro w hSw; (try dsimp only at hSw); first | (go_simp; done) | (go_simp; with_reducible rfl))
    try simp only [Act.put, List.getElem_toArray, List.getElem_cons_succ, List.getElem_cons_zero, List.setIfInBounds_toArray, List.set_cons_zero, List.set_cons_succ]
    refine wpAnyH_take (i := 10) (v := ?_) rfl (by kernel_rfl) (by kernel_rfl) (by kernel_rfl) (fun _ _ _ h => h) (Or.inl ⟨by rfl, ?_⟩) (by assumption) ?_
    rotate_left
    · (intro w hSw; (try dsimp only at hSw); first | (go_simp; done) | (go_simp; with_reducible rfl))
    try simp only [Act.put, List.getElem_toArray, List.getElem_cons_succ, List.getElem_cons_zero, List.setIfInBounds_toArray, List.set_cons_zero, List.set_cons_succ]
    refine wpAnyH_take (i := 11) (v := ?_) rfl (by kernel_rfl) (by kernel_rfl) (by kernel_rfl) (fun _ _ _ h => h) (Or.inl ⟨by rfl, ?_⟩) (by assumption) ?_
    rotate_left
    · (intro w hSw; (try dsimp only at hSw); first | (go_simp; done) | (go_simp; with_reducible rfl))
    try simp only [Act.put, List.getElem_toArray, List.getElem_cons_succ, List.getElem_cons_zero, List.setIfInBounds_toArray, List.set_cons_zero, List.set_cons_succ]
    refine wpAnyH_take (i := 12) (v := ?_) rfl (by kernel_rfl) (by kernel_rfl) (by kernel_rfl) (fun _ _ _ h => h) (Or.inl ⟨by rfl, ?_⟩) (by assumption) ?_
    rotate_left
    · (intro w hSw; (try dsimp only at hSw); first | (go_simp; done) | (go_simp; with_reducible rfl))
    try simp only [Act.put, List.getElem_toArray, List.getElem_cons_succ, List.getElem_cons_zero, List.setIfInBounds_toArray, List.set_cons_zero, List.set_cons_succ]
    refine wpAnyH_take (i := 13) (v := ?_) rfl (by kernel_rfl) (by kernel_rfl) (by kernel_rfl) (fun _ _ _ h => h) (Or.inl ⟨by rfl, ?_⟩) (by assumption) ?_
    rotate_left
    · (intro w hSw; (try dsimp only at hSw); first | (go_simp; done) | (go_simp; with_reducible rfl))
    try simp only [Act.put, List.getElem_toArray, List.getElem_cons_succ, List.getElem_cons_zero, List.setIfInBounds_toArray, List.set_cons_zero, List.set_cons_succ]
    refine wpAnyH_take (i := 14) (v := ?_) rfl (by kernel_rfl) (by kernel_rfl) (by kernel_rfl) (fun _ _ _ h => h) (Or.inl ⟨by rfl, ?_⟩) (by assumption) ?_
    rotate_left
    · (intro w hSw; (try dsimp only at hSw); first | (go_simp; done) | (go_simp; with_reducible rfl))
    try simp only [Act.put, List.getElem_toArray, List.getElem_cons_succ, List.getElem_cons_zero, List.setIfInBounds_toArray, List.set_cons_zero, List.set_cons_succ]
    refine wpAnyH_take (i := 15) (v := ?_) rfl (by kernel_rfl) (by kernel_rfl) (by kernel_rfl) (fun _ _ _ h => h) (Or.inl ⟨by rfl, ?_⟩) (by assumption) ?_
    rotate_left
    · (intro w hSw; (try dsimp only at hSw); first | (go_simp; done) | (go_simp; with_reducible rfl))
    try simp only [Act.put, List.getElem_toArray, List.getElem_cons_succ, List.getElem_cons_zero, List.setIfInBounds_toArray, List.set_cons_zero, List.set_cons_succ]
    refine wpAnyH_take (i := 16) (v := ?_) rfl (by kernel_rfl) (by kernel_rfl) (by kernel_rfl) (fun _ _ _ h => h) (Or.inl ⟨by rfl, ?_⟩) (by assumption) ?_
    rotate_left
    · (intro w hSw; (try dsimp only at hSw); first | (go_simp; done) | (go_simp; with_reducible rfl))
    try simp only [Act.put, List.getElem_toArray, List.getElem_cons_succ, List.getElem_cons_zero, List.setIfInBounds_toArray, List.set_cons_zero, List.set_cons_succ]
    refine wpAnyH_take (i := 17) (v := ?_) rfl (by kernel_rfl) (by kernel_rfl) (by kernel_rfl) (fun _ _ _ h => h) (Or.inl ⟨by rfl, ?_⟩) (by assumption) ?_
    rotate_left
    · (intro w hSw; (try dsimp only at hSw); first | (go_simp; done) | (go_simp; with_reducible rfl))
    try simp only [Act.put, List.getElem_toArray, List.getElem_cons_succ, List.getElem_cons_zero, List.setIfInBounds_toArray, List.set_cons_zero, List.set_cons_succ]
    refine wpAnyH_take (i := 18) (v := ?_) rfl (by kernel_rfl) (by kernel_rfl) (by kernel_rfl) (fun _ _ _ h => h) (Or.inl ⟨by rfl, ?_⟩) (by assumption) ?_
    rotate_left
    · (intro w hSw; (try dsimp only at hSw); first | (go_simp; done) | (go_simp; with_reducible rfl))
    try simp only [Act.put, List.getElem_toArray, List.getElem_cons_succ, List.getElem_cons_zero, List.setIfInBounds_toArray, List.set_cons_zero, List.set_cons_succ]
    refine wpAnyH_take (i := 19) (v := ?_) rfl (by kernel_rfl) (by kernel_rfl) (by kernel_rfl) (fun _ _ _ h => h) (Or.inl ⟨by rfl, ?_⟩) (by assumption) ?_
    rotate_left
    · (intro w hSw; (try dsimp only at hSw); first | (go_simp; done) | (go_simp; with_reducible rfl))
    try simp only [Act.put, List.getElem_toArray, List.getElem_cons_succ, List.getElem_cons_zero, List.setIfInBounds_toArray, List.set_cons_zero, List.set_cons_succ]
    refine wpAnyH_take (i := 20) (v := ?_) rfl (by kernel_rfl) (by kernel_rfl) (by kernel_rfl) (fun _ _ _ h => h) (Or.inl ⟨by rfl, ?_⟩) (by assumption) ?_
    rotate_left
    · (intro w hSw; (try dsimp only at hSw); first | (go_simp; done) | (go_simp; with_reducible rfl))
    try simp only [Act.put, List.getElem_toArray, List.getElem_cons_succ, List.getElem_cons_zero, List.setIfInBounds_toArray, List.set_cons_zero, List.set_cons_succ]
    refine wpAnyH_take (i := 21) (v := ?_) rfl (by kernel_rfl) (by kernel_rfl) (by kernel_rfl) (fun _ _ _ h => h) (Or.inl ⟨by rfl, ?_⟩) (by assumption) ?_
    rotate_left
    · (intro w hSw; (try dsimp only at hSw); first | (go_simp; done) | (go_simp; with_reducible rfl))
    try simp only [Act.put, List.getElem_toArray, List.getElem_cons_succ, List.getElem_cons_zero, List.setIfInBounds_toArray, List.set_cons_zero, List.set_cons_succ]
    refine wpAnyH_take (i := 22) (v := ?_) rfl (by kernel_rfl) (by kernel_rfl) (by kernel_rfl) (fun _ _ _ h => h) (Or.inl ⟨by rfl, ?_⟩) (by assumption) ?_
    rotate_left
    · (intro w hSw; (try dsimp only at hSw); first | (go_simp; done) | (go_simp; with_reducible rfl))
    try simp only [Act.put, List.getElem_toArray, List.getElem_cons_succ, List.getElem_cons_zero, List.setIfInBounds_toArray, List.set_cons_zero, List.set_cons_succ]
    refine wpAnyH_take (i := 23) (v := ?_) rfl (by kernel_rfl) (by kernel_rfl) (by kernel_rfl) (fun _ _ _ h => h) (Or.inl ⟨by rfl, ?_⟩) (by assumption) ?_
    rotate_left
    · (intro w hSw; (try dsimp only at hSw); first | (go_simp; done) | (go_simp; with_reducible rfl))
    try simp only [Act.put, List.getElem_toArray, List.getElem_cons_succ, List.getElem_cons_zero, List.setIfInBounds_toArray, List.set_cons_zero, List.set_cons_succ]
    refine wpAnyH_take (i := 24) (v := ?_) rfl (by kernel_rfl) (by kernel_rfl) (by kernel_rfl) (fun _ _ _ h => h) (Or.inl ⟨by rfl, ?_⟩) (by assumption) ?_
    rotate_left
    · (intro w hSw; (try dsimp only at hSw); have hc1 := HC1.out _ hSw; first | (go_simp; done) | (go_simp; with_reducible rfl))
    try simp only [Act.put, List.getElem_toArray, List.getElem_cons_succ, List.getElem_cons_zero, List.setIfInBounds_toArray, List.set_cons_zero, List.set_cons_succ]
    refine wpAnyH_take (i := 25) (v := ?_) rfl (by kernel_rfl) (by kernel_rfl) (by kernel_rfl) (fun _ _ _ h => h) (Or.inl ⟨by rfl, ?_⟩) (by assumption) ?_
    rotate_left
    · (intro w hSw; (try dsimp only at hSw); first | (go_simp; done) | (go_simp; with_reducible rfl))
    try simp only [Act.put, List.getElem_toArray, List.getElem_cons_succ, List.getElem_cons_zero, List.setIfInBounds_toArray, List.set_cons_zero, List.set_cons_succ]
    refine wpAnyH_take (i := 26) (v := ?_) rfl (by kernel_rfl) (by kernel_rfl) (by kernel_rfl) (fun _ _ _ h => h) (Or.inl ⟨by rfl, ?_⟩) (by assumption) ?_
    rotate_left
    · (intro w hSw; (try dsimp only at hSw); first | (go_simp; done) | (go_simp; with_reducible rfl))
    try simp only [Act.put, List.getElem_toArray, List.getElem_cons_succ, List.getElem_cons_zero, List.setIfInBounds_toArray, List.set_cons_zero, List.set_cons_succ]
    refine wpAnyH_take (i := 27) (v := ?_) rfl (by kernel_rfl) (by kernel_rfl) (by kernel_rfl) (fun _ _ _ h => h) (Or.inl ⟨by rfl, ?_⟩) (by assumption) ?_
    rotate_left
    · (intro w hSw; (try dsimp only at hSw); first | (go_simp; done) | (go_simp; with_reducible rfl))
    try simp only [Act.put, List.getElem_toArray, List.getElem_cons_succ, List.getElem_cons_zero, List.setIfInBounds_toArray, List.set_cons_zero, List.set_cons_succ]
    refine wpAnyH_take (i := 28) (v := ?_) rfl (by kernel_rfl) (by kernel_rfl) (by kernel_rfl) (fun _ _ _ h => h) (Or.inl ⟨by rfl, ?_⟩) (by assumption) ?_
    rotate_left
    · (intro w hSw; (try dsimp only at hSw); have hc2 := HC2.out _ hSw; first | (go_simp; done) | (go_simp; with_reducible rfl))
    try simp only [Act.put, List.getElem_toArray, List.getElem_cons_succ, List.getElem_cons_zero, List.setIfInBounds_toArray, List.set_cons_zero, List.set_cons_succ]
    refine wpAnyH_take (i := 29) (v := ?_) rfl (by kernel_rfl) (by kernel_rfl) (by kernel_rfl) (fun _ _ _ h => h) (Or.inl ⟨by rfl, ?_⟩) (by assumption) ?_
    rotate_left
    · (intro w hSw; (try dsimp only at hSw); first | (go_simp; done) | (go_simp; with_reducible rfl))
    try simp only [Act.put, List.getElem_toArray, List.getElem_cons_succ, List.getElem_cons_zero, List.setIfInBounds_toArray, List.set_cons_zero, List.set_cons_succ]
    refine wpAnyH_take (i := 30) (v := ?_) rfl (by kernel_rfl) (by kernel_rfl) (by kernel_rfl) (fun _ _ _ h => h) (Or.inl ⟨by rfl, ?_⟩) (by assumption) ?_
    rotate_left
    · (intro w hSw; (try dsimp only at hSw); first | (go_simp; done) | (go_simp; with_reducible rfl))
    try simp only [Act.put, List.getElem_toArray, List.getElem_cons_succ, List.getElem_cons_zero, List.setIfInBounds_toArray, List.set_cons_zero, List.set_cons_succ]
    refine wpAnyH_take (i := 31) (v := ?_) rfl (by kernel_rfl) (by kernel_rfl) (by kernel_rfl) (fun _ _ _ h => h) (Or.inl ⟨by rfl, ?_⟩) (by assumption) ?_
    rotate_left
    · (intro w hSw; (try dsimp only at hSw); first | (go_simp; done) | (go_simp; with_reducible rfl))
    try simp only [Act.put, List.getElem_toArray, List.getElem_cons_succ, List.getElem_cons_zero, List.setIfInBounds_toArray, List.set_cons_zero, List.set_cons_succ]
    refine wpAnyH_done (by kernel_rfl) ?_ _
    refine NoPanic.normal ?_
    have t9 := t8.ext0 hHeld
    have hLA9 := hLA8.ext0 hHeld
    have hxw9 := hxw8.trans0 hHeld
    clear t8 hLA8 hxw8 HC0 HC1 HC2 HT0 HS0 hR hHeld hx9
    go_upto_region 16 with (first
      | (go_at_call 11; refine (rootS_any m' t9 (by have h5 := p30c; have := HN.out; omega) (by have := HN.out; have := HM.out; omega) (Nat.zero_le _)).mono ?_; rintro e w10 ⟨od, rfl, hod, hx10⟩)
      | (refine wpList_store_row rfl 35 (.tmp 17) (.tmp 110) rfl w10.heap.size od.V rfl rfl _ _ (heap_new w10 _) (by rw [od.size]; exact infoSum) (by rw [od.size]; rfl) od.one ?_))
    have hR := setRow_heap _ _ _ od.V _ _ (heap_new w10 (.cells #[.int .u8 0, .int .u8 0, .int .u8 0, .int .u8 0, .int .u8 0, .int .u8 0, .int .u8 0, .int .u8 0, .int .u8 0, .int .u8 0, .int .u8 0, .int .u8 0, .int .u8 0, .int .u8 0, .int .u8 0, .int .u8 0, .int .u8 0, .int .u8 0, .int .u8 0, .int .u8 0, .int .u8 0, .int .u8 0, .int .u8 0, .int .u8 0, .int .u8 0, .int .u8 0, .int .u8 0, .int .u8 0, .int .u8 0, .int .u8 0, .int .u8 0, .int .u8 0] 35))
    have hx11 := boxExt' (w := w10) (.cells #[.int .u8 0, .int .u8 0, .int .u8 0, .int .u8 0, .int .u8 0, .int .u8 0, .int .u8 0, .int .u8 0, .int .u8 0, .int .u8 0, .int .u8 0, .int .u8 0, .int .u8 0, .int .u8 0, .int .u8 0, .int .u8 0, .int .u8 0, .int .u8 0, .int .u8 0, .int .u8 0, .int .u8 0, .int .u8 0, .int .u8 0, .int .u8 0, .int .u8 0, .int .u8 0, .int .u8 0, .int .u8 0, .int .u8 0, .int .u8 0, .int .u8 0, .int .u8 0] 35) od.V
    generalize (w10.alloc (.cells #[.int .u8 0, .int .u8 0, .int .u8 0, .int .u8 0, .int .u8 0, .int .u8 0, .int .u8 0, .int .u8 0, .int .u8 0, .int .u8 0, .int .u8 0, .int .u8 0, .int .u8 0, .int .u8 0, .int .u8 0, .int .u8 0, .int .u8 0, .int .u8 0, .int .u8 0, .int .u8 0, .int .u8 0, .int .u8 0, .int .u8 0, .int .u8 0, .int .u8 0, .int .u8 0, .int .u8 0, .int .u8 0, .int .u8 0, .int .u8 0, .int .u8 0, .int .u8 0] 35)).setRow w10.heap.size od.V = w11 at hR hx11 ⊢
    obtain ⟨R2, hRR⟩ : ∃ R, w10.heap.size = R := ⟨_, rfl⟩
    rw [hRR] at hR ⊢
    clear hRR
    have t11 := t9.ext0 (hx10.trans0 hx11)
    have hLA11 := hLA9.ext0 (hx10.trans0 hx11)
    have hxw11 := hxw9.trans0 (hx10.trans0 hx11)
    clear t9 hLA9 hxw9 hx10 hx11
    go_upto_region 17 with (go_at_call 13; refine (cons_any m' N t11 (by have h5 := p30c; have := HN.out; omega) (by have := HN.out; omega) HM.out.2 (Nat.zero_le _)).mono ?_; rintro e w12 ⟨vq, rfl, hO12, _, hx12⟩)
    obtain ⟨a6, c6, rfl⟩ := hO12.form
    have hct : consT ls m' N = stepsT ls m' N 0 true := if_neg (by have := HM.out; omega)
    have hS12 := hO12.sums.2
    have hsr := sides_right ls N N 0 m' true od (Nat.le_refl _) HM.out.1 HM.out.2 (fun _ => by rw [hod.out, rootT_pos _ _ HM.out.1])
    rw [Nat.zero_add, ← hct] at hsr
    have hssz := sidesP_size ls N N 0 m' true od ((consT ls m' N).map dig) (Nat.le_refl _)
    obtain ⟨ys, hys⟩ : ∃ ys, (consT ls m' N).map dig = ys := ⟨_, rfl⟩
    obtain ⟨p2, hp2⟩ : ∃ p, (consT ls m' N).length = p := ⟨_, rfl⟩
    have hyl : ys.length = p2 := by rw [← hys, List.length_map, hp2]
    rw [hys] at hS12 hsr hssz
    rw [hp2]
    have HSF := Hs.hid (csidesF_any LB ls hL N m' cap2 od ys a6 c6 HM.out.1 HM.out.2 HN.out.symm hcap2 hcm' p2 hyl w12 (hLA11.ext0 hx12) hS12)
    have hR12 := hx12.same hR List.not_mem_nil
    have hxw12 := hxw11.trans0 hx12
    have hm1 : (1 : Int) ≤ m' := by have := HM.out; omega
    have hm2 : (m' : Int) ≤ N := by have := HM.out; omega
    generalize sidesP ls N 0 m' true od ys = rr at hsr hssz HSF
    clear hS12 hO12 hx12 hxw11 hR hLA11 t11 hyl hp2 hys hct hod
    go_upto_region 18 with (first
      | (refine wpList_yield (.agg od.V) (by rfl) (exec_load_rowV (.tmp 17) rfl R2 rfl od _ ⟨_, hR12⟩) ?_)
      | (go_at_call 14; with_reducible refine (HSF.out).mono ?_; rintro e WS ⟨vs, oks, rfl, hvs, hgs, hxs⟩))
    obtain rfl : oks = true := by rw [hvs.out.isOk]; exact hsr.2.2.1
    have hOP := hvs.out.yes rfl
    obtain ⟨a7, c7, rfl⟩ := Own.form (w := WS) hOP
    have hxwS := hxw12.trans0 hxs
    have hall : ∀ p ∈ rr.ps.reverse, p.1 = p.2 ∧ p.1.size = 65 := fun p hp => ⟨hsr.2.1 p (List.mem_reverse.1 hp), (hssz p (List.mem_reverse.1 hp)).1⟩
    have hemp : rr.ps.reverse = [] ↔ m' = N := by rw [List.reverse_eq_nil_iff]; exact hsr.2.2.2
    generalize rr.ps.reverse = ps at hOP hall hemp ⊢
    obtain ⟨P, hP⟩ : ∃ P, ps.length = P := ⟨_, rfl⟩
    rw [hP] at hOP ⊢
    have HALL := Hs.hid (And.intro hall (And.intro hemp hP))
    have HOP := Hs.hid hOP
    have HP63 := hOP.size63
    clear hall hemp hP hvs hsr hssz hxs hgs HSF hR12 hxw12 hOP
    go_wp2_with fail
    go_loopw [129] (fun kv wr => ∃ k : Nat, kv = .int .i64 k ∧ k ≤ P ∧ Ext [] WS wr) (fun kv _ => P - (intOf kv).toNat)
    case atStart => exact ⟨0, rfl, Nat.zero_le _, Ext.refl _ _⟩
    case round =>
      obtain ⟨k, rfl, hkP, hEr⟩ := hrel
      by_cases hlt' : k < P
      · have hk2 : (k : Int) < P := by omega
        obtain ⟨p, hp⟩ : ∃ p, ps[k]? = some p := ⟨_, List.getElem?_eq_getElem (by rw [HALL.out.2.2]; exact hlt')⟩
        obtain ⟨hpe, hpz⟩ := HALL.out.1 p (List.mem_of_getElem? hp)
        obtain ⟨pa, pb⟩ := p
        simp only at hpe hpz
        subst hpe
        obtain ⟨g7, rfl⟩ : ∃ g, a7 = some ⟨g, 0, none⟩ := by
          rcases HOP.out.2 with ⟨h1, h2⟩ | ⟨g, cap', cur, h1, _⟩
          · have := HALL.out.2.2; omega
          · simp at h1; exact ⟨g, h1.1⟩
        have hrg := (OwnP.at (HOP.out.ext hEr (fun _ _ => List.not_mem_nil)) hp).1
        have hPZ := Hs.hid (show pa.size ≤ 100000 by omega)
        have hself : (pa.toList == pa.toList) = true := by simp
        clear hpz hp
        go_upto_region 21 with (first
          | (refine wpList_load_mid rfl 43 (.tmp 131) rfl g7 (k * 2) rfl [.string pa, .string pa] _ hrg Try.underlying43 rfl infoPair2 ?_))
        go_wp2_with (go_at_call 15; with_reducible refine (pairSame_any pa hPZ.out _).mono ?_; rintro e w14 ⟨rfl, hx14⟩)
        go_round
        case rel => exact ⟨k + 1, by go_num, by omega, (hEr.alloc _).trans0 hx14⟩
        case measure => simp [intOf]; omega
      · have hkP2 : k = P := by omega
        subst hkP2
        have heq : (((k : Nat) : Int) == 0) = ((m' : Int) == (N : Int)) := by
          rw [Bool.eq_iff_iff, beq_iff_eq, beq_iff_eq]
          have h1 := HALL.out.2.1
          have h2 := HALL.out.2.2
          constructor
          · intro h
            have : ps = [] := List.eq_nil_of_length_eq_zero (by omega)
            have := h1.1 this
            omega
          · intro h
            have := h1.2 (by omega)
            rw [this] at h2; simp at h2; omega
        go_wp2
        go_ret
        exact ⟨rfl, hxwS.trans0 hEr⟩
end Go.Proofs.Ytjicjadibaomkaa
