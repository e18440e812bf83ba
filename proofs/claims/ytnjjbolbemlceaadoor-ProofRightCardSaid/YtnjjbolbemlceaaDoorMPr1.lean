/-
  Texts of this claim, put together: AppK, PRight.
-/
import Derived.Test.YtnjjbolbemlceaaDoorMPb4
set_option linter.unusedSimpArgs false
set_option linter.unusedVariables false
set_option maxHeartbeats 1000000
set_option maxRecDepth 100000
namespace Go.Proofs.YtnjjbolbemlceaaDoor
open Go.RowKit Go.Hs Go.Dg

theorem run_append_keep {P : Program} {w : World} (t ty e : TypeId) (i : TypeInfo) (z : Value) (size bytes : Nat) (ht : P.underlying t = some (.slice e)) (hi : P.info? e = some i) (hz : i.zero = some z)
    (hsize : i.size = size) (hby : i.bytes = bytes) (hzs : z.cells.size = size) (hsz : 0 < size)
    (v : Value) (n : Nat) (xs : List Value) (hown : Own w.heap e size v n xs)
    (a : Addr) (m c : Nat) (news : List Value) (hl : news.length = m * size) (hnews : ∀ j u, news[j]? = some u → w.cell? (a.add j) = some u) (h1 : ∀ u ∈ news, u.oneCell' = true)
    (h63 : n + m ≤ maxLen) (hbytes : (n + m) * bytes ≤ 140737488355328) :
    ∃ ao cap w', (Builtin.append_ #[t, t] ty #[v, .slice (some a) m c]).run P w = .ok (.slice ao (n + m) cap) w' ∧ Own w'.heap e size (.slice ao (n + m) cap) (n + m) (xs ++ news) ∧ Own w'.heap e size v n xs ∧ Ext v.ownBlock.toList w w' := by
  obtain ⟨ao, cap, w', hrun, ho, hx, _⟩ := run_append (P := P) (w := w) t ty e i z size bytes ht hi hz hsize hby hzs hsz v n xs hown a m c news hl hnews h1 h63 hbytes
  refine ⟨ao, cap, w', hrun, ho, ?_, hx⟩
  have hsmall : n + m ≤ 9223372036854775807 := by simp only [maxLen] at h63; omega
  subst hsize; subst hby
  rcases hown.2 with ⟨rfl, rfl⟩ | ⟨g0, cap0, cur, rfl, hz0, hg0, hnc, hcm, hcs, htake⟩
  · exact ⟨hown.1, .inl ⟨rfl, rfl⟩⟩
  · have hnle : n * i.size ≤ cur.size := by rw [hcs]; exact Nat.mul_le_mul_right _ hnc
    by_cases hroom : n + m ≤ cap0
    · have hfit : n * i.size + news.length ≤ cur.size := by rw [hl, hcs, ← Nat.add_mul]; exact Nat.mul_le_mul_right _ hroom
      have hr := run_append_room (P := P) w t ty e i ht hi g0 n cap0 cur hg0 a m c news hl hnews h1 hroom hfit
      rw [hr] at hrun
      simp only [Result.ok.injEq] at hrun
      obtain ⟨_, hw⟩ := hrun
      refine ⟨hown.1, .inr ⟨g0, cap0, _, rfl, hz0, (by rw [← hw]; exact setRow_heap _ _ _ _ _ _ hg0), hnc, hcm, ?_, ?_⟩⟩
      · rw [List.size_toArray, List.length_append, List.length_append, List.length_take, List.length_drop, Array.length_toList, ← hcs]; omega
      · have hlt : (cur.toList.take (n * i.size)).length = n * i.size := by rw [List.length_take, Array.length_toList]; omega
        rw [List.append_assoc, List.take_append_of_le_length (by omega), List.take_of_length_le (by omega)]
        exact htake
    · have holds : ∀ j u, xs[j]? = some u → w.cell? ((⟨g0, 0, none⟩ : Addr).add j) = some u := World.ownsRow.cells (own_row.1 hown) (g := g0) rfl
      have hr := run_append_grow (P := P) w t ty e i z ht hi hz ⟨g0, 0, none⟩ n cap0 xs hown.1 holds a m c news hl hnews (by omega) (by omega) (growslice_fits (by omega) hbytes)
      rw [hr] at hrun
      simp only [Result.ok.injEq] at hrun
      obtain ⟨_, hw⟩ := hrun
      refine Own.same hown fun g hg => ?_
      rw [← hw]
      exact heap_old w.drew _ (Own.lt hown hg)
/-- One more, behind, at the operation; the slice that it came from still reads as before. -/
theorem wp_append_sumK {o : Oper} {a : Act} {w : World} {K : Act → World → Prop} {Q : Exit → Act → World → Prop}
    (s y : Operand) (hop : o.op = Op.call { callee := Callee.builtin Builtin.append, args := #[s, y], argTypes := #[42, 42] })
    (v : Value) (xs : List S32) (hs : a.eval s = v) (hown : OwnV w.heap v xs) (B m : Nat) (ys : List S32) (fr : Nat × Nat) (hm : m = ys.length) (hy : a.eval y = .slice (some ⟨B, 0, none⟩) m m) (hB : w.heap[B]? = some (.cells (sumsV ys).toArray 46 fr))
    (hlen : xs.length + m ≤ 1000)
    (hK : ∀ ao cap w', OwnV w'.heap (.slice ao (xs.length + m) cap) (xs ++ ys) → OwnV w'.heap v xs → Ext v.ownBlock.toList w w' → K (a.put o.dst (.slice ao (xs.length + m) cap)) w') : o.wp Tryd.prog a w K Q := by
  obtain ⟨i0, hi, hz0, hz1, hz2⟩ := info_parts infoSumY
  subst hm
  obtain ⟨ao, cap, w', hr, h2, h3, h4⟩ := run_append_keep (P := Tryd.prog) (w := w) 42 o.type 46 i0 _ 32 32 Tryd.underlying42 hi hz0 hz1 hz2 (by kernel_rfl) (by decide) v xs.length (sumsV xs) hown ⟨B, 0, none⟩ ys.length ys.length (sumsV ys) (sumsV_len ys) (fun j u hj => by
    rw [add_off', cellAt hB j]; simpa using hj) (sumsV_one ys) (by unfold maxLen; omega) (by omega)
  unfold Oper.wp execOp
  simp only [hop, resolve, invoke, builtin, Sem.run_bind, Sem.run_pure, Result.andThen_ok, List.map_toArray, List.map_cons, List.map_nil, hs, hy, hr]
  exact hK ao cap w' (by unfold OwnV; rw [sumsV_app, List.length_append]; exact h2) h3 h4
/-- A slice of one sum, at the operation. -/
theorem wp_sumK {o : Oper} {a : Act} {w : World} {K : Act → World → Prop} {Q : Exit → Act → World → Prop} (y : Operand) (ho : o.op = .buildSlice 42 1 #[(0, y)])
    (x : S32) (hy : a.eval y = .agg x.V) (h : K (a.put o.dst (.slice (some ⟨w.heap.size, 0, none⟩) 1 1)) (w.alloc (.cells x.V 46))) : o.wp Tryd.prog a w K Q := by
  obtain ⟨i0, hi, hz0, hz1, hz2⟩ := info_parts infoSumY
  refine wp_buildSlice 42 46 1 _ ho x.V i0 _ Tryd.underlying42 hi hz0 (by rw [hz1]; decide) (by rw [hz1]; decide) ?_ h
  rw [hz1]
  have : (#[(0, y)].map fun (p : Nat × Operand) => (p.1, a.eval p.2)).toList = [(0, Value.agg x.V)] := by simp [hy]
  show Instr.fill _ _ (#[(0, y)].map fun (p : Nat × Operand) => (p.1, a.eval p.2)).toList = _
  rw [this]
  exact fill_sumV x _ (by simp)
theorem incl_off (LF root : S32) (I N : Nat) (hlt : I < N) (xs : List S32) (h : xs.length ≠ (dirs I N).length) : inclN LF I N root xs = 12 := by
  unfold inclN
  rw [if_neg (by omega)]
  simp only [Int.toNat_natCast]
  rw [if_neg (fun q => h q.1)]
theorem incl_on (LF root : S32) (I N : Nat) (hlt : I < N) (xs : List S32) (h : xs.length = (dirs I N).length) (hr : foldU nodeS (dirs I N) LF xs = root) : inclN LF I N root xs = 0 := by
  unfold inclN
  rw [if_neg (by omega)]
  simp only [Int.toNat_natCast]
  rw [if_pos ⟨h, hr⟩]
/-- The sum whose first byte is 1. -/
def oneS : S32 := ⟨1 :: List.replicate 31 0, by simp, by simp⟩
theorem oneS_V : oneS.V = #[.int .u8 1, .int .u8 0, .int .u8 0, .int .u8 0, .int .u8 0, .int .u8 0, .int .u8 0, .int .u8 0, .int .u8 0, .int .u8 0, .int .u8 0, .int .u8 0, .int .u8 0, .int .u8 0, .int .u8 0, .int .u8 0, .int .u8 0, .int .u8 0, .int .u8 0, .int .u8 0, .int .u8 0, .int .u8 0, .int .u8 0, .int .u8 0, .int .u8 0, .int .u8 0, .int .u8 0, .int .u8 0, .int .u8 0, .int .u8 0, .int .u8 0, .int .u8 0] := rfl
theorem oneS_built : Tryd.prog.built 46 [(0, .int .u8 1)] = some oneS.V := by kernel_rfl
end Go.Proofs.YtnjjbolbemlceaaDoor
set_option linter.unusedSimpArgs false
set_option linter.unusedVariables false
set_option maxHeartbeats 4000000
set_option maxRecDepth 100000
namespace Go.Proofs.YtnjjbolbemlceaaDoor
open Go.RowKit Go.Hs Go.Dg

theorem proofRight_any (leaf : ByteArray) (i m n : Int) (ao : Option Addr) (len cap : Nat) (w : World) (hg : Gd w) (h0 : leaf.size ≤ maxLen) (hL : StrArg w ao len) :
    Calls Tryd.prog 4 #[.string leaf, .int .i64 i, .int .i64 m, .int .i64 n, .slice ao len cap] w fun e w' => e = .returned (.bool true) ∧ Ext [] w w' := by
  have HZ := Hs.hid (show zeroS.V = #[.int .u8 0, .int .u8 0, .int .u8 0, .int .u8 0, .int .u8 0, .int .u8 0, .int .u8 0, .int .u8 0, .int .u8 0, .int .u8 0, .int .u8 0, .int .u8 0, .int .u8 0, .int .u8 0, .int .u8 0, .int .u8 0, .int .u8 0, .int .u8 0, .int .u8 0, .int .u8 0, .int .u8 0, .int .u8 0, .int .u8 0, .int .u8 0, .int .u8 0, .int .u8 0, .int .u8 0, .int .u8 0, .int .u8 0, .int .u8 0, .int .u8 0, .int .u8 0] from rfl)
  have HG := Hs.hid hg
  have HL := Hs.hid hL
  have HS := Hs.hid h0
  have hmx := hL.1
  clear hg hL h0
  go_enter Tryd.func4, Tryd.ntmps4
  go_upto_region 5 with (first
    | (go_at_call 19; with_reducible refine (awake10_any _ HG.out).mono ?_; rintro e w0 ⟨rfl, hx0⟩)
    | (go_at_call 20; refine (cutE_any leaf 20 (by decide) _ HS.out).mono ?_; rintro e w1 ⟨lf, rfl, hlf, hw1⟩; subst w1; have HLF := Hs.hid hlf; clear hlf)
    | (go_at_call 21; refine (few_any n _).mono ?_; rintro e w1 ⟨n1, rfl, hn1, hw1⟩; subst w1))
  obtain ⟨N, hN, hN1, hN2⟩ : ∃ N : Nat, wrap64 (1 + (wrap64 (n1 + 3)).tmod 200) = N ∧ 1 ≤ N ∧ N ≤ 200 := by
    have b3 := hn1.out
    have q1 : wrap64 (n1 + 3) = n1 + 3 := by unfold wrap64; omega
    have q2 : (n1 + 3).tmod 200 = (n1 + 3) % 200 := Int.tmod_eq_emod_of_nonneg (by omega)
    rw [q1, q2]
    refine ⟨(1 + (n1 + 3) % 200).toNat, ?_, ?_, ?_⟩
    · unfold wrap64; omega
    · omega
    · omega
  rw [hN]
  clear hN hn1
  have hN0 : ¬ (N : Int) = 0 := by omega
  go_upto_region 6 with (go_at_call 21; refine (few_any i _).mono ?_; rintro e w1 ⟨i1, rfl, hi1, hw1⟩; subst w1)
  obtain ⟨I, hI, hIN⟩ : ∃ I : Nat, (wrap64 (i1 + 3)).tmod N = I ∧ I < N := by
    have b3 := hi1.out
    have q1 : wrap64 (i1 + 3) = i1 + 3 := by unfold wrap64; omega
    have q2 : (i1 + 3).tmod N = (i1 + 3) % N := Int.tmod_eq_emod_of_nonneg (by omega)
    rw [q1, q2]
    have h1 := Int.emod_nonneg (i1 + 3) (show (N : Int) ≠ 0 by omega)
    have h2 := Int.emod_lt_of_pos (i1 + 3) (show (0 : Int) < N by omega)
    exact ⟨((i1 + 3) % N).toNat, by omega, by omega⟩
  rw [hI]
  clear hI hi1
  go_upto_region 7 with (go_at_call 22; with_reducible refine (sums_any ao len cap _ (HL.out.ext hx0)).mono ?_; rintro e w5 ⟨xs, ao1, cap1, ao2, cap2, rfl, hxs, hx5⟩)
  have HE5 := Hs.hid (hx0.trans0 hx5)
  have HSZ := Hs.hid hx0.size
  clear hx0 hx5
  go_upto_region 8 with (first
    | (go_at_call 23; refine (leafS_any lf (by have := HLF.out; omega) _).mono ?_; rintro e w6 ⟨y, rfl, hy, hx6⟩)
    | (refine wpList_store_row rfl 46 (.tmp 13) (.tmp 37) rfl w6.heap.size y.V rfl rfl _ _ (heap_new w6 _) (by rw [y.size]; exact infoSum) (by rw [y.size]; rfl) y.one ?_))
  have hR := setRow_heap _ _ _ y.V _ _ (heap_new w6 (.cells zeroS.V 46))
  have hx7 := hx6.trans0 (boxExt (w := w6) (.cells zeroS.V 46) y.V)
  rw [HZ.out] at hR hx7
  generalize (w6.alloc _).setRow w6.heap.size y.V = W7 at hR hx7 ⊢
  obtain ⟨R, hRR⟩ : ∃ R, w6.heap.size = R := ⟨_, rfl⟩
  rw [hRR] at hR ⊢
  clear hRR hx6
  have hcv := conv_V hR
  have HE7 := Hs.hid (HE5.out.trans0 hx7)
  have HV7 := Hs.hid (And.intro (hxs.out.2.1.ext hx7 (fun _ _ => List.not_mem_nil)) (hxs.out.2.2.1.ext hx7 (fun _ _ => List.not_mem_nil)))
  have HBK0 : Hid (∀ g, g ∈ (Value.slice ao1 xs.length cap1).ownBlock.toList → w.heap.size ≤ g) := Hs.hid (fun g hg => Nat.le_trans HSZ.out (hxs.out.2.2.2.1 g (by simpa using hg)))
  have HXL := Hs.hid (And.intro hxs.out.1 (And.intro hN1 (And.intro hN2 hIN)))
  have HUP := Hs.hid (fun w (h : Txts w.heap ao2 cap2 xs) => refUp_mth N N I xs ao2 cap2 y (Nat.le_refl _) hIN (by omega) w h)
  clear hx7 hxs hR hN1 hN2 hIN
  try simp only [Act.put, List.getElem_toArray, List.getElem_cons_succ, List.getElem_cons_zero, List.setIfInBounds_toArray, List.set_cons_zero, List.set_cons_succ]
  go_upto_region 9 with (go_at_call 24; with_reducible refine (HUP.out _ (txts_own HV7.out.2)).mono ?_; rintro e w8 ⟨v, ok, rfl, hv, hx8⟩)
  have HV8 := Hs.hid (HV7.out.1.ext hx8 (fun _ _ => List.not_mem_nil))
  have HE8 := Hs.hid (HE7.out.trans0 hx8)
  clear hx8 hcv HV7 HE7
  cases ok
  · go_wp2
    go_ret
    exact ⟨rfl, HE8.out⟩
  · obtain ⟨rt, hrt, hlen⟩ : ∃ rt : S32, (v = rt.s ∧ foldU nodeS (dirs I N) y xs = rt) ∧ xs.length = (dirs I N).length :=
      ⟨_, ⟨hv.out.2.2 rfl, rfl⟩, by have := hv.out.2.1; simpa using this.symm⟩
    obtain ⟨rfl, hfold⟩ := hrt
    have HF := Hs.hid (And.intro hlen hfold)
    clear hlen hfold hv
    have hz33 := (zero_of_info (P := Tryd.prog) infoHead)
    go_upto_region 12 with (first
      | (go_at_call 25; refine (sum32_any rt.s (by rw [rt.ssize]; decide) _).mono ?_; rintro e w9 ⟨x, rfl, hx, hx9⟩)
      | (refine wpList_yield (.agg (headV (N : Int) x)) (by rfl) (exec_build _ rfl [(0, .int .i64 (N : Int)), (1, .agg x.V)] _ _ (by first | (go_simp; done) | (go_simp; rfl) | (simp [Act.eval]; done)) (head_built (N : Int) x)) ?_)
      | (refine wpList_store_row rfl 52 (.tmp 16) (.tmp 52) rfl w9.heap.size (headV (N : Int) x) rfl rfl _ _ (heap_new _ _) (by rw [headV_size]; exact hz33.2) (by rw [headV_size]; rfl) (headV_one _ _) ?_))
    have hH := setRow_heap _ _ _ (headV (N : Int) x) _ _ (heap_new w9 (.cells head0 52))
    have hx10 := hx9.trans0 (boxExt (w := w9) (.cells head0 52) (headV (N : Int) x))
    generalize (w9.alloc (.cells head0 52)).setRow w9.heap.size (headV (N : Int) x) = W at hH hx10 ⊢
    obtain ⟨H, hHH⟩ : ∃ H, w9.heap.size = H := ⟨_, rfl⟩
    rw [hHH] at hH ⊢
    have HLO := Hs.hid (show w8.heap.size ≤ H by have := hx9.size; omega)
    clear hHH
    have hxrt : x = rt := hx.out.trans (pad32_self rt)
    have HXR := Hs.hid hxrt
    clear hxrt hx hx9
    have HOW := Hs.hid (HV8.out.ext hx10 (fun _ _ => List.not_mem_nil))
    have HEW := Hs.hid (HE8.out.trans0 hx10)
    have HBK : Hid (∀ g, g ∈ (Value.slice ao1 xs.length cap1).ownBlock.toList → w.heap.size ≤ g) := HBK0
    have HHF : Hid (H ∉ (Value.slice ao1 xs.length cap1).ownBlock.toList) := Hs.hid (fun hm => by
      have := Own.lt HV8.out (show (Value.slice ao1 xs.length cap1).ownBlock = some H by simpa using hm)
      have := HLO.out; omega)
    have HGW := Hs.hid (fun w' (h : Ext (Value.slice ao1 xs.length cap1).ownBlock.toList W w') => (HG.out.ext HEW.out List.not_mem_nil).ext h (fun hm => by
      have h1 := HBK.out _ hm
      have h2 := HG.out.lt; omega))
    have HFIN := Hs.hid (fun w' (h : Ext (Value.slice ao1 xs.length cap1).ownBlock.toList W w') => (show Ext [] w w' from HEW.out.trans h (fun g hg => .inr (HBK.out g hg))))
    have hI := HXL.out.2.2.2
    have hY := hy.out
    have P0 := Hs.hid (fun w' (h : OwnV w'.heap (.slice ao1 xs.length cap1) xs) => pInclNil lf (by have := HLF.out; omega) I N (by have := HXL.out; omega) x xs (by rw [← hY]; exact incl_on y x I N hI xs HF.out.1 (by rw [HXR.out]; exact HF.out.2)) xs.length rfl ao1 cap1 w' (sums_own h))
    have P1 := Hs.hid (fun w' ao3 cap3 (h : OwnV w'.heap (.slice ao3 (xs.length + 1) cap3) (xs ++ [oneS])) => pInclErr 12 (by decide) lf (by have := HLF.out; omega) I N (by have := HXL.out; omega) x (xs ++ [oneS]) (incl_off _ x I N hI _ (by rw [List.length_append, HF.out.1]; simp)) (xs.length + 1) (by simp) ao3 cap3 w' (sums_own (by rw [List.length_append]; exact h)))
    clear hI hY hy hx10 hz33
    try simp only [Act.put, List.getElem_toArray, List.getElem_cons_succ, List.getElem_cons_zero, List.setIfInBounds_toArray, List.set_cons_zero, List.set_cons_succ]
    refine wp_region_noPanic ?_
    refine wp_region_held_drew (S := (fun w' => Ext (Value.slice ao1 xs.length cap1).ownBlock.toList W w' ∧ OwnV w'.heap (.slice ao1 xs.length cap1) xs)) (by kernel_rfl) ?_ (fun hHeld => ?_)
    · ((try dsimp only); exact ⟨(Ext.refl _ W).drew, HOW.out⟩)
    refine wpAnyH_take (i := 0) (v := ?_) rfl (by kernel_rfl) (by kernel_rfl) (by kernel_rfl) (fun _ _ _ h => h) (Or.inl ⟨by rfl, ?_⟩) (by assumption) ?_
    rotate_left
    · (intro w hSw; (try dsimp only at hSw); first | (go_simp; done) | (go_simp; with_reducible rfl))
    try simp only [Act.put, List.getElem_toArray, List.getElem_cons_succ, List.getElem_cons_zero, List.setIfInBounds_toArray, List.set_cons_zero, List.set_cons_succ]
    refine wpAnyH_take (i := 1) (v := ?_) rfl (by kernel_rfl) (by kernel_rfl) (by kernel_rfl) (fun _ _ _ h => h) (Or.inl ⟨by rfl, ?_⟩) (by assumption) ?_
    rotate_left
    · (intro w hSw; (try dsimp only at hSw); first | (go_simp; done) | (go_simp; with_reducible rfl))
    try simp only [Act.put, List.getElem_toArray, List.getElem_cons_succ, List.getElem_cons_zero, List.setIfInBounds_toArray, List.set_cons_zero, List.set_cons_succ]
    refine wpAnyH_take (i := 2) (v := _) rfl (by kernel_rfl) (by kernel_rfl) (by kernel_rfl) (fun _ _ _ h => h) (yieldsIf_of (.agg (headV (N : Int) x)) (by rfl) (fun w' hw => exec_load_rowHd (.tmp 16) rfl H rfl (N : Int) x w' ⟨_, hw.1.same hH HHF.out⟩)) (by assumption) ?_
    try simp only [Act.put, List.getElem_toArray, List.getElem_cons_succ, List.getElem_cons_zero, List.setIfInBounds_toArray, List.set_cons_zero, List.set_cons_succ]
    refine wpAnyH_take (i := 3) (v := ?_) rfl (by kernel_rfl) (by kernel_rfl) (by kernel_rfl) (fun _ _ _ h => h) (Or.inl ⟨by rfl, ?_⟩) (by assumption) ?_
    rotate_left
    · (intro w hSw; (try dsimp only at hSw); first | (go_simp; done) | (go_simp; with_reducible rfl))
    try simp only [Act.put, List.getElem_toArray, List.getElem_cons_succ, List.getElem_cons_zero, List.setIfInBounds_toArray, List.set_cons_zero, List.set_cons_succ]
    refine wpAnyH_ready (rs := [4]) (by kernel_rfl) (by simp) ?_
    refine AllReadyH.cons rfl (fun K hK => ?_) AllReadyH.nil
    go_simp
    (go_at_call 26; with_reducible refine (P0.out _ hHeld.2).mono ?_; rintro e w11 ⟨rfl, hx11⟩)
    go_wp2_with fail
    refine hK.out _ _ ?_ (fun hHeld => ?_)
    · ((try dsimp only); exact ⟨hHeld.1.trans0 hx11, hHeld.2.ext hx11 (fun _ _ => List.not_mem_nil)⟩)
    clear hK K
    try simp only [Act.put, List.getElem_toArray, List.getElem_cons_succ, List.getElem_cons_zero, List.setIfInBounds_toArray, List.set_cons_zero, List.set_cons_succ]
    refine wpAnyH_take (i := 5) (v := ?_) rfl (by kernel_rfl) (by kernel_rfl) (by kernel_rfl) (fun _ _ _ h => h) (Or.inl ⟨by rfl, ?_⟩) (by assumption) ?_
    rotate_left
    · (intro w hSw; (try dsimp only at hSw); first | (go_simp; done) | (go_simp; with_reducible rfl))
    try simp only [Act.put, List.getElem_toArray, List.getElem_cons_succ, List.getElem_cons_zero, List.setIfInBounds_toArray, List.set_cons_zero, List.set_cons_succ]
    refine wpAnyH_take (i := 6) (v := ?_) rfl (by kernel_rfl) (by kernel_rfl) (by kernel_rfl) (fun _ _ _ h => h) (Or.inl ⟨by rfl, ?_⟩) (by assumption) ?_
    rotate_left
    · (intro w hSw; (try dsimp only at hSw); first | (go_simp; done) | (go_simp; with_reducible rfl))
    try simp only [Act.put, List.getElem_toArray, List.getElem_cons_succ, List.getElem_cons_zero, List.setIfInBounds_toArray, List.set_cons_zero, List.set_cons_succ]
    refine wpAnyH_take (i := 7) (v := ?_) rfl (by kernel_rfl) (by kernel_rfl) (by kernel_rfl) (fun _ _ _ h => h) (Or.inl ⟨by rfl, ?_⟩) (by assumption) ?_
    rotate_left
    · (intro w hSw; (try dsimp only at hSw); first | (go_simp; done) | (go_simp; with_reducible rfl))
    try simp only [Act.put, List.getElem_toArray, List.getElem_cons_succ, List.getElem_cons_zero, List.setIfInBounds_toArray, List.set_cons_zero, List.set_cons_succ]
    refine wpAnyH_take (i := 8) (v := ?_) rfl (by kernel_rfl) (by kernel_rfl) (by kernel_rfl) (fun _ _ _ h => h) (Or.inl ⟨by rfl, ?_⟩) (by assumption) ?_
    rotate_left
    · (intro w hSw; (try dsimp only at hSw); first | (go_simp; done) | (go_simp; with_reducible rfl))
    try simp only [Act.put, List.getElem_toArray, List.getElem_cons_succ, List.getElem_cons_zero, List.setIfInBounds_toArray, List.set_cons_zero, List.set_cons_succ]
    refine wpAnyH_take (i := 9) (v := _) rfl (by kernel_rfl) (by kernel_rfl) (by kernel_rfl) (fun _ _ _ h => h) (yieldsIf_of (.agg (headV (N : Int) x)) (by rfl) (fun w' hw => exec_load_rowHd (.tmp 16) rfl H rfl (N : Int) x w' ⟨_, hw.1.same hH HHF.out⟩)) (by assumption) ?_
    try simp only [Act.put, List.getElem_toArray, List.getElem_cons_succ, List.getElem_cons_zero, List.setIfInBounds_toArray, List.set_cons_zero, List.set_cons_succ]
    refine wpAnyH_take (i := 10) (v := ?_) rfl (by kernel_rfl) (by kernel_rfl) (by kernel_rfl) (fun _ _ _ h => h) (Or.inl ⟨by rfl, ?_⟩) (by assumption) ?_
    rotate_left
    · (intro w hSw; (try dsimp only at hSw); first | (go_simp; done) | (go_simp; with_reducible rfl))
    try simp only [Act.put, List.getElem_toArray, List.getElem_cons_succ, List.getElem_cons_zero, List.setIfInBounds_toArray, List.set_cons_zero, List.set_cons_succ]
    refine wpAnyH_take (i := 11) (v := _) rfl (by kernel_rfl) (by kernel_rfl) (by kernel_rfl) (fun _ _ _ h => h) (.inl ⟨by rfl, fun w' _ => exec_build _ rfl [(0, .int .u8 1)] oneS.V _ (by first | (go_simp; done) | (go_simp; rfl) | (simp [Act.eval]; done)) oneS_built⟩) (by assumption) ?_
    try simp only [Act.put, List.getElem_toArray, List.getElem_cons_succ, List.getElem_cons_zero, List.setIfInBounds_toArray, List.set_cons_zero, List.set_cons_succ]
    refine wpAnyH_ready (rs := [12]) (by kernel_rfl) (by simp) ?_
    refine AllReadyH.cons rfl (fun K hK => ?_) AllReadyH.nil
    rw [if_pos (by rfl)]
    (have hB12 := heap_new w11 (.cells oneS.V 46); refine wp_sumK (.tmp 64) rfl oneS rfl ?_)
    refine hK.out _ _ ?_ (fun hHeld => ?_)
    · ((try dsimp only); exact ⟨hHeld.1.alloc _, hHeld.2.ext ((Ext.refl [] _).alloc _) (fun _ _ => List.not_mem_nil)⟩)
    clear hK K
    try simp only [Act.put, List.getElem_toArray, List.getElem_cons_succ, List.getElem_cons_zero, List.setIfInBounds_toArray, List.set_cons_zero, List.set_cons_succ]
    refine wpAnyH_ready (rs := [13]) (by kernel_rfl) (by simp) ?_
    refine AllReadyH.cons rfl (fun K hK => ?_) AllReadyH.nil
    rw [if_pos (by rfl)]
    (refine wp_append_sumK (.tmp 63) (.tmp 65) rfl (.slice ao1 xs.length cap1) xs rfl hHeld.2 w11.heap.size 1 [oneS] (0, 0) rfl rfl (by rw [show (sumsV [oneS]).toArray = oneS.V by simp [sumsV]]; exact hB12) (by have := HXL.out; omega) ?_; intro ao3 cap3 w12 hO3 hO4 hx12)
    refine hK.out _ _ ?_ (fun hHeld => ?_)
    · ((try dsimp only); exact ⟨hHeld.1.trans' hx12, hO4⟩)
    clear hK K
    try simp only [Act.put, List.getElem_toArray, List.getElem_cons_succ, List.getElem_cons_zero, List.setIfInBounds_toArray, List.set_cons_zero, List.set_cons_succ]
    refine wpAnyH_ready (rs := [14]) (by kernel_rfl) (by simp) ?_
    refine AllReadyH.cons rfl (fun K hK => ?_) AllReadyH.nil
    go_simp
    (go_at_call 26; with_reducible refine (P1.out _ _ _ hO3).mono ?_; rintro e w13 ⟨p13, rfl, hv13, hx13⟩)
    go_wp2_with fail
    refine hK.out _ _ ?_ (fun hHeld => ?_)
    · ((try dsimp only); exact ⟨hHeld.1.trans0 hx13, hHeld.2.ext hx13 (fun _ _ => List.not_mem_nil)⟩)
    clear hK K
    try simp only [Act.put, List.getElem_toArray, List.getElem_cons_succ, List.getElem_cons_zero, List.setIfInBounds_toArray, List.set_cons_zero, List.set_cons_succ]
    refine wpAnyH_ready (rs := [15]) (by kernel_rfl) (by simp) ?_
    refine AllReadyH.cons rfl (fun K hK => ?_) AllReadyH.nil
    go_simp
    (go_at_call 17; with_reducible refine (ofE_any 12 _ _ _ _ (HGW.out _ hHeld.1) hv13.out).mono ?_; rintro e w14 ⟨rfl, hx14⟩)
    go_wp2_with fail
    refine hK.out _ _ ?_ (fun hHeld => ?_)
    · ((try dsimp only); exact ⟨hHeld.1.trans0 hx14, hHeld.2.ext hx14 (fun _ _ => List.not_mem_nil)⟩)
    clear hK K
    try simp only [Act.put, List.getElem_toArray, List.getElem_cons_succ, List.getElem_cons_zero, List.setIfInBounds_toArray, List.set_cons_zero, List.set_cons_succ]
    refine wpAnyH_take (i := 16) (v := ?_) rfl (by kernel_rfl) (by kernel_rfl) (by kernel_rfl) (fun _ _ _ h => h) (Or.inl ⟨by rfl, ?_⟩) (by assumption) ?_
    rotate_left
    · (intro w hSw; (try dsimp only at hSw); first | (go_simp; done) | (go_simp; with_reducible rfl))
    try simp only [Act.put, List.getElem_toArray, List.getElem_cons_succ, List.getElem_cons_zero, List.setIfInBounds_toArray, List.set_cons_zero, List.set_cons_succ]
    refine wpAnyH_take (i := 17) (v := ?_) rfl (by kernel_rfl) (by kernel_rfl) (by kernel_rfl) (fun _ _ _ h => h) (Or.inl ⟨by rfl, ?_⟩) (by assumption) ?_
    rotate_left
    · (intro w hSw; (try dsimp only at hSw); first | (go_simp; done) | (go_simp; with_reducible rfl))
    try simp only [Act.put, List.getElem_toArray, List.getElem_cons_succ, List.getElem_cons_zero, List.setIfInBounds_toArray, List.set_cons_zero, List.set_cons_succ]
    refine wpAnyH_done (by kernel_rfl) ?_ _
    refine NoPanic.normal ?_
    have HQ := Hs.hid hHeld
    clear hHeld
    go_upto_region 14 with fail
    clear P0 P1
    have HAO := Hs.hid HQ.out.2
    cases xs with
    | nil =>
      have hl0 : ([] : List S32).length = 0 := rfl
      rw [hl0] at HQ HHF HFIN HGW ⊢
      refine wp_region_noPanic ?_
      refine wp_region_held_drew (S := (fun w' => Ext (Value.slice ao1 0 cap1).ownBlock.toList W w' ∧ OwnV w'.heap (.slice ao1 0 cap1) [])) (by kernel_rfl) ?_ (fun hHeld => ?_)
      · ((try dsimp only); exact ⟨HQ.out.1.drew, HQ.out.2⟩)
      refine wpAnyH_take (i := 0) (v := ?_) rfl (by kernel_rfl) (by kernel_rfl) (by kernel_rfl) (fun _ _ _ h => h) (Or.inl ⟨by rfl, ?_⟩) (by assumption) ?_
      rotate_left
      · (intro w hSw; (try dsimp only at hSw); first | (go_simp; done) | (go_simp; with_reducible rfl))
      try simp only [Act.put, List.getElem_toArray, List.getElem_cons_succ, List.getElem_cons_zero, List.setIfInBounds_toArray, List.set_cons_zero, List.set_cons_succ]
      refine wpAnyH_take (i := 1) (v := ?_) rfl (by kernel_rfl) (by kernel_rfl) (by kernel_rfl) (fun _ _ _ h => h) (Or.inl ⟨by rfl, ?_⟩) (by assumption) ?_
      rotate_left
      · (intro w hSw; (try dsimp only at hSw); first | (go_simp; done) | (go_simp; with_reducible rfl))
      try simp only [Act.put, List.getElem_toArray, List.getElem_cons_succ, List.getElem_cons_zero, List.setIfInBounds_toArray, List.set_cons_zero, List.set_cons_succ]
      refine wpAnyH_take (i := 2) (v := ?_) rfl (by kernel_rfl) (by kernel_rfl) (by kernel_rfl) (fun _ _ _ h => h) (Or.inl ⟨by rfl, ?_⟩) (by assumption) ?_
      rotate_left
      · (intro w hSw; (try dsimp only at hSw); first | (go_simp; done) | (go_simp; with_reducible rfl))
      try simp only [Act.put, List.getElem_toArray, List.getElem_cons_succ, List.getElem_cons_zero, List.setIfInBounds_toArray, List.set_cons_zero, List.set_cons_succ]
      refine wpAnyH_take (i := 3) (v := ?_) rfl (by kernel_rfl) (by kernel_rfl) (by kernel_rfl) (fun _ _ _ h => h) (Or.inl ⟨by rfl, ?_⟩) (by assumption) ?_
      rotate_left
      · (intro w hSw; (try dsimp only at hSw); first | (go_simp; done) | (go_simp; with_reducible rfl))
      try simp only [Act.put, List.getElem_toArray, List.getElem_cons_succ, List.getElem_cons_zero, List.setIfInBounds_toArray, List.set_cons_zero, List.set_cons_succ]
      refine wpAnyH_take (i := 4) (v := undef) rfl (by kernel_rfl) (by kernel_rfl) (by kernel_rfl) (fun _ _ _ h => h) (Or.inr ⟨by rfl, rfl⟩) (by assumption) ?_
      try simp only [Act.put, List.getElem_toArray, List.getElem_cons_succ, List.getElem_cons_zero, List.setIfInBounds_toArray, List.set_cons_zero, List.set_cons_succ]
      refine wpAnyH_take (i := 5) (v := undef) rfl (by kernel_rfl) (by kernel_rfl) (by kernel_rfl) (fun _ _ _ h => h) (Or.inr ⟨by rfl, rfl⟩) (by assumption) ?_
      try simp only [Act.put, List.getElem_toArray, List.getElem_cons_succ, List.getElem_cons_zero, List.setIfInBounds_toArray, List.set_cons_zero, List.set_cons_succ]
      refine wpAnyH_take (i := 6) (v := undef) rfl (by kernel_rfl) (by kernel_rfl) (by kernel_rfl) (fun _ _ _ h => h) (Or.inr ⟨by rfl, rfl⟩) (by assumption) ?_
      try simp only [Act.put, List.getElem_toArray, List.getElem_cons_succ, List.getElem_cons_zero, List.setIfInBounds_toArray, List.set_cons_zero, List.set_cons_succ]
      refine wpAnyH_take (i := 7) (v := undef) rfl (by kernel_rfl) (by kernel_rfl) (by kernel_rfl) (fun _ _ _ h => h) (Or.inr ⟨by rfl, rfl⟩) (by assumption) ?_
      try simp only [Act.put, List.getElem_toArray, List.getElem_cons_succ, List.getElem_cons_zero, List.setIfInBounds_toArray, List.set_cons_zero, List.set_cons_succ]
      refine wpAnyH_take (i := 8) (v := undef) rfl (by kernel_rfl) (by kernel_rfl) (by kernel_rfl) (fun _ _ _ h => h) (Or.inr ⟨by rfl, rfl⟩) (by assumption) ?_
      try simp only [Act.put, List.getElem_toArray, List.getElem_cons_succ, List.getElem_cons_zero, List.setIfInBounds_toArray, List.set_cons_zero, List.set_cons_succ]
      refine wpAnyH_take (i := 9) (v := undef) rfl (by kernel_rfl) (by kernel_rfl) (by kernel_rfl) (fun _ _ _ h => h) (Or.inr ⟨by rfl, rfl⟩) (by assumption) ?_
      try simp only [Act.put, List.getElem_toArray, List.getElem_cons_succ, List.getElem_cons_zero, List.setIfInBounds_toArray, List.set_cons_zero, List.set_cons_succ]
      refine wpAnyH_take (i := 10) (v := undef) rfl (by kernel_rfl) (by kernel_rfl) (by kernel_rfl) (fun _ _ _ h => h) (Or.inr ⟨by rfl, rfl⟩) (by assumption) ?_
      try simp only [Act.put, List.getElem_toArray, List.getElem_cons_succ, List.getElem_cons_zero, List.setIfInBounds_toArray, List.set_cons_zero, List.set_cons_succ]
      refine wpAnyH_take (i := 11) (v := undef) rfl (by kernel_rfl) (by kernel_rfl) (by kernel_rfl) (fun _ _ _ h => h) (Or.inr ⟨by rfl, rfl⟩) (by assumption) ?_
      try simp only [Act.put, List.getElem_toArray, List.getElem_cons_succ, List.getElem_cons_zero, List.setIfInBounds_toArray, List.set_cons_zero, List.set_cons_succ]
      refine wpAnyH_take (i := 12) (v := ?_) rfl (by kernel_rfl) (by kernel_rfl) (by kernel_rfl) (fun _ _ _ h => h) (Or.inl ⟨by rfl, ?_⟩) (by assumption) ?_
      rotate_left
      · (intro w hSw; (try dsimp only at hSw); first | (go_simp; done) | (go_simp; with_reducible rfl))
      try simp only [Act.put, List.getElem_toArray, List.getElem_cons_succ, List.getElem_cons_zero, List.setIfInBounds_toArray, List.set_cons_zero, List.set_cons_succ]
      refine wpAnyH_take (i := 13) (v := ?_) rfl (by kernel_rfl) (by kernel_rfl) (by kernel_rfl) (fun _ _ _ h => h) (Or.inl ⟨by rfl, ?_⟩) (by assumption) ?_
      rotate_left
      · (intro w hSw; (try dsimp only at hSw); first | (go_simp; done) | (go_simp; with_reducible rfl))
      try simp only [Act.put, List.getElem_toArray, List.getElem_cons_succ, List.getElem_cons_zero, List.setIfInBounds_toArray, List.set_cons_zero, List.set_cons_succ]
      refine wpAnyH_done (by kernel_rfl) ?_ _
      refine NoPanic.normal ?_
      go_wp2
      go_ret
      exact ⟨rfl, HFIN.out _ hHeld.1⟩
    | cons z zs =>
      have hl1 : (z :: zs).length = zs.length + 1 := rfl
      rw [hl1] at HQ HHF HFIN HGW HAO ⊢
      obtain ⟨g, rfl, hzc⟩ : ∃ g, ao1 = some ⟨g, 0, none⟩ ∧ zs.length + 1 ≤ cap1 := by
        rcases HAO.out.2 with ⟨h1, h0⟩ | ⟨g, cap', cur, h1, _, _, hnc, _⟩
        · simp at h0
        · simp at h1
          exact ⟨g, h1.1, by rw [h1.2]; exact hnc⟩
      have l1 : ¬ ((zs.length : Nat) : Int) + 1 = 0 := by omega
      have l1' : ((((zs.length : Nat) : Int) + 1) == 0) = false := by simpa using l1
      have l2 : (0 : Int) < ((zs.length : Nat) : Int) + 1 := by omega
      have l3 : (1 : Int) ≤ ((zs.length : Nat) : Int) + 1 := by omega
      have l4 : ((zs.length : Nat) : Int) + 1 ≤ cap1 := by omega
      have l5 : (1 : Int) ≤ cap1 := by omega
      have l6 : ((zs.length : Nat) : Int) + 1 - 1 = zs.length := by omega
      have l7 : zs.length + 1 - 1 = zs.length := by omega
      have hlen : zs.length ≠ (dirs I N).length := by have := HF.out.1; rw [hl1] at this; omega
      have hI := HXL.out.2.2.2
      by_cases hc1 : cap1 = 1
      · subst hc1
        have hz0 : zs = [] := List.eq_nil_of_length_eq_zero (by omega)
        have P2 := Hs.hid (fun w' (h : OwnV w'.heap (.slice (some ⟨g, 0, none⟩) (zs.length + 1) 1) (z :: zs)) => pInclErr 12 (by decide) lf (by have := HLF.out; omega) I N (by have := HXL.out; omega) x zs (incl_off _ x I N hI _ hlen) zs.length rfl (some ⟨g, 0, none⟩) 0 w' ⟨by rw [hz0]; exact Nat.le_refl _, by decide, .inl hz0⟩)
        clear hz0 hlen hI hzc hl1 HAO
        refine wp_region_noPanic ?_
        refine wp_region_held_drew (S := (fun w' => Ext (Value.slice (some ⟨g, 0, none⟩) (zs.length + 1) 1).ownBlock.toList W w' ∧ OwnV w'.heap (.slice (some ⟨g, 0, none⟩) (zs.length + 1) 1) (z :: zs))) (by kernel_rfl) ?_ (fun hHeld => ?_)
        · ((try dsimp only); exact ⟨HQ.out.1.drew, HQ.out.2⟩)
        refine wpAnyH_take (i := 0) (v := ?_) rfl (by kernel_rfl) (by kernel_rfl) (by kernel_rfl) (fun _ _ _ h => h) (Or.inl ⟨by rfl, ?_⟩) (by assumption) ?_
        rotate_left
        · (intro w hSw; (try dsimp only at hSw); first | (go_simp; done) | (go_simp; with_reducible rfl))
        try simp only [Act.put, List.getElem_toArray, List.getElem_cons_succ, List.getElem_cons_zero, List.setIfInBounds_toArray, List.set_cons_zero, List.set_cons_succ]
        refine wpAnyH_take (i := 1) (v := ?_) rfl (by kernel_rfl) (by kernel_rfl) (by kernel_rfl) (fun _ _ _ h => h) (Or.inl ⟨by rfl, ?_⟩) (by assumption) ?_
        rotate_left
        · (intro w hSw; (try dsimp only at hSw); first | (go_simp; done) | (go_simp; with_reducible rfl))
        try simp only [Act.put, List.getElem_toArray, List.getElem_cons_succ, List.getElem_cons_zero, List.setIfInBounds_toArray, List.set_cons_zero, List.set_cons_succ]
        refine wpAnyH_take (i := 2) (v := ?_) rfl (by kernel_rfl) (by kernel_rfl) (by kernel_rfl) (fun _ _ _ h => h) (Or.inl ⟨by rfl, ?_⟩) (by assumption) ?_
        rotate_left
        · (intro w hSw; (try dsimp only at hSw); first | (go_simp; done) | (go_simp; with_reducible rfl))
        try simp only [Act.put, List.getElem_toArray, List.getElem_cons_succ, List.getElem_cons_zero, List.setIfInBounds_toArray, List.set_cons_zero, List.set_cons_succ]
        refine wpAnyH_take (i := 3) (v := ?_) rfl (by kernel_rfl) (by kernel_rfl) (by kernel_rfl) (fun _ _ _ h => h) (Or.inl ⟨by rfl, ?_⟩) (by assumption) ?_
        rotate_left
        · (intro w hSw; (try dsimp only at hSw); first | (go_simp; done) | (go_simp; with_reducible rfl))
        try simp only [Act.put, List.getElem_toArray, List.getElem_cons_succ, List.getElem_cons_zero, List.setIfInBounds_toArray, List.set_cons_zero, List.set_cons_succ]
        refine wpAnyH_take (i := 4) (v := ?_) rfl (by kernel_rfl) (by kernel_rfl) (by kernel_rfl) (fun _ _ _ h => h) (Or.inl ⟨by rfl, ?_⟩) (by assumption) ?_
        rotate_left
        · (intro w hSw; (try dsimp only at hSw); first | (go_simp; done) | (go_simp; with_reducible rfl))
        try simp only [Act.put, List.getElem_toArray, List.getElem_cons_succ, List.getElem_cons_zero, List.setIfInBounds_toArray, List.set_cons_zero, List.set_cons_succ]
        refine wpAnyH_take (i := 5) (v := ?_) rfl (by kernel_rfl) (by kernel_rfl) (by kernel_rfl) (fun _ _ _ h => h) (Or.inl ⟨by rfl, ?_⟩) (by assumption) ?_
        rotate_left
        · (intro w hSw; (try dsimp only at hSw); first | (go_simp; done) | (go_simp; with_reducible rfl))
        try simp only [Act.put, List.getElem_toArray, List.getElem_cons_succ, List.getElem_cons_zero, List.setIfInBounds_toArray, List.set_cons_zero, List.set_cons_succ]
        refine wpAnyH_take (i := 6) (v := _) rfl (by kernel_rfl) (by kernel_rfl) (by kernel_rfl) (fun _ _ _ h => h) (yieldsIf_of (.agg (headV (N : Int) x)) (by rfl) (fun w' hw => exec_load_rowHd (.tmp 16) rfl H rfl (N : Int) x w' ⟨_, hw.1.same hH HHF.out⟩)) (by assumption) ?_
        try simp only [Act.put, List.getElem_toArray, List.getElem_cons_succ, List.getElem_cons_zero, List.setIfInBounds_toArray, List.set_cons_zero, List.set_cons_succ]
        refine wpAnyH_take (i := 7) (v := ?_) rfl (by kernel_rfl) (by kernel_rfl) (by kernel_rfl) (fun _ _ _ h => h) (Or.inl ⟨by rfl, ?_⟩) (by assumption) ?_
        rotate_left
        · (intro w hSw; (try dsimp only at hSw); first | (go_simp; done) | (go_simp; with_reducible rfl))
        try simp only [Act.put, List.getElem_toArray, List.getElem_cons_succ, List.getElem_cons_zero, List.setIfInBounds_toArray, List.set_cons_zero, List.set_cons_succ]
        refine wpAnyH_take (i := 8) (v := ?_) rfl (by kernel_rfl) (by kernel_rfl) (by kernel_rfl) (fun _ _ _ h => h) (Or.inl ⟨by rfl, ?_⟩) (by assumption) ?_
        rotate_left
        · (intro w hSw; (try dsimp only at hSw); first | (go_simp; done) | (go_simp; with_reducible rfl))
        try simp only [Act.put, List.getElem_toArray, List.getElem_cons_succ, List.getElem_cons_zero, List.setIfInBounds_toArray, List.set_cons_zero, List.set_cons_succ]
        refine wpAnyH_ready (rs := [9]) (by kernel_rfl) (by simp) ?_
        refine AllReadyH.cons rfl (fun K hK => ?_) AllReadyH.nil
        go_simp
        (go_at_call 26; with_reducible refine (P2.out _ hHeld.2).mono ?_; rintro e w15 ⟨p15, rfl, hv15, hx15⟩)
        go_wp2_with fail
        refine hK.out _ _ ?_ (fun hHeld => ?_)
        · ((try dsimp only); exact ⟨hHeld.1.trans0 hx15, hHeld.2.ext hx15 (fun _ _ => List.not_mem_nil)⟩)
        clear hK K
        try simp only [Act.put, List.getElem_toArray, List.getElem_cons_succ, List.getElem_cons_zero, List.setIfInBounds_toArray, List.set_cons_zero, List.set_cons_succ]
        refine wpAnyH_ready (rs := [10]) (by kernel_rfl) (by simp) ?_
        refine AllReadyH.cons rfl (fun K hK => ?_) AllReadyH.nil
        go_simp
        (go_at_call 17; with_reducible refine (ofE_any 12 _ _ _ _ (HGW.out _ hHeld.1) hv15.out).mono ?_; rintro e w16 ⟨rfl, hx16⟩)
        go_wp2_with fail
        refine hK.out _ _ ?_ (fun hHeld => ?_)
        · ((try dsimp only); exact ⟨hHeld.1.trans0 hx16, hHeld.2.ext hx16 (fun _ _ => List.not_mem_nil)⟩)
        clear hK K
        try simp only [Act.put, List.getElem_toArray, List.getElem_cons_succ, List.getElem_cons_zero, List.setIfInBounds_toArray, List.set_cons_zero, List.set_cons_succ]
        refine wpAnyH_take (i := 11) (v := ?_) rfl (by kernel_rfl) (by kernel_rfl) (by kernel_rfl) (fun _ _ _ h => h) (Or.inl ⟨by rfl, ?_⟩) (by assumption) ?_
        rotate_left
        · (intro w hSw; (try dsimp only at hSw); first | (go_simp; done) | (go_simp; with_reducible rfl))
        try simp only [Act.put, List.getElem_toArray, List.getElem_cons_succ, List.getElem_cons_zero, List.setIfInBounds_toArray, List.set_cons_zero, List.set_cons_succ]
        refine wpAnyH_take (i := 12) (v := ?_) rfl (by kernel_rfl) (by kernel_rfl) (by kernel_rfl) (fun _ _ _ h => h) (Or.inl ⟨by rfl, ?_⟩) (by assumption) ?_
        rotate_left
        · (intro w hSw; (try dsimp only at hSw); first | (go_simp; done) | (go_simp; with_reducible rfl))
        try simp only [Act.put, List.getElem_toArray, List.getElem_cons_succ, List.getElem_cons_zero, List.setIfInBounds_toArray, List.set_cons_zero, List.set_cons_succ]
        refine wpAnyH_take (i := 13) (v := ?_) rfl (by kernel_rfl) (by kernel_rfl) (by kernel_rfl) (fun _ _ _ h => h) (Or.inl ⟨by rfl, ?_⟩) (by assumption) ?_
        rotate_left
        · (intro w hSw; (try dsimp only at hSw); first | (go_simp; done) | (go_simp; with_reducible rfl))
        try simp only [Act.put, List.getElem_toArray, List.getElem_cons_succ, List.getElem_cons_zero, List.setIfInBounds_toArray, List.set_cons_zero, List.set_cons_succ]
        refine wpAnyH_done (by kernel_rfl) ?_ _
        refine NoPanic.normal ?_
        go_wp2
        go_ret
        exact ⟨rfl, HFIN.out _ hHeld.1⟩
      · have P2 := Hs.hid (fun w' (h : OwnV w'.heap (.slice (some ⟨g, 0, none⟩) (zs.length + 1) cap1) (z :: zs)) => pInclErr 12 (by decide) lf (by have := HLF.out; omega) I N (by have := HXL.out; omega) x zs (incl_off _ x I N hI _ hlen) zs.length rfl (some ⟨g, 32, none⟩) (cap1 - 1) w' (by have := Sums32.tail (sums_own h); rwa [Nat.zero_add] at this))
        have l8 : ¬ cap1 - 1 = 0 := by omega
        have l9 : ¬ (cap1 : Int) - 1 = 0 := by omega
        clear hlen hI hzc hl1 HAO
        refine wp_region_noPanic ?_
        refine wp_region_held_drew (S := (fun w' => Ext (Value.slice (some ⟨g, 0, none⟩) (zs.length + 1) cap1).ownBlock.toList W w' ∧ OwnV w'.heap (.slice (some ⟨g, 0, none⟩) (zs.length + 1) cap1) (z :: zs))) (by kernel_rfl) ?_ (fun hHeld => ?_)
        · ((try dsimp only); exact ⟨HQ.out.1.drew, HQ.out.2⟩)
        refine wpAnyH_take (i := 0) (v := ?_) rfl (by kernel_rfl) (by kernel_rfl) (by kernel_rfl) (fun _ _ _ h => h) (Or.inl ⟨by rfl, ?_⟩) (by assumption) ?_
        rotate_left
        · (intro w hSw; (try dsimp only at hSw); first | (go_simp; done) | (go_simp; with_reducible rfl))
        try simp only [Act.put, List.getElem_toArray, List.getElem_cons_succ, List.getElem_cons_zero, List.setIfInBounds_toArray, List.set_cons_zero, List.set_cons_succ]
        refine wpAnyH_take (i := 1) (v := ?_) rfl (by kernel_rfl) (by kernel_rfl) (by kernel_rfl) (fun _ _ _ h => h) (Or.inl ⟨by rfl, ?_⟩) (by assumption) ?_
        rotate_left
        · (intro w hSw; (try dsimp only at hSw); first | (go_simp; done) | (go_simp; with_reducible rfl))
        try simp only [Act.put, List.getElem_toArray, List.getElem_cons_succ, List.getElem_cons_zero, List.setIfInBounds_toArray, List.set_cons_zero, List.set_cons_succ]
        refine wpAnyH_take (i := 2) (v := ?_) rfl (by kernel_rfl) (by kernel_rfl) (by kernel_rfl) (fun _ _ _ h => h) (Or.inl ⟨by rfl, ?_⟩) (by assumption) ?_
        rotate_left
        · (intro w hSw; (try dsimp only at hSw); first | (go_simp; done) | (go_simp; with_reducible rfl))
        try simp only [Act.put, List.getElem_toArray, List.getElem_cons_succ, List.getElem_cons_zero, List.setIfInBounds_toArray, List.set_cons_zero, List.set_cons_succ]
        refine wpAnyH_take (i := 3) (v := ?_) rfl (by kernel_rfl) (by kernel_rfl) (by kernel_rfl) (fun _ _ _ h => h) (Or.inl ⟨by rfl, ?_⟩) (by assumption) ?_
        rotate_left
        · (intro w hSw; (try dsimp only at hSw); first | (go_simp; done) | (go_simp; with_reducible rfl))
        try simp only [Act.put, List.getElem_toArray, List.getElem_cons_succ, List.getElem_cons_zero, List.setIfInBounds_toArray, List.set_cons_zero, List.set_cons_succ]
        refine wpAnyH_take (i := 4) (v := ?_) rfl (by kernel_rfl) (by kernel_rfl) (by kernel_rfl) (fun _ _ _ h => h) (Or.inl ⟨by rfl, ?_⟩) (by assumption) ?_
        rotate_left
        · (intro w hSw; (try dsimp only at hSw); first | (go_simp; done) | (go_simp; with_reducible rfl))
        try simp only [Act.put, List.getElem_toArray, List.getElem_cons_succ, List.getElem_cons_zero, List.setIfInBounds_toArray, List.set_cons_zero, List.set_cons_succ]
        refine wpAnyH_take (i := 5) (v := ?_) rfl (by kernel_rfl) (by kernel_rfl) (by kernel_rfl) (fun _ _ _ h => h) (Or.inl ⟨by rfl, ?_⟩) (by assumption) ?_
        rotate_left
        · (intro w hSw; (try dsimp only at hSw); first | (go_simp; done) | (go_simp; with_reducible rfl))
        try simp only [Act.put, List.getElem_toArray, List.getElem_cons_succ, List.getElem_cons_zero, List.setIfInBounds_toArray, List.set_cons_zero, List.set_cons_succ]
        refine wpAnyH_take (i := 6) (v := _) rfl (by kernel_rfl) (by kernel_rfl) (by kernel_rfl) (fun _ _ _ h => h) (yieldsIf_of (.agg (headV (N : Int) x)) (by rfl) (fun w' hw => exec_load_rowHd (.tmp 16) rfl H rfl (N : Int) x w' ⟨_, hw.1.same hH HHF.out⟩)) (by assumption) ?_
        try simp only [Act.put, List.getElem_toArray, List.getElem_cons_succ, List.getElem_cons_zero, List.setIfInBounds_toArray, List.set_cons_zero, List.set_cons_succ]
        refine wpAnyH_take (i := 7) (v := ?_) rfl (by kernel_rfl) (by kernel_rfl) (by kernel_rfl) (fun _ _ _ h => h) (Or.inl ⟨by rfl, ?_⟩) (by assumption) ?_
        rotate_left
        · (intro w hSw; (try dsimp only at hSw); first | (go_simp; done) | (go_simp; with_reducible rfl))
        try simp only [Act.put, List.getElem_toArray, List.getElem_cons_succ, List.getElem_cons_zero, List.setIfInBounds_toArray, List.set_cons_zero, List.set_cons_succ]
        refine wpAnyH_take (i := 8) (v := ?_) rfl (by kernel_rfl) (by kernel_rfl) (by kernel_rfl) (fun _ _ _ h => h) (Or.inl ⟨by rfl, ?_⟩) (by assumption) ?_
        rotate_left
        · (intro w hSw; (try dsimp only at hSw); first | (go_simp; done) | (go_simp; with_reducible rfl))
        try simp only [Act.put, List.getElem_toArray, List.getElem_cons_succ, List.getElem_cons_zero, List.setIfInBounds_toArray, List.set_cons_zero, List.set_cons_succ]
        refine wpAnyH_ready (rs := [9]) (by kernel_rfl) (by simp) ?_
        refine AllReadyH.cons rfl (fun K hK => ?_) AllReadyH.nil
        go_simp
        (go_at_call 26; with_reducible refine (P2.out _ hHeld.2).mono ?_; rintro e w15 ⟨p15, rfl, hv15, hx15⟩)
        go_wp2_with fail
        refine hK.out _ _ ?_ (fun hHeld => ?_)
        · ((try dsimp only); exact ⟨hHeld.1.trans0 hx15, hHeld.2.ext hx15 (fun _ _ => List.not_mem_nil)⟩)
        clear hK K
        try simp only [Act.put, List.getElem_toArray, List.getElem_cons_succ, List.getElem_cons_zero, List.setIfInBounds_toArray, List.set_cons_zero, List.set_cons_succ]
        refine wpAnyH_ready (rs := [10]) (by kernel_rfl) (by simp) ?_
        refine AllReadyH.cons rfl (fun K hK => ?_) AllReadyH.nil
        go_simp
        (go_at_call 17; with_reducible refine (ofE_any 12 _ _ _ _ (HGW.out _ hHeld.1) hv15.out).mono ?_; rintro e w16 ⟨rfl, hx16⟩)
        go_wp2_with fail
        refine hK.out _ _ ?_ (fun hHeld => ?_)
        · ((try dsimp only); exact ⟨hHeld.1.trans0 hx16, hHeld.2.ext hx16 (fun _ _ => List.not_mem_nil)⟩)
        clear hK K
        try simp only [Act.put, List.getElem_toArray, List.getElem_cons_succ, List.getElem_cons_zero, List.setIfInBounds_toArray, List.set_cons_zero, List.set_cons_succ]
        refine wpAnyH_take (i := 11) (v := ?_) rfl (by kernel_rfl) (by kernel_rfl) (by kernel_rfl) (fun _ _ _ h => h) (Or.inl ⟨by rfl, ?_⟩) (by assumption) ?_
        rotate_left
        · (intro w hSw; (try dsimp only at hSw); first | (go_simp; done) | (go_simp; with_reducible rfl))
        try simp only [Act.put, List.getElem_toArray, List.getElem_cons_succ, List.getElem_cons_zero, List.setIfInBounds_toArray, List.set_cons_zero, List.set_cons_succ]
        refine wpAnyH_take (i := 12) (v := ?_) rfl (by kernel_rfl) (by kernel_rfl) (by kernel_rfl) (fun _ _ _ h => h) (Or.inl ⟨by rfl, ?_⟩) (by assumption) ?_
        rotate_left
        · (intro w hSw; (try dsimp only at hSw); first | (go_simp; done) | (go_simp; with_reducible rfl))
        try simp only [Act.put, List.getElem_toArray, List.getElem_cons_succ, List.getElem_cons_zero, List.setIfInBounds_toArray, List.set_cons_zero, List.set_cons_succ]
        refine wpAnyH_take (i := 13) (v := ?_) rfl (by kernel_rfl) (by kernel_rfl) (by kernel_rfl) (fun _ _ _ h => h) (Or.inl ⟨by rfl, ?_⟩) (by assumption) ?_
        rotate_left
        · (intro w hSw; (try dsimp only at hSw); first | (go_simp; done) | (go_simp; with_reducible rfl))
        try simp only [Act.put, List.getElem_toArray, List.getElem_cons_succ, List.getElem_cons_zero, List.setIfInBounds_toArray, List.set_cons_zero, List.set_cons_succ]
        refine wpAnyH_done (by kernel_rfl) ?_ _
        refine NoPanic.normal ?_
        go_wp2
        go_ret
        exact ⟨rfl, HFIN.out _ hHeld.1⟩
end Go.Proofs.YtnjjbolbemlceaaDoor
