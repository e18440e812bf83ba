/-
  Texts of this claim, put together: Clash, Clash2, NodeC, WayT, WayP, WayW, Clash3.
-/
import Derived.ChangeKeysEq
import Derived.Deep.RegionHeld3
import Derived.Test.YtjicjadibaomkaaMSa
set_option linter.unusedSimpArgs false
set_option linter.unusedVariables false
set_option maxHeartbeats 2000000
set_option maxRecDepth 100000
namespace Go.Proofs.Ytjicjadibaomkaa
open Go.RowKit Go.Hs Go.Dg

/-- Are two texts a clash? -/
def isPair (a b : ByteArray) : Bool := !(a.toList == b.toList) && decide (digN a = digN b)
theorem pairIs_any (a b : ByteArray) (ha : a.size ≤ 100000) (hb : b.size ≤ 100000) (w : World) : Calls Try.prog 15 #[.agg #[.string a, .string b]] w fun e w' => e = .returned (.bool (isPair a b)) ∧ Ext [] w w' := by
  have hA := heap_new w (.cells #[.string a, .string b] 43)
  have hx0 : Ext [] w (w.alloc (.cells #[.string a, .string b] 43)) := (Ext.refl _ _).alloc _
  go_enter Try.func15, Try.ntmps15
  go_upto_region 1 with fail
  generalize w.alloc (.cells #[.string a, .string b] 43) = W at *
  generalize w.heap.size = A at *
  have a0 : W.cell? ⟨A, 0, none⟩ = some (.string a) := cellAt hA 0
  have a1 : W.cell? ⟨A, 1, none⟩ = some (.string b) := cellAt hA 1
  by_cases hab : (a.toList == b.toList) = true
  · have hres : isPair a b = false := by unfold isPair; rw [hab]; rfl
    have HR := Hs.hid hres
    have hbq : (!(a.toList == b.toList)) = false := by rw [hab]; rfl
    clear hres
    go_quiet (fail)
    go_wp2
    go_ret
    exact ⟨by rw [HR.out]; rfl, hx0.drewN _⟩
  · have hab := Bool.eq_false_iff.2 hab
    have hres : isPair a b = decide (digN a = digN b) := by unfold isPair; rw [hab]; rfl
    have HR := Hs.hid hres
    have HS := Hs.hid (show a.size ≤ 100000000 ∧ b.size ≤ 100000000 by omega)
    clear hres
    go_region_held3 (fun w' => w'.cell? ⟨A, 0, none⟩ = some (.string a) ∧ w'.cell? ⟨A, 1, none⟩ = some (.string b))
      (first
        | exact ⟨a0, a1⟩
        | exact ⟨b0, b1⟩
        | exact ⟨d0, d1⟩
        | go_keep)
      (first
        | (go_at_call 12; (with_reducible refine (of_any a HS.out.1 _).mono ?_); rintro e w4 ⟨cs, rfl, hcs, hx4⟩; have hA4 := hx4.same (by first | exact hA | exact hA5) (by simp); have b0 := (show w4.cell? ⟨A, 0, none⟩ = some (.string a) from cellAt hA4 0); have b1 := (show w4.cell? ⟨A, 1, none⟩ = some (.string b) from cellAt hA4 1))
        | (go_at_call 12; (with_reducible refine (of_any b HS.out.2 _).mono ?_); rintro e w5 ⟨ds, rfl, hds, hx5⟩; have hA5 := hx5.same (by first | exact hA | exact hA4) (by simp); have d0 := (show w5.cell? ⟨A, 0, none⟩ = some (.string a) from cellAt hA5 0); have d1 := (show w5.cell? ⟨A, 1, none⟩ = some (.string b) from cellAt hA5 1); have hq := (show ∀ w, (Op.equalIn 10000 35 (.agg cs) (.agg ds)).run Try.prog w = .ok (decide (digN a = digN b)) w from fun w => (by rw [hcs.out, hds.out]; exact run_eq_dig a b w))))
    all_goals go_wp2
    all_goals go_ret
    all_goals exact ⟨by rw [HR.out]; rfl, by first | exact ((hx0.drew).trans0 hx4).trans0 hx5 | exact ((hx0.drew).trans0 hx5).trans0 hx4⟩
theorem node_any (a b : ByteArray) (w : World) : Calls Try.prog 28 #[.agg (digV a), .agg (digV b)] w fun e w' => e = .returned (.string (⟨#[1]⟩ ++ strN (digN a) ++ strN (digN b))) ∧ Ext [] w w' := by
  obtain ⟨hA, hB, hx0, _⟩ := alloc_two' w (.cells (digV a) 35) (.cells (digV b) 35)
  have hc1 : ¬ 9223372036854775807 < 1 + 32 := by decide
  have hs1 := strN_digN a
  have hs2 := strN_digN b
  go_enter Try.func28, Try.ntmps28
  go_upto_region 1 with fail
  generalize (w.alloc (.cells (digV a) 35)).alloc (.cells (digV b) 35) = W at hA hB hx0 ⊢
  refine wp_region_noPanic ?_
  refine wp_region_held_drew (S := (fun w' => w'.heap[w.heap.size]? = some (.cells (digV a) 35 (0, 0)) ∧ w'.heap[w.heap.size + 1]? = some (.cells (digV b) 35 (0, 0)))) (by kernel_rfl) ?_ (fun hHeld => ?_)
  · ((try dsimp only); exact ⟨hA, hB⟩)
  refine wpAnyH_take (i := 0) (v := ?_) rfl (by kernel_rfl) (by kernel_rfl) (by kernel_rfl) (fun _ _ _ h => h) (Or.inl ⟨by rfl, ?_⟩) (by assumption) ?_
  rotate_left
  · (intro w hSw; (try dsimp only at hSw); first | (go_simp; done) | (go_simp; with_reducible rfl))
  try simp only [Act.put, List.getElem_toArray, List.getElem_cons_succ, List.getElem_cons_zero, List.setIfInBounds_toArray, List.set_cons_zero, List.set_cons_succ]
  refine wpAnyH_take (i := 1) (v := ?_) rfl (by kernel_rfl) (by kernel_rfl) (by kernel_rfl) (fun _ _ _ h => h) (Or.inl ⟨by rfl, ?_⟩) (by assumption) ?_
  rotate_left
  · (intro w hSw; (try dsimp only at hSw); have hq := conv_dig hSw.1; first | (go_simp; done) | (go_simp; with_reducible rfl))
  try simp only [Act.put, List.getElem_toArray, List.getElem_cons_succ, List.getElem_cons_zero, List.setIfInBounds_toArray, List.set_cons_zero, List.set_cons_succ]
  refine wpAnyH_take (i := 2) (v := ?_) rfl (by kernel_rfl) (by kernel_rfl) (by kernel_rfl) (fun _ _ _ h => h) (Or.inl ⟨by rfl, ?_⟩) (by assumption) ?_
  rotate_left
  · (intro w hSw; (try dsimp only at hSw); first | (go_simp; done) | (go_simp; with_reducible rfl))
  try simp only [Act.put, List.getElem_toArray, List.getElem_cons_succ, List.getElem_cons_zero, List.setIfInBounds_toArray, List.set_cons_zero, List.set_cons_succ]
  refine wpAnyH_take (i := 3) (v := ?_) rfl (by kernel_rfl) (by kernel_rfl) (by kernel_rfl) (fun _ _ _ h => h) (Or.inl ⟨by rfl, ?_⟩) (by assumption) ?_
  rotate_left
  · (intro w hSw; (try dsimp only at hSw); first | (go_simp; done) | (go_simp; with_reducible rfl))
  try simp only [Act.put, List.getElem_toArray, List.getElem_cons_succ, List.getElem_cons_zero, List.setIfInBounds_toArray, List.set_cons_zero, List.set_cons_succ]
  refine wpAnyH_take (i := 4) (v := ?_) rfl (by kernel_rfl) (by kernel_rfl) (by kernel_rfl) (fun _ _ _ h => h) (Or.inl ⟨by rfl, ?_⟩) (by assumption) ?_
  rotate_left
  · (intro w hSw; (try dsimp only at hSw); have hq := conv_dig hSw.2; first | (go_simp; done) | (go_simp; with_reducible rfl))
  try simp only [Act.put, List.getElem_toArray, List.getElem_cons_succ, List.getElem_cons_zero, List.setIfInBounds_toArray, List.set_cons_zero, List.set_cons_succ]
  refine wpAnyH_take (i := 5) (v := ?_) rfl (by kernel_rfl) (by kernel_rfl) (by kernel_rfl) (fun _ _ _ h => h) (Or.inl ⟨by rfl, ?_⟩) (by assumption) ?_
  rotate_left
  · (intro w hSw; (try dsimp only at hSw); first | (go_simp; done) | (go_simp; with_reducible rfl))
  try simp only [Act.put, List.getElem_toArray, List.getElem_cons_succ, List.getElem_cons_zero, List.setIfInBounds_toArray, List.set_cons_zero, List.set_cons_succ]
  refine wpAnyH_take (i := 6) (v := ?_) rfl (by kernel_rfl) (by kernel_rfl) (by kernel_rfl) (fun _ _ _ h => h) (Or.inl ⟨by rfl, ?_⟩) (by assumption) ?_
  rotate_left
  · (intro w hSw; (try dsimp only at hSw); first | (go_simp; done) | (go_simp; with_reducible rfl))
  try simp only [Act.put, List.getElem_toArray, List.getElem_cons_succ, List.getElem_cons_zero, List.setIfInBounds_toArray, List.set_cons_zero, List.set_cons_succ]
  refine wpAnyH_done (by kernel_rfl) ?_ _
  refine NoPanic.normal ?_
  go_wp2
  go_ret
  exact ⟨rfl, hx0.drew⟩
end Go.Proofs.Ytjicjadibaomkaa
set_option linter.unusedSimpArgs false
set_option linter.unusedVariables false
set_option maxHeartbeats 2000000
set_option maxRecDepth 100000
namespace Go.Proofs.Ytjicjadibaomkaa
open Go.RowKit Go.Hs Go.Dg

theorem yieldsIf_load_row {P : Program} {ops : Array Oper} {S : World → Prop} {op : Oper} {a : Act} (hw : Region.wanted op (yielded ops a.tmps) = true) (ty : TypeId) (x : Operand) (ho : op.op = .load ty x)
    (g : Nat) (hx : a.eval x = .pointer (some ⟨g, 0, none⟩)) (cs : Array Value) (d : TypeDesc) (hS : ∀ w, S w → ∃ t fr, w.heap[g]? = some (.cells cs t fr))
    (hu : P.underlying ty = some d) (hd : (match d with | .struct _ | .array _ _ => true | _ => false) = true) (hi : (P.info? ty).map (·.size) = some cs.size) : YieldsIf P ops S op (.agg cs) a :=
  .inl ⟨hw, fun w hw' => by
    obtain ⟨t, fr, hg⟩ := hS w hw'
    unfold execOp
    simp only [ho, hx, Instr.loadAt, Instr.sureAddr, Sem.run_bind, Sem.run_pure, Result.andThen_ok, run_loadVar_row w g t ty cs fr d hg hu hd hi]⟩
theorem infoStr : (Try.prog.info? 9).map (fun i => (i.zero, i.size, i.bytes)) = some (some (.string ⟨#[]⟩), 1, 16) := by kernel_rfl
theorem half_two (w : World) : Calls Try.prog 27 #[.int .i64 2] w fun e w' => e = .returned (.int .i64 1) ∧ w' = w := by
  go_enter Try.func27, Try.ntmps27
  go_wp2
  refine wp_loop_rounds 1 ?_
  rw [rounds_succ]
  go_wp2
  go_ret
  exact ⟨rfl, rfl⟩
theorem way_one (ao : Option Addr) (cap : Nat) (w : World) : Calls Try.prog 10 #[.string ⟨#[97]⟩, .int .i64 0, .int .i64 1, .slice ao 0 cap] w fun e w' =>
    ∃ g, e = .returned (.tuple #[.slice (some ⟨g, 0, none⟩) 1 1, .bool true]) ∧ w'.heap[g]? = some (.cells #[.string ⟨#[0, 97]⟩] 9 (0, 0)) ∧ Ext [] w w' ∧ w.heap.size ≤ g := by
  go_enter Try.func10, Try.ntmps10
  go_wp2
  go_ret2
  exact ⟨_, rfl, heap_new _ _, (Ext.refl _ _).alloc _, Nat.le_refl _⟩
theorem cut_any (s : ByteArray) (n : Nat) (hn : n ≤ 1000000) (w : World) (hs : s.size ≤ maxLen) : Calls Try.prog 16 #[.string s, .int .i64 n] w fun e w' => ∃ t : ByteArray, e = .returned (.string t) ∧ t.size ≤ n ∧ w' = w := by
  unfold maxLen at hs
  have h1 : (n : Int) ≤ 1000000 := by omega
  have h2 : (0 : Int) ≤ n := by omega
  have h3 : (s.size : Int) ≤ 9223372036854775807 := by omega
  by_cases h : n < s.size
  · have hi : (n : Int) < s.size := by omega
    have HN := Hs.hid h
    clear h
    go_enter Try.func16, Try.ntmps16
    go_wp2
    go_ret
    exact ⟨_, rfl, by rw [ByteArray.size_extract]; omega, rfl⟩
  · have hi : ¬ (n : Int) < s.size := by omega
    have HN := Hs.hid h
    clear h
    go_enter Try.func16, Try.ntmps16
    go_wp2
    go_ret
    exact ⟨_, rfl, by have := HN.out; omega, rfl⟩
theorem way_two (x : ByteArray) (G cap : Nat) (fr : Nat × Nat) (w : World) (hG : w.heap[G]? = some (.cells (digV x) 35 fr)) : Calls Try.prog 10 #[.string ⟨#[97]⟩, .int .i64 0, .int .i64 2, .slice (some ⟨G, 0, none⟩) 1 cap] w fun e w' =>
    ∃ g c, e = .returned (.tuple #[.slice (some ⟨g, 0, none⟩) 2 c, .bool true]) ∧ Own w'.heap 9 1 (.slice (some ⟨g, 0, none⟩) 2 c) 2 [.string (⟨#[1]⟩ ++ strN (digN ⟨#[0, 97]⟩) ++ strN (digN x)), .string ⟨#[0, 97]⟩] ∧ Ext [] w w' := by
  obtain ⟨i0, hi, hz0, hz1, hz2⟩ := info_parts infoStr
  have HI := Hs.hid hi
  have HZ := Hs.hid (And.intro hz0 (And.intro hz1 hz2))
  clear hi hz0 hz1 hz2
  have hw0 : IntKind.i64.wrap 0 = 0 := by decide
  have hw1 : IntKind.i64.wrap (1 - 1) = 0 := by decide
  go_enter Try.func10, Try.ntmps10
  go_upto_region 5 with fail
  go_cut [10, 11] (fun s10 s11 wx => ∃ N, s10 = .pointer (some ⟨N, 0, none⟩) ∧ s11 = .int .i64 1 ∧ wx.heap[N]? = some (.cells (digV x) 35 (0, 0)) ∧ Ext [] w wx)
  case first =>
    refine wp_region_noPanic ?_
    refine wp_region_held_drew (S := (fun w' => w'.heap[G]? = some (.cells (digV x) 35 fr))) (by kernel_rfl) ?_ (fun hHeld => ?_)
    · ((try dsimp only); exact hG)
    refine wpAnyH_take (i := 0) (v := ?_) rfl (by kernel_rfl) (by kernel_rfl) (by kernel_rfl) (fun _ _ _ h => h) (Or.inl ⟨by rfl, ?_⟩) (by assumption) ?_
    rotate_left
    · (intro w hSw; (try dsimp only at hSw); first | (go_simp; done) | (go_simp; with_reducible rfl))
    try simp only [Act.put, List.getElem_toArray, List.getElem_cons_succ, List.getElem_cons_zero, List.setIfInBounds_toArray, List.set_cons_zero, List.set_cons_succ]
    refine wpAnyH_take (i := 1) (v := ?_) rfl (by kernel_rfl) (by kernel_rfl) (by kernel_rfl) (fun _ _ _ h => h) (Or.inl ⟨by rfl, ?_⟩) (by assumption) ?_
    rotate_left
    · (intro w hSw; (try dsimp only at hSw); first | (go_simp; done) | (go_simp; with_reducible rfl))
    try simp only [Act.put, List.getElem_toArray, List.getElem_cons_succ, List.getElem_cons_zero, List.setIfInBounds_toArray, List.set_cons_zero, List.set_cons_succ]
    refine wpAnyH_take (i := 2) (v := ?_) rfl (by kernel_rfl) (by kernel_rfl) (by kernel_rfl) (fun _ _ _ h => h) (Or.inl ⟨by rfl, ?_⟩) (by assumption) ?_
    rotate_left
    · (intro w hSw; (try dsimp only at hSw); first | (go_simp; done) | (go_simp; with_reducible rfl))
    try simp only [Act.put, List.getElem_toArray, List.getElem_cons_succ, List.getElem_cons_zero, List.setIfInBounds_toArray, List.set_cons_zero, List.set_cons_succ]
    refine wpAnyH_take (i := 3) (v := ?_) rfl (by kernel_rfl) (by kernel_rfl) (by kernel_rfl) (fun _ _ _ h => h) (Or.inl ⟨by rfl, ?_⟩) (by assumption) ?_
    rotate_left
    · (intro w hSw; (try dsimp only at hSw); first | (go_simp; done) | (go_simp; with_reducible rfl))
    try simp only [Act.put, List.getElem_toArray, List.getElem_cons_succ, List.getElem_cons_zero, List.setIfInBounds_toArray, List.set_cons_zero, List.set_cons_succ]
    refine wpAnyH_take (i := 4) (v := ?_) rfl (by kernel_rfl) (by kernel_rfl) (by kernel_rfl) (fun _ _ _ h => h) (Or.inl ⟨by rfl, ?_⟩) (by assumption) ?_
    rotate_left
    · (intro w hSw; (try dsimp only at hSw); first | (go_simp; done) | (go_simp; with_reducible rfl))
    try simp only [Act.put, List.getElem_toArray, List.getElem_cons_succ, List.getElem_cons_zero, List.setIfInBounds_toArray, List.set_cons_zero, List.set_cons_succ]
    refine wpAnyH_take (i := 5) (v := _) rfl (by kernel_rfl) (by kernel_rfl) (by kernel_rfl) (fun _ _ _ h => h) (yieldsIf_load_row (by rfl) 35 _ rfl G rfl (digV x) _ (fun w h => ⟨_, _, h⟩) Try.underlying35 rfl (by rw [digV_size]; exact infoSum)) (by assumption) ?_
    try simp only [Act.put, List.getElem_toArray, List.getElem_cons_succ, List.getElem_cons_zero, List.setIfInBounds_toArray, List.set_cons_zero, List.set_cons_succ]
    refine wpAnyH_take (i := 6) (v := ?_) rfl (by kernel_rfl) (by kernel_rfl) (by kernel_rfl) (fun _ _ _ h => h) (Or.inl ⟨by rfl, ?_⟩) (by assumption) ?_
    rotate_left
    · (intro w hSw; (try dsimp only at hSw); first | (go_simp; done) | (go_simp; with_reducible rfl))
    try simp only [Act.put, List.getElem_toArray, List.getElem_cons_succ, List.getElem_cons_zero, List.setIfInBounds_toArray, List.set_cons_zero, List.set_cons_succ]
    refine wpAnyH_ready (rs := [7, 8]) (by kernel_rfl) (by simp) ?_
    refine AllReadyH.cons rfl (fun K hK => ?_) (AllReadyH.cons rfl (fun K hK => ?_) AllReadyH.nil)
    · go_simp
      (go_at_call 27; refine (half_two _).mono ?_; rintro e w4 ⟨rfl, rfl⟩)
      go_wp2_with fail
      refine hK.out _ _ ?_ (fun hHeld => ?_)
      · ((try dsimp only); exact hHeld)
      clear hK K
      try simp only [Act.put, List.getElem_toArray, List.getElem_cons_succ, List.getElem_cons_zero, List.setIfInBounds_toArray, List.set_cons_zero, List.set_cons_succ]
      refine wpAnyH_ready (rs := [8]) (by kernel_rfl) (by simp) ?_
      refine AllReadyH.cons rfl (fun K hK => ?_) AllReadyH.nil
      rw [if_pos (by rfl)]
      go_simp
      refine hK.out _ _ ?_ (fun hHeld => ?_)
      · ((try dsimp only); exact heap_old' _ _ hHeld)
      clear hK K
      try simp only [Act.put, List.getElem_toArray, List.getElem_cons_succ, List.getElem_cons_zero, List.setIfInBounds_toArray, List.set_cons_zero, List.set_cons_succ]
      refine wpAnyH_ready (rs := [9]) (by kernel_rfl) (by simp) ?_
      refine AllReadyH.cons rfl (fun K hK => ?_) AllReadyH.nil
      rw [if_pos (by rfl)]
      (refine wp_store_row 35 _ _ rfl _ (digV x) rfl rfl _ _ (heap_new _ _) (by rw [digV_size]; exact infoSum) (by rw [digV_size]; rfl) (digV_one x) ?_)
      refine hK.out _ _ ?_ (fun hHeld => ?_)
      · ((try dsimp only); (rw [setRow_other _ _ _ _ (by have := lt_of_heap hG; simp; omega)]; exact hHeld))
      clear hK K
      try simp only [Act.put, List.getElem_toArray, List.getElem_cons_succ, List.getElem_cons_zero, List.setIfInBounds_toArray, List.set_cons_zero, List.set_cons_succ]
      refine wpAnyH_take (i := 10) (v := ?_) rfl (by kernel_rfl) (by kernel_rfl) (by kernel_rfl) (fun _ _ _ h => h) (Or.inl ⟨by rfl, ?_⟩) (by assumption) ?_
      rotate_left
      · (intro w hSw; (try dsimp only at hSw); first | (go_simp; done) | (go_simp; with_reducible rfl))
      try simp only [Act.put, List.getElem_toArray, List.getElem_cons_succ, List.getElem_cons_zero, List.setIfInBounds_toArray, List.set_cons_zero, List.set_cons_succ]
      refine wpAnyH_done (by kernel_rfl) ?_ _
      refine NoPanic.normal ?_
      go_wp2
      go_meet
      exact ⟨_, rfl, rfl, setRow_heap _ _ _ _ _ _ (heap_new _ _), (((Ext.refl [] w).drew).alloc _).trans (setRow_ext _ _) (fun g hg => .inr (by simp at hg; omega))⟩
    · rw [if_pos (by rfl)]
      go_simp
      refine hK.out _ _ ?_ (fun hHeld => ?_)
      · ((try dsimp only); exact heap_old' _ _ hHeld)
      clear hK K
      try simp only [Act.put, List.getElem_toArray, List.getElem_cons_succ, List.getElem_cons_zero, List.setIfInBounds_toArray, List.set_cons_zero, List.set_cons_succ]
      refine wpAnyH_ready (rs := [7]) (by kernel_rfl) (by simp) ?_
      refine AllReadyH.cons rfl (fun K hK => ?_) AllReadyH.nil
      go_simp
      (go_at_call 27; refine (half_two _).mono ?_; rintro e w4 ⟨rfl, rfl⟩)
      go_wp2_with fail
      refine hK.out _ _ ?_ (fun hHeld => ?_)
      · ((try dsimp only); exact hHeld)
      clear hK K
      try simp only [Act.put, List.getElem_toArray, List.getElem_cons_succ, List.getElem_cons_zero, List.setIfInBounds_toArray, List.set_cons_zero, List.set_cons_succ]
      refine wpAnyH_ready (rs := [9]) (by kernel_rfl) (by simp) ?_
      refine AllReadyH.cons rfl (fun K hK => ?_) AllReadyH.nil
      rw [if_pos (by rfl)]
      (refine wp_store_row 35 _ _ rfl _ (digV x) rfl rfl _ _ (heap_new _ _) (by rw [digV_size]; exact infoSum) (by rw [digV_size]; rfl) (digV_one x) ?_)
      refine hK.out _ _ ?_ (fun hHeld => ?_)
      · ((try dsimp only); (rw [setRow_other _ _ _ _ (by have := lt_of_heap hG; simp; omega)]; exact hHeld))
      clear hK K
      try simp only [Act.put, List.getElem_toArray, List.getElem_cons_succ, List.getElem_cons_zero, List.setIfInBounds_toArray, List.set_cons_zero, List.set_cons_succ]
      refine wpAnyH_take (i := 10) (v := ?_) rfl (by kernel_rfl) (by kernel_rfl) (by kernel_rfl) (fun _ _ _ h => h) (Or.inl ⟨by rfl, ?_⟩) (by assumption) ?_
      rotate_left
      · (intro w hSw; (try dsimp only at hSw); first | (go_simp; done) | (go_simp; with_reducible rfl))
      try simp only [Act.put, List.getElem_toArray, List.getElem_cons_succ, List.getElem_cons_zero, List.setIfInBounds_toArray, List.set_cons_zero, List.set_cons_succ]
      refine wpAnyH_done (by kernel_rfl) ?_ _
      refine NoPanic.normal ?_
      go_wp2
      go_meet
      exact ⟨_, rfl, rfl, setRow_heap _ _ _ _ _ _ (heap_new _ _), (((Ext.refl [] w).drew).alloc _).trans (setRow_ext _ _) (fun g hg => .inr (by simp at hg; omega))⟩
  case rest =>
    obtain ⟨N, rfl, rfl, hN, hx⟩ := hcut
    go_upto_region 12 with (go_at_call 10; refine (way_one _ _ _).mono ?_; rintro e w5 ⟨g, rfl, hg, hx5, hgl⟩)
    have hN := hx5.same hN (by simp)
    have hx := hx.trans0 hx5
    have hg0 : w5.cell? ⟨g, 0, none⟩ = some (.string ⟨#[0, 97]⟩) := cellAt hg 0
    clear hx5 hgl
    go_cut [16] (fun s16 wx => s16 = .string (⟨#[1]⟩ ++ strN (digN ⟨#[0, 97]⟩) ++ strN (digN x)) ∧ Ext [] w5 wx)
    case first =>
      refine wp_region_noPanic ?_
      refine wp_region_held_drew (S := (fun w' => w'.heap[N]? = some (.cells (digV x) 35 (0, 0)) ∧ w'.cell? ⟨g, 0, none⟩ = some (.string ⟨#[0, 97]⟩))) (by kernel_rfl) ?_ (fun hHeld => ?_)
      · ((try dsimp only); exact ⟨hN, hg0⟩)
      refine wpAnyH_take (i := 0) (v := ?_) rfl (by kernel_rfl) (by kernel_rfl) (by kernel_rfl) (fun _ _ _ h => h) (Or.inl ⟨by rfl, ?_⟩) (by assumption) ?_
      rotate_left
      · (intro w hSw; (try dsimp only at hSw); first | (go_simp; done) | (go_simp; with_reducible rfl))
      try simp only [Act.put, List.getElem_toArray, List.getElem_cons_succ, List.getElem_cons_zero, List.setIfInBounds_toArray, List.set_cons_zero, List.set_cons_succ]
      refine wpAnyH_take (i := 1) (v := ?_) rfl (by kernel_rfl) (by kernel_rfl) (by kernel_rfl) (fun _ _ _ h => h) (Or.inl ⟨by rfl, ?_⟩) (by assumption) ?_
      rotate_left
      · (intro w hSw; (try dsimp only at hSw); first | (go_simp; done) | (go_simp; with_reducible rfl))
      try simp only [Act.put, List.getElem_toArray, List.getElem_cons_succ, List.getElem_cons_zero, List.setIfInBounds_toArray, List.set_cons_zero, List.set_cons_succ]
      refine wpAnyH_take (i := 2) (v := ?_) rfl (by kernel_rfl) (by kernel_rfl) (by kernel_rfl) (fun _ _ _ h => h) (Or.inl ⟨by rfl, ?_⟩) (by assumption) ?_
      rotate_left
      · (intro w hSw; (try dsimp only at hSw); first | (go_simp; done) | (go_simp; with_reducible rfl))
      try simp only [Act.put, List.getElem_toArray, List.getElem_cons_succ, List.getElem_cons_zero, List.setIfInBounds_toArray, List.set_cons_zero, List.set_cons_succ]
      refine wpAnyH_take (i := 4) (v := _) rfl (by kernel_rfl) (by kernel_rfl) (by kernel_rfl) (fun _ _ _ h => h) (yieldsIf_load_row (by rfl) 35 _ rfl N rfl (digV x) _ (fun w h => ⟨_, _, h.1⟩) Try.underlying35 rfl (by rw [digV_size]; exact infoSum)) (by assumption) ?_
      try simp only [Act.put, List.getElem_toArray, List.getElem_cons_succ, List.getElem_cons_zero, List.setIfInBounds_toArray, List.set_cons_zero, List.set_cons_succ]
      refine wpAnyH_ready (rs := [3]) (by kernel_rfl) (by simp) ?_
      refine AllReadyH.cons rfl (fun K hK => ?_) AllReadyH.nil
      go_simp
      (go_at_call 12; refine (of_any ⟨#[0, 97]⟩ (by decide) _).mono ?_; rintro e w6 ⟨cs, rfl, hcs, hx6⟩; obtain rfl := hcs.out)
      go_wp2_with fail
      refine hK.out _ _ ?_ (fun hHeld => ?_)
      · ((try dsimp only); exact ⟨hx6.same hHeld.1 (by simp), (show _ from cellAt (hx6.same (show _ from hg) (by simp)) 0)⟩)
      clear hK K
      try simp only [Act.put, List.getElem_toArray, List.getElem_cons_succ, List.getElem_cons_zero, List.setIfInBounds_toArray, List.set_cons_zero, List.set_cons_succ]
      refine wpAnyH_ready (rs := [5]) (by kernel_rfl) (by simp) ?_
      refine AllReadyH.cons rfl (fun K hK => ?_) AllReadyH.nil
      go_simp
      (go_at_call 28; refine (node_any ⟨#[0, 97]⟩ x _).mono ?_; rintro e w7 ⟨rfl, hx7⟩)
      go_wp2_with fail
      refine hK.out _ _ ?_ (fun hHeld => ?_)
      · ((try dsimp only); exact ⟨hx7.same hHeld.1 (by simp), (show _ from cellAt (hx7.same (hx6.same (show _ from hg) (by simp)) (by simp)) 0)⟩)
      clear hK K
      try simp only [Act.put, List.getElem_toArray, List.getElem_cons_succ, List.getElem_cons_zero, List.setIfInBounds_toArray, List.set_cons_zero, List.set_cons_succ]
      refine wpAnyH_take (i := 6) (v := ?_) rfl (by kernel_rfl) (by kernel_rfl) (by kernel_rfl) (fun _ _ _ h => h) (Or.inl ⟨by rfl, ?_⟩) (by assumption) ?_
      rotate_left
      · (intro w hSw; (try dsimp only at hSw); first | (go_simp; done) | (go_simp; with_reducible rfl))
      try simp only [Act.put, List.getElem_toArray, List.getElem_cons_succ, List.getElem_cons_zero, List.setIfInBounds_toArray, List.set_cons_zero, List.set_cons_succ]
      refine wpAnyH_done (by kernel_rfl) ?_ _
      refine NoPanic.normal ?_
      go_wp2
      go_meet
      exact ⟨rfl, ((Ext.refl [] w5).drew.trans0 hx6).trans0 hx7⟩
    case rest =>
      obtain ⟨rfl, hx6⟩ := hcut
      have hg := hx6.same hg (by simp)
      have hx := hx.trans0 hx6
      clear hx6 hg0 hN
      have hi := HI.out
      obtain ⟨hz0, hz1, hz2⟩ := HZ.out
      have hgl := lt_of_heap hg
      have hown : Own (wc.alloc (.cells #[.string (⟨#[1]⟩ ++ strN (digN ⟨#[0, 97]⟩) ++ strN (digN x))] 9)).heap 9 1 (.slice (some ⟨wc.heap.size, 0, none⟩) 1 1) 1 [.string (⟨#[1]⟩ ++ strN (digN ⟨#[0, 97]⟩) ++ strN (digN x))] :=
        ⟨rfl, .inr ⟨_, 1, _, rfl, Nat.zero_le _, heap_new _ _, Nat.le_refl _, by decide, rfl, rfl⟩⟩
      have hnews : ∀ j u, ([Value.string ⟨#[0, 97]⟩] : List Value)[j]? = some u → (wc.alloc (.cells #[.string (⟨#[1]⟩ ++ strN (digN ⟨#[0, 97]⟩) ++ strN (digN x))] 9)).cell? ((⟨g, 0, none⟩ : Addr).add j) = some u := by
        intro j u hj
        rw [add_off', cellAt (heap_old' _ _ hg) j]
        simpa using hj
      generalize htx : (⟨#[1]⟩ ++ strN (digN ⟨#[0, 97]⟩) ++ strN (digN x) : ByteArray) = text at *
      have HT := Hs.hid htx
      clear htx
      go_wp2_with (at_builtin; refine wpList_append rfl (.tmp 98) (.tmp 99) 22 rfl 9 i0 _ 1 16 Try.underlying22 hi hz0 hz1 hz2 rfl (by decide) (.slice (some ⟨wc.heap.size, 0, none⟩) 1 1) 1 _ rfl hown ⟨g, 0, none⟩ 1 1 [.string ⟨#[0, 97]⟩] rfl rfl hnews (by simp [Value.oneCell']) (by decide) (by decide) ?_; intro ao2 cap2 w2 hl2 hx2 hf2)
      go_ret2
      have hxf : Ext [] w w2 := (hx.alloc (.cells #[.string text] 9)).trans hx2 (fun q hq => .inr (by simp [Value.ownBlock] at hq; subst hq; exact hx.size))
      rcases hl2.2 with ⟨_, q⟩ | ⟨g2, c2, cur, q1, q2⟩
      · omega
      · cases q1
        exact ⟨g2, _, rfl, by rw [HT.out]; exact hl2, hxf⟩
end Go.Proofs.Ytjicjadibaomkaa
set_option linter.unusedSimpArgs false
set_option linter.unusedVariables false
set_option maxHeartbeats 2000000
set_option maxRecDepth 100000
namespace Go.Proofs.Ytjicjadibaomkaa
open Go.RowKit Go.Hs Go.Dg

theorem nodeC_any (a b : S32) (w : World) : Calls Try.prog 28 #[.agg (a.V), .agg (b.V)] w fun e w' => e = .returned (.string (⟨#[1]⟩ ++ a.s ++ b.s)) ∧ Ext [] w w' := by
  obtain ⟨hA, hB, hx0, _⟩ := alloc_two' w (.cells (a.V) 35) (.cells (b.V) 35)
  have hc1 : ¬ 9223372036854775807 < 1 + 32 := by decide
  have hs1 := a.ssize
  have hs2 := b.ssize
  go_enter Try.func28, Try.ntmps28
  go_upto_region 1 with fail
  generalize (w.alloc (.cells (a.V) 35)).alloc (.cells (b.V) 35) = W at hA hB hx0 ⊢
  refine wp_region_noPanic ?_
  refine wp_region_held_drew (S := (fun w' => w'.heap[w.heap.size]? = some (.cells (a.V) 35 (0, 0)) ∧ w'.heap[w.heap.size + 1]? = some (.cells (b.V) 35 (0, 0)))) (by kernel_rfl) ?_ (fun hHeld => ?_)
  · ((try dsimp only); exact ⟨hA, hB⟩)
  refine wpAnyH_take (i := 0) (v := ?_) rfl (by kernel_rfl) (by kernel_rfl) (by kernel_rfl) (fun _ _ _ h => h) (Or.inl ⟨by rfl, ?_⟩) (by assumption) ?_
  rotate_left
  · (intro w hSw; (try dsimp only at hSw); first | (go_simp; done) | (go_simp; with_reducible rfl))
  try simp only [Act.put, List.getElem_toArray, List.getElem_cons_succ, List.getElem_cons_zero, List.setIfInBounds_toArray, List.set_cons_zero, List.set_cons_succ]
  refine wpAnyH_take (i := 1) (v := ?_) rfl (by kernel_rfl) (by kernel_rfl) (by kernel_rfl) (fun _ _ _ h => h) (Or.inl ⟨by rfl, ?_⟩) (by assumption) ?_
  rotate_left
  · (intro w hSw; (try dsimp only at hSw); have hq := conv_V hSw.1; first | (go_simp; done) | (go_simp; with_reducible rfl))
  try simp only [Act.put, List.getElem_toArray, List.getElem_cons_succ, List.getElem_cons_zero, List.setIfInBounds_toArray, List.set_cons_zero, List.set_cons_succ]
  refine wpAnyH_take (i := 2) (v := ?_) rfl (by kernel_rfl) (by kernel_rfl) (by kernel_rfl) (fun _ _ _ h => h) (Or.inl ⟨by rfl, ?_⟩) (by assumption) ?_
  rotate_left
  · (intro w hSw; (try dsimp only at hSw); first | (go_simp; done) | (go_simp; with_reducible rfl))
  try simp only [Act.put, List.getElem_toArray, List.getElem_cons_succ, List.getElem_cons_zero, List.setIfInBounds_toArray, List.set_cons_zero, List.set_cons_succ]
  refine wpAnyH_take (i := 3) (v := ?_) rfl (by kernel_rfl) (by kernel_rfl) (by kernel_rfl) (fun _ _ _ h => h) (Or.inl ⟨by rfl, ?_⟩) (by assumption) ?_
  rotate_left
  · (intro w hSw; (try dsimp only at hSw); first | (go_simp; done) | (go_simp; with_reducible rfl))
  try simp only [Act.put, List.getElem_toArray, List.getElem_cons_succ, List.getElem_cons_zero, List.setIfInBounds_toArray, List.set_cons_zero, List.set_cons_succ]
  refine wpAnyH_take (i := 4) (v := ?_) rfl (by kernel_rfl) (by kernel_rfl) (by kernel_rfl) (fun _ _ _ h => h) (Or.inl ⟨by rfl, ?_⟩) (by assumption) ?_
  rotate_left
  · (intro w hSw; (try dsimp only at hSw); have hq := conv_V hSw.2; first | (go_simp; done) | (go_simp; with_reducible rfl))
  try simp only [Act.put, List.getElem_toArray, List.getElem_cons_succ, List.getElem_cons_zero, List.setIfInBounds_toArray, List.set_cons_zero, List.set_cons_succ]
  refine wpAnyH_take (i := 5) (v := ?_) rfl (by kernel_rfl) (by kernel_rfl) (by kernel_rfl) (fun _ _ _ h => h) (Or.inl ⟨by rfl, ?_⟩) (by assumption) ?_
  rotate_left
  · (intro w hSw; (try dsimp only at hSw); first | (go_simp; done) | (go_simp; with_reducible rfl))
  try simp only [Act.put, List.getElem_toArray, List.getElem_cons_succ, List.getElem_cons_zero, List.setIfInBounds_toArray, List.set_cons_zero, List.set_cons_succ]
  refine wpAnyH_take (i := 6) (v := ?_) rfl (by kernel_rfl) (by kernel_rfl) (by kernel_rfl) (fun _ _ _ h => h) (Or.inl ⟨by rfl, ?_⟩) (by assumption) ?_
  rotate_left
  · (intro w hSw; (try dsimp only at hSw); first | (go_simp; done) | (go_simp; with_reducible rfl))
  try simp only [Act.put, List.getElem_toArray, List.getElem_cons_succ, List.getElem_cons_zero, List.setIfInBounds_toArray, List.set_cons_zero, List.set_cons_succ]
  refine wpAnyH_done (by kernel_rfl) ?_ _
  refine NoPanic.normal ?_
  go_wp2
  go_ret
  exact ⟨rfl, hx0.drew⟩
end Go.Proofs.Ytjicjadibaomkaa
set_option linter.unusedSimpArgs false
set_option linter.unusedVariables false
set_option maxHeartbeats 2000000
set_option maxRecDepth 100000
namespace Go.Proofs.Ytjicjadibaomkaa
open Go.RowKit Go.Hs Go.Dg

theorem chalf_any (n : Nat) (h2 : 2 ≤ n) (hn : n ≤ 2 ^ 40) (w : World) : Calls Try.prog 27 #[.int .i64 n] w fun e w' => e = .returned (.int .i64 (halfN n : Int)) ∧ w' = w := by
  have hp : (2 : Nat) ^ 40 = 1099511627776 := by decide
  rw [hp] at hn
  go_enter Try.func27, Try.ntmps27
  go_wp2_with fail
  go_loopw [3] (fun kv wr => ∃ j : Nat, kv = .int .i64 ((2 ^ j : Nat) : Int) ∧ 2 ^ j < n ∧ wr = w) (fun kv _ => n - (intOf kv).toNat)
  case atStart => exact ⟨0, rfl, by show 1 < n; omega, rfl⟩
  case round =>
    obtain ⟨j, rfl, hj, rfl⟩ := hrel
    have hpos := Nat.two_pow_pos j
    have hs : (2 : Nat) ^ (j + 1) = 2 * 2 ^ j := by rw [Nat.pow_succ]; omega
    have HH := Hs.hid (fun h => halfN_le (n := n) (h := j) (show 2 ^ j ≤ n - 1 by omega) h)
    generalize (2 : Nat) ^ j = p at hj hpos hs HH ⊢
    by_cases hlt : 2 * p < n
    · have hlt' : (2 : Int) * p < n := by omega
      go_wp2
      go_round
      case rel => exact ⟨j + 1, by rw [hs]; go_num, by rw [hs]; exact ⟨hlt, trivial⟩⟩
      case measure => simp [intOf]; omega
    · have hlt' : ¬ (2 : Int) * p < n := by omega
      have hq := Hs.hid (HH.out (by rw [hs]; omega))
      clear hs
      go_wp2
      go_ret
      exact ⟨by rw [hq.out]; rfl, rfl⟩
end Go.Proofs.Ytjicjadibaomkaa
set_option linter.unusedSimpArgs false
set_option linter.unusedVariables false
set_option maxHeartbeats 1000000
namespace Go.Proofs.Ytjicjadibaomkaa
open Go.RowKit Go.Hs Go.Dg

/-- One sum more: the text ahead. -/
def wayStep (d : Bool) (s : S32) (l : List ByteArray) : List ByteArray := (if d then node2 s.s (dig (l.headD ⟨#[]⟩)).s else node2 (dig (l.headD ⟨#[]⟩)).s s.s) :: l
/-- The texts, from the root to the leaf: of the sides and sums from within out. -/
def wayL : List Bool → List S32 → List ByteArray → List ByteArray
  | d :: ds, s :: ss, l => wayL ds ss (wayStep d s l)
  | _, _, l => l
theorem wayL_snoc : ∀ (ds : List Bool) (ss : List S32) (l : List ByteArray) (d : Bool) (s : S32), ds.length = ss.length → wayL (ds ++ [d]) (ss ++ [s]) l = wayStep d s (wayL ds ss l)
  | [], [], l, d, s, _ => rfl
  | [], t :: ss, l, d, s, h => by simp at h
  | c :: ds, [], l, d, s, h => by simp at h
  | c :: ds, t :: ss, l, d, s, h => wayL_snoc ds ss _ d s (by simpa using h)
theorem wayL_len : ∀ (ds : List Bool) (ss : List S32) (l : List ByteArray), ds.length = ss.length → (wayL ds ss l).length = l.length + ss.length
  | [], [], l, _ => rfl
  | [], t :: ss, l, h => by simp at h
  | c :: ds, [], l, h => by simp at h
  | c :: ds, t :: ss, l, h => by
    show (wayL ds ss _).length = _
    rw [wayL_len ds ss _ (by simpa using h)]
    simp [wayStep]; omega
theorem nodeS_def (x y : S32) : nodeS x y = dig (node2 x.s y.s) := rfl
attribute [local irreducible] dig nodeS node2
/-- The outermost text's sum is the root that the sums reckon. -/
theorem wayL_root : ∀ (ds : List Bool) (ss : List S32) (l : List ByteArray) (x : S32), ds.length = ss.length → dig (l.headD ⟨#[]⟩) = x → dig ((wayL ds ss l).headD ⟨#[]⟩) = foldU nodeS ds x ss
  | [], [], l, x, _, h => h
  | [], t :: ss, l, x, h, _ => by simp at h
  | c :: ds, [], l, x, h, _ => by simp at h
  | c :: ds, t :: ss, l, x, h, hx => by
    show dig ((wayL ds ss (wayStep c t l)).headD ⟨#[]⟩) = foldU nodeS ds (nodeD nodeS c t x) ss
    refine wayL_root ds ss _ _ (by simpa using h) ?_
    unfold wayStep nodeD
    rw [hx, List.headD_cons]
    cases c
    · rw [if_neg (by decide), if_neg (by decide), nodeS_def]
    · rw [if_pos rfl, if_pos rfl, nodeS_def]
theorem wayL_last : ∀ (ds : List Bool) (ss : List S32) (l : List ByteArray), l ≠ [] → (wayL ds ss l).getLast? = l.getLast?
  | [], _, l, _ => by cases l <;> rfl
  | c :: ds, [], l, _ => rfl
  | c :: ds, t :: ss, l, h => by
    show (wayL ds ss (wayStep c t l)).getLast? = _
    rw [wayL_last ds ss _ (by simp [wayStep])]
    unfold wayStep
    cases l with
    | nil => exact absurd rfl h
    | cons a l => rw [List.getLast?_cons_cons]
theorem wayL_sizes : ∀ (ds : List Bool) (ss : List S32) (l : List ByteArray) (m : Nat), 65 ≤ m → (∀ t ∈ l, t.size ≤ m) → ∀ t ∈ wayL ds ss l, t.size ≤ m
  | [], _, l, m, _, h => by cases l <;> exact h
  | c :: ds, [], l, m, _, h => h
  | c :: ds, s :: ss, l, m, h65, h => by
    refine wayL_sizes ds ss _ m h65 ?_
    intro t ht
    rcases List.mem_cons.1 ht with rfl | ht
    · have h1 := s.ssize
      have h2 := (dig (l.headD ⟨#[]⟩)).ssize
      split <;> rw [node2_size] <;> omega
    · exact h t ht
end Go.Proofs.Ytjicjadibaomkaa
set_option linter.unusedSimpArgs false
set_option linter.unusedVariables false
set_option maxHeartbeats 4000000
set_option maxRecDepth 100000
namespace Go.Proofs.Ytjicjadibaomkaa
open Go.RowKit Go.Hs Go.Dg

theorem snoc_casesV (xs : List S32) : xs = [] ∨ ∃ ys y, xs = ys ++ [y] := by
  rcases List.eq_nil_or_concat xs with h | ⟨ys, y, h⟩
  · exact .inl h
  · exact .inr ⟨ys, y, by rw [h, List.concat_eq_append]⟩
theorem boxExt' {w : World} (o : Obj) (x : Array Value) : Ext [] w ((w.alloc o).setRow w.heap.size x) :=
  ((Ext.refl [] w).alloc o).trans (setRow_ext _ _) (fun g hg => .inr (by simp at hg; omega))
theorem dirs_le (n : Nat) : ∀ i, (dirs i n).length ≤ n := by
  induction n using Nat.strongRecOn with
  | _ n ih =>
    intro i
    by_cases h : n ≤ 1
    · rw [dirs, dif_pos h]; simp
    · have h1 := halfN_lt (n := n) (by omega)
      have h2 := halfN_pos n
      rw [dirs, dif_neg h]
      split
      · have := ih (halfN n) h1 i; simp; omega
      · have := ih (n - halfN n) (by omega) (i - halfN n); simp; omega
theorem ofS_any (s : ByteArray) (hs : s.size ≤ 100000000) (w : World) : Calls Try.prog 12 #[.string s] w fun e w' => ∃ y : S32, e = .returned (.agg y.V) ∧ Hid (y = dig s) ∧ Ext [] w w' :=
  (of_any s hs w).mono fun e w' ⟨cs, h1, h2, h3⟩ => ⟨dig s, by rw [h1, h2.out, dig_V], Hs.hid rfl, h3⟩
/-- What Way answers. -/
structure WayR (w w' : World) (leaf : ByteArray) (i n : Nat) (xs : List S32) (v : Value) (ok : Bool) : Prop where
  isOk : ok = decide (xs.length = (dirs i n).length)
  no : ok = false → v = .slice none 0 0
  yes : ok = true → ∃ g c, v = .slice (some ⟨g, 0, none⟩) (wayL (dirs i n) xs [leaf2 leaf]).length c ∧ OwnT w'.heap v (wayL (dirs i n) xs [leaf2 leaf]) ∧ w.heap.size ≤ g
def WayE (w : World) (leaf : ByteArray) (i n : Nat) (xs : List S32) (e : Ending) (w' : World) : Prop := ∃ v ok, e = .returned (.tuple #[v, .bool ok]) ∧ Hid (WayR w w' leaf i n xs v ok) ∧ Ext [] w w'
theorem way_mth (leaf : ByteArray) (hlf : leaf.size ≤ 1000) : ∀ (N n i : Nat) (xs : List S32) (ao : Option Addr) (cap : Nat), n ≤ N → i < n → n ≤ 1000 → ∀ w : World, Sums32 w.heap ao cap xs →
    Calls Try.prog 10 #[.string leaf, .int .i64 i, .int .i64 n, .slice ao xs.length cap] w (WayE w leaf i n xs)
  | 0, n, i, xs, ao, cap, hN, hi, _, w, _ => by omega
  | N + 1, n, i, xs, ao, cap, hN, hi, hn, w, hT => by
    have hmax := hT.2.1
    have hcap := hT.1
    have i0 : ¬ (i : Int) < 0 := by omega
    have i1 : ¬ (n : Int) ≤ i := by omega
    have n0 : ¬ (n : Int) < 1 := by omega
    by_cases hn1 : n = 1
    · subst hn1
      obtain rfl : i = 0 := by omega
      have hd : dirs 0 1 = [] := by rw [dirs, dif_pos (by omega)]
      rcases Nat.eq_zero_or_pos xs.length with hl | hl
      · have hxs : xs = [] := List.eq_nil_of_length_eq_zero hl
        have HD := Hs.hid (And.intro hd hxs)
        have hsz : ¬ 9223372036854775807 < 1 + leaf.size := by omega
        have hlt : ⟨#[0]⟩ ++ leaf = leaf2 leaf := rfl
        rw [hl] at hcap ⊢
        obtain ⟨L, hL⟩ : ∃ L, L = leaf2 leaf := ⟨_, rfl⟩
        rw [← hL] at hlt
        have HLL := Hs.hid hL
        clear hd hxs hl hT hL
        go_enter Try.func10, Try.ntmps10
        go_wp2
        go_ret2
        refine ⟨.slice (some ⟨w.heap.size, 0, none⟩) 1 1, true, rfl, Hs.hid (WayR.mk (by rw [HD.out.1, HD.out.2]; rfl) (fun h => by simp at h) (fun _ => ?_)), (Ext.refl [] w).alloc _⟩
        rw [HD.out.1, HD.out.2, ← HLL.out]
        exact ⟨w.heap.size, 1, rfl, ⟨rfl, .inr ⟨w.heap.size, 1, #[.string L], rfl, Nat.zero_le _, heap_new w _, Nat.le_refl _, by decide, rfl, rfl⟩⟩, Nat.le_refl _⟩
      · have hne : ¬ xs.length = (dirs 0 1).length := by rw [hd]; simp; intro h; rw [h] at hl; simp at hl
        have HD := Hs.hid hne
        have l0 : (0 : Int) < (xs.length : Int) := by omega
        clear hd hT hne
        obtain ⟨L, hL⟩ : ∃ L, xs.length = L := ⟨_, rfl⟩
        have HLL := Hs.hid hL
        rw [hL] at l0 hl hcap ⊢
        clear hL
        go_enter Try.func10, Try.ntmps10
        go_wp2
        go_ret2
        exact ⟨.slice none 0 0, false, rfl, Hs.hid (WayR.mk (by rw [decide_eq_false HD.out]) (fun _ => rfl) (fun h => by simp at h)), Ext.refl _ _⟩
    · -- MORE
      have h2 : 2 ≤ n := by omega
      have n1 : ¬ (n : Int) = 1 := by omega
      have n2 : (1 : Int) < n := by omega
      have hp40 : (2 : Nat) ^ 40 = 1099511627776 := by decide
      have hlt := halfN_lt h2
      have hpos := halfN_pos n
      have hd0 : dirs i n = if i < halfN n then dirs i (halfN n) ++ [false] else dirs (i - halfN n) (n - halfN n) ++ [true] := by rw [dirs, dif_neg (by omega)]
      rcases snoc_casesV xs with rfl | ⟨ys, y, rfl⟩
      · have hne : ¬ (([] : List S32).length = (dirs i n).length) := by
          rw [hd0]; split <;> simp
        have HD := Hs.hid hne
        have hl0 : ([] : List S32).length = 0 := rfl
        rw [hl0] at hcap ⊢
        clear hd0 hne hT hp40
        go_enter Try.func10, Try.ntmps10
        go_wp2
        go_ret2
        exact ⟨.slice none 0 0, false, rfl, Hs.hid (WayR.mk (by rw [decide_eq_false HD.out]) (fun _ => rfl) (fun h => by simp at h)), Ext.refl _ _⟩
      · have hyl : (ys ++ [y]).length = ys.length + 1 := by simp
        have hTi := hT.init
        obtain ⟨sb, so, rfl, hsb, hrg⟩ := hT.at (k := ys.length) (x := y) (by simp)
        rw [hyl] at hcap ⊢
        have m0 : ¬ (((ys.length : Nat) : Int) + 1 = 0) := by omega
        have m2 : ((ys.length : Nat) : Int) + 1 - 1 = (ys.length : Int) := by omega
        have m3 : (ys.length : Int) < (ys.length : Int) + 1 := by omega
        have m4 : (ys.length : Int) ≤ cap := by omega
        have m5 : (0 : Int) ≤ ys.length := by omega
        have m6 : ys.length ≤ cap := by omega
        have m7 : IntKind.i64.wrap (ys.length : Int) = (ys.length : Int) := by rw [IntKind.wrap_i64]; omega
        have m8 : ((ys.length : Int)).toNat = ys.length := by omega
        go_enter Try.func10, Try.ntmps10
        go_upto_region 5 with fail
        have HZ := Hs.hid (show zeroS.V = #[.int .u8 0, .int .u8 0, .int .u8 0, .int .u8 0, .int .u8 0, .int .u8 0, .int .u8 0, .int .u8 0, .int .u8 0, .int .u8 0, .int .u8 0, .int .u8 0, .int .u8 0, .int .u8 0, .int .u8 0, .int .u8 0, .int .u8 0, .int .u8 0, .int .u8 0, .int .u8 0, .int .u8 0, .int .u8 0, .int .u8 0, .int .u8 0, .int .u8 0, .int .u8 0, .int .u8 0, .int .u8 0, .int .u8 0, .int .u8 0, .int .u8 0, .int .u8 0] from rfl)
        have HDD := Hs.hid (And.intro hd0 (And.intro hlt (And.intro hpos h2)))
        have HTI := Hs.hid hTi
        clear hd0 hlt hpos h2 hTi hT hp40
        go_cut [10, 11] (fun s10 s11 wx => ∃ L, s10 = .pointer (some ⟨L, 0, none⟩) ∧ s11 = .int .i64 (halfN n : Int) ∧ wx.heap[L]? = some (.cells y.V 35 (0, 0)) ∧ Ext [] w wx)
        case first =>
          refine wp_region_noPanic ?_
          refine wp_region_held_drew (S := (fun w' => w'.rangeAt sb (so + ys.length * 32) y.V.toList)) (by kernel_rfl) ?_ (fun hHeld => ?_)
          · ((try dsimp only); exact hrg)
          refine wpAnyH_take (i := 0) (v := ?_) rfl (by kernel_rfl) (by kernel_rfl) (by kernel_rfl) (fun _ _ _ h => h) (Or.inl ⟨by rfl, ?_⟩) (by assumption) ?_
          rotate_left
          · (intro w hSw; (try dsimp only at hSw); first | (go_simp; done) | (go_simp; with_reducible rfl))
          try simp only [Act.put, List.getElem_toArray, List.getElem_cons_succ, List.getElem_cons_zero, List.setIfInBounds_toArray, List.set_cons_zero, List.set_cons_succ]
          refine wpAnyH_take (i := 1) (v := ?_) rfl (by kernel_rfl) (by kernel_rfl) (by kernel_rfl) (fun _ _ _ h => h) (Or.inl ⟨by rfl, ?_⟩) (by assumption) ?_
          rotate_left
          · (intro w hSw; (try dsimp only at hSw); first | (go_simp; done) | (go_simp; with_reducible rfl))
          try simp only [Act.put, List.getElem_toArray, List.getElem_cons_succ, List.getElem_cons_zero, List.setIfInBounds_toArray, List.set_cons_zero, List.set_cons_succ]
          refine wpAnyH_take (i := 2) (v := ?_) rfl (by kernel_rfl) (by kernel_rfl) (by kernel_rfl) (fun _ _ _ h => h) (Or.inl ⟨by rfl, ?_⟩) (by assumption) ?_
          rotate_left
          · (intro w hSw; (try dsimp only at hSw); first | (go_simp; done) | (go_simp; with_reducible rfl))
          try simp only [Act.put, List.getElem_toArray, List.getElem_cons_succ, List.getElem_cons_zero, List.setIfInBounds_toArray, List.set_cons_zero, List.set_cons_succ]
          refine wpAnyH_take (i := 3) (v := ?_) rfl (by kernel_rfl) (by kernel_rfl) (by kernel_rfl) (fun _ _ _ h => h) (Or.inl ⟨by rfl, ?_⟩) (by assumption) ?_
          rotate_left
          · (intro w hSw; (try dsimp only at hSw); first | (go_simp; done) | (go_simp; with_reducible rfl))
          try simp only [Act.put, List.getElem_toArray, List.getElem_cons_succ, List.getElem_cons_zero, List.setIfInBounds_toArray, List.set_cons_zero, List.set_cons_succ]
          refine wpAnyH_take (i := 4) (v := ?_) rfl (by kernel_rfl) (by kernel_rfl) (by kernel_rfl) (fun _ _ _ h => h) (Or.inl ⟨by rfl, ?_⟩) (by assumption) ?_
          rotate_left
          · (intro w hSw; (try dsimp only at hSw); first | (go_simp; done) | (go_simp; with_reducible rfl))
          try simp only [Act.put, List.getElem_toArray, List.getElem_cons_succ, List.getElem_cons_zero, List.setIfInBounds_toArray, List.set_cons_zero, List.set_cons_succ]
          refine wpAnyH_take (i := 5) (v := _) rfl (by kernel_rfl) (by kernel_rfl) (by kernel_rfl) (fun _ _ _ h => h) (yieldsIf_of (.agg y.V) (by rfl) (fun w' hw => exec_load_midV _ rfl sb _ rfl y w' hw)) (by assumption) ?_
          try simp only [Act.put, List.getElem_toArray, List.getElem_cons_succ, List.getElem_cons_zero, List.setIfInBounds_toArray, List.set_cons_zero, List.set_cons_succ]
          refine wpAnyH_take (i := 6) (v := ?_) rfl (by kernel_rfl) (by kernel_rfl) (by kernel_rfl) (fun _ _ _ h => h) (Or.inl ⟨by rfl, ?_⟩) (by assumption) ?_
          rotate_left
          · (intro w hSw; (try dsimp only at hSw); first | (go_simp; done) | (go_simp; with_reducible rfl))
          try simp only [Act.put, List.getElem_toArray, List.getElem_cons_succ, List.getElem_cons_zero, List.setIfInBounds_toArray, List.set_cons_zero, List.set_cons_succ]
          refine wpAnyH_ready (rs := [7, 8]) (by kernel_rfl) (by simp) ?_
          refine AllReadyH.cons rfl (fun K hK => ?_) (AllReadyH.cons rfl (fun K hK => ?_) AllReadyH.nil)
          · go_simp
            (go_at_call 27; refine (chalf_any n HDD.out.2.2.2 (by have : (2 : Nat) ^ 40 = 1099511627776 := (by decide); omega) _).mono ?_; rintro e w1 ⟨rfl, hw1⟩; subst hw1)
            go_wp2_with fail
            refine hK.out _ _ ?_ (fun hHeld => ?_)
            · ((try dsimp only); exact hHeld)
            clear hK K
            try simp only [Act.put, List.getElem_toArray, List.getElem_cons_succ, List.getElem_cons_zero, List.setIfInBounds_toArray, List.set_cons_zero, List.set_cons_succ]
            refine wpAnyH_ready (rs := [8]) (by kernel_rfl) (by simp) ?_
            refine AllReadyH.cons rfl (fun K hK => ?_) AllReadyH.nil
            rw [if_pos (by rfl)]
            go_simp
            refine hK.out _ _ ?_ (fun hHeld => ?_)
            · ((try dsimp only); exact World.rangeAt_alloc hHeld _)
            clear hK K
            try simp only [Act.put, List.getElem_toArray, List.getElem_cons_succ, List.getElem_cons_zero, List.setIfInBounds_toArray, List.set_cons_zero, List.set_cons_succ]
            refine wpAnyH_ready (rs := [9]) (by kernel_rfl) (by simp) ?_
            refine AllReadyH.cons rfl (fun K hK => ?_) AllReadyH.nil
            rw [if_pos (by rfl)]
            (have hR := setRow_heap _ _ _ y.V _ _ (heap_new w.drew (.cells zeroS.V 35)); rw [HZ.out] at hR; refine wp_store_row 35 _ _ rfl _ y.V rfl rfl _ _ (heap_new _ _) (by rw [y.size]; exact infoSum) (by rw [y.size]; rfl) y.one ?_)
            refine hK.out _ _ ?_ (fun hHeld => ?_)
            · ((try dsimp only); (intro j v hj; have q1 := hHeld j v hj; have q2 := World.block_lt_of_cell? _ _ q1; rw [← q1]; unfold World.cell?; rw [setRow_other _ _ _ _ (by simp only [] at hsb ⊢; omega)]))
            clear hK K
            try simp only [Act.put, List.getElem_toArray, List.getElem_cons_succ, List.getElem_cons_zero, List.setIfInBounds_toArray, List.set_cons_zero, List.set_cons_succ]
            refine wpAnyH_take (i := 10) (v := ?_) rfl (by kernel_rfl) (by kernel_rfl) (by kernel_rfl) (fun _ _ _ h => h) (Or.inl ⟨by rfl, ?_⟩) (by assumption) ?_
            rotate_left
            · (intro w hSw; (try dsimp only at hSw); first | (go_simp; done) | (go_simp; with_reducible rfl))
            try simp only [Act.put, List.getElem_toArray, List.getElem_cons_succ, List.getElem_cons_zero, List.setIfInBounds_toArray, List.set_cons_zero, List.set_cons_succ]
            refine wpAnyH_done (by kernel_rfl) ?_ _
            refine NoPanic.normal ?_
            go_wp2
            go_meet
            exact ⟨_, rfl, rfl, hR, (Ext.refl [] w).drew.trans0 (boxExt' _ _)⟩
          · rw [if_pos (by rfl)]
            go_simp
            refine hK.out _ _ ?_ (fun hHeld => ?_)
            · ((try dsimp only); exact World.rangeAt_alloc hHeld _)
            clear hK K
            try simp only [Act.put, List.getElem_toArray, List.getElem_cons_succ, List.getElem_cons_zero, List.setIfInBounds_toArray, List.set_cons_zero, List.set_cons_succ]
            refine wpAnyH_ready (rs := [7]) (by kernel_rfl) (by simp) ?_
            refine AllReadyH.cons rfl (fun K hK => ?_) AllReadyH.nil
            go_simp
            (go_at_call 27; refine (chalf_any n HDD.out.2.2.2 (by have : (2 : Nat) ^ 40 = 1099511627776 := (by decide); omega) _).mono ?_; rintro e w1 ⟨rfl, hw1⟩; subst hw1)
            go_wp2_with fail
            refine hK.out _ _ ?_ (fun hHeld => ?_)
            · ((try dsimp only); exact hHeld)
            clear hK K
            try simp only [Act.put, List.getElem_toArray, List.getElem_cons_succ, List.getElem_cons_zero, List.setIfInBounds_toArray, List.set_cons_zero, List.set_cons_succ]
            refine wpAnyH_ready (rs := [9]) (by kernel_rfl) (by simp) ?_
            refine AllReadyH.cons rfl (fun K hK => ?_) AllReadyH.nil
            rw [if_pos (by rfl)]
            (have hR := setRow_heap _ _ _ y.V _ _ (heap_new w.drew (.cells zeroS.V 35)); rw [HZ.out] at hR; refine wp_store_row 35 _ _ rfl _ y.V rfl rfl _ _ (heap_new _ _) (by rw [y.size]; exact infoSum) (by rw [y.size]; rfl) y.one ?_)
            refine hK.out _ _ ?_ (fun hHeld => ?_)
            · ((try dsimp only); (intro j v hj; have q1 := hHeld j v hj; have q2 := World.block_lt_of_cell? _ _ q1; rw [← q1]; unfold World.cell?; rw [setRow_other _ _ _ _ (by simp only [] at hsb ⊢; omega)]))
            clear hK K
            try simp only [Act.put, List.getElem_toArray, List.getElem_cons_succ, List.getElem_cons_zero, List.setIfInBounds_toArray, List.set_cons_zero, List.set_cons_succ]
            refine wpAnyH_take (i := 10) (v := ?_) rfl (by kernel_rfl) (by kernel_rfl) (by kernel_rfl) (fun _ _ _ h => h) (Or.inl ⟨by rfl, ?_⟩) (by assumption) ?_
            rotate_left
            · (intro w hSw; (try dsimp only at hSw); first | (go_simp; done) | (go_simp; with_reducible rfl))
            try simp only [Act.put, List.getElem_toArray, List.getElem_cons_succ, List.getElem_cons_zero, List.setIfInBounds_toArray, List.set_cons_zero, List.set_cons_succ]
            refine wpAnyH_done (by kernel_rfl) ?_ _
            refine NoPanic.normal ?_
            go_wp2
            go_meet
            exact ⟨_, rfl, rfl, hR, (Ext.refl [] w).drew.trans0 (boxExt' _ _)⟩
        case rest =>
          obtain ⟨L, rfl, rfl, hL, hE⟩ := hcut
          clear hrg
          generalize halfN n = k at HDD ⊢
          have hd0 := HDD.out.1
          by_cases hik : i < k
          · rw [if_pos hik] at hd0
            have IH := Hs.hid (fun w' (h : Sums32 w'.heap (some ⟨sb, so, none⟩) cap ys) => way_mth leaf hlf N k i ys (some ⟨sb, so, none⟩) cap (by have := HDD.out; omega) (by have := HDD.out; omega) (by have := HDD.out; omega) w' h)
            have q1 : ¬ (i : Int) ≥ k := by omega
            have HD := Hs.hid hd0
            clear hd0
            go_upto_region 10 with (go_at_call 10; with_reducible refine (IH.out _ (HTI.out.ext hE (by simp))).mono ?_; intro e w2 hr; unfold WayE at hr; obtain ⟨v, ok, rfl, hv, hx2⟩ := hr)
            have hL2 := hx2.same hL List.not_mem_nil
            have HE2 := Hs.hid (hE.trans0 hx2)
            have HWS := Hs.hid hE.size
            clear hL hE hx2 IH
            cases ok
            · obtain rfl := hv.out.no rfl
              go_wp2
              go_ret2
              exact ⟨.slice none 0 0, false, rfl, Hs.hid (WayR.mk (by have := hv.out.isOk; rw [this, HD.out]; simp) (fun _ => rfl) (fun h => by simp at h)), HE2.out⟩
            · obtain ⟨g, c, rfl, hO, hgw⟩ := hv.out.yes rfl
              have hlen : ys.length = (dirs i k).length := by have := hv.out.isOk; simpa using this.symm
              have hTl := wayL_len (dirs i k) ys [leaf2 leaf] hlen.symm
              have hTs := wayL_sizes (dirs i k) ys [leaf2 leaf] 1001 (by decide) (by intro t ht; simp at ht; rw [ht, leaf2_size]; omega)
              have hdl := dirs_le k i
              have HFI := Hs.hid (wayL_snoc (dirs i k) ys [leaf2 leaf] false y hlen.symm)
              generalize wayL (dirs i k) ys [leaf2 leaf] = T at hO hTl hTs HFI ⊢
              obtain ⟨h0, T', rfl⟩ : ∃ h0 T', T = h0 :: T' := by
                cases T with
                | nil => exact absurd hTl (by simp; omega)
                | cons a b => exact ⟨a, b, rfl⟩
              have HC0 : Hid (∀ w', Ext [] w2 w' → w'.cell? ⟨g, 0, none⟩ = some (.string h0)) := Hs.hid (fun w' hx => by
                have o := hO.ext' hx (fun _ _ => List.not_mem_nil)
                exact Own.cells (w := w') rfl o (g := g) rfl 0 (.string h0) rfl)
              have HN : Hid (∀ w', Ext [] w2 w' → ∀ j u, ((h0 :: T').map Value.string)[j]? = some u → w'.cell? ((⟨g, 0, none⟩ : Addr).add j) = some u) := Hs.hid (fun w' hx j u hj => Own.cells (w := w') rfl (hO.ext' hx (fun _ _ => List.not_mem_nil)) (g := g) rfl j u hj)
              have HS0 := Hs.hid (show h0.size ≤ 100000000 by have := hTs h0 (by simp); omega)
              have HB := Hs.hid (show T'.length ≤ 1000 by have q := HDD.out.2.1; simp at hTl; omega)
              obtain ⟨i0, hi0, hz0, hz1, hz2⟩ := info_parts infoStr
              have HI := Hs.hid (And.intro hi0 (And.intro hz0 (And.intro hz1 hz2)))
              have HVV := Hs.hid hv.out.isOk
              have HLEN := Hs.hid hlen
              clear hi0 hz0 hz1 hz2 hTl hTs hdl hO hv hlen hgw
              go_upto_region 12 with fail
              refine wp_region_noPanic ?_
              refine wp_region_held_drew (S := (fun w' => Ext [] w2 w')) (by kernel_rfl) ?_ (fun hHeld => ?_)
              · ((try dsimp only); exact (Ext.refl [] w2).drew)
              refine wpAnyH_take (i := 0) (v := ?_) rfl (by kernel_rfl) (by kernel_rfl) (by kernel_rfl) (fun _ _ _ h => h) (Or.inl ⟨by rfl, ?_⟩) (by assumption) ?_
              rotate_left
              · (intro w hSw; (try dsimp only at hSw); first | (go_simp; done) | (go_simp; with_reducible rfl))
              try simp only [Act.put, List.getElem_toArray, List.getElem_cons_succ, List.getElem_cons_zero, List.setIfInBounds_toArray, List.set_cons_zero, List.set_cons_succ]
              refine wpAnyH_take (i := 1) (v := ?_) rfl (by kernel_rfl) (by kernel_rfl) (by kernel_rfl) (fun _ _ _ h => h) (Or.inl ⟨by rfl, ?_⟩) (by assumption) ?_
              rotate_left
              · (intro w hSw; (try dsimp only at hSw); first | (go_simp; done) | (go_simp; with_reducible rfl))
              try simp only [Act.put, List.getElem_toArray, List.getElem_cons_succ, List.getElem_cons_zero, List.setIfInBounds_toArray, List.set_cons_zero, List.set_cons_succ]
              refine wpAnyH_take (i := 2) (v := ?_) rfl (by kernel_rfl) (by kernel_rfl) (by kernel_rfl) (fun _ _ _ h => h) (Or.inl ⟨by rfl, ?_⟩) (by assumption) ?_
              rotate_left
              · (intro w hSw; (try dsimp only at hSw); have hc0 := HC0.out _ hSw; first | (go_simp; done) | (go_simp; with_reducible rfl))
              try simp only [Act.put, List.getElem_toArray, List.getElem_cons_succ, List.getElem_cons_zero, List.setIfInBounds_toArray, List.set_cons_zero, List.set_cons_succ]
              refine wpAnyH_take (i := 4) (v := _) rfl (by kernel_rfl) (by kernel_rfl) (by kernel_rfl) (fun _ _ _ h => h) (yieldsIf_of (.agg y.V) (by rfl) (fun w' hw => exec_load_rowV (.tmp 10) rfl L rfl y w' ⟨_, hw.same hL2 List.not_mem_nil⟩)) (by assumption) ?_
              try simp only [Act.put, List.getElem_toArray, List.getElem_cons_succ, List.getElem_cons_zero, List.setIfInBounds_toArray, List.set_cons_zero, List.set_cons_succ]
              refine wpAnyH_ready (rs := [3]) (by kernel_rfl) (by simp) ?_
              refine AllReadyH.cons rfl (fun K hK => ?_) AllReadyH.nil
              go_simp
              (go_at_call 12; refine (ofS_any h0 HS0.out _).mono ?_; rintro e w5 ⟨z5, rfl, hz5, hx5⟩)
              go_wp2_with fail
              refine hK.out _ _ ?_ (fun hHeld => ?_)
              · ((try dsimp only); exact hHeld.trans0 hx5)
              clear hK K
              try simp only [Act.put, List.getElem_toArray, List.getElem_cons_succ, List.getElem_cons_zero, List.setIfInBounds_toArray, List.set_cons_zero, List.set_cons_succ]
              refine wpAnyH_ready (rs := [5]) (by kernel_rfl) (by simp) ?_
              refine AllReadyH.cons rfl (fun K hK => ?_) AllReadyH.nil
              go_simp
              (go_at_call 28; refine (nodeC_any z5 y _).mono ?_; rintro e w6 ⟨rfl, hx6⟩)
              go_wp2_with fail
              refine hK.out _ _ ?_ (fun hHeld => ?_)
              · ((try dsimp only); exact hHeld.trans0 hx6)
              clear hK K
              try simp only [Act.put, List.getElem_toArray, List.getElem_cons_succ, List.getElem_cons_zero, List.setIfInBounds_toArray, List.set_cons_zero, List.set_cons_succ]
              refine wpAnyH_take (i := 6) (v := ?_) rfl (by kernel_rfl) (by kernel_rfl) (by kernel_rfl) (fun _ _ _ h => h) (Or.inl ⟨by rfl, ?_⟩) (by assumption) ?_
              rotate_left
              · (intro w hSw; (try dsimp only at hSw); first | (go_simp; done) | (go_simp; with_reducible rfl))
              try simp only [Act.put, List.getElem_toArray, List.getElem_cons_succ, List.getElem_cons_zero, List.setIfInBounds_toArray, List.set_cons_zero, List.set_cons_succ]
              refine wpAnyH_done (by kernel_rfl) ?_ _
              refine NoPanic.normal ?_
              have HQ := Hs.hid hHeld
              clear hHeld
              have HQA := Hs.hid (HQ.out.alloc (.cells #[.string (⟨#[1]⟩ ++ z5.s ++ y.s)] 9))
              obtain ⟨tx, htx⟩ : ∃ tx, ⟨#[1]⟩ ++ z5.s ++ y.s = tx := ⟨_, rfl⟩
              rw [htx] at HQA ⊢
              have HTX := Hs.hid htx
              have HZ5 := Hs.hid hz5.out
              clear htx hz5
              go_wp2_with (at_builtin; refine wpList_append rfl (.tmp 98) (.tmp 99) 22 rfl 9 i0 _ 1 16 Try.underlying22 HI.out.1 HI.out.2.1 HI.out.2.2.1 HI.out.2.2.2 rfl (by decide) (.slice (some ⟨w6.heap.size, 0, none⟩) 1 1) 1 [.string tx] rfl ⟨rfl, .inr ⟨w6.heap.size, 1, #[.string tx], rfl, Nat.zero_le _, heap_new w6 _, Nat.le_refl _, by decide, rfl, rfl⟩⟩ ⟨g, 0, none⟩ (T'.length + 1) c ((h0 :: T').map Value.string) rfl (by simp) (HN.out _ HQA.out) (by intro u hu; obtain ⟨t, _, rfl⟩ := List.mem_map.1 hu; rfl) (by unfold maxLen; have := HB.out; omega) (by have := HB.out; omega) ?_; intro ao9 cap9 w9 hO9 hx9 hf9)
              go_ret2
              have hd2 := HD.out
              obtain ⟨g9, rfl, hg9⟩ : ∃ g9, ao9 = some ⟨g9, 0, none⟩ ∧ w.heap.size ≤ g9 := by
                rcases hO9.2 with ⟨_, h0⟩ | ⟨g', cap', cur, h1, _⟩
                · omega
                · simp at h1
                  refine ⟨g', h1.1, ?_⟩
                  rcases hf9 g' (by rw [h1.1]; rfl) with h | h
                  · have q1 := HQ.out.size
                    have q2 := HE2.out.size
                    simp [Value.ownBlock] at h
                    omega
                  · have q1 := HQ.out.size
                    have q2 := HE2.out.size
                    simp at h
                    omega
              refine ⟨.slice (some ⟨g9, 0, none⟩) (1 + (T'.length + 1)) cap9, true, rfl, Hs.hid (WayR.mk (by rw [hd2]; simp [HLEN.out]) (fun h => by simp at h) (fun _ => ?_)), ((HE2.out.trans0 HQA.out).trans hx9 (fun g hg => .inr ?_))⟩
              · rw [hd2, HFI.out]
                have e1 : wayStep false y (h0 :: T') = tx :: h0 :: T' := by
                  unfold wayStep
                  rw [List.headD_cons, ← HTX.out, HZ5.out]; rfl
                rw [e1]
                refine ⟨g9, cap9, by simp; omega, ?_, hg9⟩
                unfold OwnT
                rw [show (tx :: h0 :: T').length = 1 + (T'.length + 1) by simp; omega]
                exact hO9
              · have q2 := HE2.out.size
                have q1 := HQ.out.size
                simp [Value.ownBlock] at hg
                omega
          · rw [if_neg hik] at hd0
            have IH := Hs.hid (fun w' (h : Sums32 w'.heap (some ⟨sb, so, none⟩) cap ys) => way_mth leaf hlf N (n - k) (i - k) ys (some ⟨sb, so, none⟩) cap (by have := HDD.out; omega) (by have := HDD.out; omega) (by have := HDD.out; omega) w' h)
            have q1 : (i : Int) ≥ k := by omega
            have q2 : (i : Int) - k = ((i - k : Nat) : Int) := by omega
            have q3 : (n : Int) - k = ((n - k : Nat) : Int) := by omega
            have HD := Hs.hid hd0
            clear hd0
            go_upto_region 10 with (go_at_call 10; with_reducible refine (IH.out _ (HTI.out.ext hE (by simp))).mono ?_; intro e w2 hr; unfold WayE at hr; obtain ⟨v, ok, rfl, hv, hx2⟩ := hr)
            have hL2 := hx2.same hL List.not_mem_nil
            have HE2 := Hs.hid (hE.trans0 hx2)
            have HWS := Hs.hid hE.size
            clear hL hE hx2 IH
            cases ok
            · obtain rfl := hv.out.no rfl
              go_wp2
              go_ret2
              exact ⟨.slice none 0 0, false, rfl, Hs.hid (WayR.mk (by have := hv.out.isOk; rw [this, HD.out]; simp) (fun _ => rfl) (fun h => by simp at h)), HE2.out⟩
            · obtain ⟨g, c, rfl, hO, hgw⟩ := hv.out.yes rfl
              have hlen : ys.length = (dirs (i - k) (n - k)).length := by have := hv.out.isOk; simpa using this.symm
              have hTl := wayL_len (dirs (i - k) (n - k)) ys [leaf2 leaf] hlen.symm
              have hTs := wayL_sizes (dirs (i - k) (n - k)) ys [leaf2 leaf] 1001 (by decide) (by intro t ht; simp at ht; rw [ht, leaf2_size]; omega)
              have hdl := dirs_le (n - k) (i - k)
              have HFI := Hs.hid (wayL_snoc (dirs (i - k) (n - k)) ys [leaf2 leaf] true y hlen.symm)
              generalize wayL (dirs (i - k) (n - k)) ys [leaf2 leaf] = T at hO hTl hTs HFI ⊢
              obtain ⟨h0, T', rfl⟩ : ∃ h0 T', T = h0 :: T' := by
                cases T with
                | nil => exact absurd hTl (by simp; omega)
                | cons a b => exact ⟨a, b, rfl⟩
              have HC0 : Hid (∀ w', Ext [] w2 w' → w'.cell? ⟨g, 0, none⟩ = some (.string h0)) := Hs.hid (fun w' hx => by
                have o := hO.ext' hx (fun _ _ => List.not_mem_nil)
                exact Own.cells (w := w') rfl o (g := g) rfl 0 (.string h0) rfl)
              have HN : Hid (∀ w', Ext [] w2 w' → ∀ j u, ((h0 :: T').map Value.string)[j]? = some u → w'.cell? ((⟨g, 0, none⟩ : Addr).add j) = some u) := Hs.hid (fun w' hx j u hj => Own.cells (w := w') rfl (hO.ext' hx (fun _ _ => List.not_mem_nil)) (g := g) rfl j u hj)
              have HS0 := Hs.hid (show h0.size ≤ 100000000 by have := hTs h0 (by simp); omega)
              have HB := Hs.hid (show T'.length ≤ 1000 by have q := HDD.out.2.1; simp at hTl; omega)
              obtain ⟨i0, hi0, hz0, hz1, hz2⟩ := info_parts infoStr
              have HI := Hs.hid (And.intro hi0 (And.intro hz0 (And.intro hz1 hz2)))
              have HVV := Hs.hid hv.out.isOk
              have HLEN := Hs.hid hlen
              clear hi0 hz0 hz1 hz2 hTl hTs hdl hO hv hlen hgw
              go_upto_region 12 with fail
              refine wp_region_noPanic ?_
              refine wp_region_held_drew (S := (fun w' => Ext [] w2 w')) (by kernel_rfl) ?_ (fun hHeld => ?_)
              · ((try dsimp only); exact (Ext.refl [] w2).drew)
              refine wpAnyH_take (i := 0) (v := ?_) rfl (by kernel_rfl) (by kernel_rfl) (by kernel_rfl) (fun _ _ _ h => h) (Or.inl ⟨by rfl, ?_⟩) (by assumption) ?_
              rotate_left
              · (intro w hSw; (try dsimp only at hSw); first | (go_simp; done) | (go_simp; with_reducible rfl))
              try simp only [Act.put, List.getElem_toArray, List.getElem_cons_succ, List.getElem_cons_zero, List.setIfInBounds_toArray, List.set_cons_zero, List.set_cons_succ]
              refine wpAnyH_take (i := 1) (v := ?_) rfl (by kernel_rfl) (by kernel_rfl) (by kernel_rfl) (fun _ _ _ h => h) (Or.inl ⟨by rfl, ?_⟩) (by assumption) ?_
              rotate_left
              · (intro w hSw; (try dsimp only at hSw); first | (go_simp; done) | (go_simp; with_reducible rfl))
              try simp only [Act.put, List.getElem_toArray, List.getElem_cons_succ, List.getElem_cons_zero, List.setIfInBounds_toArray, List.set_cons_zero, List.set_cons_succ]
              refine wpAnyH_take (i := 2) (v := ?_) rfl (by kernel_rfl) (by kernel_rfl) (by kernel_rfl) (fun _ _ _ h => h) (Or.inl ⟨by rfl, ?_⟩) (by assumption) ?_
              rotate_left
              · (intro w hSw; (try dsimp only at hSw); have hc0 := HC0.out _ hSw; first | (go_simp; done) | (go_simp; with_reducible rfl))
              try simp only [Act.put, List.getElem_toArray, List.getElem_cons_succ, List.getElem_cons_zero, List.setIfInBounds_toArray, List.set_cons_zero, List.set_cons_succ]
              refine wpAnyH_take (i := 4) (v := _) rfl (by kernel_rfl) (by kernel_rfl) (by kernel_rfl) (fun _ _ _ h => h) (yieldsIf_of (.agg y.V) (by rfl) (fun w' hw => exec_load_rowV (.tmp 10) rfl L rfl y w' ⟨_, hw.same hL2 List.not_mem_nil⟩)) (by assumption) ?_
              try simp only [Act.put, List.getElem_toArray, List.getElem_cons_succ, List.getElem_cons_zero, List.setIfInBounds_toArray, List.set_cons_zero, List.set_cons_succ]
              refine wpAnyH_ready (rs := [3]) (by kernel_rfl) (by simp) ?_
              refine AllReadyH.cons rfl (fun K hK => ?_) AllReadyH.nil
              go_simp
              (go_at_call 12; refine (ofS_any h0 HS0.out _).mono ?_; rintro e w5 ⟨z5, rfl, hz5, hx5⟩)
              go_wp2_with fail
              refine hK.out _ _ ?_ (fun hHeld => ?_)
              · ((try dsimp only); exact hHeld.trans0 hx5)
              clear hK K
              try simp only [Act.put, List.getElem_toArray, List.getElem_cons_succ, List.getElem_cons_zero, List.setIfInBounds_toArray, List.set_cons_zero, List.set_cons_succ]
              refine wpAnyH_ready (rs := [5]) (by kernel_rfl) (by simp) ?_
              refine AllReadyH.cons rfl (fun K hK => ?_) AllReadyH.nil
              go_simp
              (go_at_call 28; refine (nodeC_any z5 y _).mono ?_; rintro e w6 ⟨rfl, hx6⟩)
              go_wp2_with fail
              refine hK.out _ _ ?_ (fun hHeld => ?_)
              · ((try dsimp only); exact hHeld.trans0 hx6)
              clear hK K
              try simp only [Act.put, List.getElem_toArray, List.getElem_cons_succ, List.getElem_cons_zero, List.setIfInBounds_toArray, List.set_cons_zero, List.set_cons_succ]
              refine wpAnyH_take (i := 6) (v := ?_) rfl (by kernel_rfl) (by kernel_rfl) (by kernel_rfl) (fun _ _ _ h => h) (Or.inl ⟨by rfl, ?_⟩) (by assumption) ?_
              rotate_left
              · (intro w hSw; (try dsimp only at hSw); first | (go_simp; done) | (go_simp; with_reducible rfl))
              try simp only [Act.put, List.getElem_toArray, List.getElem_cons_succ, List.getElem_cons_zero, List.setIfInBounds_toArray, List.set_cons_zero, List.set_cons_succ]
              refine wpAnyH_done (by kernel_rfl) ?_ _
              refine NoPanic.normal ?_
              have HQ := Hs.hid hHeld
              clear hHeld
              go_upto_region 14 with fail
              refine wp_region_noPanic ?_
              refine wp_region_held_drew (S := (fun w' => Ext [] w2 w')) (by kernel_rfl) ?_ (fun hHeld => ?_)
              · ((try dsimp only); exact HQ.out.drew)
              refine wpAnyH_take (i := 0) (v := _) rfl (by kernel_rfl) (by kernel_rfl) (by kernel_rfl) (fun _ _ _ h => h) (yieldsIf_of (.agg y.V) (by rfl) (fun w' hw => exec_load_rowV (.tmp 10) rfl L rfl y w' ⟨_, hw.same hL2 List.not_mem_nil⟩)) (by assumption) ?_
              try simp only [Act.put, List.getElem_toArray, List.getElem_cons_succ, List.getElem_cons_zero, List.setIfInBounds_toArray, List.set_cons_zero, List.set_cons_succ]
              refine wpAnyH_take (i := 1) (v := ?_) rfl (by kernel_rfl) (by kernel_rfl) (by kernel_rfl) (fun _ _ _ h => h) (Or.inl ⟨by rfl, ?_⟩) (by assumption) ?_
              rotate_left
              · (intro w hSw; (try dsimp only at hSw); first | (go_simp; done) | (go_simp; with_reducible rfl))
              try simp only [Act.put, List.getElem_toArray, List.getElem_cons_succ, List.getElem_cons_zero, List.setIfInBounds_toArray, List.set_cons_zero, List.set_cons_succ]
              refine wpAnyH_take (i := 2) (v := ?_) rfl (by kernel_rfl) (by kernel_rfl) (by kernel_rfl) (fun _ _ _ h => h) (Or.inl ⟨by rfl, ?_⟩) (by assumption) ?_
              rotate_left
              · (intro w hSw; (try dsimp only at hSw); first | (go_simp; done) | (go_simp; with_reducible rfl))
              try simp only [Act.put, List.getElem_toArray, List.getElem_cons_succ, List.getElem_cons_zero, List.setIfInBounds_toArray, List.set_cons_zero, List.set_cons_succ]
              refine wpAnyH_take (i := 3) (v := ?_) rfl (by kernel_rfl) (by kernel_rfl) (by kernel_rfl) (fun _ _ _ h => h) (Or.inl ⟨by rfl, ?_⟩) (by assumption) ?_
              rotate_left
              · (intro w hSw; (try dsimp only at hSw); have hc0 := HC0.out _ hSw; first | (go_simp; done) | (go_simp; with_reducible rfl))
              try simp only [Act.put, List.getElem_toArray, List.getElem_cons_succ, List.getElem_cons_zero, List.setIfInBounds_toArray, List.set_cons_zero, List.set_cons_succ]
              refine wpAnyH_ready (rs := [4]) (by kernel_rfl) (by simp) ?_
              refine AllReadyH.cons rfl (fun K hK => ?_) AllReadyH.nil
              go_simp
              (go_at_call 12; refine (ofS_any h0 HS0.out _).mono ?_; rintro e w7 ⟨z7, rfl, hz7, hx7⟩)
              go_wp2_with fail
              refine hK.out _ _ ?_ (fun hHeld => ?_)
              · ((try dsimp only); exact hHeld.trans0 hx7)
              clear hK K
              try simp only [Act.put, List.getElem_toArray, List.getElem_cons_succ, List.getElem_cons_zero, List.setIfInBounds_toArray, List.set_cons_zero, List.set_cons_succ]
              refine wpAnyH_ready (rs := [5]) (by kernel_rfl) (by simp) ?_
              refine AllReadyH.cons rfl (fun K hK => ?_) AllReadyH.nil
              go_simp
              (go_at_call 28; refine (nodeC_any y z7 _).mono ?_; rintro e w8 ⟨rfl, hx8⟩)
              go_wp2_with fail
              refine hK.out _ _ ?_ (fun hHeld => ?_)
              · ((try dsimp only); exact hHeld.trans0 hx8)
              clear hK K
              try simp only [Act.put, List.getElem_toArray, List.getElem_cons_succ, List.getElem_cons_zero, List.setIfInBounds_toArray, List.set_cons_zero, List.set_cons_succ]
              refine wpAnyH_take (i := 6) (v := ?_) rfl (by kernel_rfl) (by kernel_rfl) (by kernel_rfl) (fun _ _ _ h => h) (Or.inl ⟨by rfl, ?_⟩) (by assumption) ?_
              rotate_left
              · (intro w hSw; (try dsimp only at hSw); first | (go_simp; done) | (go_simp; with_reducible rfl))
              try simp only [Act.put, List.getElem_toArray, List.getElem_cons_succ, List.getElem_cons_zero, List.setIfInBounds_toArray, List.set_cons_zero, List.set_cons_succ]
              refine wpAnyH_done (by kernel_rfl) ?_ _
              refine NoPanic.normal ?_
              have HQ2 := Hs.hid hHeld
              clear hHeld
              have HQA := Hs.hid (HQ2.out.alloc (.cells #[.string (⟨#[1]⟩ ++ y.s ++ z7.s)] 9))
              obtain ⟨tx, htx⟩ : ∃ tx, ⟨#[1]⟩ ++ y.s ++ z7.s = tx := ⟨_, rfl⟩
              rw [htx] at HQA ⊢
              have HTX := Hs.hid htx
              have HZ5 := Hs.hid hz7.out
              clear htx hz7
              go_wp2_with (at_builtin; refine wpList_append rfl (.tmp 98) (.tmp 99) 22 rfl 9 i0 _ 1 16 Try.underlying22 HI.out.1 HI.out.2.1 HI.out.2.2.1 HI.out.2.2.2 rfl (by decide) (.slice (some ⟨w8.heap.size, 0, none⟩) 1 1) 1 [.string tx] rfl ⟨rfl, .inr ⟨w8.heap.size, 1, #[.string tx], rfl, Nat.zero_le _, heap_new w8 _, Nat.le_refl _, by decide, rfl, rfl⟩⟩ ⟨g, 0, none⟩ (T'.length + 1) c ((h0 :: T').map Value.string) rfl (by simp) (HN.out _ HQA.out) (by intro u hu; obtain ⟨t, _, rfl⟩ := List.mem_map.1 hu; rfl) (by unfold maxLen; have := HB.out; omega) (by have := HB.out; omega) ?_; intro ao9 cap9 w9 hO9 hx9 hf9)
              go_ret2
              have hd2 := HD.out
              obtain ⟨g9, rfl, hg9⟩ : ∃ g9, ao9 = some ⟨g9, 0, none⟩ ∧ w.heap.size ≤ g9 := by
                rcases hO9.2 with ⟨_, h0⟩ | ⟨g', cap', cur, h1, _⟩
                · omega
                · simp at h1
                  refine ⟨g', h1.1, ?_⟩
                  rcases hf9 g' (by rw [h1.1]; rfl) with h | h
                  · have q1 := HQ2.out.size
                    have q2 := HE2.out.size
                    simp [Value.ownBlock] at h
                    omega
                  · have q1 := HQ2.out.size
                    have q2 := HE2.out.size
                    simp at h
                    omega
              refine ⟨.slice (some ⟨g9, 0, none⟩) (1 + (T'.length + 1)) cap9, true, rfl, Hs.hid (WayR.mk (by rw [hd2]; simp [HLEN.out]) (fun h => by simp at h) (fun _ => ?_)), ((HE2.out.trans0 HQA.out).trans hx9 (fun g hg => .inr ?_))⟩
              · rw [hd2, HFI.out]
                have e1 : wayStep true y (h0 :: T') = tx :: h0 :: T' := by
                  unfold wayStep
                  rw [List.headD_cons, ← HTX.out, HZ5.out]; rfl
                rw [e1]
                refine ⟨g9, cap9, by simp; omega, ?_, hg9⟩
                unfold OwnT
                rw [show (tx :: h0 :: T').length = 1 + (T'.length + 1) by simp; omega]
                exact hO9
              · have q2 := HE2.out.size
                have q1 := HQ2.out.size
                simp [Value.ownBlock] at hg
                omega
end Go.Proofs.Ytjicjadibaomkaa
set_option linter.unusedSimpArgs false
set_option linter.unusedVariables false
set_option maxHeartbeats 4000000
set_option maxRecDepth 100000
namespace Go.Proofs.Ytjicjadibaomkaa
open Go.RowKit Go.Hs Go.Dg

theorem isPair_ab : isPair ⟨#[97]⟩ ⟨#[98]⟩ = false := by
  unfold isPair
  have h : decide (digN ⟨#[97]⟩ = digN ⟨#[98]⟩) = false := by decide +kernel
  rw [h, Bool.and_false]
theorem isPair_nil : isPair ⟨#[]⟩ ⟨#[]⟩ = false := by unfold isPair; simp
theorem is_ab (w : World) : Calls Try.prog 15 #[.agg #[.string ⟨#[97]⟩, .string ⟨#[98]⟩]] w fun e w' => e = .returned (.bool false) ∧ Ext [] w w' := by
  have := pairIs_any ⟨#[97]⟩ ⟨#[98]⟩ (by decide) (by decide) w
  rw [isPair_ab] at this
  exact this
theorem is_nil (w : World) : Calls Try.prog 15 #[.agg #[.string ⟨#[]⟩, .string ⟨#[]⟩]] w fun e w' => e = .returned (.bool false) ∧ Ext [] w w' := by
  have := pairIs_any ⟨#[]⟩ ⟨#[]⟩ (by decide) (by decide) w
  rw [isPair_nil] at this
  exact this
theorem leaf_one (c : UInt8) (w : World) : Calls Try.prog 23 #[.string ⟨#[c]⟩] w fun e w' => e = .returned (.agg (digV ⟨#[0, c]⟩)) ∧ Ext [] w w' := by
  refine (leaf_any ⟨#[c]⟩ (by show 1 ≤ _; decide) w).mono fun e w' ⟨cs, h1, h2, h3⟩ => ⟨?_, h3⟩
  rw [h1, h2.out]
  rfl
theorem awake11_any (w : World) : Calls Try.prog 5 #[] w fun e w' => e = .returned (.bool true) ∧ Ext [] w w' := by
  have hs1 := strN_digN ⟨#[0, 97]⟩
  have hs2 := strN_digN ⟨#[0, 98]⟩
  go_enter Try.func5, Try.ntmps5
  go_upto_region 1 with fail
  go_cut [1] (fun s1 wx => ∃ B, s1 = .pointer (some ⟨B, 0, none⟩) ∧ wx.heap[B]? = some (.cells (digV ⟨#[0, 98]⟩) 35 (0, 0)) ∧ Ext [] w wx)
  case first =>
    go_wp2_with (first
      | (go_at_call 23; refine (leaf_one 98 _).mono ?_; rintro e w1 ⟨rfl, hx1⟩)
      | (refine wpList_store_row rfl 35 (.tmp 1) (.tmp 5) rfl w1.heap.size (digV ⟨#[0, 98]⟩) rfl rfl _ _ (heap_new _ _) (by rw [digV_size]; exact infoSum) (by rw [digV_size]; rfl) (digV_one _) ?_))
    simp only [Act.put]
    go_meet
    exact ⟨_, rfl, setRow_heap _ _ _ _ _ _ (heap_new _ _), (hx1.alloc _).trans (setRow_ext _ _) (fun g hg => .inr (by simp at hg; subst hg; exact hx1.size))⟩
  case rest =>
   obtain ⟨B1, rfl, hB, hx⟩ := hcut
   go_upto_region 2 with fail
   go_cut [2, 3] (fun s2 s3 wx => ∃ g c, s2 = .slice (some ⟨g, 0, none⟩) 2 c ∧ s3 = .bool true ∧ Own wx.heap 9 1 (.slice (some ⟨g, 0, none⟩) 2 c) 2 [.string (⟨#[1]⟩ ++ strN (digN ⟨#[0, 97]⟩) ++ strN (digN ⟨#[0, 98]⟩)), .string ⟨#[0, 97]⟩] ∧ Ext [] wc wx)
   case first =>
     go_wp2_with (first
       | (refine wpList_load_row rfl 35 (.tmp 1) rfl B1 rfl _ (digV ⟨#[0, 98]⟩) (0, 0) _ hB Try.underlying35 rfl (by rw [digV_size]; exact infoSum) ?_)
       | (go_at_call 10; refine (way_two ⟨#[0, 98]⟩ _ _ (0, 0) _ (heap_new _ _)).mono ?_; rintro e w5 ⟨g, c, rfl, hg, hx5⟩))
     go_meet
     exact ⟨g, c, rfl, rfl, hg, ((Ext.refl [] wc).alloc _).trans0 hx5⟩
   case rest =>
     obtain ⟨g, c, rfl, rfl, hg, hx2⟩ := hcut
     have hB2 := hx2.same hB (by simp)
     have hx := hx.trans0 hx2
     clear hB hx2
     go_upto_region 3 with fail
     go_cut [4] (fun s1 wx => ∃ B, s1 = .pointer (some ⟨B, 0, none⟩) ∧ wx.heap[B]? = some (.cells (digV ⟨#[0, 97]⟩) 35 (0, 0)) ∧ Ext [] wc wx)
     case first =>
       go_wp2_with (first
         | (go_at_call 23; refine (leaf_one 97 _).mono ?_; rintro e w1 ⟨rfl, hx1⟩)
         | (refine wpList_store_row rfl 35 (.tmp 4) (.tmp 12) rfl w1.heap.size (digV ⟨#[0, 97]⟩) rfl rfl _ _ (heap_new _ _) (by rw [digV_size]; exact infoSum) (by rw [digV_size]; rfl) (digV_one _) ?_))
       simp only [Act.put]
       go_meet
       exact ⟨_, rfl, setRow_heap _ _ _ _ _ _ (heap_new _ _), (hx1.alloc _).trans (setRow_ext _ _) (fun g hg => .inr (by simp at hg; subst hg; exact hx1.size))⟩
     case rest =>
       obtain ⟨A4, rfl, hA, hx3⟩ := hcut
       have hg := hg.same (h' := wc.heap) (fun q hq => hx3.block q (hg.lt hq) (by simp))
       have hB := hx3.same hB2 (by simp)
       have hx := hx.trans0 hx3
       have hgl : g < wc.heap.size := hg.lt rfl
       have g0 := Own.cells (w := wc) rfl hg (g := g) rfl 0 _ rfl
       have g1 := Own.cells (w := wc) rfl hg (g := g) rfl 1 _ rfl
       rw [add_off'] at g0 g1
       clear hB2 hx3 hg
       go_upto_region 4 with fail
       refine wp_region_noPanic ?_
       refine wp_region_held_drew (S := (fun w' => w'.cell? ⟨g, 0, none⟩ = some (.string (⟨#[1]⟩ ++ strN (digN ⟨#[0, 97]⟩) ++ strN (digN ⟨#[0, 98]⟩))) ∧ w'.cell? ⟨g, 1, none⟩ = some (.string ⟨#[0, 97]⟩) ∧ w'.heap[A4]? = some (.cells (digV ⟨#[0, 97]⟩) 35 (0, 0)) ∧ w'.heap[B1]? = some (.cells (digV ⟨#[0, 98]⟩) 35 (0, 0)))) (by kernel_rfl) ?_ (fun hHeld => ?_)
       · ((try dsimp only); exact ⟨g0, g1, hA, hB⟩)
       refine wpAnyH_take (i := 0) (v := ?_) rfl (by kernel_rfl) (by kernel_rfl) (by kernel_rfl) (fun _ _ _ h => h) (Or.inl ⟨by rfl, ?_⟩) (by assumption) ?_
       rotate_left
       · (intro w hSw; (try dsimp only at hSw); first | (go_simp; done) | (go_simp; with_reducible rfl))
       try simp only [Act.put, List.getElem_toArray, List.getElem_cons_succ, List.getElem_cons_zero, List.setIfInBounds_toArray, List.set_cons_zero, List.set_cons_succ]
       refine wpAnyH_take (i := 1) (v := ?_) rfl (by kernel_rfl) (by kernel_rfl) (by kernel_rfl) (fun _ _ _ h => h) (Or.inl ⟨by rfl, ?_⟩) (by assumption) ?_
       rotate_left
       · (intro w hSw; (try dsimp only at hSw); first | (go_simp; done) | (go_simp; with_reducible rfl))
       try simp only [Act.put, List.getElem_toArray, List.getElem_cons_succ, List.getElem_cons_zero, List.setIfInBounds_toArray, List.set_cons_zero, List.set_cons_succ]
       refine wpAnyH_take (i := 2) (v := ?_) rfl (by kernel_rfl) (by kernel_rfl) (by kernel_rfl) (fun _ _ _ h => h) (Or.inl ⟨by rfl, ?_⟩) (by assumption) ?_
       rotate_left
       · (intro w hSw; (try dsimp only at hSw); first | (go_simp; done) | (go_simp; with_reducible rfl))
       try simp only [Act.put, List.getElem_toArray, List.getElem_cons_succ, List.getElem_cons_zero, List.setIfInBounds_toArray, List.set_cons_zero, List.set_cons_succ]
       refine wpAnyH_take (i := 3) (v := ?_) rfl (by kernel_rfl) (by kernel_rfl) (by kernel_rfl) (fun _ _ _ h => h) (Or.inl ⟨by rfl, ?_⟩) (by assumption) ?_
       rotate_left
       · (intro w hSw; (try dsimp only at hSw); first | (go_simp; done) | (go_simp; with_reducible rfl))
       try simp only [Act.put, List.getElem_toArray, List.getElem_cons_succ, List.getElem_cons_zero, List.setIfInBounds_toArray, List.set_cons_zero, List.set_cons_succ]
       refine wpAnyH_take (i := 4) (v := ?_) rfl (by kernel_rfl) (by kernel_rfl) (by kernel_rfl) (fun _ _ _ h => h) (Or.inl ⟨by rfl, ?_⟩) (by assumption) ?_
       rotate_left
       · (intro w hSw; (try dsimp only at hSw); first | (go_simp; done) | (go_simp; with_reducible rfl))
       try simp only [Act.put, List.getElem_toArray, List.getElem_cons_succ, List.getElem_cons_zero, List.setIfInBounds_toArray, List.set_cons_zero, List.set_cons_succ]
       refine wpAnyH_take (i := 5) (v := ?_) rfl (by kernel_rfl) (by kernel_rfl) (by kernel_rfl) (fun _ _ _ h => h) (Or.inl ⟨by rfl, ?_⟩) (by assumption) ?_
       rotate_left
       · (intro w hSw; (try dsimp only at hSw); first | (go_simp; done) | (go_simp; with_reducible rfl))
       try simp only [Act.put, List.getElem_toArray, List.getElem_cons_succ, List.getElem_cons_zero, List.setIfInBounds_toArray, List.set_cons_zero, List.set_cons_succ]
       refine wpAnyH_take (i := 6) (v := ?_) rfl (by kernel_rfl) (by kernel_rfl) (by kernel_rfl) (fun _ _ _ h => h) (Or.inl ⟨by rfl, ?_⟩) (by assumption) ?_
       rotate_left
       · (intro w hSw; (try dsimp only at hSw); first | (go_simp; done) | (go_simp; with_reducible rfl))
       try simp only [Act.put, List.getElem_toArray, List.getElem_cons_succ, List.getElem_cons_zero, List.setIfInBounds_toArray, List.set_cons_zero, List.set_cons_succ]
       refine wpAnyH_take (i := 7) (v := ?_) rfl (by kernel_rfl) (by kernel_rfl) (by kernel_rfl) (fun _ _ _ h => h) (Or.inl ⟨by rfl, ?_⟩) (by assumption) ?_
       rotate_left
       · (intro w hSw; (try dsimp only at hSw); first | (go_simp; done) | (go_simp; with_reducible rfl))
       try simp only [Act.put, List.getElem_toArray, List.getElem_cons_succ, List.getElem_cons_zero, List.setIfInBounds_toArray, List.set_cons_zero, List.set_cons_succ]
       refine wpAnyH_take (i := 8) (v := ?_) rfl (by kernel_rfl) (by kernel_rfl) (by kernel_rfl) (fun _ _ _ h => h) (Or.inl ⟨by rfl, ?_⟩) (by assumption) ?_
       rotate_left
       · (intro w hSw; (try dsimp only at hSw); first | (go_simp; done) | (go_simp; with_reducible rfl))
       try simp only [Act.put, List.getElem_toArray, List.getElem_cons_succ, List.getElem_cons_zero, List.setIfInBounds_toArray, List.set_cons_zero, List.set_cons_succ]
       refine wpAnyH_take (i := 9) (v := ?_) rfl (by kernel_rfl) (by kernel_rfl) (by kernel_rfl) (fun _ _ _ h => h) (Or.inl ⟨by rfl, ?_⟩) (by assumption) ?_
       rotate_left
       · (intro w hSw; (try dsimp only at hSw); first | (go_simp; done) | (go_simp; with_reducible rfl))
       try simp only [Act.put, List.getElem_toArray, List.getElem_cons_succ, List.getElem_cons_zero, List.setIfInBounds_toArray, List.set_cons_zero, List.set_cons_succ]
       refine wpAnyH_take (i := 10) (v := ?_) rfl (by kernel_rfl) (by kernel_rfl) (by kernel_rfl) (fun _ _ _ h => h) (Or.inl ⟨by rfl, ?_⟩) (by assumption) ?_
       rotate_left
       · (intro w hSw; (try dsimp only at hSw); first | (go_simp; done) | (go_simp; with_reducible rfl))
       try simp only [Act.put, List.getElem_toArray, List.getElem_cons_succ, List.getElem_cons_zero, List.setIfInBounds_toArray, List.set_cons_zero, List.set_cons_succ]
       refine wpAnyH_take (i := 11) (v := ?_) rfl (by kernel_rfl) (by kernel_rfl) (by kernel_rfl) (fun _ _ _ h => h) (Or.inl ⟨by rfl, ?_⟩) (by assumption) ?_
       rotate_left
       · (intro w hSw; (try dsimp only at hSw); first | (go_simp; done) | (go_simp; with_reducible rfl))
       try simp only [Act.put, List.getElem_toArray, List.getElem_cons_succ, List.getElem_cons_zero, List.setIfInBounds_toArray, List.set_cons_zero, List.set_cons_succ]
       refine wpAnyH_take (i := 12) (v := ?_) rfl (by kernel_rfl) (by kernel_rfl) (by kernel_rfl) (fun _ _ _ h => h) (Or.inl ⟨by rfl, ?_⟩) (by assumption) ?_
       rotate_left
       · (intro w hSw; (try dsimp only at hSw); first | (go_simp; done) | (go_simp; with_reducible rfl))
       try simp only [Act.put, List.getElem_toArray, List.getElem_cons_succ, List.getElem_cons_zero, List.setIfInBounds_toArray, List.set_cons_zero, List.set_cons_succ]
       refine wpAnyH_take (i := 13) (v := ?_) rfl (by kernel_rfl) (by kernel_rfl) (by kernel_rfl) (fun _ _ _ h => h) (Or.inl ⟨by rfl, ?_⟩) (by assumption) ?_
       rotate_left
       · (intro w hSw; (try dsimp only at hSw); first | (go_simp; done) | (go_simp; with_reducible rfl))
       try simp only [Act.put, List.getElem_toArray, List.getElem_cons_succ, List.getElem_cons_zero, List.setIfInBounds_toArray, List.set_cons_zero, List.set_cons_succ]
       refine wpAnyH_take (i := 14) (v := ?_) rfl (by kernel_rfl) (by kernel_rfl) (by kernel_rfl) (fun _ _ _ h => h) (Or.inl ⟨by rfl, ?_⟩) (by assumption) ?_
       rotate_left
       · (intro w hSw; (try dsimp only at hSw); first | (go_simp; done) | (go_simp; with_reducible rfl))
       try simp only [Act.put, List.getElem_toArray, List.getElem_cons_succ, List.getElem_cons_zero, List.setIfInBounds_toArray, List.set_cons_zero, List.set_cons_succ]
       refine wpAnyH_take (i := 15) (v := ?_) rfl (by kernel_rfl) (by kernel_rfl) (by kernel_rfl) (fun _ _ _ h => h) (Or.inl ⟨by rfl, ?_⟩) (by assumption) ?_
       rotate_left
       · (intro w hSw; (try dsimp only at hSw); first | (go_simp; done) | (go_simp; with_reducible rfl))
       try simp only [Act.put, List.getElem_toArray, List.getElem_cons_succ, List.getElem_cons_zero, List.setIfInBounds_toArray, List.set_cons_zero, List.set_cons_succ]
       refine wpAnyH_take (i := 16) (v := ?_) rfl (by kernel_rfl) (by kernel_rfl) (by kernel_rfl) (fun _ _ _ h => h) (Or.inl ⟨by rfl, ?_⟩) (by assumption) ?_
       rotate_left
       · (intro w hSw; (try dsimp only at hSw); first | (go_simp; done) | (go_simp; with_reducible rfl))
       try simp only [Act.put, List.getElem_toArray, List.getElem_cons_succ, List.getElem_cons_zero, List.setIfInBounds_toArray, List.set_cons_zero, List.set_cons_succ]
       refine wpAnyH_take (i := 17) (v := ?_) rfl (by kernel_rfl) (by kernel_rfl) (by kernel_rfl) (fun _ _ _ h => h) (Or.inl ⟨by rfl, ?_⟩) (by assumption) ?_
       rotate_left
       · (intro w hSw; (try dsimp only at hSw); have hq := conv_dig hSw.2.2.1; first | (go_simp; done) | (go_simp; with_reducible rfl))
       try simp only [Act.put, List.getElem_toArray, List.getElem_cons_succ, List.getElem_cons_zero, List.setIfInBounds_toArray, List.set_cons_zero, List.set_cons_succ]
       refine wpAnyH_take (i := 18) (v := ?_) rfl (by kernel_rfl) (by kernel_rfl) (by kernel_rfl) (fun _ _ _ h => h) (Or.inl ⟨by rfl, ?_⟩) (by assumption) ?_
       rotate_left
       · (intro w hSw; (try dsimp only at hSw); first | (go_simp; done) | (go_simp; with_reducible rfl))
       try simp only [Act.put, List.getElem_toArray, List.getElem_cons_succ, List.getElem_cons_zero, List.setIfInBounds_toArray, List.set_cons_zero, List.set_cons_succ]
       refine wpAnyH_take (i := 19) (v := ?_) rfl (by kernel_rfl) (by kernel_rfl) (by kernel_rfl) (fun _ _ _ h => h) (Or.inl ⟨by rfl, ?_⟩) (by assumption) ?_
       rotate_left
       · (intro w hSw; (try dsimp only at hSw); first | (go_simp; done) | (go_simp; with_reducible rfl))
       try simp only [Act.put, List.getElem_toArray, List.getElem_cons_succ, List.getElem_cons_zero, List.setIfInBounds_toArray, List.set_cons_zero, List.set_cons_succ]
       refine wpAnyH_take (i := 20) (v := ?_) rfl (by kernel_rfl) (by kernel_rfl) (by kernel_rfl) (fun _ _ _ h => h) (Or.inl ⟨by rfl, ?_⟩) (by assumption) ?_
       rotate_left
       · (intro w hSw; (try dsimp only at hSw); have hq := conv_dig hSw.2.2.2; first | (go_simp; done) | (go_simp; with_reducible rfl))
       try simp only [Act.put, List.getElem_toArray, List.getElem_cons_succ, List.getElem_cons_zero, List.setIfInBounds_toArray, List.set_cons_zero, List.set_cons_succ]
       refine wpAnyH_take (i := 21) (v := ?_) rfl (by kernel_rfl) (by kernel_rfl) (by kernel_rfl) (fun _ _ _ h => h) (Or.inl ⟨by rfl, ?_⟩) (by assumption) ?_
       rotate_left
       · (intro w hSw; (try dsimp only at hSw); first | (go_simp; done) | (go_simp; with_reducible rfl))
       try simp only [Act.put, List.getElem_toArray, List.getElem_cons_succ, List.getElem_cons_zero, List.setIfInBounds_toArray, List.set_cons_zero, List.set_cons_succ]
       refine wpAnyH_take (i := 22) (v := ?_) rfl (by kernel_rfl) (by kernel_rfl) (by kernel_rfl) (fun _ _ _ h => h) (Or.inl ⟨by rfl, ?_⟩) (by assumption) ?_
       rotate_left
       · (intro w hSw; (try dsimp only at hSw); first | (go_simp; done) | (go_simp; with_reducible rfl))
       try simp only [Act.put, List.getElem_toArray, List.getElem_cons_succ, List.getElem_cons_zero, List.setIfInBounds_toArray, List.set_cons_zero, List.set_cons_succ]
       refine wpAnyH_take (i := 23) (v := ?_) rfl (by kernel_rfl) (by kernel_rfl) (by kernel_rfl) (fun _ _ _ h => h) (Or.inl ⟨by rfl, ?_⟩) (by assumption) ?_
       rotate_left
       · (intro w hSw; (try dsimp only at hSw); first | (go_simp; done) | (go_simp; with_reducible rfl))
       try simp only [Act.put, List.getElem_toArray, List.getElem_cons_succ, List.getElem_cons_zero, List.setIfInBounds_toArray, List.set_cons_zero, List.set_cons_succ]
       refine wpAnyH_take (i := 24) (v := ?_) rfl (by kernel_rfl) (by kernel_rfl) (by kernel_rfl) (fun _ _ _ h => h) (Or.inl ⟨by rfl, ?_⟩) (by assumption) ?_
       rotate_left
       · (intro w hSw; (try dsimp only at hSw); first | (go_simp; done) | (go_simp; with_reducible rfl))
       try simp only [Act.put, List.getElem_toArray, List.getElem_cons_succ, List.getElem_cons_zero, List.setIfInBounds_toArray, List.set_cons_zero, List.set_cons_succ]
       refine wpAnyH_take (i := 25) (v := ?_) rfl (by kernel_rfl) (by kernel_rfl) (by kernel_rfl) (fun _ _ _ h => h) (Or.inl ⟨by rfl, ?_⟩) (by assumption) ?_
       rotate_left
       · (intro w hSw; (try dsimp only at hSw); first | (go_simp; done) | (go_simp; with_reducible rfl))
       try simp only [Act.put, List.getElem_toArray, List.getElem_cons_succ, List.getElem_cons_zero, List.setIfInBounds_toArray, List.set_cons_zero, List.set_cons_succ]
       refine wpAnyH_ready (rs := [26]) (by kernel_rfl) (by simp) ?_
       refine AllReadyH.cons rfl (fun K hK => ?_) AllReadyH.nil
       go_simp
       (go_at_call 15; refine (is_ab _).mono ?_; rintro e w8 ⟨rfl, hx8⟩)
       go_wp2_with fail
       refine hK.out _ _ ?_ (fun hHeld => ?_)
       · ((try dsimp only); exact ⟨(hx8.below.cell (p := ⟨g, 0, none⟩) hgl).trans hHeld.1, (hx8.below.cell (p := ⟨g, 1, none⟩) hgl).trans hHeld.2.1, hx8.same hHeld.2.2.1 (by simp), hx8.same hHeld.2.2.2 (by simp)⟩)
       clear hK K
       try simp only [Act.put, List.getElem_toArray, List.getElem_cons_succ, List.getElem_cons_zero, List.setIfInBounds_toArray, List.set_cons_zero, List.set_cons_succ]
       refine wpAnyH_take (i := 27) (v := ?_) rfl (by kernel_rfl) (by kernel_rfl) (by kernel_rfl) (fun _ _ _ h => h) (Or.inl ⟨by rfl, ?_⟩) (by assumption) ?_
       rotate_left
       · (intro w hSw; (try dsimp only at hSw); first | (go_simp; done) | (go_simp; with_reducible rfl))
       try simp only [Act.put, List.getElem_toArray, List.getElem_cons_succ, List.getElem_cons_zero, List.setIfInBounds_toArray, List.set_cons_zero, List.set_cons_succ]
       refine wpAnyH_take (i := 28) (v := ?_) rfl (by kernel_rfl) (by kernel_rfl) (by kernel_rfl) (fun _ _ _ h => h) (Or.inl ⟨by rfl, ?_⟩) (by assumption) ?_
       rotate_left
       · (intro w hSw; (try dsimp only at hSw); first | (go_simp; done) | (go_simp; with_reducible rfl))
       try simp only [Act.put, List.getElem_toArray, List.getElem_cons_succ, List.getElem_cons_zero, List.setIfInBounds_toArray, List.set_cons_zero, List.set_cons_succ]
       refine wpAnyH_take (i := 29) (v := ?_) rfl (by kernel_rfl) (by kernel_rfl) (by kernel_rfl) (fun _ _ _ h => h) (Or.inl ⟨by rfl, ?_⟩) (by assumption) ?_
       rotate_left
       · (intro w hSw; (try dsimp only at hSw); first | (go_simp; done) | (go_simp; with_reducible rfl))
       try simp only [Act.put, List.getElem_toArray, List.getElem_cons_succ, List.getElem_cons_zero, List.setIfInBounds_toArray, List.set_cons_zero, List.set_cons_succ]
       refine wpAnyH_take (i := 30) (v := ?_) rfl (by kernel_rfl) (by kernel_rfl) (by kernel_rfl) (fun _ _ _ h => h) (Or.inl ⟨by rfl, ?_⟩) (by assumption) ?_
       rotate_left
       · (intro w hSw; (try dsimp only at hSw); first | (go_simp; done) | (go_simp; with_reducible rfl))
       try simp only [Act.put, List.getElem_toArray, List.getElem_cons_succ, List.getElem_cons_zero, List.setIfInBounds_toArray, List.set_cons_zero, List.set_cons_succ]
       refine wpAnyH_ready (rs := [31]) (by kernel_rfl) (by simp) ?_
       refine AllReadyH.cons rfl (fun K hK => ?_) AllReadyH.nil
       go_simp
       (go_at_call 15; refine (is_nil _).mono ?_; rintro e w9 ⟨rfl, hx9⟩)
       go_wp2_with fail
       refine hK.out _ _ ?_ (fun hHeld => ?_)
       · ((try dsimp only); exact ⟨(hx9.below.cell (p := ⟨g, 0, none⟩) (Nat.lt_of_lt_of_le hgl hx8.size)).trans hHeld.1, (hx9.below.cell (p := ⟨g, 1, none⟩) (Nat.lt_of_lt_of_le hgl hx8.size)).trans hHeld.2.1, hx9.same hHeld.2.2.1 (by simp), hx9.same hHeld.2.2.2 (by simp)⟩)
       clear hK K
       try simp only [Act.put, List.getElem_toArray, List.getElem_cons_succ, List.getElem_cons_zero, List.setIfInBounds_toArray, List.set_cons_zero, List.set_cons_succ]
       refine wpAnyH_take (i := 32) (v := ?_) rfl (by kernel_rfl) (by kernel_rfl) (by kernel_rfl) (fun _ _ _ h => h) (Or.inl ⟨by rfl, ?_⟩) (by assumption) ?_
       rotate_left
       · (intro w hSw; (try dsimp only at hSw); first | (go_simp; done) | (go_simp; with_reducible rfl))
       try simp only [Act.put, List.getElem_toArray, List.getElem_cons_succ, List.getElem_cons_zero, List.setIfInBounds_toArray, List.set_cons_zero, List.set_cons_succ]
       refine wpAnyH_take (i := 33) (v := ?_) rfl (by kernel_rfl) (by kernel_rfl) (by kernel_rfl) (fun _ _ _ h => h) (Or.inl ⟨by rfl, ?_⟩) (by assumption) ?_
       rotate_left
       · (intro w hSw; (try dsimp only at hSw); first | (go_simp; done) | (go_simp; with_reducible rfl))
       try simp only [Act.put, List.getElem_toArray, List.getElem_cons_succ, List.getElem_cons_zero, List.setIfInBounds_toArray, List.set_cons_zero, List.set_cons_succ]
       refine wpAnyH_take (i := 34) (v := ?_) rfl (by kernel_rfl) (by kernel_rfl) (by kernel_rfl) (fun _ _ _ h => h) (Or.inl ⟨by rfl, ?_⟩) (by assumption) ?_
       rotate_left
       · (intro w hSw; (try dsimp only at hSw); first | (go_simp; done) | (go_simp; with_reducible rfl))
       try simp only [Act.put, List.getElem_toArray, List.getElem_cons_succ, List.getElem_cons_zero, List.setIfInBounds_toArray, List.set_cons_zero, List.set_cons_succ]
       refine wpAnyH_done (by kernel_rfl) ?_ _
       refine NoPanic.normal ?_
       go_wp2
       go_ret
       exact ⟨rfl, ((hx.drew).trans0 hx8).trans0 hx9⟩
end Go.Proofs.Ytjicjadibaomkaa
