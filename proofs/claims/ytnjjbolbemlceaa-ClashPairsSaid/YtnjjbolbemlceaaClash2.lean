/-
  clash.half, Way of one leaf and of two.
-/
import Derived.Test.YtnjjbolbemlceaaClash
set_option linter.unusedSimpArgs false
set_option linter.unusedVariables false
set_option maxHeartbeats 2000000
set_option maxRecDepth 100000
namespace Go.Proofs.Ytnjjbolbemlceaa
open Go.RowKit Go.Hs Go.Dg

theorem yieldsIf_load_row {P : Program} {ops : Array Oper} {S : World → Prop} {op : Oper} {a : Act} (hw : Region.wanted op (yielded ops a.tmps) = true) (ty : TypeId) (x : Operand) (ho : op.op = .load ty x)
    (g : Nat) (hx : a.eval x = .pointer (some ⟨g, 0, none⟩)) (cs : Array Value) (d : TypeDesc) (hS : ∀ w, S w → ∃ t fr, w.heap[g]? = some (.cells cs t fr))
    (hu : P.underlying ty = some d) (hd : (match d with | .struct _ | .array _ _ => true | _ => false) = true) (hi : (P.info? ty).map (·.size) = some cs.size) : YieldsIf P ops S op (.agg cs) a :=
  .inl ⟨hw, fun w hw' => by
    obtain ⟨t, fr, hg⟩ := hS w hw'
    unfold execOp
    simp only [ho, hx, Instr.loadAt, Instr.sureAddr, Sem.run_bind, Sem.run_pure, Result.andThen_ok, run_loadVar_row w g t ty cs fr d hg hu hd hi]⟩
theorem infoStr : (Try.prog.info? 9).map (fun i => (i.zero, i.size, i.bytes)) = some (some (.string ⟨#[]⟩), 1, 16) := by kernel_rfl
theorem half_two (w : World) : Calls Try.prog 41 #[.int .i64 2] w fun e w' => e = .returned (.int .i64 1) ∧ w' = w := by
  go_enter Try.func41, Try.ntmps41
  go_wp2
  refine wp_loop_rounds 1 ?_
  rw [rounds_succ]
  go_wp2
  go_ret
  exact ⟨rfl, rfl⟩
theorem way_one (ao : Option Addr) (cap : Nat) (w : World) : Calls Try.prog 27 #[.string ⟨#[97]⟩, .int .i64 0, .int .i64 1, .slice ao 0 cap] w fun e w' =>
    ∃ g, e = .returned (.tuple #[.slice (some ⟨g, 0, none⟩) 1 1, .bool true]) ∧ w'.heap[g]? = some (.cells #[.string ⟨#[0, 97]⟩] 9 (0, 0)) ∧ Ext [] w w' ∧ w.heap.size ≤ g := by
  go_enter Try.func27, Try.ntmps27
  go_wp2
  go_ret2
  exact ⟨_, rfl, heap_new _ _, (Ext.refl _ _).alloc _, Nat.le_refl _⟩
theorem cut_any (s : ByteArray) (n : Nat) (hn : n ≤ 1000000) (w : World) (hs : s.size ≤ maxLen) : Calls Try.prog 8 #[.string s, .int .i64 n] w fun e w' => ∃ t : ByteArray, e = .returned (.string t) ∧ t.size ≤ n ∧ w' = w := by
  unfold maxLen at hs
  have h1 : (n : Int) ≤ 1000000 := by omega
  have h2 : (0 : Int) ≤ n := by omega
  have h3 : (s.size : Int) ≤ 9223372036854775807 := by omega
  by_cases h : n < s.size
  · have hi : (n : Int) < s.size := by omega
    have HN := Hs.hid h
    clear h
    go_enter Try.func8, Try.ntmps8
    go_wp2
    go_ret
    exact ⟨_, rfl, by rw [ByteArray.size_extract]; omega, rfl⟩
  · have hi : ¬ (n : Int) < s.size := by omega
    have HN := Hs.hid h
    clear h
    go_enter Try.func8, Try.ntmps8
    go_wp2
    go_ret
    exact ⟨_, rfl, by have := HN.out; omega, rfl⟩
theorem way_two (x : ByteArray) (G cap : Nat) (fr : Nat × Nat) (w : World) (hG : w.heap[G]? = some (.cells (digV x) 27 fr)) : Calls Try.prog 27 #[.string ⟨#[97]⟩, .int .i64 0, .int .i64 2, .slice (some ⟨G, 0, none⟩) 1 cap] w fun e w' =>
    ∃ g c, e = .returned (.tuple #[.slice (some ⟨g, 0, none⟩) 2 c, .bool true]) ∧ Own w'.heap 9 1 (.slice (some ⟨g, 0, none⟩) 2 c) 2 [.string (⟨#[1]⟩ ++ strN (digN ⟨#[0, 97]⟩) ++ strN (digN x)), .string ⟨#[0, 97]⟩] ∧ Ext [] w w' := by
  obtain ⟨i0, hi, hz0, hz1, hz2⟩ := info_parts infoStr
  have HI := Hs.hid hi
  have HZ := Hs.hid (And.intro hz0 (And.intro hz1 hz2))
  clear hi hz0 hz1 hz2
  have hw0 : IntKind.i64.wrap 0 = 0 := by decide
  have hw1 : IntKind.i64.wrap (1 - 1) = 0 := by decide
  go_enter Try.func27, Try.ntmps27
  go_upto_region 5 with fail
  go_cut [10, 11] (fun s10 s11 wx => ∃ N, s10 = .pointer (some ⟨N, 0, none⟩) ∧ s11 = .int .i64 1 ∧ wx.heap[N]? = some (.cells (digV x) 27 (0, 0)) ∧ Ext [] w wx)
  case first =>
    refine wp_region_noPanic ?_
    refine wp_region_held_drew (S := (fun w' => w'.heap[G]? = some (.cells (digV x) 27 fr))) (by kernel_rfl) ?_ (fun hHeld => ?_)
    · ((try dsimp only); exact hG)
    refine wpAnyH_take (i := 0) (v := ?_) rfl (by kernel_rfl) (by kernel_rfl) (by kernel_rfl) (fun _ _ _ h => h) (Or.inl ⟨by rfl, ?_⟩) (by assumption) ?_
    rotate_left
    · (intro w hSw; (try dsimp only at hSw); first | (go_simp; done) | (go_simp; with_reducible rfl))
    try simp only [Act.put, List.getElem_toArray, List.getElem_cons_succ, List.getElem_cons_zero, List.setIfInBounds_toArray, List.set_cons_zero, List.set_cons_succ]
    refine wpAnyH_take (i := 1) (v := ?_) rfl (by kernel_rfl) (by kernel_rfl) (by kernel_rfl) (fun _ _ _ h => h) (Or.inl ⟨by rfl, ?_⟩) (by assumption) ?_
    rotate_left
    · (intro w hSw; (try dsimp only at hSw); first | (go_simp; done) | (go_simp; with_reducible rfl))
    try simp only [Act.put, List.getElem_toArray, List.getElem_cons_succ, List.getElem_cons_zero, List.setIfInBounds_toArray, List.set_cons_zero, List.set_cons_succ]
    refine wpAnyH_take (i := 2) (v := ?_) rfl (by kernel_rfl) (by kernel_rfl) (by kernel_rfl) (fun _ _ _ h => h) (Or.inl ⟨by rfl, ?_⟩) (by assumption) ?_
    rotate_left
    · (intro w hSw; (try dsimp only at hSw); first | (go_simp; done) | (go_simp; with_reducible rfl))
    try simp only [Act.put, List.getElem_toArray, List.getElem_cons_succ, List.getElem_cons_zero, List.setIfInBounds_toArray, List.set_cons_zero, List.set_cons_succ]
    refine wpAnyH_take (i := 3) (v := ?_) rfl (by kernel_rfl) (by kernel_rfl) (by kernel_rfl) (fun _ _ _ h => h) (Or.inl ⟨by rfl, ?_⟩) (by assumption) ?_
    rotate_left
    · (intro w hSw; (try dsimp only at hSw); first | (go_simp; done) | (go_simp; with_reducible rfl))
    try simp only [Act.put, List.getElem_toArray, List.getElem_cons_succ, List.getElem_cons_zero, List.setIfInBounds_toArray, List.set_cons_zero, List.set_cons_succ]
    refine wpAnyH_take (i := 4) (v := ?_) rfl (by kernel_rfl) (by kernel_rfl) (by kernel_rfl) (fun _ _ _ h => h) (Or.inl ⟨by rfl, ?_⟩) (by assumption) ?_
    rotate_left
    · (intro w hSw; (try dsimp only at hSw); first | (go_simp; done) | (go_simp; with_reducible rfl))
    try simp only [Act.put, List.getElem_toArray, List.getElem_cons_succ, List.getElem_cons_zero, List.setIfInBounds_toArray, List.set_cons_zero, List.set_cons_succ]
    refine wpAnyH_take (i := 5) (v := _) rfl (by kernel_rfl) (by kernel_rfl) (by kernel_rfl) (fun _ _ _ h => h) (yieldsIf_load_row (by rfl) 27 _ rfl G rfl (digV x) _ (fun w h => ⟨_, _, h⟩) Try.underlying27 rfl (by rw [digV_size]; exact infoSum)) (by assumption) ?_
    try simp only [Act.put, List.getElem_toArray, List.getElem_cons_succ, List.getElem_cons_zero, List.setIfInBounds_toArray, List.set_cons_zero, List.set_cons_succ]
    refine wpAnyH_take (i := 6) (v := ?_) rfl (by kernel_rfl) (by kernel_rfl) (by kernel_rfl) (fun _ _ _ h => h) (Or.inl ⟨by rfl, ?_⟩) (by assumption) ?_
    rotate_left
    · (intro w hSw; (try dsimp only at hSw); first | (go_simp; done) | (go_simp; with_reducible rfl))
    try simp only [Act.put, List.getElem_toArray, List.getElem_cons_succ, List.getElem_cons_zero, List.setIfInBounds_toArray, List.set_cons_zero, List.set_cons_succ]
    refine wpAnyH_ready (rs := [7, 8]) (by kernel_rfl) (by simp) ?_
    refine AllReadyH.cons rfl (fun K hK => ?_) (AllReadyH.cons rfl (fun K hK => ?_) AllReadyH.nil)
    · go_simp
      (go_at_call 41; refine (half_two _).mono ?_; rintro e w4 ⟨rfl, rfl⟩)
      go_wp2_with fail
      refine hK.out _ _ ?_ (fun hHeld => ?_)
      · ((try dsimp only); exact hHeld)
      clear hK K
      try simp only [Act.put, List.getElem_toArray, List.getElem_cons_succ, List.getElem_cons_zero, List.setIfInBounds_toArray, List.set_cons_zero, List.set_cons_succ]
      refine wpAnyH_ready (rs := [8]) (by kernel_rfl) (by simp) ?_
      refine AllReadyH.cons rfl (fun K hK => ?_) AllReadyH.nil
      rw [if_pos (by rfl)]
      go_simp
      refine hK.out _ _ ?_ (fun hHeld => ?_)
      · ((try dsimp only); exact heap_old' _ _ hHeld)
      clear hK K
      try simp only [Act.put, List.getElem_toArray, List.getElem_cons_succ, List.getElem_cons_zero, List.setIfInBounds_toArray, List.set_cons_zero, List.set_cons_succ]
      refine wpAnyH_ready (rs := [9]) (by kernel_rfl) (by simp) ?_
      refine AllReadyH.cons rfl (fun K hK => ?_) AllReadyH.nil
      rw [if_pos (by rfl)]
      (refine wp_store_row 27 _ _ rfl _ (digV x) rfl rfl _ _ (heap_new _ _) (by rw [digV_size]; exact infoSum) (by rw [digV_size]; rfl) (digV_one x) ?_)
      refine hK.out _ _ ?_ (fun hHeld => ?_)
      · ((try dsimp only); (rw [setRow_other _ _ _ _ (by have := lt_of_heap hG; simp; omega)]; exact hHeld))
      clear hK K
      try simp only [Act.put, List.getElem_toArray, List.getElem_cons_succ, List.getElem_cons_zero, List.setIfInBounds_toArray, List.set_cons_zero, List.set_cons_succ]
      refine wpAnyH_take (i := 10) (v := ?_) rfl (by kernel_rfl) (by kernel_rfl) (by kernel_rfl) (fun _ _ _ h => h) (Or.inl ⟨by rfl, ?_⟩) (by assumption) ?_
      rotate_left
      · (intro w hSw; (try dsimp only at hSw); first | (go_simp; done) | (go_simp; with_reducible rfl))
      try simp only [Act.put, List.getElem_toArray, List.getElem_cons_succ, List.getElem_cons_zero, List.setIfInBounds_toArray, List.set_cons_zero, List.set_cons_succ]
      refine wpAnyH_done (by kernel_rfl) ?_ _
      refine NoPanic.normal ?_
      go_wp2
      go_meet
      exact ⟨_, rfl, rfl, setRow_heap _ _ _ _ _ _ (heap_new _ _), (((Ext.refl [] w).drew).alloc _).trans (setRow_ext _ _) (fun g hg => .inr (by simp at hg; omega))⟩
    · rw [if_pos (by rfl)]
      go_simp
      refine hK.out _ _ ?_ (fun hHeld => ?_)
      · ((try dsimp only); exact heap_old' _ _ hHeld)
      clear hK K
      try simp only [Act.put, List.getElem_toArray, List.getElem_cons_succ, List.getElem_cons_zero, List.setIfInBounds_toArray, List.set_cons_zero, List.set_cons_succ]
      refine wpAnyH_ready (rs := [7]) (by kernel_rfl) (by simp) ?_
      refine AllReadyH.cons rfl (fun K hK => ?_) AllReadyH.nil
      go_simp
      (go_at_call 41; refine (half_two _).mono ?_; rintro e w4 ⟨rfl, rfl⟩)
      go_wp2_with fail
      refine hK.out _ _ ?_ (fun hHeld => ?_)
      · ((try dsimp only); exact hHeld)
      clear hK K
      try simp only [Act.put, List.getElem_toArray, List.getElem_cons_succ, List.getElem_cons_zero, List.setIfInBounds_toArray, List.set_cons_zero, List.set_cons_succ]
      refine wpAnyH_ready (rs := [9]) (by kernel_rfl) (by simp) ?_
      refine AllReadyH.cons rfl (fun K hK => ?_) AllReadyH.nil
      rw [if_pos (by rfl)]
      (refine wp_store_row 27 _ _ rfl _ (digV x) rfl rfl _ _ (heap_new _ _) (by rw [digV_size]; exact infoSum) (by rw [digV_size]; rfl) (digV_one x) ?_)
      refine hK.out _ _ ?_ (fun hHeld => ?_)
      · ((try dsimp only); (rw [setRow_other _ _ _ _ (by have := lt_of_heap hG; simp; omega)]; exact hHeld))
      clear hK K
      try simp only [Act.put, List.getElem_toArray, List.getElem_cons_succ, List.getElem_cons_zero, List.setIfInBounds_toArray, List.set_cons_zero, List.set_cons_succ]
      refine wpAnyH_take (i := 10) (v := ?_) rfl (by kernel_rfl) (by kernel_rfl) (by kernel_rfl) (fun _ _ _ h => h) (Or.inl ⟨by rfl, ?_⟩) (by assumption) ?_
      rotate_left
      · (intro w hSw; (try dsimp only at hSw); first | (go_simp; done) | (go_simp; with_reducible rfl))
      try simp only [Act.put, List.getElem_toArray, List.getElem_cons_succ, List.getElem_cons_zero, List.setIfInBounds_toArray, List.set_cons_zero, List.set_cons_succ]
      refine wpAnyH_done (by kernel_rfl) ?_ _
      refine NoPanic.normal ?_
      go_wp2
      go_meet
      exact ⟨_, rfl, rfl, setRow_heap _ _ _ _ _ _ (heap_new _ _), (((Ext.refl [] w).drew).alloc _).trans (setRow_ext _ _) (fun g hg => .inr (by simp at hg; omega))⟩
  case rest =>
    obtain ⟨N, rfl, rfl, hN, hx⟩ := hcut
    go_upto_region 12 with (go_at_call 27; refine (way_one _ _ _).mono ?_; rintro e w5 ⟨g, rfl, hg, hx5, hgl⟩)
    have hN := hx5.same hN (by simp)
    have hx := hx.trans0 hx5
    have hg0 : w5.cell? ⟨g, 0, none⟩ = some (.string ⟨#[0, 97]⟩) := cellAt hg 0
    clear hx5 hgl
    go_cut [16] (fun s16 wx => s16 = .string (⟨#[1]⟩ ++ strN (digN ⟨#[0, 97]⟩) ++ strN (digN x)) ∧ Ext [] w5 wx)
    case first =>
      refine wp_region_noPanic ?_
      refine wp_region_held_drew (S := (fun w' => w'.heap[N]? = some (.cells (digV x) 27 (0, 0)) ∧ w'.cell? ⟨g, 0, none⟩ = some (.string ⟨#[0, 97]⟩))) (by kernel_rfl) ?_ (fun hHeld => ?_)
      · ((try dsimp only); exact ⟨hN, hg0⟩)
      refine wpAnyH_take (i := 0) (v := ?_) rfl (by kernel_rfl) (by kernel_rfl) (by kernel_rfl) (fun _ _ _ h => h) (Or.inl ⟨by rfl, ?_⟩) (by assumption) ?_
      rotate_left
      · (intro w hSw; (try dsimp only at hSw); first | (go_simp; done) | (go_simp; with_reducible rfl))
      try simp only [Act.put, List.getElem_toArray, List.getElem_cons_succ, List.getElem_cons_zero, List.setIfInBounds_toArray, List.set_cons_zero, List.set_cons_succ]
      refine wpAnyH_take (i := 1) (v := ?_) rfl (by kernel_rfl) (by kernel_rfl) (by kernel_rfl) (fun _ _ _ h => h) (Or.inl ⟨by rfl, ?_⟩) (by assumption) ?_
      rotate_left
      · (intro w hSw; (try dsimp only at hSw); first | (go_simp; done) | (go_simp; with_reducible rfl))
      try simp only [Act.put, List.getElem_toArray, List.getElem_cons_succ, List.getElem_cons_zero, List.setIfInBounds_toArray, List.set_cons_zero, List.set_cons_succ]
      refine wpAnyH_take (i := 2) (v := ?_) rfl (by kernel_rfl) (by kernel_rfl) (by kernel_rfl) (fun _ _ _ h => h) (Or.inl ⟨by rfl, ?_⟩) (by assumption) ?_
      rotate_left
      · (intro w hSw; (try dsimp only at hSw); first | (go_simp; done) | (go_simp; with_reducible rfl))
      try simp only [Act.put, List.getElem_toArray, List.getElem_cons_succ, List.getElem_cons_zero, List.setIfInBounds_toArray, List.set_cons_zero, List.set_cons_succ]
      refine wpAnyH_take (i := 4) (v := _) rfl (by kernel_rfl) (by kernel_rfl) (by kernel_rfl) (fun _ _ _ h => h) (yieldsIf_load_row (by rfl) 27 _ rfl N rfl (digV x) _ (fun w h => ⟨_, _, h.1⟩) Try.underlying27 rfl (by rw [digV_size]; exact infoSum)) (by assumption) ?_
      try simp only [Act.put, List.getElem_toArray, List.getElem_cons_succ, List.getElem_cons_zero, List.setIfInBounds_toArray, List.set_cons_zero, List.set_cons_succ]
      refine wpAnyH_ready (rs := [3]) (by kernel_rfl) (by simp) ?_
      refine AllReadyH.cons rfl (fun K hK => ?_) AllReadyH.nil
      go_simp
      (go_at_call 11; refine (of_any ⟨#[0, 97]⟩ (by decide) _).mono ?_; rintro e w6 ⟨cs, rfl, hcs, hx6⟩; obtain rfl := hcs.out)
      go_wp2_with fail
      refine hK.out _ _ ?_ (fun hHeld => ?_)
      · ((try dsimp only); exact ⟨hx6.same hHeld.1 (by simp), (show _ from cellAt (hx6.same (show _ from hg) (by simp)) 0)⟩)
      clear hK K
      try simp only [Act.put, List.getElem_toArray, List.getElem_cons_succ, List.getElem_cons_zero, List.setIfInBounds_toArray, List.set_cons_zero, List.set_cons_succ]
      refine wpAnyH_ready (rs := [5]) (by kernel_rfl) (by simp) ?_
      refine AllReadyH.cons rfl (fun K hK => ?_) AllReadyH.nil
      go_simp
      (go_at_call 42; refine (node_any ⟨#[0, 97]⟩ x _).mono ?_; rintro e w7 ⟨rfl, hx7⟩)
      go_wp2_with fail
      refine hK.out _ _ ?_ (fun hHeld => ?_)
      · ((try dsimp only); exact ⟨hx7.same hHeld.1 (by simp), (show _ from cellAt (hx7.same (hx6.same (show _ from hg) (by simp)) (by simp)) 0)⟩)
      clear hK K
      try simp only [Act.put, List.getElem_toArray, List.getElem_cons_succ, List.getElem_cons_zero, List.setIfInBounds_toArray, List.set_cons_zero, List.set_cons_succ]
      refine wpAnyH_take (i := 6) (v := ?_) rfl (by kernel_rfl) (by kernel_rfl) (by kernel_rfl) (fun _ _ _ h => h) (Or.inl ⟨by rfl, ?_⟩) (by assumption) ?_
      rotate_left
      · (intro w hSw; (try dsimp only at hSw); first | (go_simp; done) | (go_simp; with_reducible rfl))
      try simp only [Act.put, List.getElem_toArray, List.getElem_cons_succ, List.getElem_cons_zero, List.setIfInBounds_toArray, List.set_cons_zero, List.set_cons_succ]
      refine wpAnyH_done (by kernel_rfl) ?_ _
      refine NoPanic.normal ?_
      go_wp2
      go_meet
      exact ⟨rfl, ((Ext.refl [] w5).drew.trans0 hx6).trans0 hx7⟩
    case rest =>
      obtain ⟨rfl, hx6⟩ := hcut
      have hg := hx6.same hg (by simp)
      have hx := hx.trans0 hx6
      clear hx6 hg0 hN
      have hi := HI.out
      obtain ⟨hz0, hz1, hz2⟩ := HZ.out
      have hgl := lt_of_heap hg
      have hown : Own (wc.alloc (.cells #[.string (⟨#[1]⟩ ++ strN (digN ⟨#[0, 97]⟩) ++ strN (digN x))] 9)).heap 9 1 (.slice (some ⟨wc.heap.size, 0, none⟩) 1 1) 1 [.string (⟨#[1]⟩ ++ strN (digN ⟨#[0, 97]⟩) ++ strN (digN x))] :=
        ⟨rfl, .inr ⟨_, 1, _, rfl, Nat.zero_le _, heap_new _ _, Nat.le_refl _, by decide, rfl, rfl⟩⟩
      have hnews : ∀ j u, ([Value.string ⟨#[0, 97]⟩] : List Value)[j]? = some u → (wc.alloc (.cells #[.string (⟨#[1]⟩ ++ strN (digN ⟨#[0, 97]⟩) ++ strN (digN x))] 9)).cell? ((⟨g, 0, none⟩ : Addr).add j) = some u := by
        intro j u hj
        rw [add_off', cellAt (heap_old' _ _ hg) j]
        simpa using hj
      generalize htx : (⟨#[1]⟩ ++ strN (digN ⟨#[0, 97]⟩) ++ strN (digN x) : ByteArray) = text at *
      have HT := Hs.hid htx
      clear htx
      go_wp2_with (at_builtin; refine wpList_append rfl (.tmp 98) (.tmp 99) 30 rfl 9 i0 _ 1 16 Try.underlying30 hi hz0 hz1 hz2 rfl (by decide) (.slice (some ⟨wc.heap.size, 0, none⟩) 1 1) 1 _ rfl hown ⟨g, 0, none⟩ 1 1 [.string ⟨#[0, 97]⟩] rfl rfl hnews (by simp [Value.oneCell']) (by decide) (by decide) ?_; intro ao2 cap2 w2 hl2 hx2 hf2)
      go_ret2
      have hxf : Ext [] w w2 := (hx.alloc (.cells #[.string text] 9)).trans hx2 (fun q hq => .inr (by simp [Value.ownBlock] at hq; subst hq; exact hx.size))
      rcases hl2.2 with ⟨_, q⟩ | ⟨g2, c2, cur, q1, q2⟩
      · omega
      · cases q1
        exact ⟨g2, _, rfl, by rw [HT.out]; exact hl2, hxf⟩
end Go.Proofs.Ytnjjbolbemlceaa
