/-
  Texts of this claim, put together: PIncl, PSum, PCons, PCons2, PHead, PProves, PPath, PAwake, PProv.
-/
import Derived.Deep.WholeRow
import Derived.Lib.SlBuf
import Derived.Deep.Cut
import Derived.Test.YtjicjadibaomkaaDoorMPp2
import Derived.Test.YtjicjadibaomkaaDoorMPp3
set_option linter.unusedSimpArgs false
set_option linter.unusedVariables false
set_option maxHeartbeats 2000000
set_option maxRecDepth 100000
namespace Go.Proofs.YtjicjadibaomkaaDoor
open Go.RowKit Go.Hs Go.Dg

/-- An error with one step, or none. -/
def ErrIs (h : Array Obj) (r : Int) (step : ByteArray) (a : Int) (v : Value) : Prop := (r = 0 ∧ v = .nilIface) ∨ (r ≠ 0 ∧ ErrV h (errN r) [(step, a)] v)
theorem ErrIs.ext {r : Int} {step : ByteArray} {a : Int} {v : Value} {w w' : World} (h : ErrIs w.heap r step a v) (x : Ext [] w w') : ErrIs w'.heap r step a v := by
  rcases h with h | ⟨h1, h2⟩
  · exact .inl h
  · exact .inr ⟨h1, h2.ext0 x⟩
theorem ErrIs.alloc (step : ByteArray) (a r : Int) (hr : r ≠ 0) (w : World) : ErrIs (w.alloc (.cells #[.string step, .int .i64 a, errN r] 109)).heap r step a (.iface 106 (.pointer (some ⟨w.heap.size, 0, none⟩))) :=
  .inr ⟨hr, _, _, rfl, heap_new _ _, rfl⟩
theorem in_err (step : ByteArray) (a r : Int) (hr : r ≠ 0) (w : World) : Calls Tryd.prog 36 #[.string step, .int .i64 a, .iface 70 (.int .i64 r)] w fun e w' => ∃ v, e = .returned v ∧ Hid (ErrIs w'.heap r step a v) ∧ Ext [] w w' :=
  (in_num step a r hr w).mono fun e w' ⟨v, h1, h2, h3⟩ => ⟨v, h1, Hs.hid (by rw [h3, h2]; exact ErrIs.alloc step a r hr w), by rw [h3]; exact (Ext.refl _ _).alloc _⟩
theorem told_any (step : ByteArray) (a : Int) (ok : Bool) (w : World) :
    Calls Tryd.prog 40 #[.string step, .int .i64 a, .bool ok] w fun e w' => ∃ v, e = .returned v ∧ Hid (ErrIs w'.heap (if ok then 0 else 12) step a v) ∧ Ext [] w w' := by
  cases ok
  · go_enter Tryd.func40, Tryd.ntmps40
    go_wp2_with (go_at_call 36; refine (in_err step a 12 (by decide) _).mono ?_; rintro e w1 ⟨v, rfl, hv, hx1⟩)
    go_ret
    exact ⟨_, rfl, hv, hx1⟩
  · go_enter Tryd.func40, Tryd.ntmps40
    go_wp2
    go_ret
    exact ⟨_, rfl, Hs.hid (.inl ⟨rfl, rfl⟩), Ext.refl _ _⟩
theorem head_n {w : World} {H : Nat} {n : Int} {root : S32} {fr : Nat × Nat} (h : w.heap[H]? = some (.cells (#[.int .i64 n] ++ root.V) 32 fr)) : w.cell? ⟨H, 0, none⟩ = some (.int .i64 n) := by
  rw [cellAt h, Array.getElem?_append_left (by simp)]; rfl
theorem head_root {w : World} {H : Nat} {n : Int} {root : S32} {fr : Nat × Nat} (h : w.heap[H]? = some (.cells (#[.int .i64 n] ++ root.V) 32 fr)) : w.rangeAt H 1 root.V.toList := by
  intro j v hj
  rw [cellAt h, Array.getElem?_append_right (by simp)]
  simpa [Nat.add_sub_cancel_left] using hj
theorem take_le {s : WSt S32} {x : S32} (h : s.a ≤ 1000 ∧ s.e ≤ 1000) : (s.take nodeS x).a ≤ 1000 ∧ (s.take nodeS x).e ≤ 1000 := by
  have hc : ∀ a e, (climbE a e).1 ≤ a := fun a => by
    induction a using Nat.strongRecOn with
    | _ a ih =>
      intro e
      rw [climbE]; split
      · next h => have := ih (a / 2) (by omega) (e / 2); omega
      · exact Nat.le_refl _
  have h1 := hc s.a s.e
  have h2 := climbE_le s.a s.e
  unfold WSt.take nextP
  split
  · exact h
  · split <;> (constructor <;> simp only [] <;> omega)
theorem wCells_one (s : WSt S32) : (wCells s).toArray.all (·.oneCell') = true := by
  rw [Array.all_eq_true']
  intro u hu
  simp only [wCells, List.mem_toArray, List.mem_append, List.mem_cons, List.not_mem_nil, or_false] at hu
  rcases hu with (((rfl | rfl) | h) | h) | rfl
  · rfl
  · rfl
  · exact S32.ones _ u h
  · exact S32.ones _ u h
  · rfl
theorem walk0_sz (s : WSt S32) : walk0.size = (wCells s).toArray.size := by unfold walk0; rw [List.size_toArray, List.size_toArray, wCells_len, wCells_len]
theorem boxExt {w : World} (o : Obj) (x : Array Value) : Ext [] w ((w.alloc o).setRow w.heap.size x) :=
  ((Ext.refl [] w).alloc o).trans (setRow_ext _ _) (fun g hg => .inr (by simp at hg; omega))
theorem exec_build {a : Act} {o : Oper} {t : TypeId} (parts : Array (Nat × Operand)) (ho : o.op = .build t parts) (vs : List (Nat × Value)) (cells : Array Value) (w : World) (hv : (parts.map fun (i, x) => (i, a.eval x)).toList = vs)
    (hb : Tryd.prog.built t vs = some cells) : (execOp a.eval o).run Tryd.prog w = .ok (.value (.agg cells)) w := by
  unfold execOp
  have := run_build w t (parts.map fun (i, x) => (i, a.eval x)) cells (by rw [hv]; exact hb)
  simp only [ho, Sem.run_bind, this, Result.andThen_ok, Sem.run_pure]
theorem incl_walk (LF root : S32) (I M : Nat) (hlt : I < M) (xs : List S32) (s : WSt S32) (hs : s = xs.foldl (WSt.take nodeS) ⟨I, M - 1, zeroS, LF, false⟩) :
    inclN LF I M root xs = if s.st = false ∧ s.e = 0 ∧ s.l = root then 0 else 12 := by
  obtain ⟨h1, h2⟩ := take_all nodeS xs ⟨I, M - 1, zeroS, LF, false⟩ rfl
  rw [← hs] at h1 h2
  rw [ways_dirs M I hlt] at h1 h2
  unfold inclN
  rw [if_neg (by omega)]
  simp only [Int.toNat_natCast]
  by_cases hl : xs.length = (dirs I M).length
  · have h3 := h1.2 hl
    have h4 := (h2 hl).1
    have h5 : s.st = false := by cases h : s.st; rfl; exact absurd h h3.1
    by_cases hr : s.l = root
    · rw [if_pos ⟨hl, by rw [← h4]; exact hr⟩, if_pos ⟨h5, h3.2, hr⟩]
    · rw [if_neg (fun q => hr (h4.trans q.2)), if_neg (fun q => hr q.2.2)]
  · rw [if_neg (fun q => hl q.1), if_neg (fun q => hl (h1.1 ⟨by rw [q.1]; decide, q.2.1⟩))]
theorem pIncl_any (leaf : ByteArray) (hs : leaf.size ≤ 1000) (i n : Int) (hn : n ≤ 1000) (root : S32) (xs : List S32) (ao : Option Addr) (cap : Nat) (w : World) (hS : Sums32 w.heap ao cap xs) :
    Calls Tryd.prog 15 #[.string leaf, .int .i64 i, .agg (#[.int .i64 n] ++ root.V), .slice ao xs.length cap] w fun e w' => ∃ v, e = .returned v ∧
      Hid (ErrIs w'.heap (inclN (dig (leaf2 leaf)) i n root xs) ⟨#[108, 101, 97, 102]⟩ i v) ∧ Ext [] w w' := by
  by_cases hi : i < 0 ∨ n ≤ i
  · have hr : inclN (dig (leaf2 leaf)) i n root xs = 6 := by unfold inclN; rw [if_pos hi]
    have HR := Hs.hid hr
    clear hr
    have hH := head_n (heap_new w (.cells (#[.int .i64 n] ++ root.V) 32))
    have hx0 := (Ext.refl [] w).alloc (.cells (#[.int .i64 n] ++ root.V) 32)
    by_cases h0 : i < 0
    · clear hi
      go_enter Tryd.func15, Tryd.ntmps15
      go_wp2_with (go_at_call 36; refine (in_err ⟨#[108, 101, 97, 102]⟩ i 6 (by decide) _).mono ?_; rintro e w1 ⟨v, rfl, hv, hx1⟩)
      go_ret
      exact ⟨_, rfl, by rw [HR.out]; exact hv, hx0.trans0 hx1⟩
    · have h1 : n ≤ i := by omega
      clear hi
      go_enter Tryd.func15, Tryd.ntmps15
      go_wp2_with (go_at_call 36; refine (in_err ⟨#[108, 101, 97, 102]⟩ i 6 (by decide) _).mono ?_; rintro e w1 ⟨v, rfl, hv, hx1⟩)
      go_ret
      exact ⟨_, rfl, by rw [HR.out]; exact hv, hx0.trans0 hx1⟩
  · obtain ⟨I, rfl⟩ : ∃ I : Nat, i = I := ⟨i.toNat, by omega⟩
    obtain ⟨M, rfl⟩ : ∃ M : Nat, n = M := ⟨n.toNat, by omega⟩
    have hlt : I < M := by omega
    have h0 : ¬ (I : Int) < 0 := by omega
    have h1 : ¬ (M : Int) ≤ I := by omega
    have hM1 : (M : Int) - 1 = ((M - 1 : Nat) : Int) := by omega
    have hM2 : M ≤ 1000 := by omega
    have hwr : IntKind.i64.wrap ((M - 1 : Nat) : Int) = ((M - 1 : Nat) : Int) := by rw [IntKind.wrap_i64]; omega
    have HLF : Hid (digV (⟨#[0]⟩ ++ leaf) = (dig (leaf2 leaf)).V) := Hs.hid (dig_V _)
    generalize dig (leaf2 leaf) = LF at HLF ⊢
    have hH := heap_new w (.cells (#[.int .i64 (M : Int)] ++ root.V) 32)
    have hx0 := (Ext.refl [] w).alloc (.cells (#[.int .i64 (M : Int)] ++ root.V) 32)
    have hHn := head_n hH
    go_enter Tryd.func15, Tryd.ntmps15
    go_upto_region 3 with fail
    generalize w.alloc (.cells (#[.int .i64 (M : Int)] ++ root.V) 32) = W at hH hx0 hHn ⊢
    obtain ⟨H, hHH⟩ : ∃ H, w.heap.size = H := ⟨_, rfl⟩
    rw [hHH] at hH hHn ⊢
    have HHH := Hs.hid (show w.heap.size ≤ H from Nat.le_of_eq hHH)
    clear hHH
    go_cut [9] (fun s9 wx => ∃ b, s9 = .pointer (some ⟨b, 0, none⟩) ∧ w.heap.size ≤ b ∧ H < b ∧ WAt wx.heap b ⟨I, M - 1, zeroS, LF, false⟩ ∧ wx.heap[H]? = some (.cells (#[.int .i64 (M : Int)] ++ root.V) 32 (0, 0)) ∧ Ext [] w wx)
    case first =>
      refine wp_region_noPanic ?_
      refine wp_region_held_drew (S := (fun w' => w'.cell? ⟨H, 0, none⟩ = some (.int .i64 (M : Int)))) (by kernel_rfl) ?_ (fun hHeld => ?_)
      · ((try dsimp only); exact head_n hH)
      refine wpAnyH_take (i := 0) (v := ?_) rfl (by kernel_rfl) (by kernel_rfl) (by kernel_rfl) (fun _ _ _ h => h) (Or.inl ⟨by rfl, ?_⟩) (by assumption) ?_
      rotate_left
      · (intro w hSw; (try dsimp only at hSw); first | (go_simp; done) | (go_simp; with_reducible rfl))
      try simp only [Act.put, List.getElem_toArray, List.getElem_cons_succ, List.getElem_cons_zero, List.setIfInBounds_toArray, List.set_cons_zero, List.set_cons_succ]
      refine wpAnyH_take (i := 1) (v := ?_) rfl (by kernel_rfl) (by kernel_rfl) (by kernel_rfl) (fun _ _ _ h => h) (Or.inl ⟨by rfl, ?_⟩) (by assumption) ?_
      rotate_left
      · (intro w hSw; (try dsimp only at hSw); first | (go_simp; done) | (go_simp; with_reducible rfl))
      try simp only [Act.put, List.getElem_toArray, List.getElem_cons_succ, List.getElem_cons_zero, List.setIfInBounds_toArray, List.set_cons_zero, List.set_cons_succ]
      refine wpAnyH_take (i := 2) (v := ?_) rfl (by kernel_rfl) (by kernel_rfl) (by kernel_rfl) (fun _ _ _ h => h) (Or.inl ⟨by rfl, ?_⟩) (by assumption) ?_
      rotate_left
      · (intro w hSw; (try dsimp only at hSw); first | (go_simp; done) | (go_simp; with_reducible rfl))
      try simp only [Act.put, List.getElem_toArray, List.getElem_cons_succ, List.getElem_cons_zero, List.setIfInBounds_toArray, List.set_cons_zero, List.set_cons_succ]
      refine wpAnyH_take (i := 3) (v := ?_) rfl (by kernel_rfl) (by kernel_rfl) (by kernel_rfl) (fun _ _ _ h => h) (Or.inl ⟨by rfl, ?_⟩) (by assumption) ?_
      rotate_left
      · (intro w hSw; (try dsimp only at hSw); first | (go_simp; done) | (go_simp; with_reducible rfl))
      try simp only [Act.put, List.getElem_toArray, List.getElem_cons_succ, List.getElem_cons_zero, List.setIfInBounds_toArray, List.set_cons_zero, List.set_cons_succ]
      refine wpAnyH_take (i := 4) (v := ?_) rfl (by kernel_rfl) (by kernel_rfl) (by kernel_rfl) (fun _ _ _ h => h) (Or.inl ⟨by rfl, ?_⟩) (by assumption) ?_
      rotate_left
      · (intro w hSw; (try dsimp only at hSw); first | (go_simp; done) | (go_simp; with_reducible rfl))
      try simp only [Act.put, List.getElem_toArray, List.getElem_cons_succ, List.getElem_cons_zero, List.setIfInBounds_toArray, List.set_cons_zero, List.set_cons_succ]
      refine wpAnyH_ready (rs := [5, 7]) (by kernel_rfl) (by simp) ?_
      refine AllReadyH.cons rfl (fun K hK => ?_) (AllReadyH.cons rfl (fun K hK => ?_) AllReadyH.nil)
      · go_simp
        (go_at_call 34; refine (leaf_any leaf (by omega) _).mono ?_; rintro e w1 ⟨cs1, rfl, hcs, hx1⟩; obtain rfl : cs1 = LF.V := hcs.out.trans HLF.out; clear hcs; have hH1 := hx1.same (by exact hH) List.not_mem_nil)
        go_wp2_with fail
        refine hK.out _ _ ?_ (fun hHeld => ?_)
        · ((try dsimp only); exact head_n hH1)
        clear hK K
        try simp only [Act.put, List.getElem_toArray, List.getElem_cons_succ, List.getElem_cons_zero, List.setIfInBounds_toArray, List.set_cons_zero, List.set_cons_succ]
        refine wpAnyH_take (i := 6) (v := _) rfl (by kernel_rfl) (by kernel_rfl) (by kernel_rfl) (fun _ _ _ h => h) (.inl ⟨by rfl, fun w' _ => exec_build _ rfl [(0, .int .i64 (I : Int)), (1, .int .i64 ((M - 1 : Nat) : Int)), (3, .agg LF.V)] (wCells ⟨I, M - 1, zeroS, LF, false⟩).toArray _ (by first | (go_simp; done) | (go_simp; rfl) | (simp [Act.eval]; done)) (walk_built I (M - 1) LF)⟩) (by assumption) ?_
        try simp only [Act.put, List.getElem_toArray, List.getElem_cons_succ, List.getElem_cons_zero, List.setIfInBounds_toArray, List.set_cons_zero, List.set_cons_succ]
        refine wpAnyH_ready (rs := [7]) (by kernel_rfl) (by simp) ?_
        refine AllReadyH.cons rfl (fun K hK => ?_) AllReadyH.nil
        rw [if_pos (by rfl)]
        (have hz := (zero_of_info (P := Tryd.prog) infoWalk).1 w1; have hN := heap_new w1 (.cells walk0 84); have hH2 := heap_old' _ (.cells walk0 84) hH1; have hNl := lt_of_heap hH1; go_simp)
        refine hK.out _ _ ?_ (fun hHeld => ?_)
        · ((try dsimp only); exact head_n hH2)
        clear hK K
        try simp only [Act.put, List.getElem_toArray, List.getElem_cons_succ, List.getElem_cons_zero, List.setIfInBounds_toArray, List.set_cons_zero, List.set_cons_succ]
        refine wpAnyH_ready (rs := [8]) (by kernel_rfl) (by simp) ?_
        refine AllReadyH.cons rfl (fun K hK => ?_) AllReadyH.nil
        rw [if_pos (by rfl)]
        (have hW3 := setRow_heap _ _ _ (wCells ⟨I, M - 1, zeroS, LF, false⟩).toArray _ _ hN; have hH3 := (setRow_other _ _ H (wCells ⟨I, M - 1, zeroS, LF, false⟩).toArray (Nat.ne_of_lt hNl)).trans hH2; refine wp_store_row 84 _ _ rfl _ (wCells ⟨I, M - 1, zeroS, LF, false⟩).toArray rfl rfl _ _ hN (by rw [List.size_toArray, wCells_len]; exact (zero_of_info (P := Tryd.prog) infoWalk).2) (walk0_sz _) (wCells_one _) ?_)
        refine hK.out _ _ ?_ (fun hHeld => ?_)
        · ((try dsimp only); exact head_n hH3)
        clear hK K
        try simp only [Act.put, List.getElem_toArray, List.getElem_cons_succ, List.getElem_cons_zero, List.setIfInBounds_toArray, List.set_cons_zero, List.set_cons_succ]
        refine wpAnyH_done (by kernel_rfl) ?_ _
        refine NoPanic.normal ?_
        go_wp2
        go_meet
        first
          | exact ⟨_, rfl, Nat.le_trans (hx0.size) hx1.size, hNl, hW3, hH3, (((hx0.drew).trans0 hx1).alloc _).trans (setRow_ext _ _) (fun g hg => .inr (by simp at hg; subst hg; exact Nat.le_trans hx0.size hx1.size))⟩
          | exact ⟨_, rfl, hx0.size, hNl, hW3, hH3, (((hx0.drew).alloc _).trans0 hx1).trans (setRow_ext _ _) (fun g hg => .inr (by simp at hg; subst hg; exact hx0.size))⟩
      · rw [if_pos (by rfl)]
        (have hz := (zero_of_info (P := Tryd.prog) infoWalk).1 W.drew; have hN := heap_new W.drew (.cells walk0 84); have hH0 := heap_old' _ (.cells walk0 84) (show W.drew.heap[H]? = _ from hH); have hNl := lt_of_heap hH; go_simp)
        refine hK.out _ _ ?_ (fun hHeld => ?_)
        · ((try dsimp only); exact head_n hH0)
        clear hK K
        try simp only [Act.put, List.getElem_toArray, List.getElem_cons_succ, List.getElem_cons_zero, List.setIfInBounds_toArray, List.set_cons_zero, List.set_cons_succ]
        refine wpAnyH_ready (rs := [5]) (by kernel_rfl) (by simp) ?_
        refine AllReadyH.cons rfl (fun K hK => ?_) AllReadyH.nil
        go_simp
        (go_at_call 34; refine (leaf_any leaf (by omega) _).mono ?_; rintro e w1 ⟨cs1, rfl, hcs, hx1⟩; obtain rfl : cs1 = LF.V := hcs.out.trans HLF.out; clear hcs; have hH1 := hx1.same (by exact hH0) List.not_mem_nil; have hN1 := hx1.same hN List.not_mem_nil)
        go_wp2_with fail
        refine hK.out _ _ ?_ (fun hHeld => ?_)
        · ((try dsimp only); exact head_n hH1)
        clear hK K
        try simp only [Act.put, List.getElem_toArray, List.getElem_cons_succ, List.getElem_cons_zero, List.setIfInBounds_toArray, List.set_cons_zero, List.set_cons_succ]
        refine wpAnyH_take (i := 6) (v := _) rfl (by kernel_rfl) (by kernel_rfl) (by kernel_rfl) (fun _ _ _ h => h) (.inl ⟨by rfl, fun w' _ => exec_build _ rfl [(0, .int .i64 (I : Int)), (1, .int .i64 ((M - 1 : Nat) : Int)), (3, .agg LF.V)] (wCells ⟨I, M - 1, zeroS, LF, false⟩).toArray _ (by first | (go_simp; done) | (go_simp; rfl) | (simp [Act.eval]; done)) (walk_built I (M - 1) LF)⟩) (by assumption) ?_
        try simp only [Act.put, List.getElem_toArray, List.getElem_cons_succ, List.getElem_cons_zero, List.setIfInBounds_toArray, List.set_cons_zero, List.set_cons_succ]
        refine wpAnyH_ready (rs := [8]) (by kernel_rfl) (by simp) ?_
        refine AllReadyH.cons rfl (fun K hK => ?_) AllReadyH.nil
        rw [if_pos (by rfl)]
        (have hW3 := setRow_heap _ _ _ (wCells ⟨I, M - 1, zeroS, LF, false⟩).toArray _ _ hN1; have hH3 := (setRow_other _ _ H (wCells ⟨I, M - 1, zeroS, LF, false⟩).toArray (Nat.ne_of_lt hNl)).trans hH1; refine wp_store_row 84 _ _ rfl _ (wCells ⟨I, M - 1, zeroS, LF, false⟩).toArray rfl rfl _ _ hN1 (by rw [List.size_toArray, wCells_len]; exact (zero_of_info (P := Tryd.prog) infoWalk).2) (walk0_sz _) (wCells_one _) ?_)
        refine hK.out _ _ ?_ (fun hHeld => ?_)
        · ((try dsimp only); exact head_n hH3)
        clear hK K
        try simp only [Act.put, List.getElem_toArray, List.getElem_cons_succ, List.getElem_cons_zero, List.setIfInBounds_toArray, List.set_cons_zero, List.set_cons_succ]
        refine wpAnyH_done (by kernel_rfl) ?_ _
        refine NoPanic.normal ?_
        go_wp2
        go_meet
        first
          | exact ⟨_, rfl, Nat.le_trans (hx0.size) hx1.size, hNl, hW3, hH3, (((hx0.drew).trans0 hx1).alloc _).trans (setRow_ext _ _) (fun g hg => .inr (by simp at hg; subst hg; exact Nat.le_trans hx0.size hx1.size))⟩
          | exact ⟨_, rfl, hx0.size, hNl, hW3, hH3, (((hx0.drew).alloc _).trans0 hx1).trans (setRow_ext _ _) (fun g hg => .inr (by simp at hg; subst hg; exact hx0.size))⟩
    case rest =>
      obtain ⟨b, rfl, hbn, hHb, hW, hH, hE⟩ := hcut
      have hmax := hS.2.1
      have hlen : (xs.length : Int) ≤ 9223372036854775807 := by have := hS.1; omega
      have hSc : Sums32 wc.heap ao cap xs := hS.ext hE (by simp)
      have HI := Hs.hid hi
      have HSS := Hs.hid hS
      have HFIN := Hs.hid (incl_walk LF root I M hlt xs)
      clear hx0 hHn hS hSc hi h0 h1 hn
      go_wp2_with fail
      go_loopw [32] (fun iv wr => ∃ (k : Nat) (s : WSt S32), iv = .int .i64 k ∧ k ≤ xs.length ∧ WAt wr.heap b s ∧ Hid (s = (xs.take k).foldl (WSt.take nodeS) ⟨I, M - 1, zeroS, LF, false⟩) ∧ Hid (s.a ≤ 1000 ∧ s.e ≤ 1000) ∧ Ext [b] wc wr) (fun iv _ => xs.length - (intOf iv).toNat)
      case atStart => exact ⟨0, _, rfl, Nat.zero_le _, hW, Hs.hid rfl, Hs.hid ⟨by show I ≤ 1000; omega, by show M - 1 ≤ 1000; omega⟩, Ext.refl _ _⟩
      case round =>
        clear hW
        obtain ⟨k, s, rfl, hk, hW, HS, HB, hEb⟩ := hrel
        by_cases hkl : k < xs.length
        · have hkl' : (k : Int) < xs.length := by omega
          obtain ⟨x, hx⟩ : ∃ x, xs[k]? = some x := ⟨_, List.getElem?_eq_getElem hkl⟩
          have HX := Hs.hid hx
          clear hx
          obtain ⟨sb, so, rfl, hsb, hrg⟩ := (HSS.out.ext ((hE.mono (F' := [b]) (fun _ h => by cases h)).trans' hEb) (by simpa using hbn)).at HX.out
          have HW := Hs.hid hW
          clear hW
          go_wp2_with (first
            | (refine wpList_yield (.agg x.V) (by rfl) (exec_load_midV (.tmp 34) rfl sb _ rfl x _ hrg) ?_)
            | (refine wpList_store_row rfl 29 (.tmp 11) (.tmp 35) rfl wr.heap.size x.V rfl rfl _ _ (heap_new _ _) (by rw [x.size]; exact infoSum) (by rw [x.size]; rfl) x.one ?_)
            | (refine wpList_yield (.agg x.V) (by rfl) (exec_load_rowV (.tmp 11) rfl wr.heap.size rfl x _ ⟨_, setRow_heap _ _ _ _ _ _ (heap_new _ _)⟩) ?_)
            | (go_at_call 39; refine (take_any b s HB.out x _ (HW.out.ext (boxExt _ _) List.not_mem_nil)).mono ?_; rintro e w5 ⟨rfl, hW5, hx5⟩))
          go_round
          case rel =>
            refine ⟨k + 1, s.take nodeS x, by go_num, by omega, hW5, Hs.hid ?_, Hs.hid (take_le HB.out), ?_⟩
            · rw [List.take_add_one, HX.out, HS.out]; simp
            · exact hEb.trans' (((boxExt _ _).mono (fun _ h => by cases h)).trans' hx5)
          case measure => simp [intOf]; omega
        · have hkl' : ¬ (k : Int) < xs.length := by omega
          obtain rfl : k = xs.length := by omega
          have h66 := hW.st
          have hce := hW.e
          have hWl := hW.l
          have hHr : wr.rangeAt H 1 root.V.toList := head_root (hEb.same hH (by simp; omega))
          have HR := Hs.hid (HFIN.out s (by rw [HS.out, List.take_length]))
          have HEE : Hid (Ext [] w wr) := Hs.hid (hE.trans hEb (fun g hg => .inr (by simp at hg; omega)))
          cases hst : s.st with
          | true =>
            rw [hst] at h66
            have HST := Hs.hid hst
            clear hst
            go_wp2_with (go_at_call 40; refine (told_any ⟨#[108, 101, 97, 102]⟩ (I : Int) false _).mono ?_; rintro e w7 ⟨v, rfl, hv, hx7⟩)
            go_ret
            exact ⟨_, rfl, by rw [HR.out, if_neg (fun q => by rw [HST.out] at q; cases q.1)]; exact hv, HEE.out.trans0 hx7⟩
          | false =>
            rw [hst] at h66
            have HST := Hs.hid hst
            clear hst
            by_cases he : s.e = 0
            · have he' : (s.e : Int) = 0 := by omega
              have HE0 := Hs.hid he
              clear he
              by_cases hl : s.l = root
              · have HL := Hs.hid hl
                have hdec : decide (s.l = root) = true := decide_eq_true hl
                clear hl
                go_wp2_with (first
                  | (refine wpList_yield (.agg s.l.V) (by rfl) (exec_load_midV (.tmp 49) rfl b 34 rfl s.l _ hWl) ?_)
                  | (refine wpList_yield (.agg root.V) (by rfl) (exec_load_midV (.tmp 51) rfl H 1 rfl root _ hHr) ?_)
                  | (refine wpList_yield (.bool (decide (s.l = root))) (by rfl) (exec_eq_V (.tmp 50) (.tmp 52) _ rfl _ _ rfl rfl _) ?_)
                  | (go_at_call 40; refine (told_any ⟨#[108, 101, 97, 102]⟩ (I : Int) true _).mono ?_; rintro e w7 ⟨v, rfl, hv, hx7⟩))
                go_ret
                exact ⟨_, rfl, by rw [HR.out, if_pos ⟨HST.out, HE0.out, HL.out⟩]; exact hv, HEE.out.trans0 hx7⟩
              · have HL := Hs.hid hl
                have hdec : decide (s.l = root) = false := decide_eq_false hl
                clear hl
                go_wp2_with (first
                  | (refine wpList_yield (.agg s.l.V) (by rfl) (exec_load_midV (.tmp 49) rfl b 34 rfl s.l _ hWl) ?_)
                  | (refine wpList_yield (.agg root.V) (by rfl) (exec_load_midV (.tmp 51) rfl H 1 rfl root _ hHr) ?_)
                  | (refine wpList_yield (.bool (decide (s.l = root))) (by rfl) (exec_eq_V (.tmp 50) (.tmp 52) _ rfl _ _ rfl rfl _) ?_)
                  | (go_at_call 40; refine (told_any ⟨#[108, 101, 97, 102]⟩ (I : Int) false _).mono ?_; rintro e w7 ⟨v, rfl, hv, hx7⟩))
                go_ret
                exact ⟨_, rfl, by rw [HR.out, if_neg (fun q => HL.out q.2.2)]; exact hv, HEE.out.trans0 hx7⟩
            · have he' : ¬ (s.e : Int) = 0 := by omega
              have HE0 := Hs.hid he
              clear he
              go_wp2_with (go_at_call 40; refine (told_any ⟨#[108, 101, 97, 102]⟩ (I : Int) false _).mono ?_; rintro e w7 ⟨v, rfl, hv, hx7⟩)
              go_ret
              exact ⟨_, rfl, by rw [HR.out, if_neg (fun q => HE0.out q.2.1)]; exact hv, HEE.out.trans0 hx7⟩
end Go.Proofs.YtjicjadibaomkaaDoor
set_option linter.unusedSimpArgs false
set_option linter.unusedVariables false
set_option maxHeartbeats 2000000
set_option maxRecDepth 100000
namespace Go.Proofs.YtjicjadibaomkaaDoor
open Go.RowKit Go.Hs Go.Dg

theorem cutE_any (s : ByteArray) (n : Nat) (hn : n ≤ 1000000) (w : World) (hs : s.size ≤ maxLen) : Calls Tryd.prog 10 #[.string s, .int .i64 n] w fun e w' => ∃ t : ByteArray, e = .returned (.string t) ∧ t.size ≤ n ∧ w' = w := by
  unfold maxLen at hs
  have h1 : (n : Int) ≤ 1000000 := by omega
  have h2 : (0 : Int) ≤ n := by omega
  have h3 : (s.size : Int) ≤ 9223372036854775807 := by omega
  by_cases h : n < s.size
  · have hi : (n : Int) < s.size := by omega
    have HN := Hs.hid h
    clear h
    go_enter Tryd.func10, Tryd.ntmps10
    go_wp2
    go_ret
    exact ⟨_, rfl, by rw [ByteArray.size_extract]; omega, rfl⟩
  · have hi : ¬ (n : Int) < s.size := by omega
    have HN := Hs.hid h
    clear h
    go_enter Tryd.func10, Tryd.ntmps10
    go_wp2
    go_ret
    exact ⟨_, rfl, by have := HN.out; omega, rfl⟩
theorem few_any (n : Int) (w : World) : Calls Tryd.prog 11 #[.int .i64 n] w fun e w' => ∃ r, e = .returned (.int .i64 r) ∧ Hid (r ≤ 300 ∧ -3 ≤ r) ∧ w' = w := by
  go_enter Tryd.func11, Tryd.ntmps11
  go_wp2
  go_ret
  exact ⟨_, rfl, Hs.hid (by omega), rfl⟩
/-- The first 32 bytes of a text, and zeros. -/
def pad32 (s : ByteArray) : S32 := ⟨((s.data.toList.take (Nat.min s.size 32)).map UInt8.toNat) ++ List.replicate (32 - Nat.min s.size 32) 0, by
  have : s.data.toList.length = s.size := Array.length_toList
  have h2 : Nat.min s.size 32 ≤ s.size := Nat.min_le_left _ _
  have h3 : Nat.min s.size 32 ≤ 32 := Nat.min_le_right _ _
  rw [List.length_append, List.length_map, List.length_take, List.length_replicate, this, Nat.min_eq_left h2]; omega, by
  intro c hc
  rcases List.mem_append.1 hc with h | h
  · obtain ⟨x, _, rfl⟩ := List.mem_map.1 h
    exact x.toNat_lt
  · rw [(List.mem_replicate.1 h).2]; decide⟩
theorem pad32_self (x : S32) : pad32 x.s = x := by
  apply S32.ext'
  have hz : x.s.size = 32 := x.ssize
  show ((x.s.data.toList.take (Nat.min x.s.size 32)).map UInt8.toNat) ++ List.replicate (32 - Nat.min x.s.size 32) 0 = x.l
  rw [hz]
  have hd : x.s.data.toList = x.l.map UInt8.ofNat := by simp [S32.s, strN]
  rw [show Nat.min 32 32 = 32 from rfl, Nat.sub_self, List.replicate_zero, List.append_nil, hd, List.take_of_length_le (by rw [List.length_map, x.len]; exact Nat.le_refl _), List.map_map]
  apply List.ext_getElem?
  intro i
  rw [List.getElem?_map]
  cases h : x.l[i]? with
  | none => rfl
  | some c =>
    have := x.lt c (List.mem_of_getElem? h)
    simp only [Option.map_some, Function.comp_apply, UInt8.toNat_ofNat']
    rw [Nat.mod_eq_of_lt (by omega)]
theorem run_copy_sum (w : World) (ty : TypeId) (R : Nat) (s : ByteArray) (hR : w.heap[R]? = some (.cells zeroS.V 29 (0, 0))) :
    (Builtin.copy_ #[52, 9] ty #[.slice (some ⟨R, 0, none⟩) 32 32, .string s]).run Tryd.prog w = .ok (goInt (Nat.min s.size 32)) (w.setRow R (pad32 s).V) := by
  have h2 : Nat.min s.size 32 ≤ s.size := Nat.min_le_left _ _
  have h3 : Nat.min s.size 32 ≤ 32 := Nat.min_le_right _ _
  have hsz : s.data.toList.length = s.size := Array.length_toList
  have hlen : ((s.data.toList.map fun b : UInt8 => Value.int IntKind.u8 (b.toNat : Int)).take (Nat.min s.size 32)).length = Nat.min s.size 32 := by
    rw [List.length_take, List.length_map, hsz, Nat.min_eq_left h2]
  have hst := run_storeCells_at Tryd.prog R 0 29 ((s.data.toList.map fun b : UInt8 => Value.int IntKind.u8 (b.toNat : Int)).take (Nat.min s.size 32)) 0 zeroS.V w hR (by rw [hlen, zeroS.size]; omega) (by
    intro v hv
    obtain ⟨x, _, rfl⟩ := List.mem_map.1 (List.mem_of_mem_take hv)
    rfl)
  have hV : (zeroS.V.toList.take 0 ++ (s.data.toList.map fun b : UInt8 => Value.int IntKind.u8 (b.toNat : Int)).take (Nat.min s.size 32) ++ zeroS.V.toList.drop (Nat.min s.size 32)).toArray = (pad32 s).V := by
    show _ = ((((s.data.toList.take (Nat.min s.size 32)).map UInt8.toNat) ++ List.replicate (32 - Nat.min s.size 32) 0).map fun (c : Nat) => Value.int .u8 c).toArray
    congr 1
    rw [List.take_zero, List.nil_append, List.map_append, ← List.map_take, List.map_map]
    congr 1
    show ((List.replicate 32 0).map fun (c : Nat) => Value.int .u8 c).drop _ = _
    rw [← List.map_drop, List.drop_replicate]
  rw [hlen] at hst
  simp only [Nat.add_zero, Nat.zero_add] at hst
  rw [hV] at hst
  obtain ⟨i0, hi, _⟩ := info_parts infoU8
  have hs : (Tryd.prog.info? 5).map (·.size) = some 1 := by kernel_rfl
  cases hq : Tryd.prog.info? 5 with
  | none => simp [hq] at hs
  | some i =>
    have h1 : i.size = 1 := by simpa [hq] using hs
    simp [Builtin.copy_, run_underlying Tryd.underlying52, Builtin.lenOf, Builtin.firstCells, sizeOf, typeInfo, hq, h1]
    rw [hst]
    simp [Result.andThen]
theorem sum32_any (s : ByteArray) (hs : s.size ≤ maxLen) (w : World) : Calls Tryd.prog 12 #[.string s] w fun e w' => ∃ x : S32, e = .returned (.agg x.V) ∧ Hid (x = pad32 s) ∧ Ext [] w w' := by
  have hZ : zeroS.V = #[.int .u8 0, .int .u8 0, .int .u8 0, .int .u8 0, .int .u8 0, .int .u8 0, .int .u8 0, .int .u8 0, .int .u8 0, .int .u8 0, .int .u8 0, .int .u8 0, .int .u8 0, .int .u8 0, .int .u8 0, .int .u8 0, .int .u8 0, .int .u8 0, .int .u8 0, .int .u8 0, .int .u8 0, .int .u8 0, .int .u8 0, .int .u8 0, .int .u8 0, .int .u8 0, .int .u8 0, .int .u8 0, .int .u8 0, .int .u8 0, .int .u8 0, .int .u8 0] := rfl
  have HZ := Hs.hid hZ
  go_enter Tryd.func12, Tryd.ntmps12
  go_upto_region 2 with fail
  rw [← HZ.out]
  clear hZ
  have h0 := heap_old' _ (.cells zeroS.V 29) (heap_new w (.cells zeroS.V 29))
  have h1 := heap_new (w.alloc (.cells zeroS.V 29)) (.cells zeroS.V 29)
  have hx := ((Ext.refl [] w).alloc (.cells zeroS.V 29)).alloc (.cells zeroS.V 29)
  have hsz1 : (w.alloc (.cells zeroS.V 29)).heap.size = w.heap.size + 1 := by simp
  rw [hsz1] at h1
  generalize (w.alloc (.cells zeroS.V 29)).alloc (.cells zeroS.V 29) = W at h0 h1 hx ⊢
  clear hsz1
  obtain ⟨R, hR⟩ : ∃ R, w.heap.size = R := ⟨_, rfl⟩
  have HR := Hs.hid (show w.heap.size ≤ R from Nat.le_of_eq hR)
  rw [hR] at h0 h1 ⊢
  clear hR
  have hcp := fun ty => run_copy_sum W ty (R + 1) s h1
  obtain ⟨y, hy⟩ : ∃ y, y = pad32 s := ⟨_, rfl⟩
  rw [← hy] at hcp
  have HY := Hs.hid hy
  clear hy
  have h0' : (W.setRow (R + 1) y.V).heap[R]? = some (.cells zeroS.V 29 (0, 0)) := (setRow_other _ _ _ _ (by omega)).trans h0
  have h1' := setRow_heap W (R + 1) _ y.V _ _ h1
  have HC := Hs.hid hcp
  have HZS := Hs.hid (show zeroS.V.size = y.V.size by rw [zeroS.size, y.size])
  clear hcp
  go_wp2_with (first
    | (refine Lib.wpList_copy_run _ rfl (.tmp 4) (.tmp 5) 52 9 rfl _ _ rfl rfl (HC.out _) ?_)
    | (refine wpList_yield (.agg y.V) (by rfl) (exec_load_rowV (.tmp 3) rfl (R + 1) rfl y _ ⟨_, h1'⟩) ?_)
    | (refine wpList_store_row rfl 29 (.tmp 2) (.tmp 7) rfl R y.V rfl rfl _ _ h0' (by rw [y.size]; exact infoSum) HZS.out y.one ?_))
  refine bodyPost_ret (v := .agg y.V) (results_cell_row (P := Tryd.prog) Tryd.results12 _ _ R _ _ _ _ rfl (setRow_heap _ _ _ _ _ _ h0') Tryd.underlying29 rfl (by rw [y.size]; exact infoSum)) rfl ?_
  exact ⟨y, rfl, HY, (hx.trans (setRow_ext (R + 1) y.V) (fun g hg => .inr (by have := HR.out; simp at hg; omega))).trans (setRow_ext R y.V) (fun g hg => .inr (by have := HR.out; simp at hg; omega))⟩
end Go.Proofs.YtjicjadibaomkaaDoor
set_option linter.unusedSimpArgs false
set_option linter.unusedVariables false
set_option maxHeartbeats 2000000
set_option maxRecDepth 100000
namespace Go.Proofs.YtjicjadibaomkaaDoor
open Go.RowKit Go.Hs Go.Dg

theorem pConsA_any (m n : Int) (hn : n ≤ 1000) (hout : m ≤ 0 ∨ n ≤ m) (old root : S32) (xs : List S32) (ao : Option Addr) (cap : Nat) (w : World) (hS : Sums32 w.heap ao cap xs) :
    Calls Tryd.prog 16 #[.agg (#[.int .i64 m] ++ old.V), .agg (#[.int .i64 n] ++ root.V), .slice ao xs.length cap] w fun e w' => ∃ v, e = .returned v ∧
      Hid (ErrIs w'.heap (consN m n old root xs) ⟨#[112, 114, 101, 102, 105, 120]⟩ m v) ∧ Ext [] w w' := by
  have hmax := hS.2.1
  have hcap := hS.1
  by_cases hi : m < 0 ∨ n < m
  · have hr : consN m n old root xs = 6 := by unfold consN; rw [if_pos hi]
    have HR := Hs.hid hr
    clear hr
    obtain ⟨hA, hB, hx0, _⟩ := alloc_two' w (.cells (#[.int .i64 m] ++ old.V) 32) (.cells (#[.int .i64 n] ++ root.V) 32)
    have hAm := head_n hA
    have hBn := head_n hB
    by_cases h0 : m < 0
    · clear hi hout
      go_enter Tryd.func16, Tryd.ntmps16
      go_wp2_with (go_at_call 36; refine (in_err ⟨#[112, 114, 101, 102, 105, 120]⟩ m 6 (by decide) _).mono ?_; rintro e w1 ⟨v, rfl, hv, hx1⟩)
      go_ret
      exact ⟨_, rfl, by rw [HR.out]; exact hv, hx0.trans0 hx1⟩
    · have h1 : n < m := by omega
      clear hi hout
      go_enter Tryd.func16, Tryd.ntmps16
      go_wp2_with (go_at_call 36; refine (in_err ⟨#[112, 114, 101, 102, 105, 120]⟩ m 6 (by decide) _).mono ?_; rintro e w1 ⟨v, rfl, hv, hx1⟩)
      go_ret
      exact ⟨_, rfl, by rw [HR.out]; exact hv, hx0.trans0 hx1⟩
  · have h0 : ¬ m < 0 := by omega
    have h1 : ¬ n < m := by omega
    by_cases hmn : m = n
    · subst hmn
      have hr : consN m m old root xs = if xs = [] ∧ old = root then 0 else 12 := by unfold consN; rw [if_neg hi, if_pos rfl]
      clear hi hout
      rcases Nat.eq_zero_or_pos xs.length with hl | hl
      · have hxs : xs = [] := List.eq_nil_of_length_eq_zero hl
        have HR := Hs.hid (show consN m m old root xs = if decide (old = root) = true then 0 else 12 by
          rw [hr]
          by_cases h : old = root
          · rw [if_pos ⟨hxs, h⟩, if_pos (by simpa using h)]
          · rw [if_neg (fun q => h q.2), if_neg (by simpa using h)])
        rw [hl] at hcap ⊢
        clear hr hxs hl hS
        generalize consN m m old root xs = CN at HR ⊢
        obtain ⟨hA, hB, hx0, _⟩ := alloc_two' w (.cells (#[.int .i64 m] ++ old.V) 32) (.cells (#[.int .i64 m] ++ root.V) 32)
        have hAm := head_n hA
        have hBn := head_n hB
        go_enter Tryd.func16, Tryd.ntmps16
        go_upto_region 4 with fail
        generalize (w.alloc (.cells (#[.int .i64 m] ++ old.V) 32)).alloc (.cells (#[.int .i64 m] ++ root.V) 32) = W at hA hB hx0 hAm hBn ⊢
        obtain ⟨A, hAA⟩ : ∃ A, w.heap.size = A := ⟨_, rfl⟩
        rw [hAA] at hA hB hAm hBn ⊢
        obtain ⟨B, hBB⟩ : ∃ B, A + 1 = B := ⟨_, rfl⟩
        rw [hBB] at hB hBn ⊢
        have HAB := Hs.hid (And.intro (show w.heap.size ≤ A from Nat.le_of_eq hAA) (show A < B by omega))
        clear hAA hBB
        refine wp_region_stl_tail 12 (by kernel_rfl) (by kernel_rfl) ?_
        simp only [List.take_succ_cons, List.take_zero, List.drop_succ_cons, List.drop_zero]
        refine still_val (v := ?_) (by rfl) ?_ ?_
        rotate_left
        · first | (go_simp; done) | (go_simp; with_reducible rfl)
        try simp only [Act.put, List.getElem_toArray, List.getElem_cons_succ, List.getElem_cons_zero, List.setIfInBounds_toArray, List.set_cons_zero, List.set_cons_succ]
        refine still_val (v := ?_) (by rfl) ?_ ?_
        rotate_left
        · first | (go_simp; done) | (go_simp; with_reducible rfl)
        try simp only [Act.put, List.getElem_toArray, List.getElem_cons_succ, List.getElem_cons_zero, List.setIfInBounds_toArray, List.set_cons_zero, List.set_cons_succ]
        refine still_val (v := ?_) (by rfl) ?_ ?_
        rotate_left
        · first | (go_simp; done) | (go_simp; with_reducible rfl)
        try simp only [Act.put, List.getElem_toArray, List.getElem_cons_succ, List.getElem_cons_zero, List.setIfInBounds_toArray, List.set_cons_zero, List.set_cons_succ]
        refine still_val (v := ?_) (by rfl) ?_ ?_
        rotate_left
        · first | (go_simp; done) | (go_simp; with_reducible rfl)
        try simp only [Act.put, List.getElem_toArray, List.getElem_cons_succ, List.getElem_cons_zero, List.setIfInBounds_toArray, List.set_cons_zero, List.set_cons_succ]
        refine still_val (v := ?_) (by rfl) ?_ ?_
        rotate_left
        · first | (go_simp; done) | (go_simp; with_reducible rfl)
        try simp only [Act.put, List.getElem_toArray, List.getElem_cons_succ, List.getElem_cons_zero, List.setIfInBounds_toArray, List.set_cons_zero, List.set_cons_succ]
        refine still_val (v := ?_) (by rfl) ?_ ?_
        rotate_left
        · first | (go_simp; done) | (go_simp; with_reducible rfl)
        try simp only [Act.put, List.getElem_toArray, List.getElem_cons_succ, List.getElem_cons_zero, List.setIfInBounds_toArray, List.set_cons_zero, List.set_cons_succ]
        refine still_val (v := ?_) (by rfl) ?_ ?_
        rotate_left
        · first | (go_simp; done) | (go_simp; with_reducible rfl)
        try simp only [Act.put, List.getElem_toArray, List.getElem_cons_succ, List.getElem_cons_zero, List.setIfInBounds_toArray, List.set_cons_zero, List.set_cons_succ]
        refine still_val (v := (.agg old.V)) (by rfl) (exec_load_midV (.tmp 37) rfl A 1 rfl old _ (head_root hA)) ?_
        try simp only [Act.put, List.getElem_toArray, List.getElem_cons_succ, List.getElem_cons_zero, List.setIfInBounds_toArray, List.set_cons_zero, List.set_cons_succ]
        refine still_val (v := ?_) (by rfl) ?_ ?_
        rotate_left
        · first | (go_simp; done) | (go_simp; with_reducible rfl)
        try simp only [Act.put, List.getElem_toArray, List.getElem_cons_succ, List.getElem_cons_zero, List.setIfInBounds_toArray, List.set_cons_zero, List.set_cons_succ]
        refine still_val (v := (.agg root.V)) (by rfl) (exec_load_midV (.tmp 39) rfl B 1 rfl root _ (head_root hB)) ?_
        try simp only [Act.put, List.getElem_toArray, List.getElem_cons_succ, List.getElem_cons_zero, List.setIfInBounds_toArray, List.set_cons_zero, List.set_cons_succ]
        refine still_val (v := (.bool (decide (old = root)))) (by rfl) (exec_eq_V (.tmp 38) (.tmp 40) _ rfl old root rfl rfl _) ?_
        try simp only [Act.put, List.getElem_toArray, List.getElem_cons_succ, List.getElem_cons_zero, List.setIfInBounds_toArray, List.set_cons_zero, List.set_cons_succ]
        refine still_val (v := ?_) (by rfl) ?_ ?_
        rotate_left
        · first | (go_simp; done) | (go_simp; with_reducible rfl)
        try simp only [Act.put, List.getElem_toArray, List.getElem_cons_succ, List.getElem_cons_zero, List.setIfInBounds_toArray, List.set_cons_zero, List.set_cons_succ]
        refine still_end ?_
        go_wp2_with (go_at_call 40; refine (told_any ⟨#[112, 114, 101, 102, 105, 120]⟩ m (decide (old = root)) _).mono ?_; rintro e w1 ⟨v, rfl, hv, hx1⟩)
        go_ret
        exact ⟨_, rfl, by rw [HR.out]; exact hv, hx0.drew.trans0 hx1⟩
      · have HR := Hs.hid (show consN m m old root xs = 12 by rw [hr, if_neg (fun q => by rw [q.1] at hl; simp at hl)])
        have hl' : ¬ ((xs.length : Nat) : Int) = 0 := by omega
        clear hr hS
        generalize consN m m old root xs = CN at HR ⊢
        generalize xs.length = L at hl hl' hcap ⊢
        have hbe : ((L : Int) == 0) = false := by simpa using hl'
        obtain ⟨hA, hB, hx0, _⟩ := alloc_two' w (.cells (#[.int .i64 m] ++ old.V) 32) (.cells (#[.int .i64 m] ++ root.V) 32)
        have hAm := head_n hA
        have hBn := head_n hB
        go_enter Tryd.func16, Tryd.ntmps16
        go_upto_region 4 with fail
        generalize (w.alloc (.cells (#[.int .i64 m] ++ old.V) 32)).alloc (.cells (#[.int .i64 m] ++ root.V) 32) = W at hA hB hx0 hAm hBn ⊢
        obtain ⟨A, hAA⟩ : ∃ A, w.heap.size = A := ⟨_, rfl⟩
        rw [hAA] at hA hB hAm hBn ⊢
        obtain ⟨B, hBB⟩ : ∃ B, A + 1 = B := ⟨_, rfl⟩
        rw [hBB] at hB hBn ⊢
        have HAB := Hs.hid (And.intro (show w.heap.size ≤ A from Nat.le_of_eq hAA) (show A < B by omega))
        clear hAA hBB
        refine wp_region_stl_tail 12 (by kernel_rfl) (by kernel_rfl) ?_
        simp only [List.take_succ_cons, List.take_zero, List.drop_succ_cons, List.drop_zero]
        refine still_val (v := ?_) (by rfl) ?_ ?_
        rotate_left
        · first | (go_simp; done) | (go_simp; with_reducible rfl)
        try simp only [Act.put, List.getElem_toArray, List.getElem_cons_succ, List.getElem_cons_zero, List.setIfInBounds_toArray, List.set_cons_zero, List.set_cons_succ]
        refine still_val (v := ?_) (by rfl) ?_ ?_
        rotate_left
        · first | (go_simp; done) | (go_simp; with_reducible rfl)
        try simp only [Act.put, List.getElem_toArray, List.getElem_cons_succ, List.getElem_cons_zero, List.setIfInBounds_toArray, List.set_cons_zero, List.set_cons_succ]
        refine still_val (v := ?_) (by rfl) ?_ ?_
        rotate_left
        · first | (go_simp; done) | (go_simp; with_reducible rfl)
        try simp only [Act.put, List.getElem_toArray, List.getElem_cons_succ, List.getElem_cons_zero, List.setIfInBounds_toArray, List.set_cons_zero, List.set_cons_succ]
        refine still_val (v := ?_) (by rfl) ?_ ?_
        rotate_left
        · first | (go_simp; done) | (go_simp; with_reducible rfl)
        try simp only [Act.put, List.getElem_toArray, List.getElem_cons_succ, List.getElem_cons_zero, List.setIfInBounds_toArray, List.set_cons_zero, List.set_cons_succ]
        refine still_val (v := ?_) (by rfl) ?_ ?_
        rotate_left
        · first | (go_simp; done) | (go_simp; with_reducible rfl)
        try simp only [Act.put, List.getElem_toArray, List.getElem_cons_succ, List.getElem_cons_zero, List.setIfInBounds_toArray, List.set_cons_zero, List.set_cons_succ]
        refine still_val (v := ?_) (by rfl) ?_ ?_
        rotate_left
        · first | (go_simp; done) | (go_simp; with_reducible rfl)
        try simp only [Act.put, List.getElem_toArray, List.getElem_cons_succ, List.getElem_cons_zero, List.setIfInBounds_toArray, List.set_cons_zero, List.set_cons_succ]
        refine still_not (by rfl) ?_
        try simp only [Act.put, List.getElem_toArray, List.getElem_cons_succ, List.getElem_cons_zero, List.setIfInBounds_toArray, List.set_cons_zero, List.set_cons_succ]
        refine still_not (by rfl) ?_
        try simp only [Act.put, List.getElem_toArray, List.getElem_cons_succ, List.getElem_cons_zero, List.setIfInBounds_toArray, List.set_cons_zero, List.set_cons_succ]
        refine still_not (by rfl) ?_
        try simp only [Act.put, List.getElem_toArray, List.getElem_cons_succ, List.getElem_cons_zero, List.setIfInBounds_toArray, List.set_cons_zero, List.set_cons_succ]
        refine still_not (by rfl) ?_
        try simp only [Act.put, List.getElem_toArray, List.getElem_cons_succ, List.getElem_cons_zero, List.setIfInBounds_toArray, List.set_cons_zero, List.set_cons_succ]
        refine still_not (by rfl) ?_
        try simp only [Act.put, List.getElem_toArray, List.getElem_cons_succ, List.getElem_cons_zero, List.setIfInBounds_toArray, List.set_cons_zero, List.set_cons_succ]
        refine still_val (v := ?_) (by rfl) ?_ ?_
        rotate_left
        · first | (go_simp; done) | (go_simp; with_reducible rfl)
        try simp only [Act.put, List.getElem_toArray, List.getElem_cons_succ, List.getElem_cons_zero, List.setIfInBounds_toArray, List.set_cons_zero, List.set_cons_succ]
        refine still_end ?_
        go_wp2_with (go_at_call 40; refine (told_any ⟨#[112, 114, 101, 102, 105, 120]⟩ m false _).mono ?_; rintro e w1 ⟨v, rfl, hv, hx1⟩)
        go_ret
        exact ⟨_, rfl, by rw [HR.out]; exact hv, hx0.drew.trans0 hx1⟩
    · obtain rfl : m = 0 := by omega
      have hr : consN 0 n old root xs = if xs = [] ∧ old = dig ⟨#[]⟩ then 0 else 12 := by unfold consN; rw [if_neg hi, if_neg hmn, if_pos rfl]
      have HD0 : Hid (digV ⟨#[]⟩ = (dig ⟨#[]⟩).V) := Hs.hid (dig_V _)
      generalize dig ⟨#[]⟩ = D0 at hr HD0
      clear hi hout
      rcases Nat.eq_zero_or_pos xs.length with hl | hl
      · have hxs : xs = [] := List.eq_nil_of_length_eq_zero hl
        have HR := Hs.hid (show consN 0 n old root xs = if decide (old = D0) = true then 0 else 12 by
          rw [hr]
          by_cases h : old = D0
          · rw [if_pos ⟨hxs, h⟩, if_pos (by simpa using h)]
          · rw [if_neg (fun q => h q.2), if_neg (by simpa using h)])
        rw [hl] at hcap ⊢
        clear hr hxs hl hS
        generalize consN 0 n old root xs = CN at HR ⊢
        obtain ⟨hA, hB, hx0, _⟩ := alloc_two' w (.cells (#[.int .i64 0] ++ old.V) 32) (.cells (#[.int .i64 n] ++ root.V) 32)
        have hAm := head_n hA
        have hBn := head_n hB
        go_enter Tryd.func16, Tryd.ntmps16
        go_upto_region 6 with fail
        generalize (w.alloc (.cells (#[.int .i64 0] ++ old.V) 32)).alloc (.cells (#[.int .i64 n] ++ root.V) 32) = W at hA hB hx0 hAm hBn ⊢
        obtain ⟨A, hAA⟩ : ∃ A, w.heap.size = A := ⟨_, rfl⟩
        rw [hAA] at hA hB hAm hBn ⊢
        obtain ⟨B, hBB⟩ : ∃ B, A + 1 = B := ⟨_, rfl⟩
        rw [hBB] at hB hBn ⊢
        have HAB := Hs.hid (And.intro (show w.heap.size ≤ A from Nat.le_of_eq hAA) (show A < B by omega))
        clear hAA hBB
        refine wp_region_noPanic ?_
        refine wp_region_held_drew (S := (fun w' => w'.heap[A]? = some (.cells (#[.int .i64 0] ++ old.V) 32 (0, 0)))) (by kernel_rfl) ?_ (fun hHeld => ?_)
        · ((try dsimp only); exact hA)
        refine wpAnyH_take (i := 0) (v := ?_) rfl (by kernel_rfl) (by kernel_rfl) (by kernel_rfl) (fun _ _ _ h => h) (Or.inl ⟨by rfl, ?_⟩) (by assumption) ?_
        rotate_left
        · (intro w hSw; (try dsimp only at hSw); first | (go_simp; done) | (go_simp; with_reducible rfl))
        try simp only [Act.put, List.getElem_toArray, List.getElem_cons_succ, List.getElem_cons_zero, List.setIfInBounds_toArray, List.set_cons_zero, List.set_cons_succ]
        refine wpAnyH_take (i := 1) (v := ?_) rfl (by kernel_rfl) (by kernel_rfl) (by kernel_rfl) (fun _ _ _ h => h) (Or.inl ⟨by rfl, ?_⟩) (by assumption) ?_
        rotate_left
        · (intro w hSw; (try dsimp only at hSw); first | (go_simp; done) | (go_simp; with_reducible rfl))
        try simp only [Act.put, List.getElem_toArray, List.getElem_cons_succ, List.getElem_cons_zero, List.setIfInBounds_toArray, List.set_cons_zero, List.set_cons_succ]
        refine wpAnyH_take (i := 2) (v := ?_) rfl (by kernel_rfl) (by kernel_rfl) (by kernel_rfl) (fun _ _ _ h => h) (Or.inl ⟨by rfl, ?_⟩) (by assumption) ?_
        rotate_left
        · (intro w hSw; (try dsimp only at hSw); first | (go_simp; done) | (go_simp; with_reducible rfl))
        try simp only [Act.put, List.getElem_toArray, List.getElem_cons_succ, List.getElem_cons_zero, List.setIfInBounds_toArray, List.set_cons_zero, List.set_cons_succ]
        refine wpAnyH_take (i := 3) (v := ?_) rfl (by kernel_rfl) (by kernel_rfl) (by kernel_rfl) (fun _ _ _ h => h) (Or.inl ⟨by rfl, ?_⟩) (by assumption) ?_
        rotate_left
        · (intro w hSw; (try dsimp only at hSw); first | (go_simp; done) | (go_simp; with_reducible rfl))
        try simp only [Act.put, List.getElem_toArray, List.getElem_cons_succ, List.getElem_cons_zero, List.setIfInBounds_toArray, List.set_cons_zero, List.set_cons_succ]
        refine wpAnyH_take (i := 4) (v := ?_) rfl (by kernel_rfl) (by kernel_rfl) (by kernel_rfl) (fun _ _ _ h => h) (Or.inl ⟨by rfl, ?_⟩) (by assumption) ?_
        rotate_left
        · (intro w hSw; (try dsimp only at hSw); first | (go_simp; done) | (go_simp; with_reducible rfl))
        try simp only [Act.put, List.getElem_toArray, List.getElem_cons_succ, List.getElem_cons_zero, List.setIfInBounds_toArray, List.set_cons_zero, List.set_cons_succ]
        refine wpAnyH_take (i := 5) (v := _) rfl (by kernel_rfl) (by kernel_rfl) (by kernel_rfl) (fun _ _ _ h => h) (yieldsIf_of (.agg old.V) (by rfl) (fun w' hw => exec_load_midV (.tmp 52) rfl A 1 rfl old w' (head_root hw))) (by assumption) ?_
        try simp only [Act.put, List.getElem_toArray, List.getElem_cons_succ, List.getElem_cons_zero, List.setIfInBounds_toArray, List.set_cons_zero, List.set_cons_succ]
        refine wpAnyH_ready (rs := [6]) (by kernel_rfl) (by simp) ?_
        refine AllReadyH.cons rfl (fun K hK => ?_) AllReadyH.nil
        go_simp
        (go_at_call 41; refine (of_any ⟨#[]⟩ (by decide) _).mono ?_; rintro e w1 ⟨cs1, rfl, hcs, hx1⟩; obtain rfl : cs1 = D0.V := hcs.out.trans HD0.out; clear hcs)
        go_wp2_with fail
        refine hK.out _ _ ?_ (fun hHeld => ?_)
        · ((try dsimp only); exact hx1.same hHeld List.not_mem_nil)
        clear hK K
        try simp only [Act.put, List.getElem_toArray, List.getElem_cons_succ, List.getElem_cons_zero, List.setIfInBounds_toArray, List.set_cons_zero, List.set_cons_succ]
        refine wpAnyH_take (i := 7) (v := _) rfl (by kernel_rfl) (by kernel_rfl) (by kernel_rfl) (fun _ _ _ h => h) (yieldsIf_of (.bool (decide (old = D0))) (by rfl) (fun w' _ => exec_eq_V (.tmp 53) (.tmp 54) _ rfl old D0 rfl rfl w')) (by assumption) ?_
        try simp only [Act.put, List.getElem_toArray, List.getElem_cons_succ, List.getElem_cons_zero, List.setIfInBounds_toArray, List.set_cons_zero, List.set_cons_succ]
        refine wpAnyH_take (i := 8) (v := ?_) rfl (by kernel_rfl) (by kernel_rfl) (by kernel_rfl) (fun _ _ _ h => h) (Or.inl ⟨by rfl, ?_⟩) (by assumption) ?_
        rotate_left
        · (intro w hSw; (try dsimp only at hSw); first | (go_simp; done) | (go_simp; with_reducible rfl))
        try simp only [Act.put, List.getElem_toArray, List.getElem_cons_succ, List.getElem_cons_zero, List.setIfInBounds_toArray, List.set_cons_zero, List.set_cons_succ]
        refine wpAnyH_ready (rs := [9]) (by kernel_rfl) (by simp) ?_
        refine AllReadyH.cons rfl (fun K hK => ?_) AllReadyH.nil
        go_simp
        (go_at_call 40; refine (told_any ⟨#[112, 114, 101, 102, 105, 120]⟩ 0 (decide (old = D0)) _).mono ?_; rintro e w2 ⟨v, rfl, hv, hx2⟩)
        go_wp2_with fail
        refine hK.out _ _ ?_ (fun hHeld => ?_)
        · ((try dsimp only); exact hx2.same hHeld List.not_mem_nil)
        clear hK K
        try simp only [Act.put, List.getElem_toArray, List.getElem_cons_succ, List.getElem_cons_zero, List.setIfInBounds_toArray, List.set_cons_zero, List.set_cons_succ]
        refine wpAnyH_take (i := 10) (v := ?_) rfl (by kernel_rfl) (by kernel_rfl) (by kernel_rfl) (fun _ _ _ h => h) (Or.inl ⟨by rfl, ?_⟩) (by assumption) ?_
        rotate_left
        · (intro w hSw; (try dsimp only at hSw); first | (go_simp; done) | (go_simp; with_reducible rfl))
        try simp only [Act.put, List.getElem_toArray, List.getElem_cons_succ, List.getElem_cons_zero, List.setIfInBounds_toArray, List.set_cons_zero, List.set_cons_succ]
        refine wpAnyH_done (by kernel_rfl) ?_ _
        refine NoPanic.normal ?_
        go_wp2
        go_ret
        exact ⟨_, rfl, by rw [HR.out]; simpa using hv, (hx0.drew.trans0 hx1).trans0 hx2⟩
      · have HR := Hs.hid (show consN 0 n old root xs = 12 by rw [hr, if_neg (fun q => by rw [q.1] at hl; simp at hl)])
        have hl' : ¬ ((xs.length : Nat) : Int) = 0 := by omega
        clear hr hS
        generalize consN 0 n old root xs = CN at HR ⊢
        generalize xs.length = L at hl hl' hcap ⊢
        have hbe : ((L : Int) == 0) = false := by simpa using hl'
        obtain ⟨hA, hB, hx0, _⟩ := alloc_two' w (.cells (#[.int .i64 0] ++ old.V) 32) (.cells (#[.int .i64 n] ++ root.V) 32)
        have hAm := head_n hA
        have hBn := head_n hB
        go_enter Tryd.func16, Tryd.ntmps16
        go_upto_region 6 with fail
        generalize (w.alloc (.cells (#[.int .i64 0] ++ old.V) 32)).alloc (.cells (#[.int .i64 n] ++ root.V) 32) = W at hA hB hx0 hAm hBn ⊢
        obtain ⟨A, hAA⟩ : ∃ A, w.heap.size = A := ⟨_, rfl⟩
        rw [hAA] at hA hB hAm hBn ⊢
        obtain ⟨B, hBB⟩ : ∃ B, A + 1 = B := ⟨_, rfl⟩
        rw [hBB] at hB hBn ⊢
        have HAB := Hs.hid (And.intro (show w.heap.size ≤ A from Nat.le_of_eq hAA) (show A < B by omega))
        clear hAA hBB
        refine wp_region_noPanic ?_
        refine wp_region_held_drew (S := (fun w' => w'.heap[A]? = some (.cells (#[.int .i64 0] ++ old.V) 32 (0, 0)))) (by kernel_rfl) ?_ (fun hHeld => ?_)
        · ((try dsimp only); exact hA)
        refine wpAnyH_take (i := 0) (v := ?_) rfl (by kernel_rfl) (by kernel_rfl) (by kernel_rfl) (fun _ _ _ h => h) (Or.inl ⟨by rfl, ?_⟩) (by assumption) ?_
        rotate_left
        · (intro w hSw; (try dsimp only at hSw); first | (go_simp; done) | (go_simp; with_reducible rfl))
        try simp only [Act.put, List.getElem_toArray, List.getElem_cons_succ, List.getElem_cons_zero, List.setIfInBounds_toArray, List.set_cons_zero, List.set_cons_succ]
        refine wpAnyH_take (i := 1) (v := ?_) rfl (by kernel_rfl) (by kernel_rfl) (by kernel_rfl) (fun _ _ _ h => h) (Or.inl ⟨by rfl, ?_⟩) (by assumption) ?_
        rotate_left
        · (intro w hSw; (try dsimp only at hSw); first | (go_simp; done) | (go_simp; with_reducible rfl))
        try simp only [Act.put, List.getElem_toArray, List.getElem_cons_succ, List.getElem_cons_zero, List.setIfInBounds_toArray, List.set_cons_zero, List.set_cons_succ]
        refine wpAnyH_take (i := 2) (v := ?_) rfl (by kernel_rfl) (by kernel_rfl) (by kernel_rfl) (fun _ _ _ h => h) (Or.inl ⟨by rfl, ?_⟩) (by assumption) ?_
        rotate_left
        · (intro w hSw; (try dsimp only at hSw); first | (go_simp; done) | (go_simp; with_reducible rfl))
        try simp only [Act.put, List.getElem_toArray, List.getElem_cons_succ, List.getElem_cons_zero, List.setIfInBounds_toArray, List.set_cons_zero, List.set_cons_succ]
        refine wpAnyH_take (i := 3) (v := ?_) rfl (by kernel_rfl) (by kernel_rfl) (by kernel_rfl) (fun _ _ _ h => h) (Or.inl ⟨by rfl, ?_⟩) (by assumption) ?_
        rotate_left
        · (intro w hSw; (try dsimp only at hSw); first | (go_simp; done) | (go_simp; with_reducible rfl))
        try simp only [Act.put, List.getElem_toArray, List.getElem_cons_succ, List.getElem_cons_zero, List.setIfInBounds_toArray, List.set_cons_zero, List.set_cons_succ]
        refine wpAnyH_take (i := 4) (v := undef) rfl (by kernel_rfl) (by kernel_rfl) (by kernel_rfl) (fun _ _ _ h => h) (Or.inr ⟨by rfl, rfl⟩) (by assumption) ?_
        try simp only [Act.put, List.getElem_toArray, List.getElem_cons_succ, List.getElem_cons_zero, List.setIfInBounds_toArray, List.set_cons_zero, List.set_cons_succ]
        refine wpAnyH_take (i := 5) (v := undef) rfl (by kernel_rfl) (by kernel_rfl) (by kernel_rfl) (fun _ _ _ h => h) (Or.inr ⟨by rfl, rfl⟩) (by assumption) ?_
        try simp only [Act.put, List.getElem_toArray, List.getElem_cons_succ, List.getElem_cons_zero, List.setIfInBounds_toArray, List.set_cons_zero, List.set_cons_succ]
        refine wpAnyH_take (i := 6) (v := undef) rfl (by kernel_rfl) (by kernel_rfl) (by kernel_rfl) (fun _ _ _ h => h) (Or.inr ⟨by rfl, rfl⟩) (by assumption) ?_
        try simp only [Act.put, List.getElem_toArray, List.getElem_cons_succ, List.getElem_cons_zero, List.setIfInBounds_toArray, List.set_cons_zero, List.set_cons_succ]
        refine wpAnyH_take (i := 7) (v := undef) rfl (by kernel_rfl) (by kernel_rfl) (by kernel_rfl) (fun _ _ _ h => h) (Or.inr ⟨by rfl, rfl⟩) (by assumption) ?_
        try simp only [Act.put, List.getElem_toArray, List.getElem_cons_succ, List.getElem_cons_zero, List.setIfInBounds_toArray, List.set_cons_zero, List.set_cons_succ]
        refine wpAnyH_take (i := 8) (v := ?_) rfl (by kernel_rfl) (by kernel_rfl) (by kernel_rfl) (fun _ _ _ h => h) (Or.inl ⟨by rfl, ?_⟩) (by assumption) ?_
        rotate_left
        · (intro w hSw; (try dsimp only at hSw); first | (go_simp; done) | (go_simp; with_reducible rfl))
        try simp only [Act.put, List.getElem_toArray, List.getElem_cons_succ, List.getElem_cons_zero, List.setIfInBounds_toArray, List.set_cons_zero, List.set_cons_succ]
        refine wpAnyH_ready (rs := [9]) (by kernel_rfl) (by simp) ?_
        refine AllReadyH.cons rfl (fun K hK => ?_) AllReadyH.nil
        go_simp
        (go_at_call 40; refine (told_any ⟨#[112, 114, 101, 102, 105, 120]⟩ 0 false _).mono ?_; rintro e w2 ⟨v, rfl, hv, hx2⟩)
        go_wp2_with fail
        refine hK.out _ _ ?_ (fun hHeld => ?_)
        · ((try dsimp only); exact hx2.same hHeld List.not_mem_nil)
        clear hK K
        try simp only [Act.put, List.getElem_toArray, List.getElem_cons_succ, List.getElem_cons_zero, List.setIfInBounds_toArray, List.set_cons_zero, List.set_cons_succ]
        refine wpAnyH_take (i := 10) (v := ?_) rfl (by kernel_rfl) (by kernel_rfl) (by kernel_rfl) (fun _ _ _ h => h) (Or.inl ⟨by rfl, ?_⟩) (by assumption) ?_
        rotate_left
        · (intro w hSw; (try dsimp only at hSw); first | (go_simp; done) | (go_simp; with_reducible rfl))
        try simp only [Act.put, List.getElem_toArray, List.getElem_cons_succ, List.getElem_cons_zero, List.setIfInBounds_toArray, List.set_cons_zero, List.set_cons_succ]
        refine wpAnyH_done (by kernel_rfl) ?_ _
        refine NoPanic.normal ?_
        go_wp2
        go_ret
        exact ⟨_, rfl, by rw [HR.out]; exact hv, hx0.drew.trans0 hx2⟩
end Go.Proofs.YtjicjadibaomkaaDoor
set_option linter.unusedSimpArgs false
set_option linter.unusedVariables false
set_option maxHeartbeats 2000000
set_option maxRecDepth 100000
namespace Go.Proofs.YtjicjadibaomkaaDoor
open Go.RowKit Go.Hs Go.Dg

theorem fill_walk0 (I E : Nat) : Instr.fill ([(0, 1), (1, 1), (2, 32), (34, 32), (66, 1)].toArray[·]?) walk0 [(0, .int .i64 (I : Int)), (1, .int .i64 (E : Int))] = some (wCells ⟨I, E, zeroS, zeroS, false⟩).toArray := by rfl
theorem walk_built0 (I E : Nat) : Tryd.prog.built 84 [(0, .int .i64 (I : Int)), (1, .int .i64 (E : Int))] = some (wCells ⟨I, E, zeroS, zeroS, false⟩).toArray := by
  have hp := walkPlaces
  have hf := fill_walk0 I E
  unfold Program.built
  cases hi : Tryd.prog.info? 84 with
  | none => rw [hi] at hp; simp at hp
  | some it =>
    cases hu : Tryd.prog.underlying 84 with
    | none => rw [hi, hu] at hp; simp at hp
    | some d =>
      rw [hi, hu] at hp
      cases d with
      | struct fields =>
        simp only [Option.bind_some, Option.map_eq_some_iff] at hp
        obtain ⟨pl, h1, h2⟩ := hp
        have h3 := (Prod.mk.inj h2).1
        have h4 := (Prod.mk.inj h2).2
        subst h4
        simp only [h1, h3]
        exact hf
      | _ => simp at hp
theorem climbO_odd {a e : Nat} (h : a % 2 = 1) : climbO a e = climbO (a / 2) (e / 2) := by rw [climbO, dif_pos h]
theorem climbO_even {a e : Nat} (h : ¬ a % 2 = 1) : climbO a e = (a, e) := by rw [climbO, dif_neg h]
theorem cons_walk (I M : Nat) (h1 : 1 ≤ I) (hlt : I < M) (old root x : S32) (xs zs : List S32) (hz : seedB (firstB I M) old xs = x :: zs) (s : WSt S32)
    (hs : s = zs.foldl (WSt.take nodeS) ⟨(climbO (I - 1) (M - 1)).1, (climbO (I - 1) (M - 1)).2, x, x, false⟩) :
    consN I M old root xs = if s.st = false ∧ s.e = 0 ∧ s.o = old ∧ s.l = root then 0 else 12 := by
  obtain ⟨q1, q2⟩ := take_all nodeS zs ⟨(climbO (I - 1) (M - 1)).1, (climbO (I - 1) (M - 1)).2, x, x, false⟩ rfl
  rw [← hs] at q1 q2
  have hd := (climbO_dirsB M I h1 hlt).1
  simp only [] at q1 q2
  rw [hd] at q1 q2
  unfold consN
  rw [if_neg (by omega), if_neg (by omega), if_neg (by omega)]
  simp only [Int.toNat_natCast, hz]
  by_cases hl : zs.length = (dirsB I M).length
  · have h3 := q1.2 hl
    have h4 := q2 hl
    have h5 : s.st = false := by cases h : s.st; rfl; exact absurd h h3.1
    by_cases hr : s.o = old ∧ s.l = root
    · rw [if_pos ⟨hl, by rw [← h4.2]; exact hr.1, by rw [← h4.1]; exact hr.2⟩, if_pos ⟨h5, h3.2, hr.1, hr.2⟩]
    · rw [if_neg (fun q => hr ⟨h4.2.trans q.2.1, h4.1.trans q.2.2⟩), if_neg (fun q => hr ⟨q.2.2.1, q.2.2.2⟩)]
  · rw [if_neg (fun q => hl q.1), if_neg (fun q => hl (q1.1 ⟨by rw [q.1]; decide, q.2.1⟩))]
theorem pConsB_any (I M : Nat) (hn : M ≤ 1000) (h1 : 1 ≤ I) (hlt : I < M) (old root : S32) (xs : List S32) (ao : Option Addr) (cap : Nat) (w : World) (hS : Sums32 w.heap ao cap xs) :
    Calls Tryd.prog 16 #[.agg (#[.int .i64 (I : Int)] ++ old.V), .agg (#[.int .i64 (M : Int)] ++ root.V), .slice ao xs.length cap] w fun e w' => ∃ v, e = .returned v ∧
      Hid (ErrIs w'.heap (consN I M old root xs) ⟨#[112, 114, 101, 102, 105, 120]⟩ (I : Int) v) ∧ Ext [] w w' := by
  have hmax := hS.2.1
  have hcap := hS.1
  have k0 : ¬ (I : Int) < 0 := by omega
  have k1 : ¬ (M : Int) < I := by omega
  have k2 : ¬ (I : Int) = M := by omega
  have k3 : ¬ (I : Int) = 0 := by omega
  have k4 : (I : Int) - 1 = ((I - 1 : Nat) : Int) := by omega
  have k5 : (M : Int) - 1 = ((M - 1 : Nat) : Int) := by omega
  have k6 : IntKind.i64.wrap ((I - 1 : Nat) : Int) = ((I - 1 : Nat) : Int) := by rw [IntKind.wrap_i64]; omega
  have k7 : IntKind.i64.wrap ((M - 1 : Nat) : Int) = ((M - 1 : Nat) : Int) := by rw [IntKind.wrap_i64]; omega
  obtain ⟨hA, hB, hx0, _⟩ := alloc_two' w (.cells (#[.int .i64 (I : Int)] ++ old.V) 32) (.cells (#[.int .i64 (M : Int)] ++ root.V) 32)
  have hAm := head_n hA
  have hBn := head_n hB
  go_enter Tryd.func16, Tryd.ntmps16
  go_upto_region 7 with fail
  generalize (w.alloc (.cells (#[.int .i64 (I : Int)] ++ old.V) 32)).alloc (.cells (#[.int .i64 (M : Int)] ++ root.V) 32) = W at hA hB hx0 hAm hBn ⊢
  obtain ⟨A, hAA⟩ : ∃ A, w.heap.size = A := ⟨_, rfl⟩
  rw [hAA] at hA hB hAm hBn ⊢
  obtain ⟨B, hBB⟩ : ∃ B, A + 1 = B := ⟨_, rfl⟩
  rw [hBB] at hB hBn ⊢
  have HAB := Hs.hid (And.intro (show w.heap.size ≤ A from Nat.le_of_eq hAA) (show A < B by omega))
  clear hAA hBB
  have HSS := Hs.hid hS
  have HFIN := Hs.hid (cons_walk I M h1 hlt old root)
  have HCL := Hs.hid (climbO_dirsB M I h1 hlt)
  have HN := Hs.hid (And.intro hn (And.intro h1 hlt))
  have hz := fun w => (zero_of_info (P := Tryd.prog) infoWalk).1 w
  clear hS hn
  go_upto_block 1 with (first
    | (refine wpList_yield (.agg (wCells ⟨I - 1, M - 1, zeroS, zeroS, false⟩).toArray) (by rfl) (exec_build _ rfl [(0, .int .i64 ((I - 1 : Nat) : Int)), (1, .int .i64 ((M - 1 : Nat) : Int))] _ _ (by first | (go_simp; done) | (go_simp; rfl) | (simp [Act.eval]; done)) (walk_built0 (I - 1) (M - 1))) ?_)
    | (refine wpList_store_row rfl 84 (.tmp 7) (.tmp 64) rfl W.heap.size (wCells ⟨I - 1, M - 1, zeroS, zeroS, false⟩).toArray rfl rfl _ _ (heap_new _ _) (by rw [List.size_toArray, wCells_len]; exact (zero_of_info (P := Tryd.prog) infoWalk).2) (walk0_sz _) (wCells_one _) ?_))
  have hW : WAt ((W.alloc (.cells walk0 84)).setRow W.heap.size (wCells ⟨I - 1, M - 1, zeroS, zeroS, false⟩).toArray).heap W.heap.size ⟨I - 1, M - 1, zeroS, zeroS, false⟩ := setRow_heap _ _ _ _ _ _ (heap_new _ _)
  replace hA := (boxExt (.cells walk0 84) (wCells ⟨I - 1, M - 1, zeroS, zeroS, false⟩).toArray).same hA List.not_mem_nil
  have hBlt := lt_of_heap hB
  replace hB := (boxExt (.cells walk0 84) (wCells ⟨I - 1, M - 1, zeroS, zeroS, false⟩).toArray).same hB List.not_mem_nil
  replace hx0 := hx0.trans0 (boxExt (.cells walk0 84) (wCells ⟨I - 1, M - 1, zeroS, zeroS, false⟩).toArray)
  obtain ⟨b, hbb⟩ : ∃ b, W.heap.size = b := ⟨_, rfl⟩
  have HABb : Hid (w.heap.size ≤ A ∧ A < B ∧ B < b) := Hs.hid ⟨HAB.out.1, HAB.out.2, by omega⟩
  generalize (W.alloc (.cells walk0 84)).setRow W.heap.size (wCells ⟨I - 1, M - 1, zeroS, zeroS, false⟩).toArray = W1 at hW hA hB hx0 ⊢
  rw [hbb] at hW ⊢
  clear hbb hBlt HAB hz hAm hBn
  obtain ⟨c1, c2, hc⟩ : ∃ c1 c2, climbO (I - 1) (M - 1) = (c1, c2) := ⟨_, _, rfl⟩
  have HC := Hs.hid hc
  clear hc
  have HK := Hs.hid (And.intro hx0 (And.intro hA hB))
  clear hx0 hA hB
  try simp only [Act.put, List.getElem_toArray, List.getElem_cons_succ, List.getElem_cons_zero, List.setIfInBounds_toArray, List.set_cons_zero, List.set_cons_succ]
  go_cut [] (fun wx => WAt wx.heap b ⟨c1, c2, zeroS, zeroS, false⟩ ∧ Ext [b] W1 wx)
  case first =>
    go_wp2_with fail
    go_loopw [] (fun wr => ∃ a e, WAt wr.heap b ⟨a, e, zeroS, zeroS, false⟩ ∧ a ≤ 1000 ∧ e ≤ 1000 ∧ climbO a e = climbO (I - 1) (M - 1) ∧ Ext [b] W1 wr) (fun wr => match wr.cell? ⟨b, 0, none⟩ with | some v => (intOf v).toNat | none => 0)
    case atStart => exact ⟨_, _, hW, by have := HN.out; omega, by have := HN.out; omega, rfl, Ext.refl _ _⟩
    case round =>
      clear hW
      obtain ⟨a, e, hW5, ha, hee, hc5, hE5⟩ := hrel
      have HC5 := Hs.hid hc5
      clear hc5
      have q0 := hW5.a
      have hand5 := and_one a (by omega)
      by_cases ho5 : a % 2 = 1
      · replace hand5 : Go.bits .and .i64 (a : Int) 1 = 1 := by rw [hand5, ho5]; rfl
        go_wp2_with (go_at_call 42; refine (up_any' b _ (by exact ⟨ha, hee⟩) _ hW5).mono ?_; rintro e w6 ⟨rfl, hW6, hx6⟩)
        go_round
        case rel => exact ⟨a / 2, e / 2, hW6, by omega, by omega, by rw [← HC5.out]; exact (climbO_odd ho5).symm, hE5.trans' hx6⟩
        case measure =>
          have q6 : w6.cell? ⟨b, 0, none⟩ = some (.int .i64 ((a / 2 : Nat) : Int)) := hW6.a
          simp only [q6, q0]
          simp [intOf]; omega
      · replace hand5 : Go.bits .and .i64 (a : Int) 1 = 0 := by rw [hand5, show a % 2 = 0 by omega]; rfl
        go_wp2_with fail
        go_meet
        have he : (a, e) = (c1, c2) := by rw [← HC.out, ← HC5.out]; exact (climbO_even ho5).symm
        injection he with e1 e2
        subst e1; subst e2
        exact ⟨hW5, hE5⟩
  case rest =>
    clear hW
    obtain ⟨hW, hE1⟩ := hcut
    have HAb : A ≠ b := by have := HABb.out; omega
    have hA : wc.heap[A]? = _ := hE1.same HK.out.2.1 (by simpa using HAb)
    go_upto_region 10 with fail
    have HB' := Hs.hid hE1
    go_cut [] (fun wx => WAt wx.heap b ⟨c1, c2, old, old, false⟩ ∧ Ext [b] W1 wx)
    case first =>
      refine wp_region_noPanic ?_
      refine wp_region_held_drew (S := (fun w' => w'.heap[A]? = some (.cells (#[.int .i64 (I : Int)] ++ old.V) 32 (0, 0)))) (by kernel_rfl) ?_ (fun hHeld => ?_)
      · ((try dsimp only); exact hA)
      refine wpAnyH_take (i := 0) (v := ?_) rfl (by kernel_rfl) (by kernel_rfl) (by kernel_rfl) (fun _ _ _ h => h) (Or.inl ⟨by rfl, ?_⟩) (by assumption) ?_
      rotate_left
      · (intro w hSw; (try dsimp only at hSw); first | (go_simp; done) | (go_simp; with_reducible rfl))
      try simp only [Act.put, List.getElem_toArray, List.getElem_cons_succ, List.getElem_cons_zero, List.setIfInBounds_toArray, List.set_cons_zero, List.set_cons_succ]
      refine wpAnyH_take (i := 1) (v := _) rfl (by kernel_rfl) (by kernel_rfl) (by kernel_rfl) (fun _ _ _ h => h) (yieldsIf_of (.agg old.V) (by rfl) (fun w' hw => exec_load_midV (.tmp 70) rfl A 1 rfl old w' (head_root hw))) (by assumption) ?_
      try simp only [Act.put, List.getElem_toArray, List.getElem_cons_succ, List.getElem_cons_zero, List.setIfInBounds_toArray, List.set_cons_zero, List.set_cons_succ]
      refine wpAnyH_take (i := 2) (v := ?_) rfl (by kernel_rfl) (by kernel_rfl) (by kernel_rfl) (fun _ _ _ h => h) (Or.inl ⟨by rfl, ?_⟩) (by assumption) ?_
      rotate_left
      · (intro w hSw; (try dsimp only at hSw); first | (go_simp; done) | (go_simp; with_reducible rfl))
      try simp only [Act.put, List.getElem_toArray, List.getElem_cons_succ, List.getElem_cons_zero, List.setIfInBounds_toArray, List.set_cons_zero, List.set_cons_succ]
      refine wpAnyH_take (i := 3) (v := _) rfl (by kernel_rfl) (by kernel_rfl) (by kernel_rfl) (fun _ _ _ h => h) (yieldsIf_of (.agg old.V) (by rfl) (fun w' hw => exec_load_midV (.tmp 72) rfl A 1 rfl old w' (head_root hw))) (by assumption) ?_
      try simp only [Act.put, List.getElem_toArray, List.getElem_cons_succ, List.getElem_cons_zero, List.setIfInBounds_toArray, List.set_cons_zero, List.set_cons_succ]
      refine wpAnyH_take (i := 4) (v := ?_) rfl (by kernel_rfl) (by kernel_rfl) (by kernel_rfl) (fun _ _ _ h => h) (Or.inl ⟨by rfl, ?_⟩) (by assumption) ?_
      rotate_left
      · (intro w hSw; (try dsimp only at hSw); first | (go_simp; done) | (go_simp; with_reducible rfl))
      try simp only [Act.put, List.getElem_toArray, List.getElem_cons_succ, List.getElem_cons_zero, List.setIfInBounds_toArray, List.set_cons_zero, List.set_cons_succ]
      refine wpAnyH_ready (rs := [5]) (by kernel_rfl) (by simp) ?_
      refine AllReadyH.cons rfl (fun K hK => ?_) AllReadyH.nil
      rw [if_pos (by rfl)]
      (have hW7 := WAt.setO (show WAt (World.drew _).heap b _ from hW) (old); refine wp_store_midV _ _ rfl b 2 (old) rfl rfl (WAt.there (show WAt (World.drew _).heap b _ from hW) _ _ (by decide)) ?_)
      refine hK.out _ _ ?_ (fun hHeld => ?_)
      · ((try dsimp only); (rw [heap_setCells_ne _ _ _ HAb]; exact hHeld))
      clear hK K
      try simp only [Act.put, List.getElem_toArray, List.getElem_cons_succ, List.getElem_cons_zero, List.setIfInBounds_toArray, List.set_cons_zero, List.set_cons_succ]
      refine wpAnyH_take (i := 6) (v := ?_) rfl (by kernel_rfl) (by kernel_rfl) (by kernel_rfl) (fun _ _ _ h => h) (Or.inl ⟨by rfl, ?_⟩) (by assumption) ?_
      rotate_left
      · (intro w hSw; (try dsimp only at hSw); first | (go_simp; done) | (go_simp; with_reducible rfl))
      try simp only [Act.put, List.getElem_toArray, List.getElem_cons_succ, List.getElem_cons_zero, List.setIfInBounds_toArray, List.set_cons_zero, List.set_cons_succ]
      refine wpAnyH_ready (rs := [7]) (by kernel_rfl) (by simp) ?_
      refine AllReadyH.cons rfl (fun K hK => ?_) AllReadyH.nil
      rw [if_pos (by rfl)]
      (have hW8 := WAt.setL hW7 (old); refine wp_store_midV _ _ rfl b 34 (old) rfl rfl (WAt.there hW7 _ _ (by decide)) ?_)
      refine hK.out _ _ ?_ (fun hHeld => ?_)
      · ((try dsimp only); (rw [heap_setCells_ne _ _ _ HAb]; exact hHeld))
      clear hK K
      try simp only [Act.put, List.getElem_toArray, List.getElem_cons_succ, List.getElem_cons_zero, List.setIfInBounds_toArray, List.set_cons_zero, List.set_cons_succ]
      refine wpAnyH_done (by kernel_rfl) ?_ _
      refine NoPanic.normal ?_
      go_wp2
      go_meet
      exact ⟨hW8, HB'.out.drew.trans' (Ext.setCells (.inl (List.mem_singleton.2 rfl)) _ _ _ (Ext.setCells (.inl (List.mem_singleton.2 rfl)) _ _ _ (Ext.refl [b] _)))⟩
    case rest =>
      clear hW hE1 hA HB'
      obtain ⟨hW, hE1⟩ := hcut
      have hA : wc.heap[A]? = _ := hE1.same HK.out.2.1 (by simpa using HAb)
      have hAm := head_n hA
      have q0 := hW.a
      have hSc : Sums32 wc.heap ao cap xs := HSS.out.ext ((HK.out.1.mono (F' := [b]) (fun _ h => by cases h)).trans' hE1) (by have := HABb.out; simp; omega)
      go_upto_if 78 with fail
      have HF := Hs.hid (show decide (c1 = 0) = firstB I M by have := HCL.out.2.1; rw [HC.out] at this; exact this)
      have HE1 := Hs.hid hE1
      have HSX := Hs.hid HSS.out
      have HX15 := Hs.hid ((HK.out.1.mono (F' := [b]) (fun _ h => by cases h)).trans' hE1)
      have HX14 := Hs.hid ((HK.out.1.mono (F' := [b]) (fun _ h => by cases h)).trans' (hE1.drew))
      clear hE1
      go_cut [2] (fun s2 wx => ∃ ao' cap' x zs, s2 = .slice ao' (List.length zs) cap' ∧ Hid (Sums32 w.heap ao' cap' zs) ∧ Hid (seedB (firstB I M) old xs = x :: zs) ∧ WAt wx.heap b ⟨c1, c2, x, x, false⟩ ∧ Ext [b] W1 wx)
      case first =>
        by_cases hc0 : c1 = 0
        · have hc0' : (c1 : Int) = 0 := by omega
          have HFF : Hid (firstB I M = true) := Hs.hid (by rw [← HF.out]; simpa using hc0)
          have HC0 := Hs.hid hc0
          clear hc0
          go_wp2_with fail
          go_meet
          exact ⟨ao, cap, old, xs, rfl, HSS, Hs.hid (by rw [HFF.out]; rfl), hW, HE1.out⟩
        · have hc0' : ¬ (c1 : Int) = 0 := by omega
          have HFF : Hid (firstB I M = false) := Hs.hid (by rw [← HF.out]; simpa using hc0)
          have HC0 := Hs.hid hc0
          clear hc0
          cases xs with
          | nil =>
            have HR : Hid (consN I M old root [] = 12) := Hs.hid (by
              unfold consN
              rw [if_neg (by have := HN.out; omega), if_neg (by have := HN.out; omega), if_neg (by have := HN.out; omega)]
              simp only [Int.toNat_natCast, HFF.out]
              rfl)
            have hl0 : ([] : List S32).length = 0 := rfl
            go_wp2_with (go_at_call 40; refine (told_any ⟨#[112, 114, 101, 102, 105, 120]⟩ (I : Int) false _).mono ?_; rintro e w1 ⟨v, rfl, hv, hx1⟩)
            go_ret
            exact ⟨_, rfl, by rw [HR.out]; exact hv, (HX15.out.trans0 hx1).mono (fun g hg => .inr (by have := HABb.out; simp at hg; omega))⟩
          | cons x zs =>
            have HSD := Hs.hid (show seedB (firstB I M) old (x :: zs) = x :: zs by rw [HFF.out]; rfl)
            obtain ⟨sb, so, rfl, hsb, _⟩ := HSS.out.at (show (x :: zs)[0]? = some x from rfl)
            obtain ⟨sb', so', e, _, hrg⟩ := hSc.at (show (x :: zs)[0]? = some x from rfl)
            injection e with e; injection e with e1 e2
            subst e1; subst e2
            rw [Nat.zero_mul, Nat.add_zero] at hrg
            have hsbb : sb ≠ b := by have := HABb.out; omega
            have hcap' : zs.length + 1 ≤ cap := hcap
            have HSX := HSX
            have hxl : (x :: zs).length = zs.length + 1 := rfl
            rw [hxl]
            have l1 : ¬ ((zs.length : Nat) : Int) + 1 = 0 := by omega
            have l2 : (0 : Int) < ((zs.length : Nat) : Int) + 1 := by omega
            have l3 : (1 : Int) ≤ ((zs.length : Nat) : Int) + 1 := by omega
            have l4 : ((zs.length : Nat) : Int) + 1 ≤ cap := by omega
            have l5 : (1 : Int) ≤ cap := by omega
            have l6 : ((zs.length : Nat) : Int) + 1 - 1 = zs.length := by omega
            have l7 : zs.length + 1 - 1 = zs.length := by omega
            clear hSc hxl hcap
            go_upto_region 14 with fail
            refine wp_region_noPanic ?_
            refine wp_region_held_drew (S := (fun w' => w'.rangeAt sb so x.V.toList)) (by kernel_rfl) ?_ (fun hHeld => ?_)
            · ((try dsimp only); exact hrg)
            refine wpAnyH_take (i := 0) (v := ?_) rfl (by kernel_rfl) (by kernel_rfl) (by kernel_rfl) (fun _ _ _ h => h) (Or.inl ⟨by rfl, ?_⟩) (by assumption) ?_
            rotate_left
            · (intro w hSw; (try dsimp only at hSw); first | (go_simp; done) | (go_simp; with_reducible rfl))
            try simp only [Act.put, List.getElem_toArray, List.getElem_cons_succ, List.getElem_cons_zero, List.setIfInBounds_toArray, List.set_cons_zero, List.set_cons_succ]
            refine wpAnyH_take (i := 1) (v := ?_) rfl (by kernel_rfl) (by kernel_rfl) (by kernel_rfl) (fun _ _ _ h => h) (Or.inl ⟨by rfl, ?_⟩) (by assumption) ?_
            rotate_left
            · (intro w hSw; (try dsimp only at hSw); first | (go_simp; done) | (go_simp; with_reducible rfl))
            try simp only [Act.put, List.getElem_toArray, List.getElem_cons_succ, List.getElem_cons_zero, List.setIfInBounds_toArray, List.set_cons_zero, List.set_cons_succ]
            refine wpAnyH_take (i := 2) (v := _) rfl (by kernel_rfl) (by kernel_rfl) (by kernel_rfl) (fun _ _ _ h => h) (yieldsIf_of (.agg x.V) (by rfl) (fun w' hw => exec_load_midV (.tmp 86) rfl sb so rfl x w' hw)) (by assumption) ?_
            try simp only [Act.put, List.getElem_toArray, List.getElem_cons_succ, List.getElem_cons_zero, List.setIfInBounds_toArray, List.set_cons_zero, List.set_cons_succ]
            refine wpAnyH_take (i := 3) (v := ?_) rfl (by kernel_rfl) (by kernel_rfl) (by kernel_rfl) (fun _ _ _ h => h) (Or.inl ⟨by rfl, ?_⟩) (by assumption) ?_
            rotate_left
            · (intro w hSw; (try dsimp only at hSw); first | (go_simp; done) | (go_simp; with_reducible rfl))
            try simp only [Act.put, List.getElem_toArray, List.getElem_cons_succ, List.getElem_cons_zero, List.setIfInBounds_toArray, List.set_cons_zero, List.set_cons_succ]
            refine wpAnyH_take (i := 4) (v := ?_) rfl (by kernel_rfl) (by kernel_rfl) (by kernel_rfl) (fun _ _ _ h => h) (Or.inl ⟨by rfl, ?_⟩) (by assumption) ?_
            rotate_left
            · (intro w hSw; (try dsimp only at hSw); first | (go_simp; done) | (go_simp; with_reducible rfl))
            try simp only [Act.put, List.getElem_toArray, List.getElem_cons_succ, List.getElem_cons_zero, List.setIfInBounds_toArray, List.set_cons_zero, List.set_cons_succ]
            refine wpAnyH_take (i := 5) (v := _) rfl (by kernel_rfl) (by kernel_rfl) (by kernel_rfl) (fun _ _ _ h => h) (yieldsIf_of (.agg x.V) (by rfl) (fun w' hw => exec_load_midV (.tmp 89) rfl sb so rfl x w' hw)) (by assumption) ?_
            try simp only [Act.put, List.getElem_toArray, List.getElem_cons_succ, List.getElem_cons_zero, List.setIfInBounds_toArray, List.set_cons_zero, List.set_cons_succ]
            refine wpAnyH_take (i := 6) (v := ?_) rfl (by kernel_rfl) (by kernel_rfl) (by kernel_rfl) (fun _ _ _ h => h) (Or.inl ⟨by rfl, ?_⟩) (by assumption) ?_
            rotate_left
            · (intro w hSw; (try dsimp only at hSw); first | (go_simp; done) | (go_simp; with_reducible rfl))
            try simp only [Act.put, List.getElem_toArray, List.getElem_cons_succ, List.getElem_cons_zero, List.setIfInBounds_toArray, List.set_cons_zero, List.set_cons_succ]
            refine wpAnyH_take (i := 7) (v := ?_) rfl (by kernel_rfl) (by kernel_rfl) (by kernel_rfl) (fun _ _ _ h => h) (Or.inl ⟨by rfl, ?_⟩) (by assumption) ?_
            rotate_left
            · (intro w hSw; (try dsimp only at hSw); first | (go_simp; done) | (go_simp; with_reducible rfl))
            try simp only [Act.put, List.getElem_toArray, List.getElem_cons_succ, List.getElem_cons_zero, List.setIfInBounds_toArray, List.set_cons_zero, List.set_cons_succ]
            refine wpAnyH_take (i := 8) (v := ?_) rfl (by kernel_rfl) (by kernel_rfl) (by kernel_rfl) (fun _ _ _ h => h) (Or.inl ⟨by rfl, ?_⟩) (by assumption) ?_
            rotate_left
            · (intro w hSw; (try dsimp only at hSw); first | (go_simp; done) | (go_simp; with_reducible rfl))
            try simp only [Act.put, List.getElem_toArray, List.getElem_cons_succ, List.getElem_cons_zero, List.setIfInBounds_toArray, List.set_cons_zero, List.set_cons_succ]
            refine wpAnyH_ready (rs := [9]) (by kernel_rfl) (by simp) ?_
            refine AllReadyH.cons rfl (fun K hK => ?_) AllReadyH.nil
            rw [if_pos (by rfl)]
            (have hW7 := WAt.setO (show WAt (World.drew _).heap b _ from hW) (x); refine wp_store_midV _ _ rfl b 2 (x) rfl rfl (WAt.there (show WAt (World.drew _).heap b _ from hW) _ _ (by decide)) ?_)
            refine hK.out _ _ ?_ (fun hHeld => ?_)
            · ((try dsimp only); (refine World.rangeAt_setCells_apart hHeld b _ _ (.inl hsbb)))
            clear hK K
            try simp only [Act.put, List.getElem_toArray, List.getElem_cons_succ, List.getElem_cons_zero, List.setIfInBounds_toArray, List.set_cons_zero, List.set_cons_succ]
            refine wpAnyH_take (i := 10) (v := ?_) rfl (by kernel_rfl) (by kernel_rfl) (by kernel_rfl) (fun _ _ _ h => h) (Or.inl ⟨by rfl, ?_⟩) (by assumption) ?_
            rotate_left
            · (intro w hSw; (try dsimp only at hSw); first | (go_simp; done) | (go_simp; with_reducible rfl))
            try simp only [Act.put, List.getElem_toArray, List.getElem_cons_succ, List.getElem_cons_zero, List.setIfInBounds_toArray, List.set_cons_zero, List.set_cons_succ]
            refine wpAnyH_ready (rs := [11]) (by kernel_rfl) (by simp) ?_
            refine AllReadyH.cons rfl (fun K hK => ?_) AllReadyH.nil
            rw [if_pos (by rfl)]
            (have hW8 := WAt.setL hW7 (x); refine wp_store_midV _ _ rfl b 34 (x) rfl rfl (WAt.there hW7 _ _ (by decide)) ?_)
            refine hK.out _ _ ?_ (fun hHeld => ?_)
            · ((try dsimp only); (refine World.rangeAt_setCells_apart hHeld b _ _ (.inl hsbb)))
            clear hK K
            try simp only [Act.put, List.getElem_toArray, List.getElem_cons_succ, List.getElem_cons_zero, List.setIfInBounds_toArray, List.set_cons_zero, List.set_cons_succ]
            refine wpAnyH_take (i := 12) (v := ?_) rfl (by kernel_rfl) (by kernel_rfl) (by kernel_rfl) (fun _ _ _ h => h) (Or.inl ⟨by rfl, ?_⟩) (by assumption) ?_
            rotate_left
            · (intro w hSw; (try dsimp only at hSw); first | (go_simp; done) | (go_simp; with_reducible rfl))
            try simp only [Act.put, List.getElem_toArray, List.getElem_cons_succ, List.getElem_cons_zero, List.setIfInBounds_toArray, List.set_cons_zero, List.set_cons_succ]
            refine wpAnyH_done (by kernel_rfl) ?_ _
            refine NoPanic.normal ?_
            go_wp2
            all_goals go_meet
            all_goals first
              | exact ⟨_, cap - 1, x, zs, rfl, Hs.hid (Sums32.tail HSX.out), HSD, hW8, HE1.out.drew.trans' (Ext.setCells (.inl (List.mem_singleton.2 rfl)) _ _ _ (Ext.setCells (.inl (List.mem_singleton.2 rfl)) _ _ _ (Ext.refl [b] _)))⟩
              | exact ⟨_, 0, x, zs, rfl, Hs.hid ⟨by omega, by decide, .inl (List.eq_nil_of_length_eq_zero (by omega))⟩, HSD, hW8, HE1.out.drew.trans' (Ext.setCells (.inl (List.mem_singleton.2 rfl)) _ _ _ (Ext.setCells (.inl (List.mem_singleton.2 rfl)) _ _ _ (Ext.refl [b] _)))⟩
      case rest =>
        clear hW hA hAm q0 hSc
        obtain ⟨ao', cap', x, zs, rfl, HZ, HSD, hW, hE1⟩ := hcut
        have hmax' := HZ.out.2.1
        have hlen : (zs.length : Int) ≤ 9223372036854775807 := by have := HZ.out.1; omega
        have HFN := Hs.hid (HFIN.out x xs zs HSD.out)
        rw [HC.out] at HFN
        go_wp2_with fail
        go_loopw [97] (fun iv wr => ∃ (k : Nat) (s : WSt S32), iv = .int .i64 k ∧ k ≤ zs.length ∧ WAt wr.heap b s ∧ Hid (s = (zs.take k).foldl (WSt.take nodeS) ⟨c1, c2, x, x, false⟩) ∧ Hid (s.a ≤ 1000 ∧ s.e ≤ 1000) ∧ Ext [b] W1 wr) (fun iv _ => zs.length - (intOf iv).toNat)
        case atStart => exact ⟨0, _, rfl, Nat.zero_le _, hW, Hs.hid rfl, Hs.hid (by have h1 := HCL.out.2.2; rw [HC.out] at h1; have h2 := HN.out; constructor <;> simp only [] at h1 ⊢ <;> omega), hE1⟩
        case round =>
          clear hW hE1
          obtain ⟨k, s, rfl, hk, hW, HS, HB, hEb⟩ := hrel
          have hEw := (HK.out.1.mono (F' := [b]) (fun _ h => by cases h)).trans' hEb
          by_cases hkl : k < zs.length
          · have hkl' : (k : Int) < zs.length := by omega
            obtain ⟨y, hx⟩ : ∃ y, zs[k]? = some y := ⟨_, List.getElem?_eq_getElem hkl⟩
            have HX := Hs.hid hx
            clear hx
            obtain ⟨sb, so, rfl, hsb, hrg⟩ := (HZ.out.ext hEw (by have := HABb.out; simp; omega)).at HX.out
            have HW := Hs.hid hW
            clear hW hEw
            go_wp2_with (first
              | (refine wpList_yield (.agg y.V) (by rfl) (exec_load_midV (.tmp 99) rfl sb _ rfl y _ hrg) ?_)
              | (refine wpList_store_row rfl 29 (.tmp 9) (.tmp 100) rfl wr.heap.size y.V rfl rfl _ _ (heap_new _ _) (by rw [y.size]; exact infoSum) (by rw [y.size]; rfl) y.one ?_)
              | (refine wpList_yield (.agg y.V) (by rfl) (exec_load_rowV (.tmp 9) rfl wr.heap.size rfl y _ ⟨_, setRow_heap _ _ _ _ _ _ (heap_new _ _)⟩) ?_)
              | (go_at_call 39; refine (take_any b s HB.out y _ (HW.out.ext (boxExt _ _) List.not_mem_nil)).mono ?_; rintro e w5 ⟨rfl, hW5, hx5⟩))
            go_round
            case rel =>
              refine ⟨k + 1, s.take nodeS y, by go_num, by omega, hW5, Hs.hid ?_, Hs.hid (take_le HB.out), ?_⟩
              · rw [List.take_add_one, HX.out, HS.out]; simp
              · exact hEb.trans' (((boxExt _ _).mono (fun _ h => by cases h)).trans' hx5)
            case measure => simp [intOf]; omega
          · have hkl' : ¬ (k : Int) < zs.length := by omega
            obtain rfl : k = zs.length := by omega
            have h66 := hW.st
            have hce := hW.e
            have hWo := hW.o
            have hWl := hW.l
            have hA : wr.heap[A]? = _ := hEb.same HK.out.2.1 (by have := HABb.out; simp; omega)
            have hB : wr.heap[B]? = _ := hEb.same HK.out.2.2 (by have := HABb.out; simp; omega)
            have hAm := head_n hA
            have HR := Hs.hid (HFN.out s (by rw [HS.out, List.take_length]))
            have HEE := Hs.hid hEw.drew
            clear hEw
            cases hst : s.st with
            | true =>
              rw [hst] at h66
              have HST := Hs.hid hst
              clear hst
              go_upto_region 20 with fail
              refine wp_region_stl_tail 24 (by kernel_rfl) (by kernel_rfl) ?_
              simp only [List.take_succ_cons, List.take_zero, List.drop_succ_cons, List.drop_zero]
              refine still_val (v := ?_) (by rfl) ?_ ?_
              rotate_left
              · first | (go_simp; done) | (go_simp; with_reducible rfl)
              try simp only [Act.put, List.getElem_toArray, List.getElem_cons_succ, List.getElem_cons_zero, List.setIfInBounds_toArray, List.set_cons_zero, List.set_cons_succ]
              refine still_val (v := ?_) (by rfl) ?_ ?_
              rotate_left
              · first | (go_simp; done) | (go_simp; with_reducible rfl)
              try simp only [Act.put, List.getElem_toArray, List.getElem_cons_succ, List.getElem_cons_zero, List.setIfInBounds_toArray, List.set_cons_zero, List.set_cons_succ]
              refine still_val (v := ?_) (by rfl) ?_ ?_
              rotate_left
              · first | (go_simp; done) | (go_simp; with_reducible rfl)
              try simp only [Act.put, List.getElem_toArray, List.getElem_cons_succ, List.getElem_cons_zero, List.setIfInBounds_toArray, List.set_cons_zero, List.set_cons_succ]
              refine still_val (v := ?_) (by rfl) ?_ ?_
              rotate_left
              · first | (go_simp; done) | (go_simp; with_reducible rfl)
              try simp only [Act.put, List.getElem_toArray, List.getElem_cons_succ, List.getElem_cons_zero, List.setIfInBounds_toArray, List.set_cons_zero, List.set_cons_succ]
              refine still_val (v := ?_) (by rfl) ?_ ?_
              rotate_left
              · first | (go_simp; done) | (go_simp; with_reducible rfl)
              try simp only [Act.put, List.getElem_toArray, List.getElem_cons_succ, List.getElem_cons_zero, List.setIfInBounds_toArray, List.set_cons_zero, List.set_cons_succ]
              refine still_val (v := ?_) (by rfl) ?_ ?_
              rotate_left
              · first | (go_simp; done) | (go_simp; with_reducible rfl)
              try simp only [Act.put, List.getElem_toArray, List.getElem_cons_succ, List.getElem_cons_zero, List.setIfInBounds_toArray, List.set_cons_zero, List.set_cons_succ]
              refine still_not (by rfl) ?_
              try simp only [Act.put, List.getElem_toArray, List.getElem_cons_succ, List.getElem_cons_zero, List.setIfInBounds_toArray, List.set_cons_zero, List.set_cons_succ]
              refine still_not (by rfl) ?_
              try simp only [Act.put, List.getElem_toArray, List.getElem_cons_succ, List.getElem_cons_zero, List.setIfInBounds_toArray, List.set_cons_zero, List.set_cons_succ]
              refine still_not (by rfl) ?_
              try simp only [Act.put, List.getElem_toArray, List.getElem_cons_succ, List.getElem_cons_zero, List.setIfInBounds_toArray, List.set_cons_zero, List.set_cons_succ]
              refine still_val (v := ?_) (by rfl) ?_ ?_
              rotate_left
              · first | (go_simp; done) | (go_simp; with_reducible rfl)
              try simp only [Act.put, List.getElem_toArray, List.getElem_cons_succ, List.getElem_cons_zero, List.setIfInBounds_toArray, List.set_cons_zero, List.set_cons_succ]
              refine still_val (v := ?_) (by rfl) ?_ ?_
              rotate_left
              · first | (go_simp; done) | (go_simp; with_reducible rfl)
              try simp only [Act.put, List.getElem_toArray, List.getElem_cons_succ, List.getElem_cons_zero, List.setIfInBounds_toArray, List.set_cons_zero, List.set_cons_succ]
              refine still_not (by rfl) ?_
              try simp only [Act.put, List.getElem_toArray, List.getElem_cons_succ, List.getElem_cons_zero, List.setIfInBounds_toArray, List.set_cons_zero, List.set_cons_succ]
              refine still_not (by rfl) ?_
              try simp only [Act.put, List.getElem_toArray, List.getElem_cons_succ, List.getElem_cons_zero, List.setIfInBounds_toArray, List.set_cons_zero, List.set_cons_succ]
              refine still_not (by rfl) ?_
              try simp only [Act.put, List.getElem_toArray, List.getElem_cons_succ, List.getElem_cons_zero, List.setIfInBounds_toArray, List.set_cons_zero, List.set_cons_succ]
              refine still_not (by rfl) ?_
              try simp only [Act.put, List.getElem_toArray, List.getElem_cons_succ, List.getElem_cons_zero, List.setIfInBounds_toArray, List.set_cons_zero, List.set_cons_succ]
              refine still_not (by rfl) ?_
              try simp only [Act.put, List.getElem_toArray, List.getElem_cons_succ, List.getElem_cons_zero, List.setIfInBounds_toArray, List.set_cons_zero, List.set_cons_succ]
              refine still_val (v := ?_) (by rfl) ?_ ?_
              rotate_left
              · first | (go_simp; done) | (go_simp; with_reducible rfl)
              try simp only [Act.put, List.getElem_toArray, List.getElem_cons_succ, List.getElem_cons_zero, List.setIfInBounds_toArray, List.set_cons_zero, List.set_cons_succ]
              refine still_val (v := ?_) (by rfl) ?_ ?_
              rotate_left
              · first | (go_simp; done) | (go_simp; with_reducible rfl)
              try simp only [Act.put, List.getElem_toArray, List.getElem_cons_succ, List.getElem_cons_zero, List.setIfInBounds_toArray, List.set_cons_zero, List.set_cons_succ]
              refine still_not (by rfl) ?_
              try simp only [Act.put, List.getElem_toArray, List.getElem_cons_succ, List.getElem_cons_zero, List.setIfInBounds_toArray, List.set_cons_zero, List.set_cons_succ]
              refine still_not (by rfl) ?_
              try simp only [Act.put, List.getElem_toArray, List.getElem_cons_succ, List.getElem_cons_zero, List.setIfInBounds_toArray, List.set_cons_zero, List.set_cons_succ]
              refine still_not (by rfl) ?_
              try simp only [Act.put, List.getElem_toArray, List.getElem_cons_succ, List.getElem_cons_zero, List.setIfInBounds_toArray, List.set_cons_zero, List.set_cons_succ]
              refine still_not (by rfl) ?_
              try simp only [Act.put, List.getElem_toArray, List.getElem_cons_succ, List.getElem_cons_zero, List.setIfInBounds_toArray, List.set_cons_zero, List.set_cons_succ]
              refine still_not (by rfl) ?_
              try simp only [Act.put, List.getElem_toArray, List.getElem_cons_succ, List.getElem_cons_zero, List.setIfInBounds_toArray, List.set_cons_zero, List.set_cons_succ]
              refine still_val (v := ?_) (by rfl) ?_ ?_
              rotate_left
              · first | (go_simp; done) | (go_simp; with_reducible rfl)
              try simp only [Act.put, List.getElem_toArray, List.getElem_cons_succ, List.getElem_cons_zero, List.setIfInBounds_toArray, List.set_cons_zero, List.set_cons_succ]
              refine still_end ?_
              go_wp2_with (go_at_call 40; refine (told_any ⟨#[112, 114, 101, 102, 105, 120]⟩ (I : Int) false _).mono ?_; rintro e w1 ⟨v, rfl, hv, hx1⟩)
              go_ret
              exact ⟨_, rfl, by rw [HR.out, if_neg (fun q => by rw [HST.out] at q; cases q.1)]; exact hv, (HEE.out.trans0 hx1).mono (fun g hg => .inr (by have := HABb.out; simp at hg; omega))⟩
            | false =>
              rw [hst] at h66
              have HST := Hs.hid hst
              clear hst
              by_cases he : s.e = 0
              · have he' : (s.e : Int) = 0 := by omega
                have HE0 := Hs.hid he
                clear he
                by_cases ho : s.o = old
                · have HO := Hs.hid ho
                  have hdo : decide (s.o = old) = true := decide_eq_true ho
                  clear ho
                  have HR2 : Hid (consN I M old root xs = if decide (s.l = root) = true then 0 else 12) := Hs.hid (by
                    rw [HR.out]
                    by_cases h : s.l = root
                    · rw [if_pos ⟨HST.out, HE0.out, HO.out, h⟩, if_pos (by simpa using h)]
                    · rw [if_neg (fun q => h q.2.2.2), if_neg (by simpa using h)])
                  go_upto_region 20 with fail
                  refine wp_region_stl_tail 24 (by kernel_rfl) (by kernel_rfl) ?_
                  simp only [List.take_succ_cons, List.take_zero, List.drop_succ_cons, List.drop_zero]
                  refine still_val (v := ?_) (by rfl) ?_ ?_
                  rotate_left
                  · first | (go_simp; done) | (go_simp; with_reducible rfl)
                  try simp only [Act.put, List.getElem_toArray, List.getElem_cons_succ, List.getElem_cons_zero, List.setIfInBounds_toArray, List.set_cons_zero, List.set_cons_succ]
                  refine still_val (v := ?_) (by rfl) ?_ ?_
                  rotate_left
                  · first | (go_simp; done) | (go_simp; with_reducible rfl)
                  try simp only [Act.put, List.getElem_toArray, List.getElem_cons_succ, List.getElem_cons_zero, List.setIfInBounds_toArray, List.set_cons_zero, List.set_cons_succ]
                  refine still_val (v := ?_) (by rfl) ?_ ?_
                  rotate_left
                  · first | (go_simp; done) | (go_simp; with_reducible rfl)
                  try simp only [Act.put, List.getElem_toArray, List.getElem_cons_succ, List.getElem_cons_zero, List.setIfInBounds_toArray, List.set_cons_zero, List.set_cons_succ]
                  refine still_val (v := ?_) (by rfl) ?_ ?_
                  rotate_left
                  · first | (go_simp; done) | (go_simp; with_reducible rfl)
                  try simp only [Act.put, List.getElem_toArray, List.getElem_cons_succ, List.getElem_cons_zero, List.setIfInBounds_toArray, List.set_cons_zero, List.set_cons_succ]
                  refine still_val (v := ?_) (by rfl) ?_ ?_
                  rotate_left
                  · first | (go_simp; done) | (go_simp; with_reducible rfl)
                  try simp only [Act.put, List.getElem_toArray, List.getElem_cons_succ, List.getElem_cons_zero, List.setIfInBounds_toArray, List.set_cons_zero, List.set_cons_succ]
                  refine still_val (v := ?_) (by rfl) ?_ ?_
                  rotate_left
                  · first | (go_simp; done) | (go_simp; with_reducible rfl)
                  try simp only [Act.put, List.getElem_toArray, List.getElem_cons_succ, List.getElem_cons_zero, List.setIfInBounds_toArray, List.set_cons_zero, List.set_cons_succ]
                  refine still_val (v := ?_) (by rfl) ?_ ?_
                  rotate_left
                  · first | (go_simp; done) | (go_simp; with_reducible rfl)
                  try simp only [Act.put, List.getElem_toArray, List.getElem_cons_succ, List.getElem_cons_zero, List.setIfInBounds_toArray, List.set_cons_zero, List.set_cons_succ]
                  refine still_val (v := ?_) (by rfl) ?_ ?_
                  rotate_left
                  · first | (go_simp; done) | (go_simp; with_reducible rfl)
                  try simp only [Act.put, List.getElem_toArray, List.getElem_cons_succ, List.getElem_cons_zero, List.setIfInBounds_toArray, List.set_cons_zero, List.set_cons_succ]
                  refine still_val (v := ?_) (by rfl) ?_ ?_
                  rotate_left
                  · first | (go_simp; done) | (go_simp; with_reducible rfl)
                  try simp only [Act.put, List.getElem_toArray, List.getElem_cons_succ, List.getElem_cons_zero, List.setIfInBounds_toArray, List.set_cons_zero, List.set_cons_succ]
                  refine still_val (v := ?_) (by rfl) ?_ ?_
                  rotate_left
                  · first | (go_simp; done) | (go_simp; with_reducible rfl)
                  try simp only [Act.put, List.getElem_toArray, List.getElem_cons_succ, List.getElem_cons_zero, List.setIfInBounds_toArray, List.set_cons_zero, List.set_cons_succ]
                  refine still_val (v := ?_) (by rfl) ?_ ?_
                  rotate_left
                  · first | (go_simp; done) | (go_simp; with_reducible rfl)
                  try simp only [Act.put, List.getElem_toArray, List.getElem_cons_succ, List.getElem_cons_zero, List.setIfInBounds_toArray, List.set_cons_zero, List.set_cons_succ]
                  refine still_val (v := ?_) (by rfl) ?_ ?_
                  rotate_left
                  · first | (go_simp; done) | (go_simp; with_reducible rfl)
                  try simp only [Act.put, List.getElem_toArray, List.getElem_cons_succ, List.getElem_cons_zero, List.setIfInBounds_toArray, List.set_cons_zero, List.set_cons_succ]
                  refine still_val (v := (.agg s.o.V)) (by rfl) (exec_load_midV (.tmp 115) rfl b 2 rfl s.o _ hWo) ?_
                  try simp only [Act.put, List.getElem_toArray, List.getElem_cons_succ, List.getElem_cons_zero, List.setIfInBounds_toArray, List.set_cons_zero, List.set_cons_succ]
                  refine still_val (v := ?_) (by rfl) ?_ ?_
                  rotate_left
                  · first | (go_simp; done) | (go_simp; with_reducible rfl)
                  try simp only [Act.put, List.getElem_toArray, List.getElem_cons_succ, List.getElem_cons_zero, List.setIfInBounds_toArray, List.set_cons_zero, List.set_cons_succ]
                  refine still_val (v := (.agg old.V)) (by rfl) (exec_load_midV (.tmp 117) rfl A 1 rfl old _ (head_root hA)) ?_
                  try simp only [Act.put, List.getElem_toArray, List.getElem_cons_succ, List.getElem_cons_zero, List.setIfInBounds_toArray, List.set_cons_zero, List.set_cons_succ]
                  refine still_val (v := (.bool (decide (s.o = old)))) (by rfl) (exec_eq_V (.tmp 116) (.tmp 118) _ rfl s.o old rfl rfl _) ?_
                  try simp only [Act.put, List.getElem_toArray, List.getElem_cons_succ, List.getElem_cons_zero, List.setIfInBounds_toArray, List.set_cons_zero, List.set_cons_succ]
                  refine still_val (v := ?_) (by rfl) ?_ ?_
                  rotate_left
                  · first | (go_simp; done) | (go_simp; with_reducible rfl)
                  try simp only [Act.put, List.getElem_toArray, List.getElem_cons_succ, List.getElem_cons_zero, List.setIfInBounds_toArray, List.set_cons_zero, List.set_cons_succ]
                  refine still_val (v := ?_) (by rfl) ?_ ?_
                  rotate_left
                  · first | (go_simp; done) | (go_simp; with_reducible rfl)
                  try simp only [Act.put, List.getElem_toArray, List.getElem_cons_succ, List.getElem_cons_zero, List.setIfInBounds_toArray, List.set_cons_zero, List.set_cons_succ]
                  refine still_val (v := ?_) (by rfl) ?_ ?_
                  rotate_left
                  · first | (go_simp; done) | (go_simp; with_reducible rfl)
                  try simp only [Act.put, List.getElem_toArray, List.getElem_cons_succ, List.getElem_cons_zero, List.setIfInBounds_toArray, List.set_cons_zero, List.set_cons_succ]
                  refine still_val (v := (.agg s.l.V)) (by rfl) (exec_load_midV (.tmp 122) rfl b 34 rfl s.l _ hWl) ?_
                  try simp only [Act.put, List.getElem_toArray, List.getElem_cons_succ, List.getElem_cons_zero, List.setIfInBounds_toArray, List.set_cons_zero, List.set_cons_succ]
                  refine still_val (v := ?_) (by rfl) ?_ ?_
                  rotate_left
                  · first | (go_simp; done) | (go_simp; with_reducible rfl)
                  try simp only [Act.put, List.getElem_toArray, List.getElem_cons_succ, List.getElem_cons_zero, List.setIfInBounds_toArray, List.set_cons_zero, List.set_cons_succ]
                  refine still_val (v := (.agg root.V)) (by rfl) (exec_load_midV (.tmp 124) rfl B 1 rfl root _ (head_root hB)) ?_
                  try simp only [Act.put, List.getElem_toArray, List.getElem_cons_succ, List.getElem_cons_zero, List.setIfInBounds_toArray, List.set_cons_zero, List.set_cons_succ]
                  refine still_val (v := (.bool (decide (s.l = root)))) (by rfl) (exec_eq_V (.tmp 123) (.tmp 125) _ rfl s.l root rfl rfl _) ?_
                  try simp only [Act.put, List.getElem_toArray, List.getElem_cons_succ, List.getElem_cons_zero, List.setIfInBounds_toArray, List.set_cons_zero, List.set_cons_succ]
                  refine still_val (v := ?_) (by rfl) ?_ ?_
                  rotate_left
                  · first | (go_simp; done) | (go_simp; with_reducible rfl)
                  try simp only [Act.put, List.getElem_toArray, List.getElem_cons_succ, List.getElem_cons_zero, List.setIfInBounds_toArray, List.set_cons_zero, List.set_cons_succ]
                  refine still_end ?_
                  go_wp2_with (go_at_call 40; refine (told_any ⟨#[112, 114, 101, 102, 105, 120]⟩ (I : Int) (decide (s.l = root)) _).mono ?_; rintro e w1 ⟨v, rfl, hv, hx1⟩)
                  go_ret
                  exact ⟨_, rfl, by rw [HR2.out]; exact hv, (HEE.out.trans0 hx1).mono (fun g hg => .inr (by have := HABb.out; simp at hg; omega))⟩
                · have HO := Hs.hid ho
                  have hdo : decide (s.o = old) = false := decide_eq_false ho
                  clear ho
                  go_upto_region 20 with fail
                  refine wp_region_stl_tail 24 (by kernel_rfl) (by kernel_rfl) ?_
                  simp only [List.take_succ_cons, List.take_zero, List.drop_succ_cons, List.drop_zero]
                  refine still_val (v := ?_) (by rfl) ?_ ?_
                  rotate_left
                  · first | (go_simp; done) | (go_simp; with_reducible rfl)
                  try simp only [Act.put, List.getElem_toArray, List.getElem_cons_succ, List.getElem_cons_zero, List.setIfInBounds_toArray, List.set_cons_zero, List.set_cons_succ]
                  refine still_val (v := ?_) (by rfl) ?_ ?_
                  rotate_left
                  · first | (go_simp; done) | (go_simp; with_reducible rfl)
                  try simp only [Act.put, List.getElem_toArray, List.getElem_cons_succ, List.getElem_cons_zero, List.setIfInBounds_toArray, List.set_cons_zero, List.set_cons_succ]
                  refine still_val (v := ?_) (by rfl) ?_ ?_
                  rotate_left
                  · first | (go_simp; done) | (go_simp; with_reducible rfl)
                  try simp only [Act.put, List.getElem_toArray, List.getElem_cons_succ, List.getElem_cons_zero, List.setIfInBounds_toArray, List.set_cons_zero, List.set_cons_succ]
                  refine still_val (v := ?_) (by rfl) ?_ ?_
                  rotate_left
                  · first | (go_simp; done) | (go_simp; with_reducible rfl)
                  try simp only [Act.put, List.getElem_toArray, List.getElem_cons_succ, List.getElem_cons_zero, List.setIfInBounds_toArray, List.set_cons_zero, List.set_cons_succ]
                  refine still_val (v := ?_) (by rfl) ?_ ?_
                  rotate_left
                  · first | (go_simp; done) | (go_simp; with_reducible rfl)
                  try simp only [Act.put, List.getElem_toArray, List.getElem_cons_succ, List.getElem_cons_zero, List.setIfInBounds_toArray, List.set_cons_zero, List.set_cons_succ]
                  refine still_val (v := ?_) (by rfl) ?_ ?_
                  rotate_left
                  · first | (go_simp; done) | (go_simp; with_reducible rfl)
                  try simp only [Act.put, List.getElem_toArray, List.getElem_cons_succ, List.getElem_cons_zero, List.setIfInBounds_toArray, List.set_cons_zero, List.set_cons_succ]
                  refine still_val (v := ?_) (by rfl) ?_ ?_
                  rotate_left
                  · first | (go_simp; done) | (go_simp; with_reducible rfl)
                  try simp only [Act.put, List.getElem_toArray, List.getElem_cons_succ, List.getElem_cons_zero, List.setIfInBounds_toArray, List.set_cons_zero, List.set_cons_succ]
                  refine still_val (v := ?_) (by rfl) ?_ ?_
                  rotate_left
                  · first | (go_simp; done) | (go_simp; with_reducible rfl)
                  try simp only [Act.put, List.getElem_toArray, List.getElem_cons_succ, List.getElem_cons_zero, List.setIfInBounds_toArray, List.set_cons_zero, List.set_cons_succ]
                  refine still_val (v := ?_) (by rfl) ?_ ?_
                  rotate_left
                  · first | (go_simp; done) | (go_simp; with_reducible rfl)
                  try simp only [Act.put, List.getElem_toArray, List.getElem_cons_succ, List.getElem_cons_zero, List.setIfInBounds_toArray, List.set_cons_zero, List.set_cons_succ]
                  refine still_val (v := ?_) (by rfl) ?_ ?_
                  rotate_left
                  · first | (go_simp; done) | (go_simp; with_reducible rfl)
                  try simp only [Act.put, List.getElem_toArray, List.getElem_cons_succ, List.getElem_cons_zero, List.setIfInBounds_toArray, List.set_cons_zero, List.set_cons_succ]
                  refine still_val (v := ?_) (by rfl) ?_ ?_
                  rotate_left
                  · first | (go_simp; done) | (go_simp; with_reducible rfl)
                  try simp only [Act.put, List.getElem_toArray, List.getElem_cons_succ, List.getElem_cons_zero, List.setIfInBounds_toArray, List.set_cons_zero, List.set_cons_succ]
                  refine still_val (v := ?_) (by rfl) ?_ ?_
                  rotate_left
                  · first | (go_simp; done) | (go_simp; with_reducible rfl)
                  try simp only [Act.put, List.getElem_toArray, List.getElem_cons_succ, List.getElem_cons_zero, List.setIfInBounds_toArray, List.set_cons_zero, List.set_cons_succ]
                  refine still_val (v := (.agg s.o.V)) (by rfl) (exec_load_midV (.tmp 115) rfl b 2 rfl s.o _ hWo) ?_
                  try simp only [Act.put, List.getElem_toArray, List.getElem_cons_succ, List.getElem_cons_zero, List.setIfInBounds_toArray, List.set_cons_zero, List.set_cons_succ]
                  refine still_val (v := ?_) (by rfl) ?_ ?_
                  rotate_left
                  · first | (go_simp; done) | (go_simp; with_reducible rfl)
                  try simp only [Act.put, List.getElem_toArray, List.getElem_cons_succ, List.getElem_cons_zero, List.setIfInBounds_toArray, List.set_cons_zero, List.set_cons_succ]
                  refine still_val (v := (.agg old.V)) (by rfl) (exec_load_midV (.tmp 117) rfl A 1 rfl old _ (head_root hA)) ?_
                  try simp only [Act.put, List.getElem_toArray, List.getElem_cons_succ, List.getElem_cons_zero, List.setIfInBounds_toArray, List.set_cons_zero, List.set_cons_succ]
                  refine still_val (v := (.bool (decide (s.o = old)))) (by rfl) (exec_eq_V (.tmp 116) (.tmp 118) _ rfl s.o old rfl rfl _) ?_
                  try simp only [Act.put, List.getElem_toArray, List.getElem_cons_succ, List.getElem_cons_zero, List.setIfInBounds_toArray, List.set_cons_zero, List.set_cons_succ]
                  refine still_val (v := ?_) (by rfl) ?_ ?_
                  rotate_left
                  · first | (go_simp; done) | (go_simp; with_reducible rfl)
                  try simp only [Act.put, List.getElem_toArray, List.getElem_cons_succ, List.getElem_cons_zero, List.setIfInBounds_toArray, List.set_cons_zero, List.set_cons_succ]
                  refine still_val (v := ?_) (by rfl) ?_ ?_
                  rotate_left
                  · first | (go_simp; done) | (go_simp; with_reducible rfl)
                  try simp only [Act.put, List.getElem_toArray, List.getElem_cons_succ, List.getElem_cons_zero, List.setIfInBounds_toArray, List.set_cons_zero, List.set_cons_succ]
                  refine still_not (by rfl) ?_
                  try simp only [Act.put, List.getElem_toArray, List.getElem_cons_succ, List.getElem_cons_zero, List.setIfInBounds_toArray, List.set_cons_zero, List.set_cons_succ]
                  refine still_not (by rfl) ?_
                  try simp only [Act.put, List.getElem_toArray, List.getElem_cons_succ, List.getElem_cons_zero, List.setIfInBounds_toArray, List.set_cons_zero, List.set_cons_succ]
                  refine still_not (by rfl) ?_
                  try simp only [Act.put, List.getElem_toArray, List.getElem_cons_succ, List.getElem_cons_zero, List.setIfInBounds_toArray, List.set_cons_zero, List.set_cons_succ]
                  refine still_not (by rfl) ?_
                  try simp only [Act.put, List.getElem_toArray, List.getElem_cons_succ, List.getElem_cons_zero, List.setIfInBounds_toArray, List.set_cons_zero, List.set_cons_succ]
                  refine still_not (by rfl) ?_
                  try simp only [Act.put, List.getElem_toArray, List.getElem_cons_succ, List.getElem_cons_zero, List.setIfInBounds_toArray, List.set_cons_zero, List.set_cons_succ]
                  refine still_val (v := ?_) (by rfl) ?_ ?_
                  rotate_left
                  · first | (go_simp; done) | (go_simp; with_reducible rfl)
                  try simp only [Act.put, List.getElem_toArray, List.getElem_cons_succ, List.getElem_cons_zero, List.setIfInBounds_toArray, List.set_cons_zero, List.set_cons_succ]
                  refine still_end ?_
                  go_wp2_with (go_at_call 40; refine (told_any ⟨#[112, 114, 101, 102, 105, 120]⟩ (I : Int) false _).mono ?_; rintro e w1 ⟨v, rfl, hv, hx1⟩)
                  go_ret
                  exact ⟨_, rfl, by rw [HR.out, if_neg (fun q => HO.out q.2.2.1)]; exact hv, (HEE.out.trans0 hx1).mono (fun g hg => .inr (by have := HABb.out; simp at hg; omega))⟩
              · have he' : ¬ (s.e : Int) = 0 := by omega
                have HE0 := Hs.hid he
                clear he
                have hbe : ((s.e : Int) == 0) = false := by simpa using he'
                go_upto_region 20 with fail
                refine wp_region_stl_tail 24 (by kernel_rfl) (by kernel_rfl) ?_
                simp only [List.take_succ_cons, List.take_zero, List.drop_succ_cons, List.drop_zero]
                refine still_val (v := ?_) (by rfl) ?_ ?_
                rotate_left
                · first | (go_simp; done) | (go_simp; with_reducible rfl)
                try simp only [Act.put, List.getElem_toArray, List.getElem_cons_succ, List.getElem_cons_zero, List.setIfInBounds_toArray, List.set_cons_zero, List.set_cons_succ]
                refine still_val (v := ?_) (by rfl) ?_ ?_
                rotate_left
                · first | (go_simp; done) | (go_simp; with_reducible rfl)
                try simp only [Act.put, List.getElem_toArray, List.getElem_cons_succ, List.getElem_cons_zero, List.setIfInBounds_toArray, List.set_cons_zero, List.set_cons_succ]
                refine still_val (v := ?_) (by rfl) ?_ ?_
                rotate_left
                · first | (go_simp; done) | (go_simp; with_reducible rfl)
                try simp only [Act.put, List.getElem_toArray, List.getElem_cons_succ, List.getElem_cons_zero, List.setIfInBounds_toArray, List.set_cons_zero, List.set_cons_succ]
                refine still_val (v := ?_) (by rfl) ?_ ?_
                rotate_left
                · first | (go_simp; done) | (go_simp; with_reducible rfl)
                try simp only [Act.put, List.getElem_toArray, List.getElem_cons_succ, List.getElem_cons_zero, List.setIfInBounds_toArray, List.set_cons_zero, List.set_cons_succ]
                refine still_val (v := ?_) (by rfl) ?_ ?_
                rotate_left
                · first | (go_simp; done) | (go_simp; with_reducible rfl)
                try simp only [Act.put, List.getElem_toArray, List.getElem_cons_succ, List.getElem_cons_zero, List.setIfInBounds_toArray, List.set_cons_zero, List.set_cons_succ]
                refine still_val (v := ?_) (by rfl) ?_ ?_
                rotate_left
                · first | (go_simp; done) | (go_simp; with_reducible rfl)
                try simp only [Act.put, List.getElem_toArray, List.getElem_cons_succ, List.getElem_cons_zero, List.setIfInBounds_toArray, List.set_cons_zero, List.set_cons_succ]
                refine still_val (v := ?_) (by rfl) ?_ ?_
                rotate_left
                · first | (go_simp; done) | (go_simp; with_reducible rfl)
                try simp only [Act.put, List.getElem_toArray, List.getElem_cons_succ, List.getElem_cons_zero, List.setIfInBounds_toArray, List.set_cons_zero, List.set_cons_succ]
                refine still_val (v := ?_) (by rfl) ?_ ?_
                rotate_left
                · first | (go_simp; done) | (go_simp; with_reducible rfl)
                try simp only [Act.put, List.getElem_toArray, List.getElem_cons_succ, List.getElem_cons_zero, List.setIfInBounds_toArray, List.set_cons_zero, List.set_cons_succ]
                refine still_val (v := ?_) (by rfl) ?_ ?_
                rotate_left
                · first | (go_simp; done) | (go_simp; with_reducible rfl)
                try simp only [Act.put, List.getElem_toArray, List.getElem_cons_succ, List.getElem_cons_zero, List.setIfInBounds_toArray, List.set_cons_zero, List.set_cons_succ]
                refine still_val (v := ?_) (by rfl) ?_ ?_
                rotate_left
                · first | (go_simp; done) | (go_simp; with_reducible rfl)
                try simp only [Act.put, List.getElem_toArray, List.getElem_cons_succ, List.getElem_cons_zero, List.setIfInBounds_toArray, List.set_cons_zero, List.set_cons_succ]
                refine still_val (v := ?_) (by rfl) ?_ ?_
                rotate_left
                · first | (go_simp; done) | (go_simp; with_reducible rfl)
                try simp only [Act.put, List.getElem_toArray, List.getElem_cons_succ, List.getElem_cons_zero, List.setIfInBounds_toArray, List.set_cons_zero, List.set_cons_succ]
                refine still_not (by rfl) ?_
                try simp only [Act.put, List.getElem_toArray, List.getElem_cons_succ, List.getElem_cons_zero, List.setIfInBounds_toArray, List.set_cons_zero, List.set_cons_succ]
                refine still_not (by rfl) ?_
                try simp only [Act.put, List.getElem_toArray, List.getElem_cons_succ, List.getElem_cons_zero, List.setIfInBounds_toArray, List.set_cons_zero, List.set_cons_succ]
                refine still_not (by rfl) ?_
                try simp only [Act.put, List.getElem_toArray, List.getElem_cons_succ, List.getElem_cons_zero, List.setIfInBounds_toArray, List.set_cons_zero, List.set_cons_succ]
                refine still_not (by rfl) ?_
                try simp only [Act.put, List.getElem_toArray, List.getElem_cons_succ, List.getElem_cons_zero, List.setIfInBounds_toArray, List.set_cons_zero, List.set_cons_succ]
                refine still_not (by rfl) ?_
                try simp only [Act.put, List.getElem_toArray, List.getElem_cons_succ, List.getElem_cons_zero, List.setIfInBounds_toArray, List.set_cons_zero, List.set_cons_succ]
                refine still_val (v := ?_) (by rfl) ?_ ?_
                rotate_left
                · first | (go_simp; done) | (go_simp; with_reducible rfl)
                try simp only [Act.put, List.getElem_toArray, List.getElem_cons_succ, List.getElem_cons_zero, List.setIfInBounds_toArray, List.set_cons_zero, List.set_cons_succ]
                refine still_val (v := ?_) (by rfl) ?_ ?_
                rotate_left
                · first | (go_simp; done) | (go_simp; with_reducible rfl)
                try simp only [Act.put, List.getElem_toArray, List.getElem_cons_succ, List.getElem_cons_zero, List.setIfInBounds_toArray, List.set_cons_zero, List.set_cons_succ]
                refine still_not (by rfl) ?_
                try simp only [Act.put, List.getElem_toArray, List.getElem_cons_succ, List.getElem_cons_zero, List.setIfInBounds_toArray, List.set_cons_zero, List.set_cons_succ]
                refine still_not (by rfl) ?_
                try simp only [Act.put, List.getElem_toArray, List.getElem_cons_succ, List.getElem_cons_zero, List.setIfInBounds_toArray, List.set_cons_zero, List.set_cons_succ]
                refine still_not (by rfl) ?_
                try simp only [Act.put, List.getElem_toArray, List.getElem_cons_succ, List.getElem_cons_zero, List.setIfInBounds_toArray, List.set_cons_zero, List.set_cons_succ]
                refine still_not (by rfl) ?_
                try simp only [Act.put, List.getElem_toArray, List.getElem_cons_succ, List.getElem_cons_zero, List.setIfInBounds_toArray, List.set_cons_zero, List.set_cons_succ]
                refine still_not (by rfl) ?_
                try simp only [Act.put, List.getElem_toArray, List.getElem_cons_succ, List.getElem_cons_zero, List.setIfInBounds_toArray, List.set_cons_zero, List.set_cons_succ]
                refine still_val (v := ?_) (by rfl) ?_ ?_
                rotate_left
                · first | (go_simp; done) | (go_simp; with_reducible rfl)
                try simp only [Act.put, List.getElem_toArray, List.getElem_cons_succ, List.getElem_cons_zero, List.setIfInBounds_toArray, List.set_cons_zero, List.set_cons_succ]
                refine still_end ?_
                go_wp2_with (go_at_call 40; refine (told_any ⟨#[112, 114, 101, 102, 105, 120]⟩ (I : Int) false _).mono ?_; rintro e w1 ⟨v, rfl, hv, hx1⟩)
                go_ret
                exact ⟨_, rfl, by rw [HR.out, if_neg (fun q => HE0.out q.2.1)]; exact hv, (HEE.out.trans0 hx1).mono (fun g hg => .inr (by have := HABb.out; simp at hg; omega))⟩
end Go.Proofs.YtjicjadibaomkaaDoor
set_option linter.unusedSimpArgs false
set_option linter.unusedVariables false
set_option maxHeartbeats 2000000
set_option maxRecDepth 100000
namespace Go.Proofs.YtjicjadibaomkaaDoor
open Go.RowKit Go.Hs Go.Dg

/-- A head's cells. -/
def headV (n : Int) (y : S32) : Array Value := #[.int .i64 n] ++ y.V
theorem headV_size (n : Int) (y : S32) : (headV n y).size = 33 := by unfold headV; rw [Array.size_append, y.size]; rfl
theorem headV_one (n : Int) (y : S32) : (headV n y).all (·.oneCell') = true := by
  rw [Array.all_eq_true']
  intro u hu
  unfold headV at hu
  rcases Array.mem_append.1 hu with h | h
  · simp at h; subst h; rfl
  · exact S32.ones y u (Array.mem_toList_iff.2 h)
def head0 : Array Value := headV 0 zeroS
theorem infoHead : (Tryd.prog.info? 32).map (fun i => (i.zero, i.size)) = some (some (.agg head0), 33) := by kernel_rfl
theorem headPlaces : (Tryd.prog.info? 32).bind (fun it => (Tryd.prog.underlying 32).bind fun d => match d with
    | .struct fields => (fields.toList.mapM (fun f => (Tryd.prog.info? f.type).map fun i => (f.offset, i.size))).map fun p => (it.zero, p)
    | _ => none) = some (some (.agg head0), [(0, 1), (1, 32)]) := by kernel_rfl
theorem fill_head (n : Int) (y : S32) : Instr.fill ([(0, 1), (1, 32)].toArray[·]?) head0 [(0, .int .i64 n), (1, .agg y.V)] = some (headV n y) := by
  have e1 : Instr.fill ([(0, 1), (1, 32)].toArray[·]?) head0 [(0, .int .i64 n), (1, .agg y.V)]
      = Instr.fill ([(0, 1), (1, 32)].toArray[·]?) (headV n zeroS) [(1, .agg y.V)] := by
    have hpl0 : ([(0, 1), (1, 32)].toArray : Array (Nat × Nat))[0]? = some (0, 1) := rfl
    have hc0 : (Value.int .i64 n).cells = #[.int .i64 n] := rfl
    have hz0 : head0.size = 33 := headV_size 0 zeroS
    have hs0 : head0.setIfInBounds 0 (.int .i64 n) = headV n zeroS := by
      apply Array.ext_getElem?
      intro i
      rw [Array.getElem?_setIfInBounds, hz0]
      unfold head0 headV
      by_cases hi : 0 = i
      · subst hi
        rw [if_pos rfl, if_pos (by decide), Array.getElem?_append_left (by simp)]; rfl
      · rw [if_neg hi, Array.getElem?_append_right (by simp; omega), Array.getElem?_append_right (by simp; omega)]; rfl
    rw [Instr.fill]
    simp only [hpl0, hc0, hz0]
    rw [if_neg (by simp)]
    have hfo : (#[Value.int IntKind.i64 n].zipIdx.foldl (fun cs (x : Value × Nat) => match x with | (c, j) => cs.setIfInBounds (0 + j) c) head0) = head0.setIfInBounds 0 (.int .i64 n) := rfl
    rw [hfo, hs0]
  rw [e1]
  have hc : (Value.agg y.V).cells = y.V := rfl
  have hpl : ([(0, 1), (1, 32)].toArray : Array (Nat × Nat))[1]? = some (1, 32) := rfl
  simp only [Instr.fill, hpl, hc, headV_size, y.size]
  rw [if_neg (by decide)]
  congr 1
  have hf : y.V.zipIdx.foldl (fun cs (p : Value × Nat) => cs.setIfInBounds (1 + p.2) p.1) (headV n zeroS) = (y.V.toList.zipIdx 0).foldl (fun a (p : Value × Nat) => a.setIfInBounds (1 + p.2) p.1) (headV n zeroS) := by
    rw [← Array.foldl_toList, Array.toList_zipIdx]
  have hf' : y.V.zipIdx.foldl (fun cs (x : Value × Nat) => match x with | (c, j) => cs.setIfInBounds (1 + j) c) (headV n zeroS) = (y.V.toList.zipIdx 0).foldl (fun a (p : Value × Nat) => a.setIfInBounds (1 + p.2) p.1) (headV n zeroS) := hf
  rw [hf']
  obtain ⟨h1, h2⟩ := fold_at 1 y.V.toList 0 (headV n zeroS)
  apply Array.ext_getElem?
  intro i
  rw [h2 i, headV_size, S32.tlen y]
  unfold headV
  by_cases hi : i = 0
  · subst hi
    rw [if_neg (by omega), Array.getElem?_append_left (by simp), Array.getElem?_append_left (by simp)]
  · by_cases h3 : i < 33
    · rw [if_pos (by omega), Array.getElem?_append_right (by simp; omega)]
      simp
    · rw [if_neg (by omega), Array.getElem?_eq_none (by rw [Array.size_append, zeroS.size]; simp; omega), Array.getElem?_eq_none (by rw [Array.size_append, y.size]; simp; omega)]
theorem head_built (n : Int) (y : S32) : Tryd.prog.built 32 [(0, .int .i64 n), (1, .agg y.V)] = some (headV n y) := by
  have hp := headPlaces
  have hf := fill_head n y
  unfold Program.built
  cases hi : Tryd.prog.info? 32 with
  | none => rw [hi] at hp; simp at hp
  | some it =>
    cases hu : Tryd.prog.underlying 32 with
    | none => rw [hi, hu] at hp; simp at hp
    | some d =>
      rw [hi, hu] at hp
      cases d with
      | struct fields =>
        simp only [Option.bind_some, Option.map_eq_some_iff] at hp
        obtain ⟨pl, h1, h2⟩ := hp
        have h3 := (Prod.mk.inj h2).1
        have h4 := (Prod.mk.inj h2).2
        subst h4
        simp only [h1, h3]
        exact hf
      | _ => simp at hp
theorem exec_load_rowHd {a : Act} {o : Oper} (y : Operand) (ho : o.op = Op.load 32 y) (g : Nat) (hy : a.eval y = .pointer (some ⟨g, 0, none⟩)) (n : Int) (x : S32) (w : World) (h : ∃ fr, w.heap[g]? = some (.cells (headV n x) 32 fr)) :
    (execOp a.eval o).run Tryd.prog w = .ok (.value (.agg (headV n x))) w := by
  obtain ⟨fr, h⟩ := h
  unfold execOp
  have := run_loadVar_row (P := Tryd.prog) w g 32 32 (headV n x) fr _ h Tryd.underlying32 rfl (by rw [headV_size]; exact (zero_of_info (P := Tryd.prog) infoHead).2)
  simp only [ho, hy, Instr.loadAt, Instr.sureAddr, Sem.run_bind, Sem.run_pure, Result.andThen_ok, this]
theorem leafS_any (s : ByteArray) (hs : s.size ≤ 99999999) (w : World) : Calls Tryd.prog 34 #[.string s] w fun e w' => ∃ y : S32, e = .returned (.agg y.V) ∧ Hid (y = dig (leaf2 s)) ∧ Ext [] w w' :=
  (leaf_any s hs w).mono fun e w' ⟨cs, h1, h2, h3⟩ => ⟨dig (leaf2 s), by rw [h1, h2.out, leaf2, dig_V], Hs.hid rfl, h3⟩
theorem of_nil (w : World) : Calls Tryd.prog 30 #[.nilIface] w fun e w' => e = .returned (.int .i64 0) ∧ Ext [] w w' := by
  go_enter Tryd.func30, Tryd.ntmps30
  go_wp2
  go_ret
  exact ⟨rfl, Ext.refl _ _⟩
theorem ofE_any (r : Int) (step : ByteArray) (a : Int) (v : Value) (w : World) (hg : Gd w) (hv : ErrIs w.heap r step a v) : Calls Tryd.prog 30 #[v] w fun e w' => e = .returned (.int .i64 r) ∧ Ext [] w w' := by
  rcases hv with ⟨rfl, rfl⟩ | ⟨h1, h2⟩
  · exact of_nil w
  · exact faultOf_any r _ v w hg h2
theorem pInclH_any (leaf : ByteArray) (hs : leaf.size ≤ 1000) (i n : Int) (hn : n ≤ 1000) (root : S32) (xs : List S32) (L : Nat) (hL : xs.length = L) (ao : Option Addr) (cap : Nat) (w : World) (hS : Sums32 w.heap ao cap xs) :
    Calls Tryd.prog 15 #[.string leaf, .int .i64 i, .agg (headV n root), .slice ao L cap] w fun e w' => ∃ v, e = .returned v ∧
      Hid (ErrIs w'.heap (inclN (dig (leaf2 leaf)) i n root xs) ⟨#[108, 101, 97, 102]⟩ i v) ∧ Ext [] w w' := by
  subst hL
  exact pIncl_any leaf hs i n hn root xs ao cap w hS
theorem pConsH_any (m n : Int) (hn : n ≤ 1000) (old root : S32) (xs : List S32) (ao : Option Addr) (cap : Nat) (w : World) (hS : Sums32 w.heap ao cap xs) :
    Calls Tryd.prog 16 #[.agg (headV m old), .agg (headV n root), .slice ao xs.length cap] w fun e w' => ∃ v, e = .returned v ∧
      Hid (ErrIs w'.heap (consN m n old root xs) ⟨#[112, 114, 101, 102, 105, 120]⟩ m v) ∧ Ext [] w w' := by
  by_cases h : m ≤ 0 ∨ n ≤ m
  · exact pConsA_any m n hn h old root xs ao cap w hS
  · obtain ⟨I, rfl⟩ : ∃ I : Nat, m = I := ⟨m.toNat, by omega⟩
    obtain ⟨M, rfl⟩ : ∃ M : Nat, n = M := ⟨n.toNat, by omega⟩
    exact pConsB_any I M (by omega) (by omega) (by omega) old root xs ao cap w hS
theorem pInclNil (leaf : ByteArray) (hs : leaf.size ≤ 1000) (i n : Int) (hn : n ≤ 1000) (root : S32) (xs : List S32) (hr : inclN (dig (leaf2 leaf)) i n root xs = 0) (L : Nat) (hL : xs.length = L) (ao : Option Addr) (cap : Nat) (w : World) (hS : Sums32 w.heap ao cap xs) :
    Calls Tryd.prog 15 #[.string leaf, .int .i64 i, .agg (headV n root), .slice ao L cap] w fun e w' => e = .returned .nilIface ∧ Ext [] w w' :=
  (pInclH_any leaf hs i n hn root xs L hL ao cap w hS).mono fun e w' ⟨v, h1, h2, h3⟩ => by
    rw [hr] at h2
    rcases h2.out with ⟨_, h⟩ | ⟨h, _⟩
    · exact ⟨by rw [h1, h], h3⟩
    · exact absurd rfl h
theorem pInclErr (r : Int) (h0 : r ≠ 0) (leaf : ByteArray) (hs : leaf.size ≤ 1000) (i n : Int) (hn : n ≤ 1000) (root : S32) (xs : List S32) (hr : inclN (dig (leaf2 leaf)) i n root xs = r) (L : Nat) (hL : xs.length = L) (ao : Option Addr) (cap : Nat) (w : World) (hS : Sums32 w.heap ao cap xs) :
    Calls Tryd.prog 15 #[.string leaf, .int .i64 i, .agg (headV n root), .slice ao L cap] w fun e w' => ∃ p, e = .returned (.iface 106 p) ∧ Hid (ErrIs w'.heap r ⟨#[108, 101, 97, 102]⟩ i (.iface 106 p)) ∧ Ext [] w w' :=
  (pInclH_any leaf hs i n hn root xs L hL ao cap w hS).mono fun e w' ⟨v, h1, h2, h3⟩ => by
    rw [hr] at h2
    rcases h2.out with ⟨h, _⟩ | ⟨h, h4⟩
    · exact absurd h h0
    · have h5 := h4
      obtain ⟨b, u, rfl, _, _⟩ := h4
      exact ⟨_, h1, Hs.hid (.inr ⟨h, h5⟩), h3⟩
/-- A slice of one sum, made where it is written, behind a guard. -/
theorem wpList_sumG {ops : Array Oper} {rest : List Oper} {o : Oper} {a : Act} {w : World} {Q : Exit → Act → World → Prop} (hw : Region.wanted o (yielded ops a.tmps) = true) (y : Operand) (ho : o.op = .buildSlice 22 1 #[(0, y)])
    (x : S32) (hy : a.eval y = .agg x.V)
    (h : wpList Tryd.prog ops Q rest (a.put o.dst (.slice (some ⟨w.heap.size, 0, none⟩) 1 1)) (w.alloc (.cells x.V 29))) : wpList Tryd.prog ops Q (o :: rest) a w := by
  obtain ⟨i0, hi, hz0, hz1, hz2⟩ := info_parts infoSumY
  refine wpList_step fun K' hK' => ?_
  rw [if_pos hw]
  refine wp_buildSlice 22 29 1 _ ho x.V i0 _ Tryd.underlying22 hi hz0 (by rw [hz1]; decide) (by rw [hz1]; decide) ?_ (hK' _ _ h)
  rw [hz1]
  have : (#[(0, y)].map fun (p : Nat × Operand) => (p.1, a.eval p.2)).toList = [(0, Value.agg x.V)] := by simp [hy]
  show Instr.fill _ _ (#[(0, y)].map fun (p : Nat × Operand) => (p.1, a.eval p.2)).toList = _
  rw [this]
  exact fill_sumV x _ (by simp)
/-- Two rows made one behind the other, each filled. -/
theorem row2_at (w : World) (o o' : Obj) (x : Array Value) : ((((w.alloc o).alloc o').setRow w.heap.size x)).heap[w.heap.size + 1]? = some o' := by
  rw [setRow_other _ _ _ _ (by omega)]
  have := heap_new (w.alloc o) o'
  rwa [show (w.alloc o).heap.size = w.heap.size + 1 by simp] at this
theorem row2_two (w : World) (z z' x y : Array Value) (t t' : TypeId) :
    ((((w.alloc (.cells z t)).alloc (.cells z' t')).setRow w.heap.size x).setRow (w.heap.size + 1) y).heap[w.heap.size]? = some (.cells x t (0, 0)) ∧
    ((((w.alloc (.cells z t)).alloc (.cells z' t')).setRow w.heap.size x).setRow (w.heap.size + 1) y).heap[w.heap.size + 1]? = some (.cells y t' (0, 0)) ∧
    Ext [] w ((((w.alloc (.cells z t)).alloc (.cells z' t')).setRow w.heap.size x).setRow (w.heap.size + 1) y) := by
  refine ⟨?_, ?_, ?_⟩
  · rw [setRow_other _ _ _ _ (by omega)]
    exact setRow_heap _ _ _ _ _ _ (heap_old' _ _ (heap_new w _))
  · exact setRow_heap _ _ _ _ _ _ (row2_at w _ _ x)
  · exact ((((Ext.refl [] w).alloc _).alloc _).trans (setRow_ext _ _) (fun g hg => .inr (by simp at hg; omega))).trans (setRow_ext _ _) (fun g hg => .inr (by simp at hg; omega))
/-- A sums' slice of one. -/
theorem sums_one {w : World} {R : Nat} {x : S32} {t : TypeId} {fr : Nat × Nat} (h : w.heap[R]? = some (.cells x.V t fr)) : Sums32 w.heap (some ⟨R, 0, none⟩) 1 [x] :=
  ⟨Nat.le_refl _, by decide, .inr ⟨R, 0, x.V, t, fr, rfl, h, fun k y hy j v hj => by
    cases k with
    | zero => simp at hy; subst hy; simpa using hj
    | succ k => simp at hy⟩⟩
end Go.Proofs.YtjicjadibaomkaaDoor
set_option linter.unusedSimpArgs false
set_option linter.unusedVariables false
set_option maxHeartbeats 4000000
set_option maxRecDepth 100000
namespace Go.Proofs.YtjicjadibaomkaaDoor
open Go.RowKit Go.Hs Go.Dg

/-- A proof's cells. -/
def proofV (kind i n : Int) (ao : Option Addr) (len cap : Nat) : Array Value := #[.int .i64 kind, .int .i64 i, .int .i64 n, .slice ao len cap]
/-- What Proves answers: the number, the step, the place. -/
structure PvR where
  r : Int
  step : ByteArray
  place : Int
def stLeaf : ByteArray := ⟨#[108, 101, 97, 102]⟩
def stPrefix : ByteArray := ⟨#[112, 114, 101, 102, 105, 120]⟩
def stProof : ByteArray := ⟨#[112, 114, 111, 111, 102]⟩
def provesN (kind i n mo nn : Int) (lf old root : S32) (xs : List S32) : PvR :=
  if kind = 1 ∧ n = nn then ⟨inclN lf i nn root xs, stLeaf, i⟩ else if kind = 2 ∧ n = nn ∧ i = mo then ⟨consN mo nn old root xs, stPrefix, mo⟩ else ⟨4, stProof, n⟩
theorem three_boxes (w : World) (a b c : Obj) : (((w.alloc a).alloc b).alloc c).heap[w.heap.size]? = some a ∧ (((w.alloc a).alloc b).alloc c).heap[w.heap.size + 1]? = some b ∧ (((w.alloc a).alloc b).alloc c).heap[w.heap.size + 1 + 1]? = some c ∧ Ext [] w (((w.alloc a).alloc b).alloc c) := by
  have h1 : (w.alloc a).heap.size = w.heap.size + 1 := by simp
  have h2 : ((w.alloc a).alloc b).heap.size = w.heap.size + 1 + 1 := by simp
  refine ⟨heap_old' _ _ (heap_old' _ _ (heap_new _ _)), ?_, ?_, (((Ext.refl _ _).alloc _).alloc _).alloc _⟩
  · rw [← h1]; exact heap_old' _ _ (heap_new _ _)
  · rw [← h2]; exact heap_new _ _
theorem proves_any (leaf : ByteArray) (hs : leaf.size ≤ 1000) (kind i n mo nn : Int) (hn : nn ≤ 1000) (old root : S32) (xs : List S32) (ao : Option Addr) (cap : Nat) (w : World) (hS : Sums32 w.heap ao cap xs) (L : Nat) (hL : xs.length = L) :
    Calls Tryd.prog 13 #[.agg #[.int .i64 kind, .int .i64 i, .int .i64 n, .slice ao L cap], .string leaf, .agg (headV mo old), .agg (headV nn root)] w fun e w' => ∃ v, e = .returned v ∧
      Hid (ErrIs w'.heap (provesN kind i n mo nn (dig (leaf2 leaf)) old root xs).r (provesN kind i n mo nn (dig (leaf2 leaf)) old root xs).step (provesN kind i n mo nn (dig (leaf2 leaf)) old root xs).place v) ∧ Ext [] w w' := by
  subst hL
  obtain ⟨hP, hO, hN, hx0⟩ := three_boxes w (.cells #[.int .i64 kind, .int .i64 i, .int .i64 n, .slice ao xs.length cap] 24) (.cells (headV mo old) 32) (.cells (headV nn root) 32)
  have HI := Hs.hid (fun w (h : Sums32 w.heap ao cap xs) => pInclH_any leaf hs i nn hn root xs xs.length rfl ao cap w h)
  have HC := Hs.hid (fun w (h : Sums32 w.heap ao cap xs) => pConsH_any mo nn hn old root xs ao cap w h)
  have HS := Hs.hid (hS.ext hx0 (by simp))
  have hR : ∀ r, provesN kind i n mo nn (dig (leaf2 leaf)) old root xs = r → provesN kind i n mo nn (dig (leaf2 leaf)) old root xs = r := fun _ h => h
  have HR := Hs.hid (show provesN kind i n mo nn (dig (leaf2 leaf)) old root xs = if kind = 1 ∧ n = nn then ⟨inclN (dig (leaf2 leaf)) i nn root xs, stLeaf, i⟩ else if kind = 2 ∧ n = nn ∧ i = mo then ⟨consN mo nn old root xs, stPrefix, mo⟩ else ⟨4, stProof, n⟩ from rfl)
  generalize provesN kind i n mo nn (dig (leaf2 leaf)) old root xs = R at HR ⊢
  clear hR hS
  go_enter Tryd.func13, Tryd.ntmps13
  go_upto_region 1 with fail
  generalize ((w.alloc (.cells #[.int .i64 kind, .int .i64 i, .int .i64 n, .slice ao xs.length cap] 24)).alloc (.cells (headV mo old) 32)).alloc (.cells (headV nn root) 32) = W at hP hO hN hx0 HS ⊢
  obtain ⟨A, hAA⟩ : ∃ A, w.heap.size = A := ⟨_, rfl⟩
  obtain ⟨B, hBB⟩ : ∃ B, A + 1 = B := ⟨_, rfl⟩
  obtain ⟨C, hCC⟩ : ∃ C, B + 1 = C := ⟨_, rfl⟩
  rw [hAA] at hP hO hN
  rw [hBB] at hO hN
  rw [hCC] at hN
  try rw [hAA]
  try rw [hBB]
  try rw [hCC]
  clear hAA hBB hCC
  have c0 := cellAt hP 0
  have c1 := cellAt hP 1
  have c2 := cellAt hP 2
  have c3 := cellAt hP 3
  simp at c0 c1 c2 c3
  have o0 := head_n (n := mo) (root := old) hO
  have n0 := head_n (n := nn) (root := root) hN
  by_cases hk : kind = 1
  · subst hk
    by_cases hnn : n = nn
    · subst hnn
      have HR2 := Hs.hid (show R = ⟨inclN (dig (leaf2 leaf)) i n root xs, stLeaf, i⟩ by rw [HR.out, if_pos ⟨rfl, rfl⟩])
      have e0 : (n == n) = true := by simp
      clear HR
      go_wp2_with (first
        | (refine wpList_yield (.agg (headV n root)) (by rfl) (exec_load_rowHd (.tmp 7) rfl C rfl n root _ ⟨_, hN⟩) ?_)
        | (go_at_call 15; with_reducible refine (HI.out _ HS.out).mono ?_; rintro e w1 ⟨v, rfl, hv, hx1⟩))
      go_ret
      exact ⟨_, rfl, Hs.hid (by rw [HR2.out]; exact hv.out), hx0.trans0 hx1⟩
    · have HR2 := Hs.hid (show R = ⟨4, stProof, n⟩ by rw [HR.out, if_neg (fun h => hnn h.2), if_neg (fun h => by have := h.1; omega)])
      have e0 : (n == nn) = false := by simp; exact hnn
      clear HR hnn
      go_wp2_with (first
        | (go_at_call 36; refine (in_err ⟨#[112, 114, 111, 111, 102]⟩ n 4 (by decide) _).mono ?_; rintro e w1 ⟨v, rfl, hv, hx1⟩))
      go_ret
      exact ⟨_, rfl, Hs.hid (by rw [HR2.out]; exact hv.out), hx0.trans0 hx1⟩
  · have e1 : (kind == 1) = false := by simp; exact hk
    by_cases hc : kind = 2 ∧ n = nn ∧ i = mo
    · obtain ⟨rfl, rfl, rfl⟩ := hc
      have HR2 := Hs.hid (show R = ⟨consN i n old root xs, stPrefix, i⟩ by rw [HR.out, if_neg (fun h => hk h.1), if_pos ⟨rfl, rfl, rfl⟩])
      have e0 : (n == n) = true := by simp
      have e2 : (i == i) = true := by simp
      clear HR hk
      go_wp2_with (first
        | (refine wpList_yield (.agg (headV i old)) (by rfl) (exec_load_rowHd (.tmp 6) rfl B rfl i old _ ⟨_, hO⟩) ?_)
        | (refine wpList_yield (.agg (headV n root)) (by rfl) (exec_load_rowHd (.tmp 7) rfl C rfl n root _ ⟨_, hN⟩) ?_)
        | (go_at_call 16; with_reducible refine (HC.out _ HS.out).mono ?_; rintro e w1 ⟨v, rfl, hv, hx1⟩))
      go_ret
      exact ⟨_, rfl, Hs.hid (by rw [HR2.out]; exact hv.out), hx0.trans0 hx1⟩
    · have HR2 := Hs.hid (show R = ⟨4, stProof, n⟩ by rw [HR.out, if_neg (fun h => hk h.1), if_neg hc])
      clear HR hk
      by_cases h2 : kind = 2
      · subst h2
        by_cases hnn : n = nn
        · subst hnn
          have e0 : (n == n) = true := by simp
          have e2 : (i == mo) = false := by simp; intro h; exact hc ⟨rfl, rfl, h⟩
          clear hc
          go_wp2_with (first
            | (go_at_call 36; refine (in_err ⟨#[112, 114, 111, 111, 102]⟩ n 4 (by decide) _).mono ?_; rintro e w1 ⟨v, rfl, hv, hx1⟩))
          go_ret
          exact ⟨_, rfl, Hs.hid (by rw [HR2.out]; exact hv.out), hx0.trans0 hx1⟩
        · have e0 : (n == nn) = false := by simp; exact hnn
          clear hc hnn
          go_wp2_with (first
            | (go_at_call 36; refine (in_err ⟨#[112, 114, 111, 111, 102]⟩ n 4 (by decide) _).mono ?_; rintro e w1 ⟨v, rfl, hv, hx1⟩))
          go_ret
          exact ⟨_, rfl, Hs.hid (by rw [HR2.out]; exact hv.out), hx0.trans0 hx1⟩
      · have e2 : (kind == 2) = false := by simp; exact h2
        clear hc h2
        go_wp2_with (first
          | (go_at_call 36; refine (in_err ⟨#[112, 114, 111, 111, 102]⟩ n 4 (by decide) _).mono ?_; rintro e w1 ⟨v, rfl, hv, hx1⟩))
        go_ret
        exact ⟨_, rfl, Hs.hid (by rw [HR2.out]; exact hv.out), hx0.trans0 hx1⟩
end Go.Proofs.YtjicjadibaomkaaDoor
set_option linter.unusedSimpArgs false
set_option linter.unusedVariables false
set_option maxHeartbeats 4000000
set_option maxRecDepth 100000
namespace Go.Proofs.YtjicjadibaomkaaDoor
open Go.RowKit Go.Extern.Stop Go.Stop Go.Extern Go.Hs

theorem where_nil (w : World) : Calls Tryd.prog 31 #[.nilIface] w fun ev w' => ev = .returned (.tuple #[.slice none 0 0, .int .i64 (-1)]) ∧ Ext [] w w' := by
  have hA := heap_new w (.cells #[.pointer none] 106)
  have E0 : Ext [] w (w.alloc (.cells #[.pointer none] 106)) := (Ext.refl _ _).alloc _
  go_enter Tryd.func31, Tryd.ntmps31
  go_wp2
  refine wp_loop_rounds 1 ?_
  rw [rounds_succ]
  go_wp2_with (go_at_call 49; refine (as_nil _ _).mono ?_; rintro e w1 ⟨rfl, hw⟩; subst w1)
  go_ret2
  exact ⟨rfl, E0⟩
theorem ofNil (w : World) : Calls Tryd.prog 30 #[.nilIface] w fun e w' => e = .returned (.int .i64 0) ∧ Ext [] w w' := by
  go_enter Tryd.func30, Tryd.ntmps30
  go_wp2
  go_ret
  exact ⟨rfl, Ext.refl _ _⟩
theorem path_nil (w : World) : Calls Tryd.prog 14 #[.nilIface] w fun ev w' => ev = .returned (.string (pathB [] 0)) ∧ Ext [] w w' := by
  obtain ⟨i0, hi, hz0, hz1, hz2⟩ := info_parts infoStrF
  have HI := Hs.hid (And.intro hi (And.intro hz0 (And.intro hz1 hz2)))
  have hlen : (namesE [] ++ [errWord 0]).length = 0 + 1 := rfl
  have hjoin : (Lib.join ((namesE [] ++ [errWord 0]).map (·.data.toList)) [47]).length ≤ 140737488355328 := by
    have := join_le [47] 100 ((namesE [] ++ [errWord 0]).map (·.data.toList)) (by
      intro x hx
      obtain ⟨y, hy, rfl⟩ := List.mem_map.1 hx
      obtain rfl := List.mem_singleton.1 hy
      have := errWord_size 0 (by decide)
      show (errWord 0).data.toList.length ≤ 100
      rw [Array.length_toList]
      exact Nat.le_trans this (by decide))
    rw [List.length_map, hlen] at this
    have h1 : ([47] : List UInt8).length = 1 := rfl
    rw [h1] at this
    omega
  obtain ⟨XS, hXS⟩ : ∃ XS, namesE [] ++ [errWord 0] = XS := ⟨_, rfl⟩
  have HXL := Hs.hid (show XS.length = 1 by rw [← hXS]; rfl)
  have HXM := Hs.hid (show [] ++ [Value.string (errWord 0)] = XS.map Value.string by rw [← hXS]; rfl)
  rw [hXS] at hjoin
  have HJ := Hs.hid hjoin
  have HPB := Hs.hid (show pathB [] 0 = ⟨(Lib.join (XS.map (·.data.toList)) [47]).toArray⟩ by rw [← hXS]; rfl)
  generalize pathB [] 0 = PB at HPB ⊢
  clear hi hz0 hz1 hz2 hjoin hXS hlen
  go_enter Tryd.func14, Tryd.ntmps14
  go_upto_region 2 with (first
    | (go_at_call 31; refine (where_nil _).mono ?_; rintro e w1 ⟨rfl, hx⟩)
    | fail)
  have hO : Own w1.heap 9 1 (.slice none 0 0) 0 [] := ⟨rfl, .inl ⟨rfl, rfl⟩⟩
  go_wp2_with (first
    | (go_at_call 30; refine (ofNil _).mono ?_; rintro e w2 ⟨rfl, hx2⟩)
    | (go_at_call 38; refine (errno_any 0 (by decide) _).mono ?_; rintro e w3 ⟨rfl, hx3⟩)
    | (at_builtin; refine wpList_append rfl (.tmp 10) (.tmp 14) 72 rfl 9 i0 _ 1 16 Tryd.underlying72 HI.out.1 HI.out.2.1 HI.out.2.2.1 HI.out.2.2.2 rfl (by decide) (.slice none 0 0) 0 [] rfl ⟨rfl, .inl ⟨rfl, rfl⟩⟩ ⟨w3.heap.size, 0, none⟩ 1 1 [.string (errWord 0)] rfl rfl (news_new w3 [.string (errWord 0)] 9) (by simp [Value.oneCell']) (by decide) (by decide) ?_; intro ao3 cap3 w4 hO4 hx4 hg4)
    | (go_at_call 37; go_loud (have hO5 : Own w4.heap 9 1 (.slice ao3 XS.length cap3) XS.length (XS.map Value.string) := (by rw [HXL.out, ← HXM.out]; exact hO4); obtain ⟨g, rfl, hgl, hcap, hcells⟩ := Own.strings (w := w4) (by rw [HXL.out]; decide) hO5; have hjn := Tryd.strings_Join g 0 cap3 XS ⟨#[47]⟩ w4 hcells hgl (by rw [HXL.out]; decide) hcap HJ.out; rw [HXL.out] at hjn; (with_reducible refine hjn.mono ?_); rintro e w5 ⟨rfl, hx5⟩)))
  go_ret
  refine ⟨by rw [HPB.out]; rfl, ?_⟩
  exact (((hx.trans' (hx2.trans' hx3)).alloc (.cells #[.string (errWord 0)] 9)).trans hx4 (fun g hg => by simp [Value.ownBlock] at hg)).trans' (Ext.ofBelow hx5)
/-- The path of what a proof answers. -/
def pathR (r : Nat) (step : ByteArray) : ByteArray := pathB (if r = 0 then [] else [(step, 0)]) r
theorem pathE_any (r : Nat) (hr : r < 21) (step : ByteArray) (hs : step.size ≤ 100) (a : Int) (v : Value) (w : World) (hg : Gd w) (hv : ErrIs w.heap (r : Int) step a v) :
    Calls Tryd.prog 14 #[v] w fun ev w' => ev = .returned (.string (pathR r step)) ∧ Ext [] w w' := by
  rcases hv with ⟨h0, rfl⟩ | ⟨h0, h1⟩
  · obtain rfl : r = 0 := by omega
    exact path_nil w
  · have e : pathR r step = pathB [(step, a)] r := by unfold pathR; rw [if_neg (by omega)]; rfl
    rw [e]
    exact path_any r hr [(step, a)] (by simp) (by simp; exact hs) v w hg h1
end Go.Proofs.YtjicjadibaomkaaDoor
set_option linter.unusedSimpArgs false
set_option linter.unusedVariables false
set_option maxHeartbeats 4000000
set_option maxRecDepth 100000
namespace Go.Proofs.YtjicjadibaomkaaDoor
open Go.RowKit Go.Hs Go.Dg

theorem dirs02 : dirs 0 2 = [false] := by
  have h : halfN 2 = 1 := by decide +kernel
  rw [dirs, dif_neg (by omega), h, if_pos (by omega), dirs, dif_pos (by omega)]; rfl
theorem dirs12 : dirs 1 2 = [true] := by
  have h : halfN 2 = 1 := by decide +kernel
  rw [dirs, dif_neg (by omega), h, if_neg (by omega), dirs, dif_pos (by omega)]; rfl
def laW : S32 := dig (leaf2 ⟨#[97]⟩)
def lbW : S32 := dig (leaf2 ⟨#[98]⟩)
theorem nodesApart : (nodeS lbW laW).l ≠ (nodeS laW lbW).l := by decide +kernel
theorem inc0 (la lb : S32) : inclN la 0 2 (nodeS la lb) [lb] = 0 := by
  unfold inclN
  rw [if_neg (by omega)]
  have h : dirs (Int.toNat 0) (Int.toNat 2) = [false] := dirs02
  simp only [h]
  rw [if_pos ⟨rfl, rfl⟩]
theorem inc1 : inclN laW 1 2 (nodeS laW lbW) [lbW] = 12 := by
  unfold inclN
  rw [if_neg (by omega)]
  have h : dirs (Int.toNat 1) (Int.toNat 2) = [true] := dirs12
  simp only [h]
  rw [if_neg (fun h => nodesApart (congrArg S32.l h.2))]
theorem inc2 (la rt : S32) (xs : List S32) : inclN la 2 2 rt xs = 6 := by
  unfold inclN
  rw [if_pos (by omega)]
theorem awake10_any (w : World) (hg : Gd w) : Calls Tryd.prog 9 #[] w fun e w' => e = .returned (.bool true) ∧ Ext [] w w' := by
  have HZ := Hs.hid (show zeroS.V = #[.int .u8 0, .int .u8 0, .int .u8 0, .int .u8 0, .int .u8 0, .int .u8 0, .int .u8 0, .int .u8 0, .int .u8 0, .int .u8 0, .int .u8 0, .int .u8 0, .int .u8 0, .int .u8 0, .int .u8 0, .int .u8 0, .int .u8 0, .int .u8 0, .int .u8 0, .int .u8 0, .int .u8 0, .int .u8 0, .int .u8 0, .int .u8 0, .int .u8 0, .int .u8 0, .int .u8 0, .int .u8 0, .int .u8 0, .int .u8 0, .int .u8 0, .int .u8 0] from rfl)
  go_enter Tryd.func9, Tryd.ntmps9
  go_upto_region 2 with (first
    | (go_at_call 34; refine (leafS_any ⟨#[97]⟩ (by decide) _).mono ?_; rintro e w1 ⟨la, rfl, hla, hx1⟩)
    | (go_at_call 34; refine (leafS_any ⟨#[98]⟩ (by decide) _).mono ?_; rintro e w2 ⟨lb, rfl, hlb, hx2⟩)
    | (refine wpList_store_row rfl 29 (.tmp 1) (.tmp 4) rfl w2.heap.size la.V rfl rfl _ _ (heap_old' _ _ (heap_new w2 _)) (by rw [la.size]; exact infoSum) (by rw [la.size]; rfl) la.one ?_)
    | (refine wpList_store_row rfl 29 (.tmp 2) (.tmp 5) rfl (w2.heap.size + 1) lb.V rfl rfl _ _ (row2_at w2 _ _ la.V) (by rw [lb.size]; exact infoSum) (by rw [lb.size]; rfl) lb.one ?_))
  obtain ⟨hA, hB, hx3⟩ := row2_two w2 zeroS.V zeroS.V la.V lb.V 29 29
  rw [HZ.out] at hA hB hx3
  generalize (((w2.alloc _).alloc _).setRow w2.heap.size la.V).setRow (w2.heap.size + 1) lb.V = W3 at hA hB hx3 ⊢
  obtain ⟨A, hAA⟩ : ∃ A, w2.heap.size = A := ⟨_, rfl⟩
  rw [hAA] at hA hB ⊢
  have HE3 := Hs.hid ((hx1.trans0 hx2).trans0 hx3)
  clear hAA hx1 hx2 hx3
  have HH := Hs.hid (head_built 2)
  have hz33 := (zero_of_info (P := Tryd.prog) infoHead)
  go_upto_region 3 with (first
    | (refine wpList_yield (.agg la.V) (by rfl) (exec_load_rowV (.tmp 1) rfl A rfl la _ ⟨_, hA⟩) ?_)
    | (refine wpList_yield (.agg lb.V) (by rfl) (exec_load_rowV (.tmp 2) rfl (A + 1) rfl lb _ ⟨_, hB⟩) ?_)
    | (go_at_call 35; refine (nodeY_any la lb _).mono ?_; rintro e w4 ⟨nd, rfl, hnd, hx4⟩)
    | (refine wpList_yield (.agg (headV 2 nd)) (by rfl) (exec_build _ rfl [(0, .int .i64 2), (1, .agg nd.V)] _ _ (by first | (go_simp; done) | (go_simp; rfl) | (simp [Act.eval]; done)) (head_built 2 nd)) ?_)
    | (refine wpList_store_row rfl 32 (.tmp 3) (.tmp 9) rfl w4.heap.size (headV 2 nd) rfl rfl _ _ (heap_new _ _) (by rw [headV_size]; exact hz33.2) (by rw [headV_size]; rfl) (headV_one _ _) ?_))
  have hH := setRow_heap _ _ _ (headV 2 nd) _ _ (heap_new w4 (.cells head0 32))
  have hx5 := hx4.trans0 (boxExt (w := w4) (.cells head0 32) (headV 2 nd))
  generalize (w4.alloc (.cells head0 32)).setRow w4.heap.size (headV 2 nd) = W5 at hH hx5 ⊢
  obtain ⟨H, hHH⟩ : ∃ H, w4.heap.size = H := ⟨_, rfl⟩
  rw [hHH] at hH ⊢
  clear hHH
  have hB5 := hx5.same hB List.not_mem_nil
  have HE5 := Hs.hid (HE3.out.trans0 hx5)
  have e0 : inclN (dig (leaf2 ⟨#[97]⟩)) 0 2 nd [lb] = 0 := by rw [← hla.out, hnd.out]; exact inc0 la lb
  have e1 : inclN (dig (leaf2 ⟨#[97]⟩)) 1 2 nd [lb] = 12 := by
    have q1 : la = laW := hla.out
    have q2 : lb = lbW := hlb.out
    rw [← hla.out, hnd.out, q1, q2]; exact inc1
  have I0 := Hs.hid (fun (w : World) (ao : Option Addr) (h : Sums32 w.heap ao 1 [lb]) => pInclNil ⟨#[97]⟩ (by decide) 0 2 (by decide) nd [lb] e0 1 rfl ao 1 w h)
  have I1 := Hs.hid (fun (w : World) (ao : Option Addr) (h : Sums32 w.heap ao 1 [lb]) => pInclErr 12 (by decide) ⟨#[97]⟩ (by decide) 1 2 (by decide) nd [lb] e1 1 rfl ao 1 w h)
  have I2 := Hs.hid (fun (w : World) (ao : Option Addr) (h : Sums32 w.heap ao 1 [lb]) => pInclErr 6 (by decide) ⟨#[97]⟩ (by decide) 2 2 (by decide) nd [lb] (inc2 _ _ _) 1 rfl ao 1 w h)
  have HG := Hs.hid hg
  clear e0 e1 hg hla hlb hnd hA hB hx5 hx4 HH hz33 HE3
  try simp only [Act.put, List.getElem_toArray, List.getElem_cons_succ, List.getElem_cons_zero, List.setIfInBounds_toArray, List.set_cons_zero, List.set_cons_succ]
  go_wp2_with (first
    | (refine wpList_yield (.agg (headV 2 nd)) (by rfl) (exec_load_rowHd (.tmp 3) rfl H rfl 2 nd _ ⟨_, hH⟩) ?_)
    | (refine wpList_yield (.agg lb.V) (by rfl) (exec_load_rowV (.tmp 2) rfl (A + 1) rfl lb _ ⟨_, hB5⟩) ?_)
    | (refine wpList_sumV rfl (.tmp 11) rfl lb rfl ?_)
    | (go_at_call 15; with_reducible refine (I0.out _ _ (sums_one (heap_new W5 _))).mono ?_; rintro e w6 ⟨rfl, hx6⟩; replace hx6 := ((Ext.refl [] W5).alloc (.cells lb.V 29)).trans0 hx6; have hH6 := hx6.same hH List.not_mem_nil; have hB6 := hx6.same hB5 List.not_mem_nil)
    | (refine wpList_yield (.agg (headV 2 nd)) (by rfl) (exec_load_rowHd (.tmp 3) rfl H rfl 2 nd _ ⟨_, hH6⟩) ?_)
    | (refine wpList_yield (.agg lb.V) (by rfl) (exec_load_rowV (.tmp 2) rfl (A + 1) rfl lb _ ⟨_, hB6⟩) ?_)
    | (refine wpList_sumG (by rfl) (.tmp 17) rfl lb rfl ?_)
    | (go_at_call 15; with_reducible refine (I1.out _ _ (sums_one (heap_new w6 _))).mono ?_; rintro e w7 ⟨p7, rfl, hv7, hx7⟩; replace hx7 := ((hx6).alloc (.cells lb.V 29)).trans0 hx7)
    | (go_at_call 30; with_reducible refine (ofE_any 12 _ _ _ _ (HG.out.ext (HE5.out.trans0 hx7) List.not_mem_nil) hv7.out).mono ?_; rintro e w8 ⟨rfl, hx8⟩; replace hx8 := hx7.trans0 hx8; have hH8 := hx8.same hH List.not_mem_nil; have hB8 := hx8.same hB5 List.not_mem_nil)
    | (refine wpList_yield (.agg (headV 2 nd)) (by rfl) (exec_load_rowHd (.tmp 3) rfl H rfl 2 nd _ ⟨_, hH8⟩) ?_)
    | (refine wpList_yield (.agg lb.V) (by rfl) (exec_load_rowV (.tmp 2) rfl (A + 1) rfl lb _ ⟨_, hB8⟩) ?_)
    | (refine wpList_sumG (by rfl) (.tmp 25) rfl lb rfl ?_)
    | (go_at_call 15; with_reducible refine (I2.out _ _ (sums_one (heap_new w8 _))).mono ?_; rintro e w9 ⟨p9, rfl, hv9, hx9⟩; replace hx9 := ((hx8).alloc (.cells lb.V 29)).trans0 hx9)
    | (go_at_call 30; with_reducible refine (ofE_any 6 _ _ _ _ (HG.out.ext (HE5.out.trans0 hx9) List.not_mem_nil) hv9.out).mono ?_; rintro e w10 ⟨rfl, hx10⟩; replace hx10 := hx9.trans0 hx10))
  go_ret
  exact ⟨rfl, HE5.out.trans0 hx10⟩
end Go.Proofs.YtjicjadibaomkaaDoor
set_option linter.unusedSimpArgs false
set_option linter.unusedVariables false
set_option maxHeartbeats 4000000
set_option maxRecDepth 100000
namespace Go.Proofs.YtjicjadibaomkaaDoor
open Go.RowKit Go.Hs Go.Dg

theorem proofSz : (Tryd.prog.info? 24).map (·.size) = some 4 := by kernel_rfl
theorem exec_load_rowPf {a : Act} {o : Oper} (y : Operand) (ho : o.op = Op.load 24 y) (g : Nat) (hy : a.eval y = .pointer (some ⟨g, 0, none⟩)) (k i n : Int) (ao : Option Addr) (len cap : Nat) (w : World) (h : ∃ fr, w.heap[g]? = some (.cells #[.int .i64 k, .int .i64 i, .int .i64 n, .slice ao len cap] 24 fr)) :
    (execOp a.eval o).run Tryd.prog w = .ok (.value (.agg #[.int .i64 k, .int .i64 i, .int .i64 n, .slice ao len cap])) w := by
  obtain ⟨fr, h⟩ := h
  unfold execOp
  have := run_loadVar_row (P := Tryd.prog) w g 24 24 #[.int .i64 k, .int .i64 i, .int .i64 n, .slice ao len cap] fr _ h Tryd.underlying24 rfl proofSz
  simp only [ho, hy, Instr.loadAt, Instr.sureAddr, Sem.run_bind, Sem.run_pure, Result.andThen_ok, this]
theorem Sums32.take {h : Array Obj} {ao : Option Addr} {cap : Nat} {xs : List S32} (t : Sums32 h ao cap xs) (k : Nat) : Sums32 h ao cap (xs.take k) := by
  obtain ⟨h1, h2, h3⟩ := t
  refine ⟨by rw [List.length_take]; omega, h2, ?_⟩
  rcases h3 with rfl | ⟨b, o, cs, ty, fr, e, hb, hk⟩
  · left; simp
  · refine .inr ⟨b, o, cs, ty, fr, e, hb, fun j y hj => hk j y ?_⟩
    rw [List.getElem?_take] at hj
    split at hj
    · exact hj
    · cases hj
theorem inclN_nat (lf root : S32) (i n : Int) (xs : List S32) : ∃ r : Nat, inclN lf i n root xs = (r : Int) ∧ r < 21 := by
  unfold inclN
  split
  · exact ⟨6, rfl, by decide⟩
  · split
    · exact ⟨0, rfl, by decide⟩
    · exact ⟨12, rfl, by decide⟩
theorem consN_nat (m n : Int) (old root : S32) (xs : List S32) : ∃ r : Nat, consN m n old root xs = (r : Int) ∧ r < 21 := by
  unfold consN
  split
  · exact ⟨6, rfl, by decide⟩
  · split
    · split
      · exact ⟨0, rfl, by decide⟩
      · exact ⟨12, rfl, by decide⟩
    · split
      · split
        · exact ⟨0, rfl, by decide⟩
        · exact ⟨12, rfl, by decide⟩
      · split
        · exact ⟨12, rfl, by decide⟩
        · split
          · exact ⟨0, rfl, by decide⟩
          · exact ⟨12, rfl, by decide⟩
theorem path_proof_arg : pathR 4 stProof = ⟨#[112, 114, 111, 111, 102, 47, 97, 114, 103]⟩ := by decide +kernel
theorem proofProves_any (kd pi pn : Int) (ao : Option Addr) (len cap : Nat) (xs : List S32) (hxl : xs.length = len) (leaf : ByteArray) (m n : Int) (old root : ByteArray) (w : World) (hg : Gd w) (hS : Sums32 w.heap ao cap xs) (h0 : leaf.size ≤ maxLen) (h1 : old.size ≤ maxLen) (h2 : root.size ≤ maxLen) :
    Calls Tryd.prog 3 #[.agg #[.int .i64 kd, .int .i64 pi, .int .i64 pn, .slice ao len cap], .string leaf, .int .i64 m, .int .i64 n, .string old, .string root] w fun e w' => e = .returned (.bool true) ∧ Ext [] w w' := by
  have hlm : len ≤ cap := by rw [← hxl]; exact hS.1
  have hcm := hS.2.1
  have HS := Hs.hid (And.intro h0 (And.intro h1 h2))
  have HG := Hs.hid hg
  have HSX := Hs.hid (And.intro hS hxl)
  have hP := heap_new w (.cells #[.int .i64 kd, .int .i64 pi, .int .i64 pn, .slice ao len cap] 24)
  have hx0 := (Ext.refl [] w).alloc (.cells #[.int .i64 kd, .int .i64 pi, .int .i64 pn, .slice ao len cap] 24)
  clear hg hS h0 h1 h2 hxl
  go_enter Tryd.func3, Tryd.ntmps3
  go_upto_region 1 with fail
  generalize w.alloc (.cells #[.int .i64 kd, .int .i64 pi, .int .i64 pn, .slice ao len cap] 24) = W0 at hP hx0 ⊢
  obtain ⟨P, hPP⟩ : ∃ P, w.heap.size = P := ⟨_, rfl⟩
  rw [hPP] at hP ⊢
  have HPG := Hs.hid (show w.heap.size ≤ P by omega)
  clear hPP
  go_upto_region 4 with (first
    | (go_at_call 9; with_reducible refine (awake10_any _ (HG.out.ext hx0 List.not_mem_nil)).mono ?_; rintro e w0 ⟨rfl, hx1⟩)
    | (go_at_call 10; refine (cutE_any leaf 20 (by decide) _ HS.out.1).mono ?_; rintro e w1 ⟨lf, rfl, hlf, hw1⟩; subst w1; have HLF := Hs.hid hlf; clear hlf))
  have hP0d : w0.drew.heap[P]? = some (.cells #[.int .i64 kd, .int .i64 pi, .int .i64 pn, .slice ao len cap] 24 (0, 0)) := hx1.same hP List.not_mem_nil
  have c1 := cellAt hP0d 1
  have c2 := cellAt hP0d 2
  simp at c1 c2
  have hPw0 : w0.heap[P]? = some (.cells #[.int .i64 kd, .int .i64 pi, .int .i64 pn, .slice ao len cap] 24 (0, 0)) := hP0d
  have f1w := freeAt hPw0 1
  have f2w := freeAt hPw0 2
  have c1w := cellAt hPw0 1
  have c2w := cellAt hPw0 2
  simp at c1w c2w
  clear hPw0
  have HE0 := Hs.hid (hx0.trans0 hx1)
  clear hx0 hx1 hP
  go_cut [2, 3] (fun s2 s3 wx => ∃ m1 n1 i1 p1 : Int, s2 = .int .i64 m1 ∧ s3 = .int .i64 n1 ∧ Hid ((m1 ≤ 300 ∧ -3 ≤ m1) ∧ (n1 ≤ 300 ∧ -3 ≤ n1) ∧ (i1 ≤ 300 ∧ -3 ≤ i1) ∧ (p1 ≤ 300 ∧ -3 ≤ p1)) ∧ wx.heap[P]? = some (.cells #[.int .i64 kd, .int .i64 i1, .int .i64 p1, .slice ao len cap] 24 (0, 0)) ∧ Ext [] w wx)
  case first =>
    refine wp_region_noPanic ?_
    refine wp_region_held_drew (S := (fun _ => True)) (by kernel_rfl) ?_ (fun hHeld => ?_)
    · ((try dsimp only); all_goals trivial)
    have hP0 := hP0d
    refine wpAnyH_take (i := 0) (v := ?_) rfl (by kernel_rfl) (by kernel_rfl) (by kernel_rfl) (fun _ _ _ h => h) (Or.inl ⟨by rfl, ?_⟩) (by assumption) ?_
    rotate_left
    · (intro w hSw; (try dsimp only at hSw); first | (go_simp; done) | (go_simp; with_reducible rfl))
    try simp only [Act.put, List.getElem_toArray, List.getElem_cons_succ, List.getElem_cons_zero, List.setIfInBounds_toArray, List.set_cons_zero, List.set_cons_succ]
    refine wpAnyH_take (i := 2) (v := ?_) rfl (by kernel_rfl) (by kernel_rfl) (by kernel_rfl) (fun _ _ _ h => h) (Or.inl ⟨by rfl, ?_⟩) (by assumption) ?_
    rotate_left
    · (intro w hSw; (try dsimp only at hSw); first | (go_simp; done) | (go_simp; with_reducible rfl))
    try simp only [Act.put, List.getElem_toArray, List.getElem_cons_succ, List.getElem_cons_zero, List.setIfInBounds_toArray, List.set_cons_zero, List.set_cons_succ]
    refine wpAnyH_take (i := 4) (v := ?_) rfl (by kernel_rfl) (by kernel_rfl) (by kernel_rfl) (fun _ _ _ h => h) (Or.inl ⟨by rfl, ?_⟩) (by assumption) ?_
    rotate_left
    · (intro w hSw; (try dsimp only at hSw); first | (go_simp; done) | (go_simp; with_reducible rfl))
    try simp only [Act.put, List.getElem_toArray, List.getElem_cons_succ, List.getElem_cons_zero, List.setIfInBounds_toArray, List.set_cons_zero, List.set_cons_succ]
    refine wpAnyH_take (i := 7) (v := ?_) rfl (by kernel_rfl) (by kernel_rfl) (by kernel_rfl) (fun _ _ _ h => h) (Or.inl ⟨by rfl, ?_⟩) (by assumption) ?_
    rotate_left
    · (intro w hSw; (try dsimp only at hSw); first | (go_simp; done) | (go_simp; with_reducible rfl))
    try simp only [Act.put, List.getElem_toArray, List.getElem_cons_succ, List.getElem_cons_zero, List.setIfInBounds_toArray, List.set_cons_zero, List.set_cons_succ]
    refine wpAnyH_ready (rs := [1, 5, 8]) (by kernel_rfl) (by simp) ?_
    refine AllReadyH.cons rfl (fun K hK => ?_) (AllReadyH.cons rfl (fun K hK => ?_) (AllReadyH.cons rfl (fun K hK => ?_) AllReadyH.nil))
    · go_simp
      (go_at_call 11; refine (few_any _ _).mono ?_; rintro e w9 ⟨m1, rfl, hm1, hw⟩; subst w9)
      go_wp2_with fail
      refine hK.out _ _ ?_ (fun hHeld => ?_)
      · ((try dsimp only); all_goals trivial)
      clear hK K
      try simp only [Act.put, List.getElem_toArray, List.getElem_cons_succ, List.getElem_cons_zero, List.setIfInBounds_toArray, List.set_cons_zero, List.set_cons_succ]
      refine wpAnyH_ready (rs := [3, 5, 8]) (by kernel_rfl) (by simp) ?_
      refine AllReadyH.cons rfl (fun K hK => ?_) (AllReadyH.cons rfl (fun K hK => ?_) (AllReadyH.cons rfl (fun K hK => ?_) AllReadyH.nil))
      · go_simp
        (go_at_call 11; refine (few_any _ _).mono ?_; rintro e w9 ⟨n1, rfl, hn1, hw⟩; subst w9)
        go_wp2_with fail
        refine hK.out _ _ ?_ (fun hHeld => ?_)
        · ((try dsimp only); all_goals trivial)
        clear hK K
        try simp only [Act.put, List.getElem_toArray, List.getElem_cons_succ, List.getElem_cons_zero, List.setIfInBounds_toArray, List.set_cons_zero, List.set_cons_succ]
        refine wpAnyH_ready (rs := [5, 8]) (by kernel_rfl) (by simp) ?_
        refine AllReadyH.cons rfl (fun K hK => ?_) (AllReadyH.cons rfl (fun K hK => ?_) AllReadyH.nil)
        · rw [if_pos (by rfl)]
          go_simp
          refine hK.out _ _ ?_ (fun hHeld => ?_)
          · ((try dsimp only); all_goals trivial)
          clear hK K
          try simp only [Act.put, List.getElem_toArray, List.getElem_cons_succ, List.getElem_cons_zero, List.setIfInBounds_toArray, List.set_cons_zero, List.set_cons_succ]
          refine wpAnyH_ready (rs := [6, 8]) (by kernel_rfl) (by simp) ?_
          refine AllReadyH.cons rfl (fun K hK => ?_) (AllReadyH.cons rfl (fun K hK => ?_) AllReadyH.nil)
          · go_simp
            (go_at_call 11; refine (few_any _ _).mono ?_; rintro e w9 ⟨i1, rfl, hi1, hw⟩; subst w9)
            go_wp2_with fail
            refine hK.out _ _ ?_ (fun hHeld => ?_)
            · ((try dsimp only); all_goals trivial)
            clear hK K
            try simp only [Act.put, List.getElem_toArray, List.getElem_cons_succ, List.getElem_cons_zero, List.setIfInBounds_toArray, List.set_cons_zero, List.set_cons_succ]
            refine wpAnyH_ready (rs := [8]) (by kernel_rfl) (by simp) ?_
            refine AllReadyH.cons rfl (fun K hK => ?_) AllReadyH.nil
            rw [if_pos (by rfl)]
            go_simp
            refine hK.out _ _ ?_ (fun hHeld => ?_)
            · ((try dsimp only); all_goals trivial)
            clear hK K
            try simp only [Act.put, List.getElem_toArray, List.getElem_cons_succ, List.getElem_cons_zero, List.setIfInBounds_toArray, List.set_cons_zero, List.set_cons_succ]
            refine wpAnyH_ready (rs := [9]) (by kernel_rfl) (by simp) ?_
            refine AllReadyH.cons rfl (fun K hK => ?_) AllReadyH.nil
            go_simp
            (go_at_call 11; refine (few_any _ _).mono ?_; rintro e w9 ⟨p1, rfl, hp1, hw⟩; subst w9)
            go_wp2_with fail
            refine hK.out _ _ ?_ (fun hHeld => ?_)
            · ((try dsimp only); all_goals trivial)
            clear hK K
            try simp only [Act.put, List.getElem_toArray, List.getElem_cons_succ, List.getElem_cons_zero, List.setIfInBounds_toArray, List.set_cons_zero, List.set_cons_succ]
            refine wpAnyH_take (i := 10) (v := ?_) rfl (by kernel_rfl) (by kernel_rfl) (by kernel_rfl) (fun _ _ _ h => h) (Or.inl ⟨by rfl, ?_⟩) (by assumption) ?_
            rotate_left
            · (intro w hSw; (try dsimp only at hSw); first | (go_simp; done) | (go_simp; with_reducible rfl))
            try simp only [Act.put, List.getElem_toArray, List.getElem_cons_succ, List.getElem_cons_zero, List.setIfInBounds_toArray, List.set_cons_zero, List.set_cons_succ]
            refine wpAnyH_take (i := 11) (v := ?_) rfl (by kernel_rfl) (by kernel_rfl) (by kernel_rfl) (fun _ _ _ h => h) (Or.inl ⟨by rfl, ?_⟩) (by assumption) ?_
            rotate_left
            · (intro w hSw; (try dsimp only at hSw); first | (go_simp; done) | (go_simp; with_reducible rfl))
            try simp only [Act.put, List.getElem_toArray, List.getElem_cons_succ, List.getElem_cons_zero, List.setIfInBounds_toArray, List.set_cons_zero, List.set_cons_succ]
            refine wpAnyH_take (i := 12) (v := ?_) rfl (by kernel_rfl) (by kernel_rfl) (by kernel_rfl) (fun _ _ _ h => h) (Or.inl ⟨by rfl, ?_⟩) (by assumption) ?_
            rotate_left
            · (intro w hSw; (try dsimp only at hSw); first | (go_simp; done) | (go_simp; with_reducible rfl))
            try simp only [Act.put, List.getElem_toArray, List.getElem_cons_succ, List.getElem_cons_zero, List.setIfInBounds_toArray, List.set_cons_zero, List.set_cons_succ]
            refine wpAnyH_ready (rs := [13]) (by kernel_rfl) (by simp) ?_
            refine AllReadyH.cons rfl (fun K hK => ?_) AllReadyH.nil
            rw [if_pos (by rfl)]
            go_simp
            refine hK.out _ _ ?_ (fun hHeld => ?_)
            · ((try dsimp only); all_goals trivial)
            clear hK K
            try simp only [Act.put, List.getElem_toArray, List.getElem_cons_succ, List.getElem_cons_zero, List.setIfInBounds_toArray, List.set_cons_zero, List.set_cons_succ]
            refine wpAnyH_take (i := 14) (v := ?_) rfl (by kernel_rfl) (by kernel_rfl) (by kernel_rfl) (fun _ _ _ h => h) (Or.inl ⟨by rfl, ?_⟩) (by assumption) ?_
            rotate_left
            · (intro w hSw; (try dsimp only at hSw); first | (go_simp; done) | (go_simp; with_reducible rfl))
            try simp only [Act.put, List.getElem_toArray, List.getElem_cons_succ, List.getElem_cons_zero, List.setIfInBounds_toArray, List.set_cons_zero, List.set_cons_succ]
            refine wpAnyH_ready (rs := [15]) (by kernel_rfl) (by simp) ?_
            refine AllReadyH.cons rfl (fun K hK => ?_) AllReadyH.nil
            rw [if_pos (by rfl)]
            go_simp
            refine hK.out _ _ ?_ (fun hHeld => ?_)
            · ((try dsimp only); all_goals trivial)
            clear hK K
            try simp only [Act.put, List.getElem_toArray, List.getElem_cons_succ, List.getElem_cons_zero, List.setIfInBounds_toArray, List.set_cons_zero, List.set_cons_succ]
            refine wpAnyH_done (by kernel_rfl) ?_ _
            refine NoPanic.normal ?_
            go_wp2
            go_meet
            exact ⟨m1, n1, i1, p1, rfl, rfl, Hs.hid ⟨hm1.out, hn1.out, hi1.out, hp1.out⟩, heap_set (heap_set hP0 1 (.int .i64 i1)) 2 (.int .i64 p1), (HE0.out.drew.setN (by have := HPG.out; omega) 1 _).setN (by have := HPG.out; omega) 2 _⟩
          · rw [if_pos (by rfl)]
            go_simp
            refine hK.out _ _ ?_ (fun hHeld => ?_)
            · ((try dsimp only); all_goals trivial)
            clear hK K
            try simp only [Act.put, List.getElem_toArray, List.getElem_cons_succ, List.getElem_cons_zero, List.setIfInBounds_toArray, List.set_cons_zero, List.set_cons_succ]
            refine wpAnyH_ready (rs := [6]) (by kernel_rfl) (by simp) ?_
            refine AllReadyH.cons rfl (fun K hK => ?_) AllReadyH.nil
            go_simp
            (go_at_call 11; refine (few_any _ _).mono ?_; rintro e w9 ⟨i1, rfl, hi1, hw⟩; subst w9)
            go_wp2_with fail
            refine hK.out _ _ ?_ (fun hHeld => ?_)
            · ((try dsimp only); all_goals trivial)
            clear hK K
            try simp only [Act.put, List.getElem_toArray, List.getElem_cons_succ, List.getElem_cons_zero, List.setIfInBounds_toArray, List.set_cons_zero, List.set_cons_succ]
            refine wpAnyH_ready (rs := [9]) (by kernel_rfl) (by simp) ?_
            refine AllReadyH.cons rfl (fun K hK => ?_) AllReadyH.nil
            go_simp
            (go_at_call 11; refine (few_any _ _).mono ?_; rintro e w9 ⟨p1, rfl, hp1, hw⟩; subst w9)
            go_wp2_with fail
            refine hK.out _ _ ?_ (fun hHeld => ?_)
            · ((try dsimp only); all_goals trivial)
            clear hK K
            try simp only [Act.put, List.getElem_toArray, List.getElem_cons_succ, List.getElem_cons_zero, List.setIfInBounds_toArray, List.set_cons_zero, List.set_cons_succ]
            refine wpAnyH_take (i := 10) (v := ?_) rfl (by kernel_rfl) (by kernel_rfl) (by kernel_rfl) (fun _ _ _ h => h) (Or.inl ⟨by rfl, ?_⟩) (by assumption) ?_
            rotate_left
            · (intro w hSw; (try dsimp only at hSw); first | (go_simp; done) | (go_simp; with_reducible rfl))
            try simp only [Act.put, List.getElem_toArray, List.getElem_cons_succ, List.getElem_cons_zero, List.setIfInBounds_toArray, List.set_cons_zero, List.set_cons_succ]
            refine wpAnyH_take (i := 11) (v := ?_) rfl (by kernel_rfl) (by kernel_rfl) (by kernel_rfl) (fun _ _ _ h => h) (Or.inl ⟨by rfl, ?_⟩) (by assumption) ?_
            rotate_left
            · (intro w hSw; (try dsimp only at hSw); first | (go_simp; done) | (go_simp; with_reducible rfl))
            try simp only [Act.put, List.getElem_toArray, List.getElem_cons_succ, List.getElem_cons_zero, List.setIfInBounds_toArray, List.set_cons_zero, List.set_cons_succ]
            refine wpAnyH_take (i := 12) (v := ?_) rfl (by kernel_rfl) (by kernel_rfl) (by kernel_rfl) (fun _ _ _ h => h) (Or.inl ⟨by rfl, ?_⟩) (by assumption) ?_
            rotate_left
            · (intro w hSw; (try dsimp only at hSw); first | (go_simp; done) | (go_simp; with_reducible rfl))
            try simp only [Act.put, List.getElem_toArray, List.getElem_cons_succ, List.getElem_cons_zero, List.setIfInBounds_toArray, List.set_cons_zero, List.set_cons_succ]
            refine wpAnyH_ready (rs := [13]) (by kernel_rfl) (by simp) ?_
            refine AllReadyH.cons rfl (fun K hK => ?_) AllReadyH.nil
            rw [if_pos (by rfl)]
            go_simp
            refine hK.out _ _ ?_ (fun hHeld => ?_)
            · ((try dsimp only); all_goals trivial)
            clear hK K
            try simp only [Act.put, List.getElem_toArray, List.getElem_cons_succ, List.getElem_cons_zero, List.setIfInBounds_toArray, List.set_cons_zero, List.set_cons_succ]
            refine wpAnyH_take (i := 14) (v := ?_) rfl (by kernel_rfl) (by kernel_rfl) (by kernel_rfl) (fun _ _ _ h => h) (Or.inl ⟨by rfl, ?_⟩) (by assumption) ?_
            rotate_left
            · (intro w hSw; (try dsimp only at hSw); first | (go_simp; done) | (go_simp; with_reducible rfl))
            try simp only [Act.put, List.getElem_toArray, List.getElem_cons_succ, List.getElem_cons_zero, List.setIfInBounds_toArray, List.set_cons_zero, List.set_cons_succ]
            refine wpAnyH_ready (rs := [15]) (by kernel_rfl) (by simp) ?_
            refine AllReadyH.cons rfl (fun K hK => ?_) AllReadyH.nil
            rw [if_pos (by rfl)]
            go_simp
            refine hK.out _ _ ?_ (fun hHeld => ?_)
            · ((try dsimp only); all_goals trivial)
            clear hK K
            try simp only [Act.put, List.getElem_toArray, List.getElem_cons_succ, List.getElem_cons_zero, List.setIfInBounds_toArray, List.set_cons_zero, List.set_cons_succ]
            refine wpAnyH_done (by kernel_rfl) ?_ _
            refine NoPanic.normal ?_
            go_wp2
            go_meet
            exact ⟨m1, n1, i1, p1, rfl, rfl, Hs.hid ⟨hm1.out, hn1.out, hi1.out, hp1.out⟩, heap_set (heap_set hP0 1 (.int .i64 i1)) 2 (.int .i64 p1), (HE0.out.drew.setN (by have := HPG.out; omega) 1 _).setN (by have := HPG.out; omega) 2 _⟩
        · rw [if_pos (by rfl)]
          go_simp
          refine hK.out _ _ ?_ (fun hHeld => ?_)
          · ((try dsimp only); all_goals trivial)
          clear hK K
          try simp only [Act.put, List.getElem_toArray, List.getElem_cons_succ, List.getElem_cons_zero, List.setIfInBounds_toArray, List.set_cons_zero, List.set_cons_succ]
          refine wpAnyH_ready (rs := [5]) (by kernel_rfl) (by simp) ?_
          refine AllReadyH.cons rfl (fun K hK => ?_) AllReadyH.nil
          rw [if_pos (by rfl)]
          go_simp
          refine hK.out _ _ ?_ (fun hHeld => ?_)
          · ((try dsimp only); all_goals trivial)
          clear hK K
          try simp only [Act.put, List.getElem_toArray, List.getElem_cons_succ, List.getElem_cons_zero, List.setIfInBounds_toArray, List.set_cons_zero, List.set_cons_succ]
          refine wpAnyH_ready (rs := [6]) (by kernel_rfl) (by simp) ?_
          refine AllReadyH.cons rfl (fun K hK => ?_) AllReadyH.nil
          go_simp
          (go_at_call 11; refine (few_any _ _).mono ?_; rintro e w9 ⟨i1, rfl, hi1, hw⟩; subst w9)
          go_wp2_with fail
          refine hK.out _ _ ?_ (fun hHeld => ?_)
          · ((try dsimp only); all_goals trivial)
          clear hK K
          try simp only [Act.put, List.getElem_toArray, List.getElem_cons_succ, List.getElem_cons_zero, List.setIfInBounds_toArray, List.set_cons_zero, List.set_cons_succ]
          refine wpAnyH_ready (rs := [9]) (by kernel_rfl) (by simp) ?_
          refine AllReadyH.cons rfl (fun K hK => ?_) AllReadyH.nil
          go_simp
          (go_at_call 11; refine (few_any _ _).mono ?_; rintro e w9 ⟨p1, rfl, hp1, hw⟩; subst w9)
          go_wp2_with fail
          refine hK.out _ _ ?_ (fun hHeld => ?_)
          · ((try dsimp only); all_goals trivial)
          clear hK K
          try simp only [Act.put, List.getElem_toArray, List.getElem_cons_succ, List.getElem_cons_zero, List.setIfInBounds_toArray, List.set_cons_zero, List.set_cons_succ]
          refine wpAnyH_take (i := 10) (v := ?_) rfl (by kernel_rfl) (by kernel_rfl) (by kernel_rfl) (fun _ _ _ h => h) (Or.inl ⟨by rfl, ?_⟩) (by assumption) ?_
          rotate_left
          · (intro w hSw; (try dsimp only at hSw); first | (go_simp; done) | (go_simp; with_reducible rfl))
          try simp only [Act.put, List.getElem_toArray, List.getElem_cons_succ, List.getElem_cons_zero, List.setIfInBounds_toArray, List.set_cons_zero, List.set_cons_succ]
          refine wpAnyH_take (i := 11) (v := ?_) rfl (by kernel_rfl) (by kernel_rfl) (by kernel_rfl) (fun _ _ _ h => h) (Or.inl ⟨by rfl, ?_⟩) (by assumption) ?_
          rotate_left
          · (intro w hSw; (try dsimp only at hSw); first | (go_simp; done) | (go_simp; with_reducible rfl))
          try simp only [Act.put, List.getElem_toArray, List.getElem_cons_succ, List.getElem_cons_zero, List.setIfInBounds_toArray, List.set_cons_zero, List.set_cons_succ]
          refine wpAnyH_take (i := 12) (v := ?_) rfl (by kernel_rfl) (by kernel_rfl) (by kernel_rfl) (fun _ _ _ h => h) (Or.inl ⟨by rfl, ?_⟩) (by assumption) ?_
          rotate_left
          · (intro w hSw; (try dsimp only at hSw); first | (go_simp; done) | (go_simp; with_reducible rfl))
          try simp only [Act.put, List.getElem_toArray, List.getElem_cons_succ, List.getElem_cons_zero, List.setIfInBounds_toArray, List.set_cons_zero, List.set_cons_succ]
          refine wpAnyH_ready (rs := [13]) (by kernel_rfl) (by simp) ?_
          refine AllReadyH.cons rfl (fun K hK => ?_) AllReadyH.nil
          rw [if_pos (by rfl)]
          go_simp
          refine hK.out _ _ ?_ (fun hHeld => ?_)
          · ((try dsimp only); all_goals trivial)
          clear hK K
          try simp only [Act.put, List.getElem_toArray, List.getElem_cons_succ, List.getElem_cons_zero, List.setIfInBounds_toArray, List.set_cons_zero, List.set_cons_succ]
          refine wpAnyH_take (i := 14) (v := ?_) rfl (by kernel_rfl) (by kernel_rfl) (by kernel_rfl) (fun _ _ _ h => h) (Or.inl ⟨by rfl, ?_⟩) (by assumption) ?_
          rotate_left
          · (intro w hSw; (try dsimp only at hSw); first | (go_simp; done) | (go_simp; with_reducible rfl))
          try simp only [Act.put, List.getElem_toArray, List.getElem_cons_succ, List.getElem_cons_zero, List.setIfInBounds_toArray, List.set_cons_zero, List.set_cons_succ]
          refine wpAnyH_ready (rs := [15]) (by kernel_rfl) (by simp) ?_
          refine AllReadyH.cons rfl (fun K hK => ?_) AllReadyH.nil
          rw [if_pos (by rfl)]
          go_simp
          refine hK.out _ _ ?_ (fun hHeld => ?_)
          · ((try dsimp only); all_goals trivial)
          clear hK K
          try simp only [Act.put, List.getElem_toArray, List.getElem_cons_succ, List.getElem_cons_zero, List.setIfInBounds_toArray, List.set_cons_zero, List.set_cons_succ]
          refine wpAnyH_done (by kernel_rfl) ?_ _
          refine NoPanic.normal ?_
          go_wp2
          go_meet
          exact ⟨m1, n1, i1, p1, rfl, rfl, Hs.hid ⟨hm1.out, hn1.out, hi1.out, hp1.out⟩, heap_set (heap_set hP0 1 (.int .i64 i1)) 2 (.int .i64 p1), (HE0.out.drew.setN (by have := HPG.out; omega) 1 _).setN (by have := HPG.out; omega) 2 _⟩
      · rw [if_pos (by rfl)]
        go_simp
        refine hK.out _ _ ?_ (fun hHeld => ?_)
        · ((try dsimp only); all_goals trivial)
        clear hK K
        try simp only [Act.put, List.getElem_toArray, List.getElem_cons_succ, List.getElem_cons_zero, List.setIfInBounds_toArray, List.set_cons_zero, List.set_cons_succ]
        refine wpAnyH_ready (rs := [3, 8]) (by kernel_rfl) (by simp) ?_
        refine AllReadyH.cons rfl (fun K hK => ?_) (AllReadyH.cons rfl (fun K hK => ?_) AllReadyH.nil)
        · go_simp
          (go_at_call 11; refine (few_any _ _).mono ?_; rintro e w9 ⟨n1, rfl, hn1, hw⟩; subst w9)
          go_wp2_with fail
          refine hK.out _ _ ?_ (fun hHeld => ?_)
          · ((try dsimp only); all_goals trivial)
          clear hK K
          try simp only [Act.put, List.getElem_toArray, List.getElem_cons_succ, List.getElem_cons_zero, List.setIfInBounds_toArray, List.set_cons_zero, List.set_cons_succ]
          refine wpAnyH_ready (rs := [6, 8]) (by kernel_rfl) (by simp) ?_
          refine AllReadyH.cons rfl (fun K hK => ?_) (AllReadyH.cons rfl (fun K hK => ?_) AllReadyH.nil)
          · go_simp
            (go_at_call 11; refine (few_any _ _).mono ?_; rintro e w9 ⟨i1, rfl, hi1, hw⟩; subst w9)
            go_wp2_with fail
            refine hK.out _ _ ?_ (fun hHeld => ?_)
            · ((try dsimp only); all_goals trivial)
            clear hK K
            try simp only [Act.put, List.getElem_toArray, List.getElem_cons_succ, List.getElem_cons_zero, List.setIfInBounds_toArray, List.set_cons_zero, List.set_cons_succ]
            refine wpAnyH_ready (rs := [8]) (by kernel_rfl) (by simp) ?_
            refine AllReadyH.cons rfl (fun K hK => ?_) AllReadyH.nil
            rw [if_pos (by rfl)]
            go_simp
            refine hK.out _ _ ?_ (fun hHeld => ?_)
            · ((try dsimp only); all_goals trivial)
            clear hK K
            try simp only [Act.put, List.getElem_toArray, List.getElem_cons_succ, List.getElem_cons_zero, List.setIfInBounds_toArray, List.set_cons_zero, List.set_cons_succ]
            refine wpAnyH_ready (rs := [9]) (by kernel_rfl) (by simp) ?_
            refine AllReadyH.cons rfl (fun K hK => ?_) AllReadyH.nil
            go_simp
            (go_at_call 11; refine (few_any _ _).mono ?_; rintro e w9 ⟨p1, rfl, hp1, hw⟩; subst w9)
            go_wp2_with fail
            refine hK.out _ _ ?_ (fun hHeld => ?_)
            · ((try dsimp only); all_goals trivial)
            clear hK K
            try simp only [Act.put, List.getElem_toArray, List.getElem_cons_succ, List.getElem_cons_zero, List.setIfInBounds_toArray, List.set_cons_zero, List.set_cons_succ]
            refine wpAnyH_take (i := 10) (v := ?_) rfl (by kernel_rfl) (by kernel_rfl) (by kernel_rfl) (fun _ _ _ h => h) (Or.inl ⟨by rfl, ?_⟩) (by assumption) ?_
            rotate_left
            · (intro w hSw; (try dsimp only at hSw); first | (go_simp; done) | (go_simp; with_reducible rfl))
            try simp only [Act.put, List.getElem_toArray, List.getElem_cons_succ, List.getElem_cons_zero, List.setIfInBounds_toArray, List.set_cons_zero, List.set_cons_succ]
            refine wpAnyH_take (i := 11) (v := ?_) rfl (by kernel_rfl) (by kernel_rfl) (by kernel_rfl) (fun _ _ _ h => h) (Or.inl ⟨by rfl, ?_⟩) (by assumption) ?_
            rotate_left
            · (intro w hSw; (try dsimp only at hSw); first | (go_simp; done) | (go_simp; with_reducible rfl))
            try simp only [Act.put, List.getElem_toArray, List.getElem_cons_succ, List.getElem_cons_zero, List.setIfInBounds_toArray, List.set_cons_zero, List.set_cons_succ]
            refine wpAnyH_take (i := 12) (v := ?_) rfl (by kernel_rfl) (by kernel_rfl) (by kernel_rfl) (fun _ _ _ h => h) (Or.inl ⟨by rfl, ?_⟩) (by assumption) ?_
            rotate_left
            · (intro w hSw; (try dsimp only at hSw); first | (go_simp; done) | (go_simp; with_reducible rfl))
            try simp only [Act.put, List.getElem_toArray, List.getElem_cons_succ, List.getElem_cons_zero, List.setIfInBounds_toArray, List.set_cons_zero, List.set_cons_succ]
            refine wpAnyH_ready (rs := [13]) (by kernel_rfl) (by simp) ?_
            refine AllReadyH.cons rfl (fun K hK => ?_) AllReadyH.nil
            rw [if_pos (by rfl)]
            go_simp
            refine hK.out _ _ ?_ (fun hHeld => ?_)
            · ((try dsimp only); all_goals trivial)
            clear hK K
            try simp only [Act.put, List.getElem_toArray, List.getElem_cons_succ, List.getElem_cons_zero, List.setIfInBounds_toArray, List.set_cons_zero, List.set_cons_succ]
            refine wpAnyH_take (i := 14) (v := ?_) rfl (by kernel_rfl) (by kernel_rfl) (by kernel_rfl) (fun _ _ _ h => h) (Or.inl ⟨by rfl, ?_⟩) (by assumption) ?_
            rotate_left
            · (intro w hSw; (try dsimp only at hSw); first | (go_simp; done) | (go_simp; with_reducible rfl))
            try simp only [Act.put, List.getElem_toArray, List.getElem_cons_succ, List.getElem_cons_zero, List.setIfInBounds_toArray, List.set_cons_zero, List.set_cons_succ]
            refine wpAnyH_ready (rs := [15]) (by kernel_rfl) (by simp) ?_
            refine AllReadyH.cons rfl (fun K hK => ?_) AllReadyH.nil
            rw [if_pos (by rfl)]
            go_simp
            refine hK.out _ _ ?_ (fun hHeld => ?_)
            · ((try dsimp only); all_goals trivial)
            clear hK K
            try simp only [Act.put, List.getElem_toArray, List.getElem_cons_succ, List.getElem_cons_zero, List.setIfInBounds_toArray, List.set_cons_zero, List.set_cons_succ]
            refine wpAnyH_done (by kernel_rfl) ?_ _
            refine NoPanic.normal ?_
            go_wp2
            go_meet
            exact ⟨m1, n1, i1, p1, rfl, rfl, Hs.hid ⟨hm1.out, hn1.out, hi1.out, hp1.out⟩, heap_set (heap_set hP0 1 (.int .i64 i1)) 2 (.int .i64 p1), (HE0.out.drew.setN (by have := HPG.out; omega) 1 _).setN (by have := HPG.out; omega) 2 _⟩
          · rw [if_pos (by rfl)]
            go_simp
            refine hK.out _ _ ?_ (fun hHeld => ?_)
            · ((try dsimp only); all_goals trivial)
            clear hK K
            try simp only [Act.put, List.getElem_toArray, List.getElem_cons_succ, List.getElem_cons_zero, List.setIfInBounds_toArray, List.set_cons_zero, List.set_cons_succ]
            refine wpAnyH_ready (rs := [6]) (by kernel_rfl) (by simp) ?_
            refine AllReadyH.cons rfl (fun K hK => ?_) AllReadyH.nil
            go_simp
            (go_at_call 11; refine (few_any _ _).mono ?_; rintro e w9 ⟨i1, rfl, hi1, hw⟩; subst w9)
            go_wp2_with fail
            refine hK.out _ _ ?_ (fun hHeld => ?_)
            · ((try dsimp only); all_goals trivial)
            clear hK K
            try simp only [Act.put, List.getElem_toArray, List.getElem_cons_succ, List.getElem_cons_zero, List.setIfInBounds_toArray, List.set_cons_zero, List.set_cons_succ]
            refine wpAnyH_ready (rs := [9]) (by kernel_rfl) (by simp) ?_
            refine AllReadyH.cons rfl (fun K hK => ?_) AllReadyH.nil
            go_simp
            (go_at_call 11; refine (few_any _ _).mono ?_; rintro e w9 ⟨p1, rfl, hp1, hw⟩; subst w9)
            go_wp2_with fail
            refine hK.out _ _ ?_ (fun hHeld => ?_)
            · ((try dsimp only); all_goals trivial)
            clear hK K
            try simp only [Act.put, List.getElem_toArray, List.getElem_cons_succ, List.getElem_cons_zero, List.setIfInBounds_toArray, List.set_cons_zero, List.set_cons_succ]
            refine wpAnyH_take (i := 10) (v := ?_) rfl (by kernel_rfl) (by kernel_rfl) (by kernel_rfl) (fun _ _ _ h => h) (Or.inl ⟨by rfl, ?_⟩) (by assumption) ?_
            rotate_left
            · (intro w hSw; (try dsimp only at hSw); first | (go_simp; done) | (go_simp; with_reducible rfl))
            try simp only [Act.put, List.getElem_toArray, List.getElem_cons_succ, List.getElem_cons_zero, List.setIfInBounds_toArray, List.set_cons_zero, List.set_cons_succ]
            refine wpAnyH_take (i := 11) (v := ?_) rfl (by kernel_rfl) (by kernel_rfl) (by kernel_rfl) (fun _ _ _ h => h) (Or.inl ⟨by rfl, ?_⟩) (by assumption) ?_
            rotate_left
            · (intro w hSw; (try dsimp only at hSw); first | (go_simp; done) | (go_simp; with_reducible rfl))
            try simp only [Act.put, List.getElem_toArray, List.getElem_cons_succ, List.getElem_cons_zero, List.setIfInBounds_toArray, List.set_cons_zero, List.set_cons_succ]
            refine wpAnyH_take (i := 12) (v := ?_) rfl (by kernel_rfl) (by kernel_rfl) (by kernel_rfl) (fun _ _ _ h => h) (Or.inl ⟨by rfl, ?_⟩) (by assumption) ?_
            rotate_left
            · (intro w hSw; (try dsimp only at hSw); first | (go_simp; done) | (go_simp; with_reducible rfl))
            try simp only [Act.put, List.getElem_toArray, List.getElem_cons_succ, List.getElem_cons_zero, List.setIfInBounds_toArray, List.set_cons_zero, List.set_cons_succ]
            refine wpAnyH_ready (rs := [13]) (by kernel_rfl) (by simp) ?_
            refine AllReadyH.cons rfl (fun K hK => ?_) AllReadyH.nil
            rw [if_pos (by rfl)]
            go_simp
            refine hK.out _ _ ?_ (fun hHeld => ?_)
            · ((try dsimp only); all_goals trivial)
            clear hK K
            try simp only [Act.put, List.getElem_toArray, List.getElem_cons_succ, List.getElem_cons_zero, List.setIfInBounds_toArray, List.set_cons_zero, List.set_cons_succ]
            refine wpAnyH_take (i := 14) (v := ?_) rfl (by kernel_rfl) (by kernel_rfl) (by kernel_rfl) (fun _ _ _ h => h) (Or.inl ⟨by rfl, ?_⟩) (by assumption) ?_
            rotate_left
            · (intro w hSw; (try dsimp only at hSw); first | (go_simp; done) | (go_simp; with_reducible rfl))
            try simp only [Act.put, List.getElem_toArray, List.getElem_cons_succ, List.getElem_cons_zero, List.setIfInBounds_toArray, List.set_cons_zero, List.set_cons_succ]
            refine wpAnyH_ready (rs := [15]) (by kernel_rfl) (by simp) ?_
            refine AllReadyH.cons rfl (fun K hK => ?_) AllReadyH.nil
            rw [if_pos (by rfl)]
            go_simp
            refine hK.out _ _ ?_ (fun hHeld => ?_)
            · ((try dsimp only); all_goals trivial)
            clear hK K
            try simp only [Act.put, List.getElem_toArray, List.getElem_cons_succ, List.getElem_cons_zero, List.setIfInBounds_toArray, List.set_cons_zero, List.set_cons_succ]
            refine wpAnyH_done (by kernel_rfl) ?_ _
            refine NoPanic.normal ?_
            go_wp2
            go_meet
            exact ⟨m1, n1, i1, p1, rfl, rfl, Hs.hid ⟨hm1.out, hn1.out, hi1.out, hp1.out⟩, heap_set (heap_set hP0 1 (.int .i64 i1)) 2 (.int .i64 p1), (HE0.out.drew.setN (by have := HPG.out; omega) 1 _).setN (by have := HPG.out; omega) 2 _⟩
        · rw [if_pos (by rfl)]
          go_simp
          refine hK.out _ _ ?_ (fun hHeld => ?_)
          · ((try dsimp only); all_goals trivial)
          clear hK K
          try simp only [Act.put, List.getElem_toArray, List.getElem_cons_succ, List.getElem_cons_zero, List.setIfInBounds_toArray, List.set_cons_zero, List.set_cons_succ]
          refine wpAnyH_ready (rs := [3]) (by kernel_rfl) (by simp) ?_
          refine AllReadyH.cons rfl (fun K hK => ?_) AllReadyH.nil
          go_simp
          (go_at_call 11; refine (few_any _ _).mono ?_; rintro e w9 ⟨n1, rfl, hn1, hw⟩; subst w9)
          go_wp2_with fail
          refine hK.out _ _ ?_ (fun hHeld => ?_)
          · ((try dsimp only); all_goals trivial)
          clear hK K
          try simp only [Act.put, List.getElem_toArray, List.getElem_cons_succ, List.getElem_cons_zero, List.setIfInBounds_toArray, List.set_cons_zero, List.set_cons_succ]
          refine wpAnyH_ready (rs := [6]) (by kernel_rfl) (by simp) ?_
          refine AllReadyH.cons rfl (fun K hK => ?_) AllReadyH.nil
          go_simp
          (go_at_call 11; refine (few_any _ _).mono ?_; rintro e w9 ⟨i1, rfl, hi1, hw⟩; subst w9)
          go_wp2_with fail
          refine hK.out _ _ ?_ (fun hHeld => ?_)
          · ((try dsimp only); all_goals trivial)
          clear hK K
          try simp only [Act.put, List.getElem_toArray, List.getElem_cons_succ, List.getElem_cons_zero, List.setIfInBounds_toArray, List.set_cons_zero, List.set_cons_succ]
          refine wpAnyH_ready (rs := [9]) (by kernel_rfl) (by simp) ?_
          refine AllReadyH.cons rfl (fun K hK => ?_) AllReadyH.nil
          go_simp
          (go_at_call 11; refine (few_any _ _).mono ?_; rintro e w9 ⟨p1, rfl, hp1, hw⟩; subst w9)
          go_wp2_with fail
          refine hK.out _ _ ?_ (fun hHeld => ?_)
          · ((try dsimp only); all_goals trivial)
          clear hK K
          try simp only [Act.put, List.getElem_toArray, List.getElem_cons_succ, List.getElem_cons_zero, List.setIfInBounds_toArray, List.set_cons_zero, List.set_cons_succ]
          refine wpAnyH_take (i := 10) (v := ?_) rfl (by kernel_rfl) (by kernel_rfl) (by kernel_rfl) (fun _ _ _ h => h) (Or.inl ⟨by rfl, ?_⟩) (by assumption) ?_
          rotate_left
          · (intro w hSw; (try dsimp only at hSw); first | (go_simp; done) | (go_simp; with_reducible rfl))
          try simp only [Act.put, List.getElem_toArray, List.getElem_cons_succ, List.getElem_cons_zero, List.setIfInBounds_toArray, List.set_cons_zero, List.set_cons_succ]
          refine wpAnyH_take (i := 11) (v := ?_) rfl (by kernel_rfl) (by kernel_rfl) (by kernel_rfl) (fun _ _ _ h => h) (Or.inl ⟨by rfl, ?_⟩) (by assumption) ?_
          rotate_left
          · (intro w hSw; (try dsimp only at hSw); first | (go_simp; done) | (go_simp; with_reducible rfl))
          try simp only [Act.put, List.getElem_toArray, List.getElem_cons_succ, List.getElem_cons_zero, List.setIfInBounds_toArray, List.set_cons_zero, List.set_cons_succ]
          refine wpAnyH_take (i := 12) (v := ?_) rfl (by kernel_rfl) (by kernel_rfl) (by kernel_rfl) (fun _ _ _ h => h) (Or.inl ⟨by rfl, ?_⟩) (by assumption) ?_
          rotate_left
          · (intro w hSw; (try dsimp only at hSw); first | (go_simp; done) | (go_simp; with_reducible rfl))
          try simp only [Act.put, List.getElem_toArray, List.getElem_cons_succ, List.getElem_cons_zero, List.setIfInBounds_toArray, List.set_cons_zero, List.set_cons_succ]
          refine wpAnyH_ready (rs := [13]) (by kernel_rfl) (by simp) ?_
          refine AllReadyH.cons rfl (fun K hK => ?_) AllReadyH.nil
          rw [if_pos (by rfl)]
          go_simp
          refine hK.out _ _ ?_ (fun hHeld => ?_)
          · ((try dsimp only); all_goals trivial)
          clear hK K
          try simp only [Act.put, List.getElem_toArray, List.getElem_cons_succ, List.getElem_cons_zero, List.setIfInBounds_toArray, List.set_cons_zero, List.set_cons_succ]
          refine wpAnyH_take (i := 14) (v := ?_) rfl (by kernel_rfl) (by kernel_rfl) (by kernel_rfl) (fun _ _ _ h => h) (Or.inl ⟨by rfl, ?_⟩) (by assumption) ?_
          rotate_left
          · (intro w hSw; (try dsimp only at hSw); first | (go_simp; done) | (go_simp; with_reducible rfl))
          try simp only [Act.put, List.getElem_toArray, List.getElem_cons_succ, List.getElem_cons_zero, List.setIfInBounds_toArray, List.set_cons_zero, List.set_cons_succ]
          refine wpAnyH_ready (rs := [15]) (by kernel_rfl) (by simp) ?_
          refine AllReadyH.cons rfl (fun K hK => ?_) AllReadyH.nil
          rw [if_pos (by rfl)]
          go_simp
          refine hK.out _ _ ?_ (fun hHeld => ?_)
          · ((try dsimp only); all_goals trivial)
          clear hK K
          try simp only [Act.put, List.getElem_toArray, List.getElem_cons_succ, List.getElem_cons_zero, List.setIfInBounds_toArray, List.set_cons_zero, List.set_cons_succ]
          refine wpAnyH_done (by kernel_rfl) ?_ _
          refine NoPanic.normal ?_
          go_wp2
          go_meet
          exact ⟨m1, n1, i1, p1, rfl, rfl, Hs.hid ⟨hm1.out, hn1.out, hi1.out, hp1.out⟩, heap_set (heap_set hP0 1 (.int .i64 i1)) 2 (.int .i64 p1), (HE0.out.drew.setN (by have := HPG.out; omega) 1 _).setN (by have := HPG.out; omega) 2 _⟩
      · rw [if_pos (by rfl)]
        go_simp
        refine hK.out _ _ ?_ (fun hHeld => ?_)
        · ((try dsimp only); all_goals trivial)
        clear hK K
        try simp only [Act.put, List.getElem_toArray, List.getElem_cons_succ, List.getElem_cons_zero, List.setIfInBounds_toArray, List.set_cons_zero, List.set_cons_succ]
        refine wpAnyH_ready (rs := [3, 5]) (by kernel_rfl) (by simp) ?_
        refine AllReadyH.cons rfl (fun K hK => ?_) (AllReadyH.cons rfl (fun K hK => ?_) AllReadyH.nil)
        · go_simp
          (go_at_call 11; refine (few_any _ _).mono ?_; rintro e w9 ⟨n1, rfl, hn1, hw⟩; subst w9)
          go_wp2_with fail
          refine hK.out _ _ ?_ (fun hHeld => ?_)
          · ((try dsimp only); all_goals trivial)
          clear hK K
          try simp only [Act.put, List.getElem_toArray, List.getElem_cons_succ, List.getElem_cons_zero, List.setIfInBounds_toArray, List.set_cons_zero, List.set_cons_succ]
          refine wpAnyH_ready (rs := [5]) (by kernel_rfl) (by simp) ?_
          refine AllReadyH.cons rfl (fun K hK => ?_) AllReadyH.nil
          rw [if_pos (by rfl)]
          go_simp
          refine hK.out _ _ ?_ (fun hHeld => ?_)
          · ((try dsimp only); all_goals trivial)
          clear hK K
          try simp only [Act.put, List.getElem_toArray, List.getElem_cons_succ, List.getElem_cons_zero, List.setIfInBounds_toArray, List.set_cons_zero, List.set_cons_succ]
          refine wpAnyH_ready (rs := [6]) (by kernel_rfl) (by simp) ?_
          refine AllReadyH.cons rfl (fun K hK => ?_) AllReadyH.nil
          go_simp
          (go_at_call 11; refine (few_any _ _).mono ?_; rintro e w9 ⟨i1, rfl, hi1, hw⟩; subst w9)
          go_wp2_with fail
          refine hK.out _ _ ?_ (fun hHeld => ?_)
          · ((try dsimp only); all_goals trivial)
          clear hK K
          try simp only [Act.put, List.getElem_toArray, List.getElem_cons_succ, List.getElem_cons_zero, List.setIfInBounds_toArray, List.set_cons_zero, List.set_cons_succ]
          refine wpAnyH_ready (rs := [9]) (by kernel_rfl) (by simp) ?_
          refine AllReadyH.cons rfl (fun K hK => ?_) AllReadyH.nil
          go_simp
          (go_at_call 11; refine (few_any _ _).mono ?_; rintro e w9 ⟨p1, rfl, hp1, hw⟩; subst w9)
          go_wp2_with fail
          refine hK.out _ _ ?_ (fun hHeld => ?_)
          · ((try dsimp only); all_goals trivial)
          clear hK K
          try simp only [Act.put, List.getElem_toArray, List.getElem_cons_succ, List.getElem_cons_zero, List.setIfInBounds_toArray, List.set_cons_zero, List.set_cons_succ]
          refine wpAnyH_take (i := 10) (v := ?_) rfl (by kernel_rfl) (by kernel_rfl) (by kernel_rfl) (fun _ _ _ h => h) (Or.inl ⟨by rfl, ?_⟩) (by assumption) ?_
          rotate_left
          · (intro w hSw; (try dsimp only at hSw); first | (go_simp; done) | (go_simp; with_reducible rfl))
          try simp only [Act.put, List.getElem_toArray, List.getElem_cons_succ, List.getElem_cons_zero, List.setIfInBounds_toArray, List.set_cons_zero, List.set_cons_succ]
          refine wpAnyH_take (i := 11) (v := ?_) rfl (by kernel_rfl) (by kernel_rfl) (by kernel_rfl) (fun _ _ _ h => h) (Or.inl ⟨by rfl, ?_⟩) (by assumption) ?_
          rotate_left
          · (intro w hSw; (try dsimp only at hSw); first | (go_simp; done) | (go_simp; with_reducible rfl))
          try simp only [Act.put, List.getElem_toArray, List.getElem_cons_succ, List.getElem_cons_zero, List.setIfInBounds_toArray, List.set_cons_zero, List.set_cons_succ]
          refine wpAnyH_take (i := 12) (v := ?_) rfl (by kernel_rfl) (by kernel_rfl) (by kernel_rfl) (fun _ _ _ h => h) (Or.inl ⟨by rfl, ?_⟩) (by assumption) ?_
          rotate_left
          · (intro w hSw; (try dsimp only at hSw); first | (go_simp; done) | (go_simp; with_reducible rfl))
          try simp only [Act.put, List.getElem_toArray, List.getElem_cons_succ, List.getElem_cons_zero, List.setIfInBounds_toArray, List.set_cons_zero, List.set_cons_succ]
          refine wpAnyH_ready (rs := [13]) (by kernel_rfl) (by simp) ?_
          refine AllReadyH.cons rfl (fun K hK => ?_) AllReadyH.nil
          rw [if_pos (by rfl)]
          go_simp
          refine hK.out _ _ ?_ (fun hHeld => ?_)
          · ((try dsimp only); all_goals trivial)
          clear hK K
          try simp only [Act.put, List.getElem_toArray, List.getElem_cons_succ, List.getElem_cons_zero, List.setIfInBounds_toArray, List.set_cons_zero, List.set_cons_succ]
          refine wpAnyH_take (i := 14) (v := ?_) rfl (by kernel_rfl) (by kernel_rfl) (by kernel_rfl) (fun _ _ _ h => h) (Or.inl ⟨by rfl, ?_⟩) (by assumption) ?_
          rotate_left
          · (intro w hSw; (try dsimp only at hSw); first | (go_simp; done) | (go_simp; with_reducible rfl))
          try simp only [Act.put, List.getElem_toArray, List.getElem_cons_succ, List.getElem_cons_zero, List.setIfInBounds_toArray, List.set_cons_zero, List.set_cons_succ]
          refine wpAnyH_ready (rs := [15]) (by kernel_rfl) (by simp) ?_
          refine AllReadyH.cons rfl (fun K hK => ?_) AllReadyH.nil
          rw [if_pos (by rfl)]
          go_simp
          refine hK.out _ _ ?_ (fun hHeld => ?_)
          · ((try dsimp only); all_goals trivial)
          clear hK K
          try simp only [Act.put, List.getElem_toArray, List.getElem_cons_succ, List.getElem_cons_zero, List.setIfInBounds_toArray, List.set_cons_zero, List.set_cons_succ]
          refine wpAnyH_done (by kernel_rfl) ?_ _
          refine NoPanic.normal ?_
          go_wp2
          go_meet
          exact ⟨m1, n1, i1, p1, rfl, rfl, Hs.hid ⟨hm1.out, hn1.out, hi1.out, hp1.out⟩, heap_set (heap_set hP0 1 (.int .i64 i1)) 2 (.int .i64 p1), (HE0.out.drew.setN (by have := HPG.out; omega) 1 _).setN (by have := HPG.out; omega) 2 _⟩
        · rw [if_pos (by rfl)]
          go_simp
          refine hK.out _ _ ?_ (fun hHeld => ?_)
          · ((try dsimp only); all_goals trivial)
          clear hK K
          try simp only [Act.put, List.getElem_toArray, List.getElem_cons_succ, List.getElem_cons_zero, List.setIfInBounds_toArray, List.set_cons_zero, List.set_cons_succ]
          refine wpAnyH_ready (rs := [3]) (by kernel_rfl) (by simp) ?_
          refine AllReadyH.cons rfl (fun K hK => ?_) AllReadyH.nil
          go_simp
          (go_at_call 11; refine (few_any _ _).mono ?_; rintro e w9 ⟨n1, rfl, hn1, hw⟩; subst w9)
          go_wp2_with fail
          refine hK.out _ _ ?_ (fun hHeld => ?_)
          · ((try dsimp only); all_goals trivial)
          clear hK K
          try simp only [Act.put, List.getElem_toArray, List.getElem_cons_succ, List.getElem_cons_zero, List.setIfInBounds_toArray, List.set_cons_zero, List.set_cons_succ]
          refine wpAnyH_ready (rs := [6]) (by kernel_rfl) (by simp) ?_
          refine AllReadyH.cons rfl (fun K hK => ?_) AllReadyH.nil
          go_simp
          (go_at_call 11; refine (few_any _ _).mono ?_; rintro e w9 ⟨i1, rfl, hi1, hw⟩; subst w9)
          go_wp2_with fail
          refine hK.out _ _ ?_ (fun hHeld => ?_)
          · ((try dsimp only); all_goals trivial)
          clear hK K
          try simp only [Act.put, List.getElem_toArray, List.getElem_cons_succ, List.getElem_cons_zero, List.setIfInBounds_toArray, List.set_cons_zero, List.set_cons_succ]
          refine wpAnyH_ready (rs := [9]) (by kernel_rfl) (by simp) ?_
          refine AllReadyH.cons rfl (fun K hK => ?_) AllReadyH.nil
          go_simp
          (go_at_call 11; refine (few_any _ _).mono ?_; rintro e w9 ⟨p1, rfl, hp1, hw⟩; subst w9)
          go_wp2_with fail
          refine hK.out _ _ ?_ (fun hHeld => ?_)
          · ((try dsimp only); all_goals trivial)
          clear hK K
          try simp only [Act.put, List.getElem_toArray, List.getElem_cons_succ, List.getElem_cons_zero, List.setIfInBounds_toArray, List.set_cons_zero, List.set_cons_succ]
          refine wpAnyH_take (i := 10) (v := ?_) rfl (by kernel_rfl) (by kernel_rfl) (by kernel_rfl) (fun _ _ _ h => h) (Or.inl ⟨by rfl, ?_⟩) (by assumption) ?_
          rotate_left
          · (intro w hSw; (try dsimp only at hSw); first | (go_simp; done) | (go_simp; with_reducible rfl))
          try simp only [Act.put, List.getElem_toArray, List.getElem_cons_succ, List.getElem_cons_zero, List.setIfInBounds_toArray, List.set_cons_zero, List.set_cons_succ]
          refine wpAnyH_take (i := 11) (v := ?_) rfl (by kernel_rfl) (by kernel_rfl) (by kernel_rfl) (fun _ _ _ h => h) (Or.inl ⟨by rfl, ?_⟩) (by assumption) ?_
          rotate_left
          · (intro w hSw; (try dsimp only at hSw); first | (go_simp; done) | (go_simp; with_reducible rfl))
          try simp only [Act.put, List.getElem_toArray, List.getElem_cons_succ, List.getElem_cons_zero, List.setIfInBounds_toArray, List.set_cons_zero, List.set_cons_succ]
          refine wpAnyH_take (i := 12) (v := ?_) rfl (by kernel_rfl) (by kernel_rfl) (by kernel_rfl) (fun _ _ _ h => h) (Or.inl ⟨by rfl, ?_⟩) (by assumption) ?_
          rotate_left
          · (intro w hSw; (try dsimp only at hSw); first | (go_simp; done) | (go_simp; with_reducible rfl))
          try simp only [Act.put, List.getElem_toArray, List.getElem_cons_succ, List.getElem_cons_zero, List.setIfInBounds_toArray, List.set_cons_zero, List.set_cons_succ]
          refine wpAnyH_ready (rs := [13]) (by kernel_rfl) (by simp) ?_
          refine AllReadyH.cons rfl (fun K hK => ?_) AllReadyH.nil
          rw [if_pos (by rfl)]
          go_simp
          refine hK.out _ _ ?_ (fun hHeld => ?_)
          · ((try dsimp only); all_goals trivial)
          clear hK K
          try simp only [Act.put, List.getElem_toArray, List.getElem_cons_succ, List.getElem_cons_zero, List.setIfInBounds_toArray, List.set_cons_zero, List.set_cons_succ]
          refine wpAnyH_take (i := 14) (v := ?_) rfl (by kernel_rfl) (by kernel_rfl) (by kernel_rfl) (fun _ _ _ h => h) (Or.inl ⟨by rfl, ?_⟩) (by assumption) ?_
          rotate_left
          · (intro w hSw; (try dsimp only at hSw); first | (go_simp; done) | (go_simp; with_reducible rfl))
          try simp only [Act.put, List.getElem_toArray, List.getElem_cons_succ, List.getElem_cons_zero, List.setIfInBounds_toArray, List.set_cons_zero, List.set_cons_succ]
          refine wpAnyH_ready (rs := [15]) (by kernel_rfl) (by simp) ?_
          refine AllReadyH.cons rfl (fun K hK => ?_) AllReadyH.nil
          rw [if_pos (by rfl)]
          go_simp
          refine hK.out _ _ ?_ (fun hHeld => ?_)
          · ((try dsimp only); all_goals trivial)
          clear hK K
          try simp only [Act.put, List.getElem_toArray, List.getElem_cons_succ, List.getElem_cons_zero, List.setIfInBounds_toArray, List.set_cons_zero, List.set_cons_succ]
          refine wpAnyH_done (by kernel_rfl) ?_ _
          refine NoPanic.normal ?_
          go_wp2
          go_meet
          exact ⟨m1, n1, i1, p1, rfl, rfl, Hs.hid ⟨hm1.out, hn1.out, hi1.out, hp1.out⟩, heap_set (heap_set hP0 1 (.int .i64 i1)) 2 (.int .i64 p1), (HE0.out.drew.setN (by have := HPG.out; omega) 1 _).setN (by have := HPG.out; omega) 2 _⟩
    · rw [if_pos (by rfl)]
      go_simp
      refine hK.out _ _ ?_ (fun hHeld => ?_)
      · ((try dsimp only); all_goals trivial)
      clear hK K
      try simp only [Act.put, List.getElem_toArray, List.getElem_cons_succ, List.getElem_cons_zero, List.setIfInBounds_toArray, List.set_cons_zero, List.set_cons_succ]
      refine wpAnyH_ready (rs := [1, 8]) (by kernel_rfl) (by simp) ?_
      refine AllReadyH.cons rfl (fun K hK => ?_) (AllReadyH.cons rfl (fun K hK => ?_) AllReadyH.nil)
      · go_simp
        (go_at_call 11; refine (few_any _ _).mono ?_; rintro e w9 ⟨m1, rfl, hm1, hw⟩; subst w9)
        go_wp2_with fail
        refine hK.out _ _ ?_ (fun hHeld => ?_)
        · ((try dsimp only); all_goals trivial)
        clear hK K
        try simp only [Act.put, List.getElem_toArray, List.getElem_cons_succ, List.getElem_cons_zero, List.setIfInBounds_toArray, List.set_cons_zero, List.set_cons_succ]
        refine wpAnyH_ready (rs := [3, 8]) (by kernel_rfl) (by simp) ?_
        refine AllReadyH.cons rfl (fun K hK => ?_) (AllReadyH.cons rfl (fun K hK => ?_) AllReadyH.nil)
        · go_simp
          (go_at_call 11; refine (few_any _ _).mono ?_; rintro e w9 ⟨n1, rfl, hn1, hw⟩; subst w9)
          go_wp2_with fail
          refine hK.out _ _ ?_ (fun hHeld => ?_)
          · ((try dsimp only); all_goals trivial)
          clear hK K
          try simp only [Act.put, List.getElem_toArray, List.getElem_cons_succ, List.getElem_cons_zero, List.setIfInBounds_toArray, List.set_cons_zero, List.set_cons_succ]
          refine wpAnyH_ready (rs := [6, 8]) (by kernel_rfl) (by simp) ?_
          refine AllReadyH.cons rfl (fun K hK => ?_) (AllReadyH.cons rfl (fun K hK => ?_) AllReadyH.nil)
          · go_simp
            (go_at_call 11; refine (few_any _ _).mono ?_; rintro e w9 ⟨i1, rfl, hi1, hw⟩; subst w9)
            go_wp2_with fail
            refine hK.out _ _ ?_ (fun hHeld => ?_)
            · ((try dsimp only); all_goals trivial)
            clear hK K
            try simp only [Act.put, List.getElem_toArray, List.getElem_cons_succ, List.getElem_cons_zero, List.setIfInBounds_toArray, List.set_cons_zero, List.set_cons_succ]
            refine wpAnyH_ready (rs := [8]) (by kernel_rfl) (by simp) ?_
            refine AllReadyH.cons rfl (fun K hK => ?_) AllReadyH.nil
            rw [if_pos (by rfl)]
            go_simp
            refine hK.out _ _ ?_ (fun hHeld => ?_)
            · ((try dsimp only); all_goals trivial)
            clear hK K
            try simp only [Act.put, List.getElem_toArray, List.getElem_cons_succ, List.getElem_cons_zero, List.setIfInBounds_toArray, List.set_cons_zero, List.set_cons_succ]
            refine wpAnyH_ready (rs := [9]) (by kernel_rfl) (by simp) ?_
            refine AllReadyH.cons rfl (fun K hK => ?_) AllReadyH.nil
            go_simp
            (go_at_call 11; refine (few_any _ _).mono ?_; rintro e w9 ⟨p1, rfl, hp1, hw⟩; subst w9)
            go_wp2_with fail
            refine hK.out _ _ ?_ (fun hHeld => ?_)
            · ((try dsimp only); all_goals trivial)
            clear hK K
            try simp only [Act.put, List.getElem_toArray, List.getElem_cons_succ, List.getElem_cons_zero, List.setIfInBounds_toArray, List.set_cons_zero, List.set_cons_succ]
            refine wpAnyH_take (i := 10) (v := ?_) rfl (by kernel_rfl) (by kernel_rfl) (by kernel_rfl) (fun _ _ _ h => h) (Or.inl ⟨by rfl, ?_⟩) (by assumption) ?_
            rotate_left
            · (intro w hSw; (try dsimp only at hSw); first | (go_simp; done) | (go_simp; with_reducible rfl))
            try simp only [Act.put, List.getElem_toArray, List.getElem_cons_succ, List.getElem_cons_zero, List.setIfInBounds_toArray, List.set_cons_zero, List.set_cons_succ]
            refine wpAnyH_take (i := 11) (v := ?_) rfl (by kernel_rfl) (by kernel_rfl) (by kernel_rfl) (fun _ _ _ h => h) (Or.inl ⟨by rfl, ?_⟩) (by assumption) ?_
            rotate_left
            · (intro w hSw; (try dsimp only at hSw); first | (go_simp; done) | (go_simp; with_reducible rfl))
            try simp only [Act.put, List.getElem_toArray, List.getElem_cons_succ, List.getElem_cons_zero, List.setIfInBounds_toArray, List.set_cons_zero, List.set_cons_succ]
            refine wpAnyH_take (i := 12) (v := ?_) rfl (by kernel_rfl) (by kernel_rfl) (by kernel_rfl) (fun _ _ _ h => h) (Or.inl ⟨by rfl, ?_⟩) (by assumption) ?_
            rotate_left
            · (intro w hSw; (try dsimp only at hSw); first | (go_simp; done) | (go_simp; with_reducible rfl))
            try simp only [Act.put, List.getElem_toArray, List.getElem_cons_succ, List.getElem_cons_zero, List.setIfInBounds_toArray, List.set_cons_zero, List.set_cons_succ]
            refine wpAnyH_ready (rs := [13]) (by kernel_rfl) (by simp) ?_
            refine AllReadyH.cons rfl (fun K hK => ?_) AllReadyH.nil
            rw [if_pos (by rfl)]
            go_simp
            refine hK.out _ _ ?_ (fun hHeld => ?_)
            · ((try dsimp only); all_goals trivial)
            clear hK K
            try simp only [Act.put, List.getElem_toArray, List.getElem_cons_succ, List.getElem_cons_zero, List.setIfInBounds_toArray, List.set_cons_zero, List.set_cons_succ]
            refine wpAnyH_take (i := 14) (v := ?_) rfl (by kernel_rfl) (by kernel_rfl) (by kernel_rfl) (fun _ _ _ h => h) (Or.inl ⟨by rfl, ?_⟩) (by assumption) ?_
            rotate_left
            · (intro w hSw; (try dsimp only at hSw); first | (go_simp; done) | (go_simp; with_reducible rfl))
            try simp only [Act.put, List.getElem_toArray, List.getElem_cons_succ, List.getElem_cons_zero, List.setIfInBounds_toArray, List.set_cons_zero, List.set_cons_succ]
            refine wpAnyH_ready (rs := [15]) (by kernel_rfl) (by simp) ?_
            refine AllReadyH.cons rfl (fun K hK => ?_) AllReadyH.nil
            rw [if_pos (by rfl)]
            go_simp
            refine hK.out _ _ ?_ (fun hHeld => ?_)
            · ((try dsimp only); all_goals trivial)
            clear hK K
            try simp only [Act.put, List.getElem_toArray, List.getElem_cons_succ, List.getElem_cons_zero, List.setIfInBounds_toArray, List.set_cons_zero, List.set_cons_succ]
            refine wpAnyH_done (by kernel_rfl) ?_ _
            refine NoPanic.normal ?_
            go_wp2
            go_meet
            exact ⟨m1, n1, i1, p1, rfl, rfl, Hs.hid ⟨hm1.out, hn1.out, hi1.out, hp1.out⟩, heap_set (heap_set hP0 1 (.int .i64 i1)) 2 (.int .i64 p1), (HE0.out.drew.setN (by have := HPG.out; omega) 1 _).setN (by have := HPG.out; omega) 2 _⟩
          · rw [if_pos (by rfl)]
            go_simp
            refine hK.out _ _ ?_ (fun hHeld => ?_)
            · ((try dsimp only); all_goals trivial)
            clear hK K
            try simp only [Act.put, List.getElem_toArray, List.getElem_cons_succ, List.getElem_cons_zero, List.setIfInBounds_toArray, List.set_cons_zero, List.set_cons_succ]
            refine wpAnyH_ready (rs := [6]) (by kernel_rfl) (by simp) ?_
            refine AllReadyH.cons rfl (fun K hK => ?_) AllReadyH.nil
            go_simp
            (go_at_call 11; refine (few_any _ _).mono ?_; rintro e w9 ⟨i1, rfl, hi1, hw⟩; subst w9)
            go_wp2_with fail
            refine hK.out _ _ ?_ (fun hHeld => ?_)
            · ((try dsimp only); all_goals trivial)
            clear hK K
            try simp only [Act.put, List.getElem_toArray, List.getElem_cons_succ, List.getElem_cons_zero, List.setIfInBounds_toArray, List.set_cons_zero, List.set_cons_succ]
            refine wpAnyH_ready (rs := [9]) (by kernel_rfl) (by simp) ?_
            refine AllReadyH.cons rfl (fun K hK => ?_) AllReadyH.nil
            go_simp
            (go_at_call 11; refine (few_any _ _).mono ?_; rintro e w9 ⟨p1, rfl, hp1, hw⟩; subst w9)
            go_wp2_with fail
            refine hK.out _ _ ?_ (fun hHeld => ?_)
            · ((try dsimp only); all_goals trivial)
            clear hK K
            try simp only [Act.put, List.getElem_toArray, List.getElem_cons_succ, List.getElem_cons_zero, List.setIfInBounds_toArray, List.set_cons_zero, List.set_cons_succ]
            refine wpAnyH_take (i := 10) (v := ?_) rfl (by kernel_rfl) (by kernel_rfl) (by kernel_rfl) (fun _ _ _ h => h) (Or.inl ⟨by rfl, ?_⟩) (by assumption) ?_
            rotate_left
            · (intro w hSw; (try dsimp only at hSw); first | (go_simp; done) | (go_simp; with_reducible rfl))
            try simp only [Act.put, List.getElem_toArray, List.getElem_cons_succ, List.getElem_cons_zero, List.setIfInBounds_toArray, List.set_cons_zero, List.set_cons_succ]
            refine wpAnyH_take (i := 11) (v := ?_) rfl (by kernel_rfl) (by kernel_rfl) (by kernel_rfl) (fun _ _ _ h => h) (Or.inl ⟨by rfl, ?_⟩) (by assumption) ?_
            rotate_left
            · (intro w hSw; (try dsimp only at hSw); first | (go_simp; done) | (go_simp; with_reducible rfl))
            try simp only [Act.put, List.getElem_toArray, List.getElem_cons_succ, List.getElem_cons_zero, List.setIfInBounds_toArray, List.set_cons_zero, List.set_cons_succ]
            refine wpAnyH_take (i := 12) (v := ?_) rfl (by kernel_rfl) (by kernel_rfl) (by kernel_rfl) (fun _ _ _ h => h) (Or.inl ⟨by rfl, ?_⟩) (by assumption) ?_
            rotate_left
            · (intro w hSw; (try dsimp only at hSw); first | (go_simp; done) | (go_simp; with_reducible rfl))
            try simp only [Act.put, List.getElem_toArray, List.getElem_cons_succ, List.getElem_cons_zero, List.setIfInBounds_toArray, List.set_cons_zero, List.set_cons_succ]
            refine wpAnyH_ready (rs := [13]) (by kernel_rfl) (by simp) ?_
            refine AllReadyH.cons rfl (fun K hK => ?_) AllReadyH.nil
            rw [if_pos (by rfl)]
            go_simp
            refine hK.out _ _ ?_ (fun hHeld => ?_)
            · ((try dsimp only); all_goals trivial)
            clear hK K
            try simp only [Act.put, List.getElem_toArray, List.getElem_cons_succ, List.getElem_cons_zero, List.setIfInBounds_toArray, List.set_cons_zero, List.set_cons_succ]
            refine wpAnyH_take (i := 14) (v := ?_) rfl (by kernel_rfl) (by kernel_rfl) (by kernel_rfl) (fun _ _ _ h => h) (Or.inl ⟨by rfl, ?_⟩) (by assumption) ?_
            rotate_left
            · (intro w hSw; (try dsimp only at hSw); first | (go_simp; done) | (go_simp; with_reducible rfl))
            try simp only [Act.put, List.getElem_toArray, List.getElem_cons_succ, List.getElem_cons_zero, List.setIfInBounds_toArray, List.set_cons_zero, List.set_cons_succ]
            refine wpAnyH_ready (rs := [15]) (by kernel_rfl) (by simp) ?_
            refine AllReadyH.cons rfl (fun K hK => ?_) AllReadyH.nil
            rw [if_pos (by rfl)]
            go_simp
            refine hK.out _ _ ?_ (fun hHeld => ?_)
            · ((try dsimp only); all_goals trivial)
            clear hK K
            try simp only [Act.put, List.getElem_toArray, List.getElem_cons_succ, List.getElem_cons_zero, List.setIfInBounds_toArray, List.set_cons_zero, List.set_cons_succ]
            refine wpAnyH_done (by kernel_rfl) ?_ _
            refine NoPanic.normal ?_
            go_wp2
            go_meet
            exact ⟨m1, n1, i1, p1, rfl, rfl, Hs.hid ⟨hm1.out, hn1.out, hi1.out, hp1.out⟩, heap_set (heap_set hP0 1 (.int .i64 i1)) 2 (.int .i64 p1), (HE0.out.drew.setN (by have := HPG.out; omega) 1 _).setN (by have := HPG.out; omega) 2 _⟩
        · rw [if_pos (by rfl)]
          go_simp
          refine hK.out _ _ ?_ (fun hHeld => ?_)
          · ((try dsimp only); all_goals trivial)
          clear hK K
          try simp only [Act.put, List.getElem_toArray, List.getElem_cons_succ, List.getElem_cons_zero, List.setIfInBounds_toArray, List.set_cons_zero, List.set_cons_succ]
          refine wpAnyH_ready (rs := [3]) (by kernel_rfl) (by simp) ?_
          refine AllReadyH.cons rfl (fun K hK => ?_) AllReadyH.nil
          go_simp
          (go_at_call 11; refine (few_any _ _).mono ?_; rintro e w9 ⟨n1, rfl, hn1, hw⟩; subst w9)
          go_wp2_with fail
          refine hK.out _ _ ?_ (fun hHeld => ?_)
          · ((try dsimp only); all_goals trivial)
          clear hK K
          try simp only [Act.put, List.getElem_toArray, List.getElem_cons_succ, List.getElem_cons_zero, List.setIfInBounds_toArray, List.set_cons_zero, List.set_cons_succ]
          refine wpAnyH_ready (rs := [6]) (by kernel_rfl) (by simp) ?_
          refine AllReadyH.cons rfl (fun K hK => ?_) AllReadyH.nil
          go_simp
          (go_at_call 11; refine (few_any _ _).mono ?_; rintro e w9 ⟨i1, rfl, hi1, hw⟩; subst w9)
          go_wp2_with fail
          refine hK.out _ _ ?_ (fun hHeld => ?_)
          · ((try dsimp only); all_goals trivial)
          clear hK K
          try simp only [Act.put, List.getElem_toArray, List.getElem_cons_succ, List.getElem_cons_zero, List.setIfInBounds_toArray, List.set_cons_zero, List.set_cons_succ]
          refine wpAnyH_ready (rs := [9]) (by kernel_rfl) (by simp) ?_
          refine AllReadyH.cons rfl (fun K hK => ?_) AllReadyH.nil
          go_simp
          (go_at_call 11; refine (few_any _ _).mono ?_; rintro e w9 ⟨p1, rfl, hp1, hw⟩; subst w9)
          go_wp2_with fail
          refine hK.out _ _ ?_ (fun hHeld => ?_)
          · ((try dsimp only); all_goals trivial)
          clear hK K
          try simp only [Act.put, List.getElem_toArray, List.getElem_cons_succ, List.getElem_cons_zero, List.setIfInBounds_toArray, List.set_cons_zero, List.set_cons_succ]
          refine wpAnyH_take (i := 10) (v := ?_) rfl (by kernel_rfl) (by kernel_rfl) (by kernel_rfl) (fun _ _ _ h => h) (Or.inl ⟨by rfl, ?_⟩) (by assumption) ?_
          rotate_left
          · (intro w hSw; (try dsimp only at hSw); first | (go_simp; done) | (go_simp; with_reducible rfl))
          try simp only [Act.put, List.getElem_toArray, List.getElem_cons_succ, List.getElem_cons_zero, List.setIfInBounds_toArray, List.set_cons_zero, List.set_cons_succ]
          refine wpAnyH_take (i := 11) (v := ?_) rfl (by kernel_rfl) (by kernel_rfl) (by kernel_rfl) (fun _ _ _ h => h) (Or.inl ⟨by rfl, ?_⟩) (by assumption) ?_
          rotate_left
          · (intro w hSw; (try dsimp only at hSw); first | (go_simp; done) | (go_simp; with_reducible rfl))
          try simp only [Act.put, List.getElem_toArray, List.getElem_cons_succ, List.getElem_cons_zero, List.setIfInBounds_toArray, List.set_cons_zero, List.set_cons_succ]
          refine wpAnyH_take (i := 12) (v := ?_) rfl (by kernel_rfl) (by kernel_rfl) (by kernel_rfl) (fun _ _ _ h => h) (Or.inl ⟨by rfl, ?_⟩) (by assumption) ?_
          rotate_left
          · (intro w hSw; (try dsimp only at hSw); first | (go_simp; done) | (go_simp; with_reducible rfl))
          try simp only [Act.put, List.getElem_toArray, List.getElem_cons_succ, List.getElem_cons_zero, List.setIfInBounds_toArray, List.set_cons_zero, List.set_cons_succ]
          refine wpAnyH_ready (rs := [13]) (by kernel_rfl) (by simp) ?_
          refine AllReadyH.cons rfl (fun K hK => ?_) AllReadyH.nil
          rw [if_pos (by rfl)]
          go_simp
          refine hK.out _ _ ?_ (fun hHeld => ?_)
          · ((try dsimp only); all_goals trivial)
          clear hK K
          try simp only [Act.put, List.getElem_toArray, List.getElem_cons_succ, List.getElem_cons_zero, List.setIfInBounds_toArray, List.set_cons_zero, List.set_cons_succ]
          refine wpAnyH_take (i := 14) (v := ?_) rfl (by kernel_rfl) (by kernel_rfl) (by kernel_rfl) (fun _ _ _ h => h) (Or.inl ⟨by rfl, ?_⟩) (by assumption) ?_
          rotate_left
          · (intro w hSw; (try dsimp only at hSw); first | (go_simp; done) | (go_simp; with_reducible rfl))
          try simp only [Act.put, List.getElem_toArray, List.getElem_cons_succ, List.getElem_cons_zero, List.setIfInBounds_toArray, List.set_cons_zero, List.set_cons_succ]
          refine wpAnyH_ready (rs := [15]) (by kernel_rfl) (by simp) ?_
          refine AllReadyH.cons rfl (fun K hK => ?_) AllReadyH.nil
          rw [if_pos (by rfl)]
          go_simp
          refine hK.out _ _ ?_ (fun hHeld => ?_)
          · ((try dsimp only); all_goals trivial)
          clear hK K
          try simp only [Act.put, List.getElem_toArray, List.getElem_cons_succ, List.getElem_cons_zero, List.setIfInBounds_toArray, List.set_cons_zero, List.set_cons_succ]
          refine wpAnyH_done (by kernel_rfl) ?_ _
          refine NoPanic.normal ?_
          go_wp2
          go_meet
          exact ⟨m1, n1, i1, p1, rfl, rfl, Hs.hid ⟨hm1.out, hn1.out, hi1.out, hp1.out⟩, heap_set (heap_set hP0 1 (.int .i64 i1)) 2 (.int .i64 p1), (HE0.out.drew.setN (by have := HPG.out; omega) 1 _).setN (by have := HPG.out; omega) 2 _⟩
      · rw [if_pos (by rfl)]
        go_simp
        refine hK.out _ _ ?_ (fun hHeld => ?_)
        · ((try dsimp only); all_goals trivial)
        clear hK K
        try simp only [Act.put, List.getElem_toArray, List.getElem_cons_succ, List.getElem_cons_zero, List.setIfInBounds_toArray, List.set_cons_zero, List.set_cons_succ]
        refine wpAnyH_ready (rs := [1]) (by kernel_rfl) (by simp) ?_
        refine AllReadyH.cons rfl (fun K hK => ?_) AllReadyH.nil
        go_simp
        (go_at_call 11; refine (few_any _ _).mono ?_; rintro e w9 ⟨m1, rfl, hm1, hw⟩; subst w9)
        go_wp2_with fail
        refine hK.out _ _ ?_ (fun hHeld => ?_)
        · ((try dsimp only); all_goals trivial)
        clear hK K
        try simp only [Act.put, List.getElem_toArray, List.getElem_cons_succ, List.getElem_cons_zero, List.setIfInBounds_toArray, List.set_cons_zero, List.set_cons_succ]
        refine wpAnyH_ready (rs := [3]) (by kernel_rfl) (by simp) ?_
        refine AllReadyH.cons rfl (fun K hK => ?_) AllReadyH.nil
        go_simp
        (go_at_call 11; refine (few_any _ _).mono ?_; rintro e w9 ⟨n1, rfl, hn1, hw⟩; subst w9)
        go_wp2_with fail
        refine hK.out _ _ ?_ (fun hHeld => ?_)
        · ((try dsimp only); all_goals trivial)
        clear hK K
        try simp only [Act.put, List.getElem_toArray, List.getElem_cons_succ, List.getElem_cons_zero, List.setIfInBounds_toArray, List.set_cons_zero, List.set_cons_succ]
        refine wpAnyH_ready (rs := [6]) (by kernel_rfl) (by simp) ?_
        refine AllReadyH.cons rfl (fun K hK => ?_) AllReadyH.nil
        go_simp
        (go_at_call 11; refine (few_any _ _).mono ?_; rintro e w9 ⟨i1, rfl, hi1, hw⟩; subst w9)
        go_wp2_with fail
        refine hK.out _ _ ?_ (fun hHeld => ?_)
        · ((try dsimp only); all_goals trivial)
        clear hK K
        try simp only [Act.put, List.getElem_toArray, List.getElem_cons_succ, List.getElem_cons_zero, List.setIfInBounds_toArray, List.set_cons_zero, List.set_cons_succ]
        refine wpAnyH_ready (rs := [9]) (by kernel_rfl) (by simp) ?_
        refine AllReadyH.cons rfl (fun K hK => ?_) AllReadyH.nil
        go_simp
        (go_at_call 11; refine (few_any _ _).mono ?_; rintro e w9 ⟨p1, rfl, hp1, hw⟩; subst w9)
        go_wp2_with fail
        refine hK.out _ _ ?_ (fun hHeld => ?_)
        · ((try dsimp only); all_goals trivial)
        clear hK K
        try simp only [Act.put, List.getElem_toArray, List.getElem_cons_succ, List.getElem_cons_zero, List.setIfInBounds_toArray, List.set_cons_zero, List.set_cons_succ]
        refine wpAnyH_take (i := 10) (v := ?_) rfl (by kernel_rfl) (by kernel_rfl) (by kernel_rfl) (fun _ _ _ h => h) (Or.inl ⟨by rfl, ?_⟩) (by assumption) ?_
        rotate_left
        · (intro w hSw; (try dsimp only at hSw); first | (go_simp; done) | (go_simp; with_reducible rfl))
        try simp only [Act.put, List.getElem_toArray, List.getElem_cons_succ, List.getElem_cons_zero, List.setIfInBounds_toArray, List.set_cons_zero, List.set_cons_succ]
        refine wpAnyH_take (i := 11) (v := ?_) rfl (by kernel_rfl) (by kernel_rfl) (by kernel_rfl) (fun _ _ _ h => h) (Or.inl ⟨by rfl, ?_⟩) (by assumption) ?_
        rotate_left
        · (intro w hSw; (try dsimp only at hSw); first | (go_simp; done) | (go_simp; with_reducible rfl))
        try simp only [Act.put, List.getElem_toArray, List.getElem_cons_succ, List.getElem_cons_zero, List.setIfInBounds_toArray, List.set_cons_zero, List.set_cons_succ]
        refine wpAnyH_take (i := 12) (v := ?_) rfl (by kernel_rfl) (by kernel_rfl) (by kernel_rfl) (fun _ _ _ h => h) (Or.inl ⟨by rfl, ?_⟩) (by assumption) ?_
        rotate_left
        · (intro w hSw; (try dsimp only at hSw); first | (go_simp; done) | (go_simp; with_reducible rfl))
        try simp only [Act.put, List.getElem_toArray, List.getElem_cons_succ, List.getElem_cons_zero, List.setIfInBounds_toArray, List.set_cons_zero, List.set_cons_succ]
        refine wpAnyH_ready (rs := [13]) (by kernel_rfl) (by simp) ?_
        refine AllReadyH.cons rfl (fun K hK => ?_) AllReadyH.nil
        rw [if_pos (by rfl)]
        go_simp
        refine hK.out _ _ ?_ (fun hHeld => ?_)
        · ((try dsimp only); all_goals trivial)
        clear hK K
        try simp only [Act.put, List.getElem_toArray, List.getElem_cons_succ, List.getElem_cons_zero, List.setIfInBounds_toArray, List.set_cons_zero, List.set_cons_succ]
        refine wpAnyH_take (i := 14) (v := ?_) rfl (by kernel_rfl) (by kernel_rfl) (by kernel_rfl) (fun _ _ _ h => h) (Or.inl ⟨by rfl, ?_⟩) (by assumption) ?_
        rotate_left
        · (intro w hSw; (try dsimp only at hSw); first | (go_simp; done) | (go_simp; with_reducible rfl))
        try simp only [Act.put, List.getElem_toArray, List.getElem_cons_succ, List.getElem_cons_zero, List.setIfInBounds_toArray, List.set_cons_zero, List.set_cons_succ]
        refine wpAnyH_ready (rs := [15]) (by kernel_rfl) (by simp) ?_
        refine AllReadyH.cons rfl (fun K hK => ?_) AllReadyH.nil
        rw [if_pos (by rfl)]
        go_simp
        refine hK.out _ _ ?_ (fun hHeld => ?_)
        · ((try dsimp only); all_goals trivial)
        clear hK K
        try simp only [Act.put, List.getElem_toArray, List.getElem_cons_succ, List.getElem_cons_zero, List.setIfInBounds_toArray, List.set_cons_zero, List.set_cons_succ]
        refine wpAnyH_done (by kernel_rfl) ?_ _
        refine NoPanic.normal ?_
        go_wp2
        go_meet
        exact ⟨m1, n1, i1, p1, rfl, rfl, Hs.hid ⟨hm1.out, hn1.out, hi1.out, hp1.out⟩, heap_set (heap_set hP0 1 (.int .i64 i1)) 2 (.int .i64 p1), (HE0.out.drew.setN (by have := HPG.out; omega) 1 _).setN (by have := HPG.out; omega) 2 _⟩
    · rw [if_pos (by rfl)]
      go_simp
      refine hK.out _ _ ?_ (fun hHeld => ?_)
      · ((try dsimp only); all_goals trivial)
      clear hK K
      try simp only [Act.put, List.getElem_toArray, List.getElem_cons_succ, List.getElem_cons_zero, List.setIfInBounds_toArray, List.set_cons_zero, List.set_cons_succ]
      refine wpAnyH_ready (rs := [1, 5]) (by kernel_rfl) (by simp) ?_
      refine AllReadyH.cons rfl (fun K hK => ?_) (AllReadyH.cons rfl (fun K hK => ?_) AllReadyH.nil)
      · go_simp
        (go_at_call 11; refine (few_any _ _).mono ?_; rintro e w9 ⟨m1, rfl, hm1, hw⟩; subst w9)
        go_wp2_with fail
        refine hK.out _ _ ?_ (fun hHeld => ?_)
        · ((try dsimp only); all_goals trivial)
        clear hK K
        try simp only [Act.put, List.getElem_toArray, List.getElem_cons_succ, List.getElem_cons_zero, List.setIfInBounds_toArray, List.set_cons_zero, List.set_cons_succ]
        refine wpAnyH_ready (rs := [3, 5]) (by kernel_rfl) (by simp) ?_
        refine AllReadyH.cons rfl (fun K hK => ?_) (AllReadyH.cons rfl (fun K hK => ?_) AllReadyH.nil)
        · go_simp
          (go_at_call 11; refine (few_any _ _).mono ?_; rintro e w9 ⟨n1, rfl, hn1, hw⟩; subst w9)
          go_wp2_with fail
          refine hK.out _ _ ?_ (fun hHeld => ?_)
          · ((try dsimp only); all_goals trivial)
          clear hK K
          try simp only [Act.put, List.getElem_toArray, List.getElem_cons_succ, List.getElem_cons_zero, List.setIfInBounds_toArray, List.set_cons_zero, List.set_cons_succ]
          refine wpAnyH_ready (rs := [5]) (by kernel_rfl) (by simp) ?_
          refine AllReadyH.cons rfl (fun K hK => ?_) AllReadyH.nil
          rw [if_pos (by rfl)]
          go_simp
          refine hK.out _ _ ?_ (fun hHeld => ?_)
          · ((try dsimp only); all_goals trivial)
          clear hK K
          try simp only [Act.put, List.getElem_toArray, List.getElem_cons_succ, List.getElem_cons_zero, List.setIfInBounds_toArray, List.set_cons_zero, List.set_cons_succ]
          refine wpAnyH_ready (rs := [6]) (by kernel_rfl) (by simp) ?_
          refine AllReadyH.cons rfl (fun K hK => ?_) AllReadyH.nil
          go_simp
          (go_at_call 11; refine (few_any _ _).mono ?_; rintro e w9 ⟨i1, rfl, hi1, hw⟩; subst w9)
          go_wp2_with fail
          refine hK.out _ _ ?_ (fun hHeld => ?_)
          · ((try dsimp only); all_goals trivial)
          clear hK K
          try simp only [Act.put, List.getElem_toArray, List.getElem_cons_succ, List.getElem_cons_zero, List.setIfInBounds_toArray, List.set_cons_zero, List.set_cons_succ]
          refine wpAnyH_ready (rs := [9]) (by kernel_rfl) (by simp) ?_
          refine AllReadyH.cons rfl (fun K hK => ?_) AllReadyH.nil
          go_simp
          (go_at_call 11; refine (few_any _ _).mono ?_; rintro e w9 ⟨p1, rfl, hp1, hw⟩; subst w9)
          go_wp2_with fail
          refine hK.out _ _ ?_ (fun hHeld => ?_)
          · ((try dsimp only); all_goals trivial)
          clear hK K
          try simp only [Act.put, List.getElem_toArray, List.getElem_cons_succ, List.getElem_cons_zero, List.setIfInBounds_toArray, List.set_cons_zero, List.set_cons_succ]
          refine wpAnyH_take (i := 10) (v := ?_) rfl (by kernel_rfl) (by kernel_rfl) (by kernel_rfl) (fun _ _ _ h => h) (Or.inl ⟨by rfl, ?_⟩) (by assumption) ?_
          rotate_left
          · (intro w hSw; (try dsimp only at hSw); first | (go_simp; done) | (go_simp; with_reducible rfl))
          try simp only [Act.put, List.getElem_toArray, List.getElem_cons_succ, List.getElem_cons_zero, List.setIfInBounds_toArray, List.set_cons_zero, List.set_cons_succ]
          refine wpAnyH_take (i := 11) (v := ?_) rfl (by kernel_rfl) (by kernel_rfl) (by kernel_rfl) (fun _ _ _ h => h) (Or.inl ⟨by rfl, ?_⟩) (by assumption) ?_
          rotate_left
          · (intro w hSw; (try dsimp only at hSw); first | (go_simp; done) | (go_simp; with_reducible rfl))
          try simp only [Act.put, List.getElem_toArray, List.getElem_cons_succ, List.getElem_cons_zero, List.setIfInBounds_toArray, List.set_cons_zero, List.set_cons_succ]
          refine wpAnyH_take (i := 12) (v := ?_) rfl (by kernel_rfl) (by kernel_rfl) (by kernel_rfl) (fun _ _ _ h => h) (Or.inl ⟨by rfl, ?_⟩) (by assumption) ?_
          rotate_left
          · (intro w hSw; (try dsimp only at hSw); first | (go_simp; done) | (go_simp; with_reducible rfl))
          try simp only [Act.put, List.getElem_toArray, List.getElem_cons_succ, List.getElem_cons_zero, List.setIfInBounds_toArray, List.set_cons_zero, List.set_cons_succ]
          refine wpAnyH_ready (rs := [13]) (by kernel_rfl) (by simp) ?_
          refine AllReadyH.cons rfl (fun K hK => ?_) AllReadyH.nil
          rw [if_pos (by rfl)]
          go_simp
          refine hK.out _ _ ?_ (fun hHeld => ?_)
          · ((try dsimp only); all_goals trivial)
          clear hK K
          try simp only [Act.put, List.getElem_toArray, List.getElem_cons_succ, List.getElem_cons_zero, List.setIfInBounds_toArray, List.set_cons_zero, List.set_cons_succ]
          refine wpAnyH_take (i := 14) (v := ?_) rfl (by kernel_rfl) (by kernel_rfl) (by kernel_rfl) (fun _ _ _ h => h) (Or.inl ⟨by rfl, ?_⟩) (by assumption) ?_
          rotate_left
          · (intro w hSw; (try dsimp only at hSw); first | (go_simp; done) | (go_simp; with_reducible rfl))
          try simp only [Act.put, List.getElem_toArray, List.getElem_cons_succ, List.getElem_cons_zero, List.setIfInBounds_toArray, List.set_cons_zero, List.set_cons_succ]
          refine wpAnyH_ready (rs := [15]) (by kernel_rfl) (by simp) ?_
          refine AllReadyH.cons rfl (fun K hK => ?_) AllReadyH.nil
          rw [if_pos (by rfl)]
          go_simp
          refine hK.out _ _ ?_ (fun hHeld => ?_)
          · ((try dsimp only); all_goals trivial)
          clear hK K
          try simp only [Act.put, List.getElem_toArray, List.getElem_cons_succ, List.getElem_cons_zero, List.setIfInBounds_toArray, List.set_cons_zero, List.set_cons_succ]
          refine wpAnyH_done (by kernel_rfl) ?_ _
          refine NoPanic.normal ?_
          go_wp2
          go_meet
          exact ⟨m1, n1, i1, p1, rfl, rfl, Hs.hid ⟨hm1.out, hn1.out, hi1.out, hp1.out⟩, heap_set (heap_set hP0 1 (.int .i64 i1)) 2 (.int .i64 p1), (HE0.out.drew.setN (by have := HPG.out; omega) 1 _).setN (by have := HPG.out; omega) 2 _⟩
        · rw [if_pos (by rfl)]
          go_simp
          refine hK.out _ _ ?_ (fun hHeld => ?_)
          · ((try dsimp only); all_goals trivial)
          clear hK K
          try simp only [Act.put, List.getElem_toArray, List.getElem_cons_succ, List.getElem_cons_zero, List.setIfInBounds_toArray, List.set_cons_zero, List.set_cons_succ]
          refine wpAnyH_ready (rs := [3]) (by kernel_rfl) (by simp) ?_
          refine AllReadyH.cons rfl (fun K hK => ?_) AllReadyH.nil
          go_simp
          (go_at_call 11; refine (few_any _ _).mono ?_; rintro e w9 ⟨n1, rfl, hn1, hw⟩; subst w9)
          go_wp2_with fail
          refine hK.out _ _ ?_ (fun hHeld => ?_)
          · ((try dsimp only); all_goals trivial)
          clear hK K
          try simp only [Act.put, List.getElem_toArray, List.getElem_cons_succ, List.getElem_cons_zero, List.setIfInBounds_toArray, List.set_cons_zero, List.set_cons_succ]
          refine wpAnyH_ready (rs := [6]) (by kernel_rfl) (by simp) ?_
          refine AllReadyH.cons rfl (fun K hK => ?_) AllReadyH.nil
          go_simp
          (go_at_call 11; refine (few_any _ _).mono ?_; rintro e w9 ⟨i1, rfl, hi1, hw⟩; subst w9)
          go_wp2_with fail
          refine hK.out _ _ ?_ (fun hHeld => ?_)
          · ((try dsimp only); all_goals trivial)
          clear hK K
          try simp only [Act.put, List.getElem_toArray, List.getElem_cons_succ, List.getElem_cons_zero, List.setIfInBounds_toArray, List.set_cons_zero, List.set_cons_succ]
          refine wpAnyH_ready (rs := [9]) (by kernel_rfl) (by simp) ?_
          refine AllReadyH.cons rfl (fun K hK => ?_) AllReadyH.nil
          go_simp
          (go_at_call 11; refine (few_any _ _).mono ?_; rintro e w9 ⟨p1, rfl, hp1, hw⟩; subst w9)
          go_wp2_with fail
          refine hK.out _ _ ?_ (fun hHeld => ?_)
          · ((try dsimp only); all_goals trivial)
          clear hK K
          try simp only [Act.put, List.getElem_toArray, List.getElem_cons_succ, List.getElem_cons_zero, List.setIfInBounds_toArray, List.set_cons_zero, List.set_cons_succ]
          refine wpAnyH_take (i := 10) (v := ?_) rfl (by kernel_rfl) (by kernel_rfl) (by kernel_rfl) (fun _ _ _ h => h) (Or.inl ⟨by rfl, ?_⟩) (by assumption) ?_
          rotate_left
          · (intro w hSw; (try dsimp only at hSw); first | (go_simp; done) | (go_simp; with_reducible rfl))
          try simp only [Act.put, List.getElem_toArray, List.getElem_cons_succ, List.getElem_cons_zero, List.setIfInBounds_toArray, List.set_cons_zero, List.set_cons_succ]
          refine wpAnyH_take (i := 11) (v := ?_) rfl (by kernel_rfl) (by kernel_rfl) (by kernel_rfl) (fun _ _ _ h => h) (Or.inl ⟨by rfl, ?_⟩) (by assumption) ?_
          rotate_left
          · (intro w hSw; (try dsimp only at hSw); first | (go_simp; done) | (go_simp; with_reducible rfl))
          try simp only [Act.put, List.getElem_toArray, List.getElem_cons_succ, List.getElem_cons_zero, List.setIfInBounds_toArray, List.set_cons_zero, List.set_cons_succ]
          refine wpAnyH_take (i := 12) (v := ?_) rfl (by kernel_rfl) (by kernel_rfl) (by kernel_rfl) (fun _ _ _ h => h) (Or.inl ⟨by rfl, ?_⟩) (by assumption) ?_
          rotate_left
          · (intro w hSw; (try dsimp only at hSw); first | (go_simp; done) | (go_simp; with_reducible rfl))
          try simp only [Act.put, List.getElem_toArray, List.getElem_cons_succ, List.getElem_cons_zero, List.setIfInBounds_toArray, List.set_cons_zero, List.set_cons_succ]
          refine wpAnyH_ready (rs := [13]) (by kernel_rfl) (by simp) ?_
          refine AllReadyH.cons rfl (fun K hK => ?_) AllReadyH.nil
          rw [if_pos (by rfl)]
          go_simp
          refine hK.out _ _ ?_ (fun hHeld => ?_)
          · ((try dsimp only); all_goals trivial)
          clear hK K
          try simp only [Act.put, List.getElem_toArray, List.getElem_cons_succ, List.getElem_cons_zero, List.setIfInBounds_toArray, List.set_cons_zero, List.set_cons_succ]
          refine wpAnyH_take (i := 14) (v := ?_) rfl (by kernel_rfl) (by kernel_rfl) (by kernel_rfl) (fun _ _ _ h => h) (Or.inl ⟨by rfl, ?_⟩) (by assumption) ?_
          rotate_left
          · (intro w hSw; (try dsimp only at hSw); first | (go_simp; done) | (go_simp; with_reducible rfl))
          try simp only [Act.put, List.getElem_toArray, List.getElem_cons_succ, List.getElem_cons_zero, List.setIfInBounds_toArray, List.set_cons_zero, List.set_cons_succ]
          refine wpAnyH_ready (rs := [15]) (by kernel_rfl) (by simp) ?_
          refine AllReadyH.cons rfl (fun K hK => ?_) AllReadyH.nil
          rw [if_pos (by rfl)]
          go_simp
          refine hK.out _ _ ?_ (fun hHeld => ?_)
          · ((try dsimp only); all_goals trivial)
          clear hK K
          try simp only [Act.put, List.getElem_toArray, List.getElem_cons_succ, List.getElem_cons_zero, List.setIfInBounds_toArray, List.set_cons_zero, List.set_cons_succ]
          refine wpAnyH_done (by kernel_rfl) ?_ _
          refine NoPanic.normal ?_
          go_wp2
          go_meet
          exact ⟨m1, n1, i1, p1, rfl, rfl, Hs.hid ⟨hm1.out, hn1.out, hi1.out, hp1.out⟩, heap_set (heap_set hP0 1 (.int .i64 i1)) 2 (.int .i64 p1), (HE0.out.drew.setN (by have := HPG.out; omega) 1 _).setN (by have := HPG.out; omega) 2 _⟩
      · rw [if_pos (by rfl)]
        go_simp
        refine hK.out _ _ ?_ (fun hHeld => ?_)
        · ((try dsimp only); all_goals trivial)
        clear hK K
        try simp only [Act.put, List.getElem_toArray, List.getElem_cons_succ, List.getElem_cons_zero, List.setIfInBounds_toArray, List.set_cons_zero, List.set_cons_succ]
        refine wpAnyH_ready (rs := [1]) (by kernel_rfl) (by simp) ?_
        refine AllReadyH.cons rfl (fun K hK => ?_) AllReadyH.nil
        go_simp
        (go_at_call 11; refine (few_any _ _).mono ?_; rintro e w9 ⟨m1, rfl, hm1, hw⟩; subst w9)
        go_wp2_with fail
        refine hK.out _ _ ?_ (fun hHeld => ?_)
        · ((try dsimp only); all_goals trivial)
        clear hK K
        try simp only [Act.put, List.getElem_toArray, List.getElem_cons_succ, List.getElem_cons_zero, List.setIfInBounds_toArray, List.set_cons_zero, List.set_cons_succ]
        refine wpAnyH_ready (rs := [3]) (by kernel_rfl) (by simp) ?_
        refine AllReadyH.cons rfl (fun K hK => ?_) AllReadyH.nil
        go_simp
        (go_at_call 11; refine (few_any _ _).mono ?_; rintro e w9 ⟨n1, rfl, hn1, hw⟩; subst w9)
        go_wp2_with fail
        refine hK.out _ _ ?_ (fun hHeld => ?_)
        · ((try dsimp only); all_goals trivial)
        clear hK K
        try simp only [Act.put, List.getElem_toArray, List.getElem_cons_succ, List.getElem_cons_zero, List.setIfInBounds_toArray, List.set_cons_zero, List.set_cons_succ]
        refine wpAnyH_ready (rs := [6]) (by kernel_rfl) (by simp) ?_
        refine AllReadyH.cons rfl (fun K hK => ?_) AllReadyH.nil
        go_simp
        (go_at_call 11; refine (few_any _ _).mono ?_; rintro e w9 ⟨i1, rfl, hi1, hw⟩; subst w9)
        go_wp2_with fail
        refine hK.out _ _ ?_ (fun hHeld => ?_)
        · ((try dsimp only); all_goals trivial)
        clear hK K
        try simp only [Act.put, List.getElem_toArray, List.getElem_cons_succ, List.getElem_cons_zero, List.setIfInBounds_toArray, List.set_cons_zero, List.set_cons_succ]
        refine wpAnyH_ready (rs := [9]) (by kernel_rfl) (by simp) ?_
        refine AllReadyH.cons rfl (fun K hK => ?_) AllReadyH.nil
        go_simp
        (go_at_call 11; refine (few_any _ _).mono ?_; rintro e w9 ⟨p1, rfl, hp1, hw⟩; subst w9)
        go_wp2_with fail
        refine hK.out _ _ ?_ (fun hHeld => ?_)
        · ((try dsimp only); all_goals trivial)
        clear hK K
        try simp only [Act.put, List.getElem_toArray, List.getElem_cons_succ, List.getElem_cons_zero, List.setIfInBounds_toArray, List.set_cons_zero, List.set_cons_succ]
        refine wpAnyH_take (i := 10) (v := ?_) rfl (by kernel_rfl) (by kernel_rfl) (by kernel_rfl) (fun _ _ _ h => h) (Or.inl ⟨by rfl, ?_⟩) (by assumption) ?_
        rotate_left
        · (intro w hSw; (try dsimp only at hSw); first | (go_simp; done) | (go_simp; with_reducible rfl))
        try simp only [Act.put, List.getElem_toArray, List.getElem_cons_succ, List.getElem_cons_zero, List.setIfInBounds_toArray, List.set_cons_zero, List.set_cons_succ]
        refine wpAnyH_take (i := 11) (v := ?_) rfl (by kernel_rfl) (by kernel_rfl) (by kernel_rfl) (fun _ _ _ h => h) (Or.inl ⟨by rfl, ?_⟩) (by assumption) ?_
        rotate_left
        · (intro w hSw; (try dsimp only at hSw); first | (go_simp; done) | (go_simp; with_reducible rfl))
        try simp only [Act.put, List.getElem_toArray, List.getElem_cons_succ, List.getElem_cons_zero, List.setIfInBounds_toArray, List.set_cons_zero, List.set_cons_succ]
        refine wpAnyH_take (i := 12) (v := ?_) rfl (by kernel_rfl) (by kernel_rfl) (by kernel_rfl) (fun _ _ _ h => h) (Or.inl ⟨by rfl, ?_⟩) (by assumption) ?_
        rotate_left
        · (intro w hSw; (try dsimp only at hSw); first | (go_simp; done) | (go_simp; with_reducible rfl))
        try simp only [Act.put, List.getElem_toArray, List.getElem_cons_succ, List.getElem_cons_zero, List.setIfInBounds_toArray, List.set_cons_zero, List.set_cons_succ]
        refine wpAnyH_ready (rs := [13]) (by kernel_rfl) (by simp) ?_
        refine AllReadyH.cons rfl (fun K hK => ?_) AllReadyH.nil
        rw [if_pos (by rfl)]
        go_simp
        refine hK.out _ _ ?_ (fun hHeld => ?_)
        · ((try dsimp only); all_goals trivial)
        clear hK K
        try simp only [Act.put, List.getElem_toArray, List.getElem_cons_succ, List.getElem_cons_zero, List.setIfInBounds_toArray, List.set_cons_zero, List.set_cons_succ]
        refine wpAnyH_take (i := 14) (v := ?_) rfl (by kernel_rfl) (by kernel_rfl) (by kernel_rfl) (fun _ _ _ h => h) (Or.inl ⟨by rfl, ?_⟩) (by assumption) ?_
        rotate_left
        · (intro w hSw; (try dsimp only at hSw); first | (go_simp; done) | (go_simp; with_reducible rfl))
        try simp only [Act.put, List.getElem_toArray, List.getElem_cons_succ, List.getElem_cons_zero, List.setIfInBounds_toArray, List.set_cons_zero, List.set_cons_succ]
        refine wpAnyH_ready (rs := [15]) (by kernel_rfl) (by simp) ?_
        refine AllReadyH.cons rfl (fun K hK => ?_) AllReadyH.nil
        rw [if_pos (by rfl)]
        go_simp
        refine hK.out _ _ ?_ (fun hHeld => ?_)
        · ((try dsimp only); all_goals trivial)
        clear hK K
        try simp only [Act.put, List.getElem_toArray, List.getElem_cons_succ, List.getElem_cons_zero, List.setIfInBounds_toArray, List.set_cons_zero, List.set_cons_succ]
        refine wpAnyH_done (by kernel_rfl) ?_ _
        refine NoPanic.normal ?_
        go_wp2
        go_meet
        exact ⟨m1, n1, i1, p1, rfl, rfl, Hs.hid ⟨hm1.out, hn1.out, hi1.out, hp1.out⟩, heap_set (heap_set hP0 1 (.int .i64 i1)) 2 (.int .i64 p1), (HE0.out.drew.setN (by have := HPG.out; omega) 1 _).setN (by have := HPG.out; omega) 2 _⟩
  case rest =>
    obtain ⟨m1, n1, i1, p1, rfl, rfl, HB, hP1, hE1⟩ := hcut
    have HE1 := Hs.hid hE1
    clear c1 c2 hP0d hE1 f1w f2w c1w c2w
    have c0 := cellAt hP1 0
    have c3 := cellAt hP1 3
    have f3 := freeAt hP1 3
    simp at c0 c3
    go_upto_if 35 with fail
    go_cut [] (fun wx => ∃ (ys : List S32) (L : Nat), Hid (ys.length = L ∧ Sums32 w.heap ao cap ys ∧ L ≤ 10) ∧ wx.heap[P]? = some (.cells #[.int .i64 kd, .int .i64 i1, .int .i64 p1, .slice ao L cap] 24 (0, 0)) ∧ Ext [] w wx)
    case first =>
      by_cases hl10 : len ≤ 10
      · have hl1 : ¬ (10 : Int) < len := by omega
        have HL := Hs.hid hl10
        clear hl10
        go_wp2
        go_meet
        exact ⟨xs, len, Hs.hid ⟨HSX.out.2, HSX.out.1, HL.out⟩, hP1, HE1.out⟩
      · have hl1 : (10 : Int) < len := by omega
        have hl2 : (10 : Int) ≤ cap := by omega
        have hl3 : (10 : Nat) ≤ cap := by omega
        have HL := Hs.hid hl10
        have hset := heap_set hP1 3 (.slice ao 10 cap)
        have hxs := HE1.out.setN (by have := HPG.out; omega) (b := P) 3 (.slice ao 10 cap)
        clear hl10
        go_wp2
        go_meet
        exact ⟨xs.take 10, 10, Hs.hid ⟨by rw [List.length_take, HSX.out.2]; have := HL.out; omega, HSX.out.1.take 10, Nat.le_refl _⟩, hset, hxs⟩
    case rest =>
      obtain ⟨ys, L, HY, hP2, hE2⟩ := hcut
      clear c0 c3 f3 hP1 HE1
      have hz33 := (zero_of_info (P := Tryd.prog) infoHead)
      go_upto_region 8 with (first
        | (go_at_call 12; refine (sum32_any old HS.out.2.1 _).mono ?_; rintro e w4 ⟨x, rfl, hxx, hx4⟩)
        | (go_at_call 12; refine (sum32_any root HS.out.2.2 _).mono ?_; rintro e w5 ⟨y, rfl, hyy, hx5⟩)
        | (refine wpList_yield (.agg (headV m1 x)) (by rfl) (exec_build #[(0, .tmp 40), (1, .tmp 42)] rfl [(0, .int .i64 m1), (1, .agg x.V)] _ _ (by first | (go_simp; done) | (go_simp; rfl) | (simp [Act.eval]; done)) (head_built m1 x)) ?_)
        | (refine wpList_yield (.agg (headV n1 y)) (by rfl) (exec_build #[(0, .tmp 44), (1, .tmp 46)] rfl [(0, .int .i64 n1), (1, .agg y.V)] _ _ (by first | (go_simp; done) | (go_simp; rfl) | (simp [Act.eval]; done)) (head_built n1 y)) ?_)
        | (refine wpList_store_row rfl 32 (.tmp 13) (.tmp 43) rfl w5.heap.size (headV m1 x) rfl rfl _ _ (heap_old' _ _ (heap_new w5 _)) (by rw [headV_size]; exact hz33.2) (by rw [headV_size]; rfl) (headV_one _ _) ?_)
        | (refine wpList_store_row rfl 32 (.tmp 14) (.tmp 47) rfl (w5.heap.size + 1) (headV n1 y) rfl rfl _ _ (row2_at w5 _ _ (headV m1 x)) (by rw [headV_size]; exact hz33.2) (by rw [headV_size]; rfl) (headV_one _ _) ?_))
      obtain ⟨hHo, hHn, hx6⟩ := row2_two w5 head0 head0 (headV m1 x) (headV n1 y) 32 32
      generalize (((w5.alloc (.cells head0 32)).alloc (.cells head0 32)).setRow w5.heap.size (headV m1 x)).setRow (w5.heap.size + 1) (headV n1 y) = W at hHo hHn hx6 ⊢
      obtain ⟨Ho, hHoo⟩ : ∃ X, w5.heap.size = X := ⟨_, rfl⟩
      obtain ⟨Hn, hHnn⟩ : ∃ Y, Ho + 1 = Y := ⟨_, rfl⟩
      rw [hHoo] at hHo hHn
      rw [hHnn] at hHn
      try rw [hHoo]
      try rw [hHnn]
      have hE6 := (hx4.trans0 hx5).trans0 hx6
      have hPW := hE6.same hP2 List.not_mem_nil
      have HEW := Hs.hid (hE2.trans0 hE6)
      clear hHoo hHnn hx4 hx5 hx6 hE6 hE2 hP2 hz33
      have b1 := HB.out
      have HPV := Hs.hid (fun w' (h : Sums32 w'.heap ao cap ys) => proves_any lf (by have := HLF.out; omega) kd i1 p1 m1 n1 (by omega) x y ys ao cap w' h L HY.out.1)
      have HPI := Hs.hid (fun w' (h : Sums32 w'.heap ao cap ys) => pInclH_any lf (by have := HLF.out; omega) i1 n1 (by omega) y ys L HY.out.1 ao cap w' h)
      have hpc := fun w' (h : Sums32 w'.heap ao cap ys) => pConsH_any m1 n1 (by omega) x y ys ao cap w' h
      rw [HY.out.1] at hpc
      have HPC := Hs.hid hpc
      have HSU0 := Hs.hid (HY.out.2.1.ext HEW.out (by simp))
      have HR := Hs.hid (show provesN kd i1 p1 m1 n1 (dig (leaf2 lf)) x y ys = if kd = 1 ∧ p1 = n1 then ⟨inclN (dig (leaf2 lf)) i1 n1 y ys, stLeaf, i1⟩ else if kd = 2 ∧ p1 = n1 ∧ i1 = m1 then ⟨consN m1 n1 x y ys, stPrefix, m1⟩ else ⟨4, stProof, p1⟩ from rfl)
      generalize provesN kd i1 p1 m1 n1 (dig (leaf2 lf)) x y ys = R at HR HPV
      obtain ⟨rI, hrI, hrI2⟩ := inclN_nat (dig (leaf2 lf)) y i1 n1 ys
      obtain ⟨rC, hrC, hrC2⟩ := consN_nat m1 n1 x y ys
      rw [hrI] at HPI HR
      rw [hrC] at HPC HR
      have HRN := Hs.hid (And.intro hrI2 hrC2)
      clear b1 hpc hrI hrC hrI2 hrC2 hxx hyy
      go_upto_region 9 with (first
        | (refine wpList_yield (.agg #[.int .i64 kd, .int .i64 i1, .int .i64 p1, .slice ao L cap]) (by rfl) (exec_load_rowPf (.tmp 6) rfl P rfl kd i1 p1 ao L cap _ ⟨_, hPW⟩) ?_)
        | (refine wpList_yield (.agg (headV m1 x)) (by rfl) (exec_load_rowHd (.tmp 13) rfl Ho rfl m1 x _ ⟨_, hHo⟩) ?_)
        | (refine wpList_yield (.agg (headV n1 y)) (by rfl) (exec_load_rowHd (.tmp 14) rfl Hn rfl n1 y _ ⟨_, hHn⟩) ?_)
        | (go_at_call 13; with_reducible refine (HPV.out _ HSU0.out).mono ?_; rintro e W8 ⟨v, rfl, hv, hx8⟩))
      replace hPW := hx8.same hPW List.not_mem_nil
      replace hHo := hx8.same hHo List.not_mem_nil
      replace hHn := hx8.same hHn List.not_mem_nil
      replace HEW := Hs.hid (HEW.out.trans0 hx8)
      have HSU := Hs.hid (HY.out.2.1.ext HEW.out (by simp))
      clear hx8 HPV HSU0
      generalize W8 = W at *
      have c0 := cellAt hPW 0
      have c1 := cellAt hPW 1
      have c2 := cellAt hPW 2
      simp at c0 c1 c2
      have PTH := Hs.hid (fun (r : Nat) (hr : r < 21) (st : ByteArray) (hst : st.size ≤ 100) (a : Int) (v : Value) (w' : World) (hx : Ext [] W w') (hv : ErrIs w'.heap (r : Int) st a v) => pathE_any r hr st hst a v w' (HG.out.ext (HEW.out.trans0 hx) List.not_mem_nil) hv)
      by_cases hA : kd = 1 ∧ p1 = n1
      · obtain ⟨rfl, rfl⟩ := hA
        have hR : R = ⟨rI, stLeaf, i1⟩ := by rw [HR.out, if_pos ⟨rfl, rfl⟩]
        rw [hR] at hv
        have HP1 := Hs.hid (fun w' (hx : Ext [] W w') => PTH.out rI HRN.out.1 stLeaf (by decide) i1 v w' hx (hv.out.ext hx))
        have HP2 := Hs.hid (fun (v2 : Value) w' (hx : Ext [] W w') (h : ErrIs w'.heap (rI : Int) ⟨#[108, 101, 97, 102]⟩ i1 v2) => PTH.out rI HRN.out.1 stLeaf (by decide) i1 v2 w' hx h)
        have HIN := HPI
        generalize pathR rI stLeaf = PR at HP1 HP2
        have e0 : (p1 == p1) = true := by simp
        have ePR : (PR.toList == PR.toList) = true := by simp
        clear hR HR hv PTH HPI HPC HRN
        go_upto_region 10 with fail
        refine wp_region_noPanic ?_
        refine wp_region_held_drew (S := (fun w' => Ext [] W w')) (by kernel_rfl) ?_ (fun hHeld => ?_)
        · ((try dsimp only); exact (Ext.refl [] W).drew)
        refine wpAnyH_take (i := 0) (v := ?_) rfl (by kernel_rfl) (by kernel_rfl) (by kernel_rfl) (fun _ _ _ h => h) (Or.inl ⟨by rfl, ?_⟩) (by assumption) ?_
        rotate_left
        · (intro w hSw; (try dsimp only at hSw); first | (go_simp; done) | (go_simp; with_reducible rfl))
        try simp only [Act.put, List.getElem_toArray, List.getElem_cons_succ, List.getElem_cons_zero, List.setIfInBounds_toArray, List.set_cons_zero, List.set_cons_succ]
        refine wpAnyH_take (i := 2) (v := ?_) rfl (by kernel_rfl) (by kernel_rfl) (by kernel_rfl) (fun _ _ _ h => h) (Or.inl ⟨by rfl, ?_⟩) (by assumption) ?_
        rotate_left
        · (intro w hSw; (try dsimp only at hSw); first | (go_simp; done) | (go_simp; with_reducible rfl))
        try simp only [Act.put, List.getElem_toArray, List.getElem_cons_succ, List.getElem_cons_zero, List.setIfInBounds_toArray, List.set_cons_zero, List.set_cons_succ]
        refine wpAnyH_take (i := 3) (v := ?_) rfl (by kernel_rfl) (by kernel_rfl) (by kernel_rfl) (fun _ _ _ h => h) (Or.inl ⟨by rfl, ?_⟩) (by assumption) ?_
        rotate_left
        · (intro w hSw; (try dsimp only at hSw); first | (go_simp; done) | (go_simp; with_reducible rfl))
        try simp only [Act.put, List.getElem_toArray, List.getElem_cons_succ, List.getElem_cons_zero, List.setIfInBounds_toArray, List.set_cons_zero, List.set_cons_succ]
        refine wpAnyH_take (i := 4) (v := ?_) rfl (by kernel_rfl) (by kernel_rfl) (by kernel_rfl) (fun _ _ _ h => h) (Or.inl ⟨by rfl, ?_⟩) (by assumption) ?_
        rotate_left
        · (intro w hSw; (try dsimp only at hSw); have hq0 := hSw.same hPW List.not_mem_nil; have d1 := cellAt hq0 1; have d3 := cellAt hq0 3; simp at d1 d3; first | (go_simp; done) | (go_simp; with_reducible rfl))
        try simp only [Act.put, List.getElem_toArray, List.getElem_cons_succ, List.getElem_cons_zero, List.setIfInBounds_toArray, List.set_cons_zero, List.set_cons_succ]
        refine wpAnyH_take (i := 5) (v := _) rfl (by kernel_rfl) (by kernel_rfl) (by kernel_rfl) (fun _ _ _ h => h) (yieldsIf_of (.agg (headV p1 y)) (by rfl) (fun w' hw => exec_load_rowHd (.tmp 14) rfl Hn rfl p1 y w' ⟨_, hw.same hHn List.not_mem_nil⟩)) (by assumption) ?_
        try simp only [Act.put, List.getElem_toArray, List.getElem_cons_succ, List.getElem_cons_zero, List.setIfInBounds_toArray, List.set_cons_zero, List.set_cons_succ]
        refine wpAnyH_take (i := 6) (v := ?_) rfl (by kernel_rfl) (by kernel_rfl) (by kernel_rfl) (fun _ _ _ h => h) (Or.inl ⟨by rfl, ?_⟩) (by assumption) ?_
        rotate_left
        · (intro w hSw; (try dsimp only at hSw); first | (go_simp; done) | (go_simp; with_reducible rfl))
        try simp only [Act.put, List.getElem_toArray, List.getElem_cons_succ, List.getElem_cons_zero, List.setIfInBounds_toArray, List.set_cons_zero, List.set_cons_succ]
        refine wpAnyH_take (i := 7) (v := ?_) rfl (by kernel_rfl) (by kernel_rfl) (by kernel_rfl) (fun _ _ _ h => h) (Or.inl ⟨by rfl, ?_⟩) (by assumption) ?_
        rotate_left
        · (intro w hSw; (try dsimp only at hSw); have hq0 := hSw.same hPW List.not_mem_nil; have d1 := cellAt hq0 1; have d3 := cellAt hq0 3; simp at d1 d3; first | (go_simp; done) | (go_simp; with_reducible rfl))
        try simp only [Act.put, List.getElem_toArray, List.getElem_cons_succ, List.getElem_cons_zero, List.setIfInBounds_toArray, List.set_cons_zero, List.set_cons_succ]
        refine wpAnyH_ready (rs := [1]) (by kernel_rfl) (by simp) ?_
        refine AllReadyH.cons rfl (fun K hK => ?_) AllReadyH.nil
        go_simp
        (go_at_call 14; with_reducible refine (HP1.out _ hHeld).mono ?_; rintro e w10 ⟨rfl, hx10⟩)
        go_wp2_with fail
        refine hK.out _ _ ?_ (fun hHeld => ?_)
        · ((try dsimp only); exact Ext.trans0 hHeld hx10)
        clear hK K
        try simp only [Act.put, List.getElem_toArray, List.getElem_cons_succ, List.getElem_cons_zero, List.setIfInBounds_toArray, List.set_cons_zero, List.set_cons_succ]
        refine wpAnyH_ready (rs := [8]) (by kernel_rfl) (by simp) ?_
        refine AllReadyH.cons rfl (fun K hK => ?_) AllReadyH.nil
        go_simp
        (go_at_call 15; with_reducible refine (HIN.out _ (HSU.out.ext hHeld (by simp))).mono ?_; rintro e w11 ⟨v2, rfl, hv2, hx11⟩)
        go_wp2_with fail
        refine hK.out _ _ ?_ (fun hHeld => ?_)
        · ((try dsimp only); exact Ext.trans0 hHeld hx11)
        clear hK K
        try simp only [Act.put, List.getElem_toArray, List.getElem_cons_succ, List.getElem_cons_zero, List.setIfInBounds_toArray, List.set_cons_zero, List.set_cons_succ]
        refine wpAnyH_ready (rs := [9]) (by kernel_rfl) (by simp) ?_
        refine AllReadyH.cons rfl (fun K hK => ?_) AllReadyH.nil
        go_simp
        (go_at_call 14; with_reducible refine (HP2.out v2 _ hHeld hv2.out).mono ?_; rintro e w12 ⟨rfl, hx12⟩)
        go_wp2_with fail
        refine hK.out _ _ ?_ (fun hHeld => ?_)
        · ((try dsimp only); exact Ext.trans0 hHeld hx12)
        clear hK K
        try simp only [Act.put, List.getElem_toArray, List.getElem_cons_succ, List.getElem_cons_zero, List.setIfInBounds_toArray, List.set_cons_zero, List.set_cons_succ]
        refine wpAnyH_take (i := 10) (v := ?_) rfl (by kernel_rfl) (by kernel_rfl) (by kernel_rfl) (fun _ _ _ h => h) (Or.inl ⟨by rfl, ?_⟩) (by assumption) ?_
        rotate_left
        · (intro w hSw; (try dsimp only at hSw); first | (go_simp; done) | (go_simp; with_reducible rfl))
        try simp only [Act.put, List.getElem_toArray, List.getElem_cons_succ, List.getElem_cons_zero, List.setIfInBounds_toArray, List.set_cons_zero, List.set_cons_succ]
        refine wpAnyH_take (i := 11) (v := ?_) rfl (by kernel_rfl) (by kernel_rfl) (by kernel_rfl) (fun _ _ _ h => h) (Or.inl ⟨by rfl, ?_⟩) (by assumption) ?_
        rotate_left
        · (intro w hSw; (try dsimp only at hSw); first | (go_simp; done) | (go_simp; with_reducible rfl))
        try simp only [Act.put, List.getElem_toArray, List.getElem_cons_succ, List.getElem_cons_zero, List.setIfInBounds_toArray, List.set_cons_zero, List.set_cons_succ]
        refine wpAnyH_done (by kernel_rfl) ?_ _
        refine NoPanic.normal ?_
        go_wp2
        go_ret
        exact ⟨rfl, HEW.out.trans0 hHeld⟩
      · by_cases hC : kd = 2 ∧ p1 = n1 ∧ i1 = m1
        · obtain ⟨rfl, rfl, rfl⟩ := hC
          have hR : R = ⟨rC, stPrefix, i1⟩ := by rw [HR.out, if_neg hA, if_pos ⟨rfl, rfl, rfl⟩]
          rw [hR] at hv
          have HP1 := Hs.hid (fun w' (hx : Ext [] W w') => PTH.out rC HRN.out.2 stPrefix (by decide) i1 v w' hx (hv.out.ext hx))
          have HP2 := Hs.hid (fun (v2 : Value) w' (hx : Ext [] W w') (h : ErrIs w'.heap (rC : Int) ⟨#[112, 114, 101, 102, 105, 120]⟩ i1 v2) => PTH.out rC HRN.out.2 stPrefix (by decide) i1 v2 w' hx h)
          have HIN := HPC
          generalize pathR rC stPrefix = PR at HP1 HP2
          have e0 : (p1 == p1) = true := by simp
          have e2 : (i1 == i1) = true := by simp
          have ePR : (PR.toList == PR.toList) = true := by simp
          clear hR HR hv PTH HPI HPC HRN hA
          go_upto_region 12 with fail
          refine wp_region_noPanic ?_
          refine wp_region_held_drew (S := (fun w' => Ext [] W w')) (by kernel_rfl) ?_ (fun hHeld => ?_)
          · ((try dsimp only); exact (Ext.refl [] W).drew)
          refine wpAnyH_take (i := 0) (v := ?_) rfl (by kernel_rfl) (by kernel_rfl) (by kernel_rfl) (fun _ _ _ h => h) (Or.inl ⟨by rfl, ?_⟩) (by assumption) ?_
          rotate_left
          · (intro w hSw; (try dsimp only at hSw); first | (go_simp; done) | (go_simp; with_reducible rfl))
          try simp only [Act.put, List.getElem_toArray, List.getElem_cons_succ, List.getElem_cons_zero, List.setIfInBounds_toArray, List.set_cons_zero, List.set_cons_succ]
          refine wpAnyH_take (i := 2) (v := _) rfl (by kernel_rfl) (by kernel_rfl) (by kernel_rfl) (fun _ _ _ h => h) (yieldsIf_of (.agg (headV i1 x)) (by rfl) (fun w' hw => exec_load_rowHd (.tmp 13) rfl Ho rfl i1 x w' ⟨_, hw.same hHo List.not_mem_nil⟩)) (by assumption) ?_
          try simp only [Act.put, List.getElem_toArray, List.getElem_cons_succ, List.getElem_cons_zero, List.setIfInBounds_toArray, List.set_cons_zero, List.set_cons_succ]
          refine wpAnyH_take (i := 3) (v := _) rfl (by kernel_rfl) (by kernel_rfl) (by kernel_rfl) (fun _ _ _ h => h) (yieldsIf_of (.agg (headV p1 y)) (by rfl) (fun w' hw => exec_load_rowHd (.tmp 14) rfl Hn rfl p1 y w' ⟨_, hw.same hHn List.not_mem_nil⟩)) (by assumption) ?_
          try simp only [Act.put, List.getElem_toArray, List.getElem_cons_succ, List.getElem_cons_zero, List.setIfInBounds_toArray, List.set_cons_zero, List.set_cons_succ]
          refine wpAnyH_take (i := 4) (v := ?_) rfl (by kernel_rfl) (by kernel_rfl) (by kernel_rfl) (fun _ _ _ h => h) (Or.inl ⟨by rfl, ?_⟩) (by assumption) ?_
          rotate_left
          · (intro w hSw; (try dsimp only at hSw); first | (go_simp; done) | (go_simp; with_reducible rfl))
          try simp only [Act.put, List.getElem_toArray, List.getElem_cons_succ, List.getElem_cons_zero, List.setIfInBounds_toArray, List.set_cons_zero, List.set_cons_succ]
          refine wpAnyH_take (i := 5) (v := ?_) rfl (by kernel_rfl) (by kernel_rfl) (by kernel_rfl) (fun _ _ _ h => h) (Or.inl ⟨by rfl, ?_⟩) (by assumption) ?_
          rotate_left
          · (intro w hSw; (try dsimp only at hSw); have hq0 := hSw.same hPW List.not_mem_nil; have d1 := cellAt hq0 1; have d3 := cellAt hq0 3; simp at d1 d3; first | (go_simp; done) | (go_simp; with_reducible rfl))
          try simp only [Act.put, List.getElem_toArray, List.getElem_cons_succ, List.getElem_cons_zero, List.setIfInBounds_toArray, List.set_cons_zero, List.set_cons_succ]
          refine wpAnyH_ready (rs := [1]) (by kernel_rfl) (by simp) ?_
          refine AllReadyH.cons rfl (fun K hK => ?_) AllReadyH.nil
          go_simp
          (go_at_call 14; with_reducible refine (HP1.out _ hHeld).mono ?_; rintro e w10 ⟨rfl, hx10⟩)
          go_wp2_with fail
          refine hK.out _ _ ?_ (fun hHeld => ?_)
          · ((try dsimp only); exact Ext.trans0 hHeld hx10)
          clear hK K
          try simp only [Act.put, List.getElem_toArray, List.getElem_cons_succ, List.getElem_cons_zero, List.setIfInBounds_toArray, List.set_cons_zero, List.set_cons_succ]
          refine wpAnyH_ready (rs := [6]) (by kernel_rfl) (by simp) ?_
          refine AllReadyH.cons rfl (fun K hK => ?_) AllReadyH.nil
          go_simp
          (go_at_call 16; with_reducible refine (HIN.out _ (HSU.out.ext hHeld (by simp))).mono ?_; rintro e w11 ⟨v2, rfl, hv2, hx11⟩)
          go_wp2_with fail
          refine hK.out _ _ ?_ (fun hHeld => ?_)
          · ((try dsimp only); exact Ext.trans0 hHeld hx11)
          clear hK K
          try simp only [Act.put, List.getElem_toArray, List.getElem_cons_succ, List.getElem_cons_zero, List.setIfInBounds_toArray, List.set_cons_zero, List.set_cons_succ]
          refine wpAnyH_ready (rs := [7]) (by kernel_rfl) (by simp) ?_
          refine AllReadyH.cons rfl (fun K hK => ?_) AllReadyH.nil
          go_simp
          (go_at_call 14; with_reducible refine (HP2.out v2 _ hHeld hv2.out).mono ?_; rintro e w12 ⟨rfl, hx12⟩)
          go_wp2_with fail
          refine hK.out _ _ ?_ (fun hHeld => ?_)
          · ((try dsimp only); exact Ext.trans0 hHeld hx12)
          clear hK K
          try simp only [Act.put, List.getElem_toArray, List.getElem_cons_succ, List.getElem_cons_zero, List.setIfInBounds_toArray, List.set_cons_zero, List.set_cons_succ]
          refine wpAnyH_take (i := 8) (v := ?_) rfl (by kernel_rfl) (by kernel_rfl) (by kernel_rfl) (fun _ _ _ h => h) (Or.inl ⟨by rfl, ?_⟩) (by assumption) ?_
          rotate_left
          · (intro w hSw; (try dsimp only at hSw); first | (go_simp; done) | (go_simp; with_reducible rfl))
          try simp only [Act.put, List.getElem_toArray, List.getElem_cons_succ, List.getElem_cons_zero, List.setIfInBounds_toArray, List.set_cons_zero, List.set_cons_succ]
          refine wpAnyH_take (i := 9) (v := ?_) rfl (by kernel_rfl) (by kernel_rfl) (by kernel_rfl) (fun _ _ _ h => h) (Or.inl ⟨by rfl, ?_⟩) (by assumption) ?_
          rotate_left
          · (intro w hSw; (try dsimp only at hSw); first | (go_simp; done) | (go_simp; with_reducible rfl))
          try simp only [Act.put, List.getElem_toArray, List.getElem_cons_succ, List.getElem_cons_zero, List.setIfInBounds_toArray, List.set_cons_zero, List.set_cons_succ]
          refine wpAnyH_done (by kernel_rfl) ?_ _
          refine NoPanic.normal ?_
          go_wp2
          go_ret
          exact ⟨rfl, HEW.out.trans0 hHeld⟩
        · have hR : R = ⟨4, stProof, p1⟩ := by rw [HR.out, if_neg hA, if_neg hC]
          rw [hR] at hv
          have HP1 := Hs.hid (fun w' (hx : Ext [] W w') => PTH.out 4 (by decide) stProof (by decide) p1 v w' hx (hv.out.ext hx))
          rw [path_proof_arg] at HP1
          clear hR HR hv PTH HPI HPC HRN
          by_cases hk : kd = 1
          · subst hk
            have e0 : (p1 == n1) = false := by simp; intro h; exact hA ⟨rfl, h⟩
            clear hA hC
            go_wp2_with (go_at_call 14; with_reducible refine (HP1.out _ (Ext.refl [] W)).mono ?_; rintro e w10 ⟨rfl, hx10⟩)
            go_ret
            exact ⟨rfl, HEW.out.trans0 hx10⟩
          · have e1 : (kd == 1) = false := by simp; exact hk
            by_cases h2 : kd = 2
            · subst h2
              by_cases hnn : p1 = n1
              · subst hnn
                have e0 : (p1 == p1) = true := by simp
                have e2 : (i1 == m1) = false := by simp; intro h; exact hC ⟨rfl, rfl, h⟩
                clear hA hC hk
                go_wp2_with (go_at_call 14; with_reducible refine (HP1.out _ (Ext.refl [] W)).mono ?_; rintro e w10 ⟨rfl, hx10⟩)
                go_ret
                exact ⟨rfl, HEW.out.trans0 hx10⟩
              · have e0 : (p1 == n1) = false := by simp; exact hnn
                clear hA hC hk hnn
                go_wp2_with (go_at_call 14; with_reducible refine (HP1.out _ (Ext.refl [] W)).mono ?_; rintro e w10 ⟨rfl, hx10⟩)
                go_ret
                exact ⟨rfl, HEW.out.trans0 hx10⟩
            · have e2 : (kd == 2) = false := by simp; exact h2
              clear hA hC hk h2
              go_wp2_with (go_at_call 14; with_reducible refine (HP1.out _ (Ext.refl [] W)).mono ?_; rintro e w10 ⟨rfl, hx10⟩)
              go_ret
              exact ⟨rfl, HEW.out.trans0 hx10⟩
end Go.Proofs.YtjicjadibaomkaaDoor
