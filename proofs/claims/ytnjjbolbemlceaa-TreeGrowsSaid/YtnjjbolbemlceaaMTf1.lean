/-
  Texts of this claim, put together: Clone, Forgets.
-/
import Derived.Test.YtnjjbolbemlceaaMTp1
set_option linter.unusedSimpArgs false
set_option linter.unusedVariables false
set_option maxHeartbeats 2000000
set_option maxRecDepth 100000
namespace Go.Proofs.Ytnjjbolbemlceaa
open Go.RowKit Go.Hs Go.Dg

theorem RangeG.mono {κ ν : Type} [DecidableEq κ] {enc : κ → Value} {venc : ν → Value} {l : List (κ × ν)} {good good' : κ → Bool} {x : Option κ} {h : Array Obj} {r bm : Nat} (i : RangeG enc venc good x h r bm l) (hg : ∀ k, good k = true → good' k = true) : RangeG enc venc good' x h r bm l := by
  obtain ⟨es, clock, since, c0, seen, a1, a2, a3, a4, a5, a6, a7⟩ := i
  refine ⟨es, clock, since, c0, seen, a1, a2, a3, a4, a5, a6, fun y hy hs => ?_⟩
  obtain ⟨q, h1, h2⟩ := a7 y hy hs
  exact ⟨q, h1, h2.imp (hg q) id⟩
/-- Behind which leaf a place ends. -/
def endP (p : Pl) : Nat := (p.2.toNat + 1) * 2 ^ p.1.toNat
theorem endP_N (v i : Nat) : endP (plN v i) = (i + 1) * 2 ^ v := by simp [endP, plN]
def goodC (m : Nat) (l2 : List (Pl × ByteArray)) (p : Pl) : Bool := decide (m < endP p) || decide (p ∈ l2.map (·.1))
theorem TInv.take {L : List ByteArray} {m floor : Nat} {l : List (Pl × ByteArray)} (h : TInv L m floor l) (hm : m ≤ L.length) : TInv (L.take m) m floor l := by
  have ht : ∀ v i, (i + 1) * 2 ^ v ≤ m → textP (L.take m) v i = textP L v i := fun v i hi => by
    have := textP_app (L.take m) (L.drop m) v i (by rw [List.length_take]; omega)
    rw [List.take_append_drop] at this
    exact this.symm
  refine ⟨fun p hp => ?_, fun v i h1 h2 => ?_⟩
  · obtain ⟨v, i, rfl, h1, h2⟩ := h.mem p hp
    exact ⟨v, i, by rw [ht v i h1], h1, h2⟩
  · rw [ht v i h1]; exact h.all v i h1 h2
/-- What a clone's map holds, when all was gone through. -/
theorem TInv.clone {L : List ByteArray} {n m floor : Nat} {l l2 : List (Pl × ByteArray)} (h : TInv L n floor l) (hn : (l.map (·.1)).Nodup) (hm : m ≤ n) (hl : n = L.length) (h2 : ∀ p ∈ l2, p ∈ l ∧ endP p.1 ≤ m) (hall : ∀ p ∈ l, goodC m l2 p.1 = true) : TInv (L.take m) m floor l2 := by
  refine (h.less hm fun p => ⟨fun hp => ?_, fun hp => ?_⟩).take (by omega)
  · obtain ⟨h3, h4⟩ := h2 p hp
    obtain ⟨v, i, rfl, h5, h6⟩ := h.mem p h3
    exact ⟨h3, v, i, rfl, by rw [← endP_N]; exact h4⟩
  · obtain ⟨hp, v, i, he, h5⟩ := hp
    have h6 := hall p hp
    unfold goodC at h6
    simp only [Bool.or_eq_true, decide_eq_true_eq] at h6
    rcases h6 with h6 | h6
    · rw [he, endP_N] at h6; omega
    · obtain ⟨q, hq, hqe⟩ := List.mem_map.1 h6
      have h7 := (h2 q hq).1
      have : q = p := inj_of_nodup_map (·.1) l hn q h7 p hp hqe
      rwa [← this]
theorem treeClone_any {w : World} {T M floor : Nat} {L : List ByteArray} (m : Nat) (t : Tr w.heap T M L floor) (hN : L.length ≤ 2 ^ 30) (hm : m ≤ L.length) (hf : floor ≤ m) :
    Calls Try.prog 23 #[.pointer (some ⟨T, 0, none⟩), .int .i64 m] w fun e w' => ∃ T2 M2, e = .returned (.pointer (some ⟨T2, 0, none⟩)) ∧ Tr w'.heap T2 M2 (L.take m) floor ∧ w.heap.size ≤ T2 ∧ w.heap.size ≤ M2 ∧ Ext [] w w' := by
  obtain ⟨l, t, hI, hfl⟩ := t
  have hp30 := p30
  have hmin : min (m : Int) (L.length : Int) = (m : Int) := by omega
  have hmax : max (0 : Int) (m : Int) = (m : Int) := by omega
  have hmin2 : min (floor : Int) (m : Int) = (floor : Int) := by omega
  have hmax2 : max (m : Int) 0 = (m : Int) := by omega
  have hmin3 : min m L.length = m := by omega
  have hmin4 : min floor m = floor := by omega
  have hmk := fun w => run_makeMap (P := Try.prog) 58 w
  have HI := Hs.hid (And.intro hI (And.intro hN (And.intro hm hf)))
  clear hI hN hm hf hfl hp30
  go_enter Try.func23, Try.ntmps23
  go_upto_region 1 with fail
  go_cut [5] (fun s5 wx => ∃ T2 M2 : Nat, s5 = .pointer (some ⟨T2, 0, none⟩) ∧ wx.heap[T2]? = some (.cells #[.map (some M2), .int .i64 m, .int .i64 floor] 60 (0, 0)) ∧ MapAt encP encS wx.heap M2 [] ∧ w.heap.size ≤ T2 ∧ w.heap.size ≤ M2 ∧ Ext [] w wx)
  case first =>
    refine wp_region_noPanic ?_
    refine wp_region_held_drew (S := (fun w' => TAt w'.heap T M L.length floor l)) (by kernel_rfl) ?_ (fun hHeld => ?_)
    · ((try dsimp only); exact t)
    refine wpAnyH_take (i := 1) (v := ?_) rfl (by kernel_rfl) (by kernel_rfl) (by kernel_rfl) (fun _ _ _ h => h) (Or.inl ⟨by rfl, ?_⟩) (by assumption) ?_
    rotate_left
    · (intro w hSw; (try dsimp only at hSw); first | (go_simp; done) | (go_simp; with_reducible rfl))
    try simp only [Act.put, List.getElem_toArray, List.getElem_cons_succ, List.getElem_cons_zero, List.setIfInBounds_toArray, List.set_cons_zero, List.set_cons_succ]
    refine wpAnyH_take (i := 2) (v := ?_) rfl (by kernel_rfl) (by kernel_rfl) (by kernel_rfl) (fun _ _ _ h => h) (Or.inl ⟨by rfl, ?_⟩) (by assumption) ?_
    rotate_left
    · (intro w hSw; (try dsimp only at hSw); first | (go_simp; done) | (go_simp; with_reducible rfl))
    try simp only [Act.put, List.getElem_toArray, List.getElem_cons_succ, List.getElem_cons_zero, List.setIfInBounds_toArray, List.set_cons_zero, List.set_cons_succ]
    refine wpAnyH_take (i := 3) (v := ?_) rfl (by kernel_rfl) (by kernel_rfl) (by kernel_rfl) (fun _ _ _ h => h) (Or.inl ⟨by rfl, ?_⟩) (by assumption) ?_
    rotate_left
    · (intro w hSw; (try dsimp only at hSw); first | (go_simp; done) | (go_simp; with_reducible rfl))
    try simp only [Act.put, List.getElem_toArray, List.getElem_cons_succ, List.getElem_cons_zero, List.setIfInBounds_toArray, List.set_cons_zero, List.set_cons_succ]
    refine wpAnyH_take (i := 4) (v := ?_) rfl (by kernel_rfl) (by kernel_rfl) (by kernel_rfl) (fun _ _ _ h => h) (Or.inl ⟨by rfl, ?_⟩) (by assumption) ?_
    rotate_left
    · (intro w hSw; (try dsimp only at hSw); first | (go_simp; done) | (go_simp; with_reducible rfl))
    try simp only [Act.put, List.getElem_toArray, List.getElem_cons_succ, List.getElem_cons_zero, List.setIfInBounds_toArray, List.set_cons_zero, List.set_cons_succ]
    refine wpAnyH_take (i := 5) (v := ?_) rfl (by kernel_rfl) (by kernel_rfl) (by kernel_rfl) (fun _ _ _ h => h) (Or.inl ⟨by rfl, ?_⟩) (by assumption) ?_
    rotate_left
    · (intro w hSw; (try dsimp only at hSw); have hq := (TAt.get hSw).2.1; first | (go_simp; done) | (go_simp; with_reducible rfl))
    try simp only [Act.put, List.getElem_toArray, List.getElem_cons_succ, List.getElem_cons_zero, List.setIfInBounds_toArray, List.set_cons_zero, List.set_cons_succ]
    refine wpAnyH_take (i := 6) (v := ?_) rfl (by kernel_rfl) (by kernel_rfl) (by kernel_rfl) (fun _ _ _ h => h) (Or.inl ⟨by rfl, ?_⟩) (by assumption) ?_
    rotate_left
    · (intro w hSw; (try dsimp only at hSw); first | (go_simp; done) | (go_simp; with_reducible rfl))
    try simp only [Act.put, List.getElem_toArray, List.getElem_cons_succ, List.getElem_cons_zero, List.setIfInBounds_toArray, List.set_cons_zero, List.set_cons_succ]
    refine wpAnyH_take (i := 7) (v := ?_) rfl (by kernel_rfl) (by kernel_rfl) (by kernel_rfl) (fun _ _ _ h => h) (Or.inl ⟨by rfl, ?_⟩) (by assumption) ?_
    rotate_left
    · (intro w hSw; (try dsimp only at hSw); first | (go_simp; done) | (go_simp; with_reducible rfl))
    try simp only [Act.put, List.getElem_toArray, List.getElem_cons_succ, List.getElem_cons_zero, List.setIfInBounds_toArray, List.set_cons_zero, List.set_cons_succ]
    refine wpAnyH_take (i := 8) (v := ?_) rfl (by kernel_rfl) (by kernel_rfl) (by kernel_rfl) (fun _ _ _ h => h) (Or.inl ⟨by rfl, ?_⟩) (by assumption) ?_
    rotate_left
    · (intro w hSw; (try dsimp only at hSw); first | (go_simp; done) | (go_simp; with_reducible rfl))
    try simp only [Act.put, List.getElem_toArray, List.getElem_cons_succ, List.getElem_cons_zero, List.setIfInBounds_toArray, List.set_cons_zero, List.set_cons_succ]
    refine wpAnyH_take (i := 9) (v := ?_) rfl (by kernel_rfl) (by kernel_rfl) (by kernel_rfl) (fun _ _ _ h => h) (Or.inl ⟨by rfl, ?_⟩) (by assumption) ?_
    rotate_left
    · (intro w hSw; (try dsimp only at hSw); first | (go_simp; done) | (go_simp; with_reducible rfl))
    try simp only [Act.put, List.getElem_toArray, List.getElem_cons_succ, List.getElem_cons_zero, List.setIfInBounds_toArray, List.set_cons_zero, List.set_cons_succ]
    refine wpAnyH_take (i := 10) (v := ?_) rfl (by kernel_rfl) (by kernel_rfl) (by kernel_rfl) (fun _ _ _ h => h) (Or.inl ⟨by rfl, ?_⟩) (by assumption) ?_
    rotate_left
    · (intro w hSw; (try dsimp only at hSw); first | (go_simp; done) | (go_simp; with_reducible rfl))
    try simp only [Act.put, List.getElem_toArray, List.getElem_cons_succ, List.getElem_cons_zero, List.setIfInBounds_toArray, List.set_cons_zero, List.set_cons_succ]
    refine wpAnyH_take (i := 11) (v := ?_) rfl (by kernel_rfl) (by kernel_rfl) (by kernel_rfl) (fun _ _ _ h => h) (Or.inl ⟨by rfl, ?_⟩) (by assumption) ?_
    rotate_left
    · (intro w hSw; (try dsimp only at hSw); have hq := (TAt.get hSw).2.2; first | (go_simp; done) | (go_simp; with_reducible rfl))
    try simp only [Act.put, List.getElem_toArray, List.getElem_cons_succ, List.getElem_cons_zero, List.setIfInBounds_toArray, List.set_cons_zero, List.set_cons_succ]
    refine wpAnyH_ready (rs := [0]) (by kernel_rfl) (by simp) ?_
    refine AllReadyH.cons rfl (fun K hK => ?_) AllReadyH.nil
    rw [if_pos (by rfl)]
    go_simp
    refine hK.out _ _ ?_ (fun hHeld => ?_)
    · ((try dsimp only); exact TAt.ext0 hHeld ((Ext.refl [] _).alloc _))
    clear hK K
    try simp only [Act.put, List.getElem_toArray, List.getElem_cons_succ, List.getElem_cons_zero, List.setIfInBounds_toArray, List.set_cons_zero, List.set_cons_succ]
    refine wpAnyH_take (i := 12) (v := ?_) rfl (by kernel_rfl) (by kernel_rfl) (by kernel_rfl) (fun _ _ _ h => h) (Or.inl ⟨by rfl, ?_⟩) (by assumption) ?_
    rotate_left
    · (intro w hSw; (try dsimp only at hSw); first | (go_simp; done) | (go_simp; with_reducible rfl))
    try simp only [Act.put, List.getElem_toArray, List.getElem_cons_succ, List.getElem_cons_zero, List.setIfInBounds_toArray, List.set_cons_zero, List.set_cons_succ]
    refine wpAnyH_ready (rs := [13]) (by kernel_rfl) (by simp) ?_
    refine AllReadyH.cons rfl (fun K hK => ?_) AllReadyH.nil
    rw [if_pos (by rfl)]
    go_simp
    refine hK.out _ _ ?_ (fun hHeld => ?_)
    · ((try dsimp only); exact TAt.ext0 hHeld ((Ext.refl [] _).alloc _))
    clear hK K
    try simp only [Act.put, List.getElem_toArray, List.getElem_cons_succ, List.getElem_cons_zero, List.setIfInBounds_toArray, List.set_cons_zero, List.set_cons_succ]
    refine wpAnyH_take (i := 14) (v := ?_) rfl (by kernel_rfl) (by kernel_rfl) (by kernel_rfl) (fun _ _ _ h => h) (Or.inl ⟨by rfl, ?_⟩) (by assumption) ?_
    rotate_left
    · (intro w hSw; (try dsimp only at hSw); first | (go_simp; done) | (go_simp; with_reducible rfl))
    try simp only [Act.put, List.getElem_toArray, List.getElem_cons_succ, List.getElem_cons_zero, List.setIfInBounds_toArray, List.set_cons_zero, List.set_cons_succ]
    refine wpAnyH_done (by kernel_rfl) ?_ _
    refine NoPanic.normal ?_
    go_wp2; go_meet; exact ⟨_, w.heap.size, rfl, (alloc_two' w (.map #[] 0) (.cells #[.map (some w.heap.size), .int .i64 m, .int .i64 floor] 60)).2.1, (mapAt_new encP encS w).ext (((Ext.refl [] (w.alloc (.map #[] 0))).alloc (.cells #[.map (some w.heap.size), .int .i64 m, .int .i64 floor] 60)).drew) List.not_mem_nil, Nat.le_succ _, Nat.le_refl _, (((Ext.refl [] w).alloc _).alloc _).drew⟩
  case rest =>
    obtain ⟨T2, M2, rfl, hT2, hM2, hTs, hMs, hx1⟩ := hcut
    have HTM := Hs.hid (And.intro hTs hMs)
    have q1 : wc.cell? ⟨T2, 1, none⟩ = some (.int .i64 m) := by rw [cellAt hT2]; rfl
    have q2 : wc.cell? ⟨T2, 2, none⟩ = some (.int .i64 floor) := by rw [cellAt hT2]; rfl
    have qf := freeAt hT2 2
    have hlT2 := lt_of_heap t.cells
    have hlM2 := t.map.lt
    go_upto_region 2 with fail
    refine wp_region_tail 12 (by kernel_rfl) (by kernel_rfl) ?_
    simp only [List.take_succ_cons, List.take_zero, List.drop_succ_cons, List.drop_zero]
    iterate 12 still_step
    refine wpStill_nil ?_
    have hset : (wc.setCell ⟨T2, 2, none⟩ (.int .i64 floor)).drew.heap[T2]? = some (.cells #[.map (some M2), .int .i64 m, .int .i64 floor] 60 (0, 0)) := heap_set hT2 2 (.int .i64 floor)
    have hMs2 : MapAt encP encS (wc.setCell ⟨T2, 2, none⟩ (.int .i64 floor)).drew.heap M2 [] := hM2.same (heap_set_ne wc _ _ (hM2.ne hT2))
    have hx2 : Ext [] w (wc.setCell ⟨T2, 2, none⟩ (.int .i64 floor)).drew := (hx1.trans ((Ext.refl [T2] wc).set' (by simp) 2 (.int .i64 floor)) (fun g hg => .inr (by simp at hg; subst hg; exact hTs))).drew
    have tW := t.ext0 hx2
    have c0 := tW.get.1
    obtain ⟨o, hrun, hRG⟩ := run_rangeG (P := Try.prog) (t := 58) (goodC m []) Try.underlying58 tW.map
    clear hlT2 hlM2 hx1 hTs hMs
    go_upto_region 3 with fail
    clear hM2 hT2 q1 q2 qf
    generalize (wc.setCell ⟨T2, 2, none⟩ (.int .i64 floor)).drew = W2 at hset hMs2 hx2 tW c0 hrun hRG ⊢
    go_wp2_with fail
    clear hrun c0
    have hs3 := heap_old' _ o hset
    have hM3 := hMs2.ext ((Ext.refl [] W2).alloc o) List.not_mem_nil
    have hx3 := hx2.alloc o
    generalize W2.alloc o = W3 at hs3 hM3 hx3 hRG ⊢
    generalize hrr : W2.heap.size = r at hRG ⊢
    have HRR := Hs.hid (show w.heap.size ≤ r by rw [← hrr]; exact hx2.size)
    clear hrr hset hMs2 hx2 tW
    go_loopw [39] (fun _ wq => ∃ l2, RangeG encP encS (goodC m l2) none wq.heap r M l ∧ MapAt encP encS wq.heap M2 l2 ∧ wq.heap[T2]? = some (.cells #[.map (some M2), .int .i64 m, .int .i64 floor] 60 (0, 0)) ∧ Hid (∀ p ∈ l2, p ∈ l ∧ endP p.1 ≤ m) ∧ Ext [] w wq) (fun _ wq => leftN wq.heap r M)
    case atStart => exact ⟨[], hRG, hM3, hs3, Hs.hid (by simp), hx3⟩
    case round =>
      clear hRG hM3 hs3 hx3
      obtain ⟨l2, hRG, hM3, hs3, HL2, hE⟩ := hrel
      rcases run_nextG (P := Try.prog) 0 encP_inj hRG with ⟨h0, hnx, hall⟩ | ⟨p, hp, w7, hlt, hnx, hen, hRG7, hx7⟩
      · have HALL := Hs.hid hall
        clear hall
        go_wp2_with fail
        go_ret
        have hlen : (L.take m).length = m := by rw [List.length_take]; have := HI.out.2.2.1; omega
        refine ⟨T2, M2, rfl, ⟨l2, ⟨by rw [hlen]; exact hs3, hM3⟩, ?_, by rw [hlen]; exact HI.out.2.2.2⟩, HTM.out.1, HTM.out.2, hE⟩
        rw [hlen]
        exact HI.out.1.clone t.map.nodup HI.out.2.2.1 rfl HL2.out HALL.out
      · obtain ⟨v, i, rfl, hvi, hfl⟩ := HI.out.1.mem p hp
        obtain ⟨x, hx⟩ : ∃ x, textP L v i = x := ⟨_, rfl⟩
        rw [hx] at hp hnx hen
        simp only [] at hRG7
        rw [show encP (plN v i) = .agg #[.int .i64 v, .int .i64 i] from rfl, show encS x = .agg (digV x) from rfl] at hen
        have hsm : v ≤ 50 ∧ (i + 1) * 2 ^ v ≤ 2 ^ 50 := by
          have h1 : (2 : Nat) ^ 50 = 1125899906842624 := by decide
          have h2 := p30
          have h3 := HI.out.2.1
          have h4 : 2 ^ v ≤ (i + 1) * 2 ^ v := Nat.le_mul_of_pos_left _ (by omega)
          exact ⟨(Nat.pow_le_pow_iff_right (a := 2) (by omega)).1 (by omega), by omega⟩
        have hrlt : r < wr.heap.size := hRG.at.lt
        have hrT2 : r ≠ T2 := by
          obtain ⟨_, _, _, _, _, _, _, h1, _⟩ := hRG.at
          exact ne_block h1 hs3 (by simp)
        have hrM2 : r ≠ M2 := by
          obtain ⟨_, _, _, _, _, _, _, h1, _⟩ := hRG.at
          obtain ⟨es, c, h2, _⟩ := hM3
          exact ne_block h1 h2 (by simp)
        have hMM2 : M ≠ M2 := by have := HTM.out.2; have := t.map.lt; omega
        have hE7 := hE.trans hx7 (fun g hg => .inr (by simp at hg; subst hg; exact HRR.out))
        have hs7 := hx7.same hs3 (by simpa using Ne.symm hrT2)
        have hM7 := hM3.ext hx7 (by simpa using Ne.symm hrM2)
        have HF := Hs.hid (And.intro hsm (And.intro hvi (And.intro hx (And.intro hp (And.intro hMM2 (And.intro hrM2 hlt))))))
        clear hsm hvi hx hrT2 hrM2 hMM2 hrlt hfl hE hs3 hM3 hRG hlt hp
        obtain ⟨hP, hX, hx8, _⟩ := alloc_two' w7 (.cells #[.int .i64 0, .int .i64 0] 62) (.cells #[.int .u8 0, .int .u8 0, .int .u8 0, .int .u8 0, .int .u8 0, .int .u8 0, .int .u8 0, .int .u8 0, .int .u8 0, .int .u8 0, .int .u8 0, .int .u8 0, .int .u8 0, .int .u8 0, .int .u8 0, .int .u8 0, .int .u8 0, .int .u8 0, .int .u8 0, .int .u8 0, .int .u8 0, .int .u8 0, .int .u8 0, .int .u8 0, .int .u8 0, .int .u8 0, .int .u8 0, .int .u8 0, .int .u8 0, .int .u8 0, .int .u8 0, .int .u8 0] 27)
        go_upto_region 6 with (first
          | (refine wpList_store_row rfl 62 (.tmp 6) (.tmp 42) rfl w7.heap.size #[.int .i64 v, .int .i64 i] rfl rfl _ _ hP (by kernel_rfl) rfl (by simp [Value.oneCell']) ?_; have hP9 := setRow_heap _ _ _ #[.int .i64 v, .int .i64 i] _ _ hP; have hX9 := (setRow_other _ w7.heap.size _ #[.int .i64 v, .int .i64 i] (by omega)).trans hX)
          | (refine wpList_store_row rfl 27 (.tmp 7) (.tmp 43) rfl (w7.heap.size + 1) (digV x) rfl rfl _ _ hX9 (by rw [digV_size]; exact infoSum) (by rw [digV_size]; rfl) (digV_one _) ?_))
        have hX10 := setRow_heap _ _ _ (digV x) _ _ hX9
        have hP10 := (setRow_other _ (w7.heap.size + 1) _ (digV x) (by omega)).trans hP9
        have hx10 : Ext [] w7 ((((w7.alloc (.cells #[.int .i64 0, .int .i64 0] 62)).alloc (.cells #[.int .u8 0, .int .u8 0, .int .u8 0, .int .u8 0, .int .u8 0, .int .u8 0, .int .u8 0, .int .u8 0, .int .u8 0, .int .u8 0, .int .u8 0, .int .u8 0, .int .u8 0, .int .u8 0, .int .u8 0, .int .u8 0, .int .u8 0, .int .u8 0, .int .u8 0, .int .u8 0, .int .u8 0, .int .u8 0, .int .u8 0, .int .u8 0, .int .u8 0, .int .u8 0, .int .u8 0, .int .u8 0, .int .u8 0, .int .u8 0, .int .u8 0, .int .u8 0] 27)).setRow w7.heap.size #[.int .i64 v, .int .i64 i]).setRow (w7.heap.size + 1) (digV x)) := (hx8.trans (setRow_ext _ _) (fun g hg => .inr (by simp at hg; omega))).trans (setRow_ext _ _) (fun g hg => .inr (by simp at hg; omega))
        generalize (((w7.alloc (.cells #[.int .i64 0, .int .i64 0] 62)).alloc (.cells #[.int .u8 0, .int .u8 0, .int .u8 0, .int .u8 0, .int .u8 0, .int .u8 0, .int .u8 0, .int .u8 0, .int .u8 0, .int .u8 0, .int .u8 0, .int .u8 0, .int .u8 0, .int .u8 0, .int .u8 0, .int .u8 0, .int .u8 0, .int .u8 0, .int .u8 0, .int .u8 0, .int .u8 0, .int .u8 0, .int .u8 0, .int .u8 0, .int .u8 0, .int .u8 0, .int .u8 0, .int .u8 0, .int .u8 0, .int .u8 0, .int .u8 0, .int .u8 0] 27)).setRow w7.heap.size #[.int .i64 v, .int .i64 i]).setRow (w7.heap.size + 1) (digV x) = W10 at hX10 hP10 hx10 ⊢
        clear hP hX hx8 hP9 hX9 hnx hen
        generalize w7.heap.size = C at hX10 hP10 ⊢
        have hs10 := hx10.same hs7 (by simp)
        have hM10 := hM7.ext hx10 (by simp)
        obtain ⟨g1, g2⟩ := hRG7.ext hx10 (by simp) (by simp)
        have hE10 := hE7.trans0 hx10
        have HG2 := Hs.hid g2
        clear hs7 hM7 hRG7 hE7 hx10 hx7 g2
        obtain ⟨En, hEn⟩ : ∃ En, (i + 1) * 2 ^ v = En := ⟨_, rfl⟩
        have HEN := Hs.hid hEn
        clear hEn
        simp only [Act.put, List.setIfInBounds_toArray, List.set_cons_zero, List.set_cons_succ]
        go_cut [6, 7, 50] (fun s6 s7 s50 wx => s6 = .pointer (some ⟨C, 0, none⟩) ∧ s7 = .pointer (some ⟨C + 1, 0, none⟩) ∧ s50 = .bool (decide (En ≤ m)) ∧ Ext [] W10 wx)
        case first =>
          refine wp_region_noPanic ?_
          refine wp_region_held_drew (S := (fun w' => w'.heap[C]? = some (.cells #[.int .i64 v, .int .i64 i] 62 (0, 0)) ∧ w'.heap[T2]? = some (.cells #[.map (some M2), .int .i64 m, .int .i64 floor] 60 (0, 0)))) (by kernel_rfl) ?_ (fun hHeld => ?_)
          · ((try dsimp only); exact ⟨hP10, hs10⟩)
          refine wpAnyH_take (i := 0) (v := ?_) rfl (by kernel_rfl) (by kernel_rfl) (by kernel_rfl) (fun _ _ _ h => h) (Or.inl ⟨by rfl, ?_⟩) (by assumption) ?_
          rotate_left
          · (intro w hSw; (try dsimp only at hSw); have h1 : w.cell? ⟨C, 0, none⟩ = some (.int .i64 v) := (by rw [cellAt hSw.1]; rfl); have h2 : w.cell? ⟨C, 1, none⟩ = some (.int .i64 i) := (by rw [cellAt hSw.1]; rfl); first | (go_simp; done) | (go_simp; with_reducible rfl))
          try simp only [Act.put, List.getElem_toArray, List.getElem_cons_succ, List.getElem_cons_zero, List.setIfInBounds_toArray, List.set_cons_zero, List.set_cons_succ]
          refine wpAnyH_take (i := 2) (v := ?_) rfl (by kernel_rfl) (by kernel_rfl) (by kernel_rfl) (fun _ _ _ h => h) (Or.inl ⟨by rfl, ?_⟩) (by assumption) ?_
          rotate_left
          · (intro w hSw; (try dsimp only at hSw); first | (go_simp; done) | (go_simp; with_reducible rfl))
          try simp only [Act.put, List.getElem_toArray, List.getElem_cons_succ, List.getElem_cons_zero, List.setIfInBounds_toArray, List.set_cons_zero, List.set_cons_succ]
          refine wpAnyH_take (i := 3) (v := ?_) rfl (by kernel_rfl) (by kernel_rfl) (by kernel_rfl) (fun _ _ _ h => h) (Or.inl ⟨by rfl, ?_⟩) (by assumption) ?_
          rotate_left
          · (intro w hSw; (try dsimp only at hSw); first | (go_simp; done) | (go_simp; with_reducible rfl))
          try simp only [Act.put, List.getElem_toArray, List.getElem_cons_succ, List.getElem_cons_zero, List.setIfInBounds_toArray, List.set_cons_zero, List.set_cons_succ]
          refine wpAnyH_take (i := 4) (v := ?_) rfl (by kernel_rfl) (by kernel_rfl) (by kernel_rfl) (fun _ _ _ h => h) (Or.inl ⟨by rfl, ?_⟩) (by assumption) ?_
          rotate_left
          · (intro w hSw; (try dsimp only at hSw); first | (go_simp; done) | (go_simp; with_reducible rfl))
          try simp only [Act.put, List.getElem_toArray, List.getElem_cons_succ, List.getElem_cons_zero, List.setIfInBounds_toArray, List.set_cons_zero, List.set_cons_succ]
          refine wpAnyH_take (i := 5) (v := ?_) rfl (by kernel_rfl) (by kernel_rfl) (by kernel_rfl) (fun _ _ _ h => h) (Or.inl ⟨by rfl, ?_⟩) (by assumption) ?_
          rotate_left
          · (intro w hSw; (try dsimp only at hSw); have h1 : w.cell? ⟨T2, 1, none⟩ = some (.int .i64 m) := (by rw [cellAt hSw.2]; rfl); first | (go_simp; done) | (go_simp; with_reducible rfl))
          try simp only [Act.put, List.getElem_toArray, List.getElem_cons_succ, List.getElem_cons_zero, List.setIfInBounds_toArray, List.set_cons_zero, List.set_cons_succ]
          refine wpAnyH_ready (rs := [1]) (by kernel_rfl) (by simp) ?_
          refine AllReadyH.cons rfl (fun K hK => ?_) AllReadyH.nil
          go_simp
          (go_at_call 38; refine (end_any v i HF.out.1.1 HF.out.1.2 _).mono ?_; rintro e w11 ⟨rfl, hx11⟩; rw [HEN.out])
          go_wp2_with fail
          refine hK.out _ _ ?_ (fun hHeld => ?_)
          · ((try dsimp only); exact ⟨hx11.same hHeld.1 List.not_mem_nil, hx11.same hHeld.2 List.not_mem_nil⟩)
          clear hK K
          try simp only [Act.put, List.getElem_toArray, List.getElem_cons_succ, List.getElem_cons_zero, List.setIfInBounds_toArray, List.set_cons_zero, List.set_cons_succ]
          refine wpAnyH_take (i := 6) (v := ?_) rfl (by kernel_rfl) (by kernel_rfl) (by kernel_rfl) (fun _ _ _ h => h) (Or.inl ⟨by rfl, ?_⟩) (by assumption) ?_
          rotate_left
          · (intro w hSw; (try dsimp only at hSw); first | (go_simp; done) | (go_simp; with_reducible rfl))
          try simp only [Act.put, List.getElem_toArray, List.getElem_cons_succ, List.getElem_cons_zero, List.setIfInBounds_toArray, List.set_cons_zero, List.set_cons_succ]
          refine wpAnyH_done (by kernel_rfl) ?_ _
          refine NoPanic.normal ?_
          go_wp2; go_meet; exact ⟨rfl, rfl, rfl, ((Ext.refl [] W10).drew).trans0 hx11⟩
        case rest =>
          obtain ⟨rfl, rfl, rfl, hx11⟩ := hcut
          have hs11 := hx11.same hs10 (by simp)
          have hP11 := hx11.same hP10 (by simp)
          have hX11 := hx11.same hX10 (by simp)
          have hM11 := hM10.ext hx11 (by simp)
          obtain ⟨g11, g12⟩ := g1.ext hx11 (by simp) (by simp)
          have hE11 := hE10.trans0 hx11
          have HG3 := Hs.hid g12
          clear hs10 hP10 hX10 hM10 g1 hE10 g12 hx11
          by_cases he : En ≤ m
          · have hd : decide (En ≤ m) = true := by simpa using he
            rw [hd]
            have a0 : wc.cell? ⟨T2, 0, none⟩ = some (.map (some M2)) := by rw [cellAt hs11]; rfl
            have p0 : wc.cell? ⟨C, 0, none⟩ = some (.int .i64 v) := by rw [cellAt hP11]; rfl
            have p1 : wc.cell? ⟨C, 1, none⟩ = some (.int .i64 i) := by rw [cellAt hP11]; rfl
            have HE := Hs.hid he
            clear he hd
            go_upto_region 7 with fail
            refine wp_region_tail 6 (by kernel_rfl) (by kernel_rfl) ?_
            simp only [List.take_succ_cons, List.take_zero, List.drop_succ_cons, List.drop_zero]
            iterate 5 still_step
            refine wpStill_yield (.agg (digV x)) (by rfl) (exec_load_row (.tmp 7) rfl (C + 1) rfl x _ ⟨_, hX11⟩) ?_
            refine wpStill_nil ?_
            simp only [Act.put, List.setIfInBounds_toArray, List.set_cons_zero, List.set_cons_succ]
            refine wpList_mapUpdate (w := wc.drew) rfl rfl (.tmp 54) (.tmp 55) (.tmp 56) rfl keyOK_place Try.underlying58 rfl hM11 (plN v i) rfl x rfl ?_
            intro wm hm5 hx5
            go_wp2_with fail
            go_round
            case rel =>
              have hgood : goodC m (mput l2 (plN v i) x) (plN v i) = true := by
                unfold goodC
                have : plN v i ∈ (mput l2 (plN v i) x).map (·.1) := List.mem_map.2 ⟨(plN v i, x), (mem_mput hM11.nodup).2 (.inl rfl), rfl⟩
                simp [this]
              have hmono : ∀ k, goodC m l2 k = true → goodC m (mput l2 (plN v i) x) k = true := by
                intro k hk
                unfold goodC at hk ⊢
                simp only [Bool.or_eq_true, decide_eq_true_eq] at hk ⊢
                refine hk.imp id fun h => ?_
                obtain ⟨q, hq, rfl⟩ := List.mem_map.1 h
                by_cases hqe : q.1 = plN v i
                · exact List.mem_map.2 ⟨(plN v i, x), (mem_mput hM11.nodup).2 (.inl rfl), hqe.symm⟩
                · exact List.mem_map.2 ⟨q, (mem_mput hM11.nodup).2 (.inr ⟨hq, hqe⟩), rfl⟩
              refine ⟨mput l2 (plN v i) x, (((g11.mono hmono).good hgood).ext (w := wc.drew) hx5 (by simpa using HF.out.2.2.2.2.2.1) (by simpa using HF.out.2.2.2.2.1)).1, hm5, hx5.same (w := wc.drew) hs11 (by simpa using hM11.ne hs11), Hs.hid ?_, hE11.drew.trans hx5 (fun g hg => .inr (by simp at hg; subst hg; exact HTM.out.2))⟩
              intro q hq
              rcases (mem_mput hM11.nodup).1 hq with rfl | ⟨hq, _⟩
              · exact ⟨HF.out.2.2.2.1, by rw [endP_N, HEN.out]; exact HE.out⟩
              · exact HL2.out q hq
            case measure =>
              have h1 := (g11.ext (w := wc.drew) hx5 (by simpa using HF.out.2.2.2.2.2.1) (by simpa using HF.out.2.2.2.2.1)).2
              have h2 := HG2.out; have h3 := HG3.out; have h4 := HF.out.2.2.2.2.2.2
              have h5 : leftN wc.drew.heap r M = leftN wc.heap r M := rfl
              omega
          · have hd : decide (En ≤ m) = false := by simpa using he
            rw [hd]
            have HE := Hs.hid he
            clear he hd
            go_wp2_with fail
            go_round
            case rel =>
              refine ⟨l2, g11.good ?_, hM11, hs11, HL2, hE11⟩
              unfold goodC
              rw [endP_N, HEN.out]
              have := HE.out
              simp; left; omega
            case measure =>
              have h2 := HG2.out; have h3 := HG3.out; have h4 := HF.out.2.2.2.2.2.2
              omega
end Go.Proofs.Ytnjjbolbemlceaa
set_option linter.unusedSimpArgs false
set_option linter.unusedVariables false
set_option maxHeartbeats 2000000
set_option maxRecDepth 100000
namespace Go.Proofs.Ytnjjbolbemlceaa
open Go.RowKit Go.Hs Go.Dg

theorem mthT_take (L : List ByteArray) (m : Nat) : ∀ (n f : Nat), 1 ≤ n → f + n ≤ m → mthT (L.take m) n f = mthT L n f := by
  intro n
  induction n using Nat.strongRecOn with
  | _ n ih =>
    intro f h1 h2
    by_cases hn : 2 ≤ n
    · have hh := halfN_lt hn
      have hp := halfN_pos n
      rw [mthT_node hn, mthT_node hn, ih _ hh f hp (by omega), ih (n - halfN n) (by omega) (f + halfN n) (by omega) (by omega)]
    · have : n = 1 := by omega
      subst this
      rw [mthT_one, mthT_one]
      simp only [List.getD_eq_getElem?_getD]
      rw [List.getElem?_take, if_pos (by omega)]
theorem rootT_take (L : List ByteArray) (m : Nat) : rootT (L.take m) m = rootT L m := by
  unfold rootT
  by_cases h : m = 0
  · rw [if_pos h, if_pos h]
  · rw [if_neg h, if_neg h, mthT_take L m m 0 (by omega) (by omega)]
theorem wp_region_still' {P : Program} {id : Nat} {Q : Exit → Act → World → Prop} {a : Act} {w : World} {l : List Oper} (hm : P.follows .mixedOrders = true) (hB : Region.lexB .any l.toArray = true)
    (h : wpStill P l.toArray w.drew (fun a' => Q .normal a' w.drew) l a) : (Code.region id l.toArray true).wp P Q a w :=
  wp_region_still_lit hm hB h
theorem exec_ne_self {a : Act} {o : Oper} (x y : Operand) (t : TypeId) (ho : o.op = Op.binOp .neq 27 x y t) (p : ByteArray) (hx : a.eval x = .agg (digV p)) (hy : a.eval y = .agg (digV p)) (w : World) :
    (execOp a.eval o).run Try.prog w = .ok (.value (.bool false)) w := by
  rw [exec_ne_sum x y t ho p p hx hy w, eqS_self]; rfl
structure FSt (w2 wr : World) (T1 M1 T2 M2 : Nat) (ls : List ByteArray) (fl : Nat) : Prop where
  a : Tr wr.heap T1 M1 ls 0
  b : Tr wr.heap T2 M2 ls fl
  x : Ext [] w2 wr
theorem FSt.ext0 {w2 wr w' : World} {T1 M1 T2 M2 fl : Nat} {ls : List ByteArray} (h : FSt w2 wr T1 M1 T2 M2 ls fl) (x : Ext [] wr w') : FSt w2 w' T1 M1 T2 M2 ls fl := ⟨h.a.ext0 x, h.b.ext0 x, h.x.trans0 x⟩
def sMore : ByteArray := ⟨#[109, 111, 114, 101]⟩
theorem treeForgets_any (ao : Option Addr) (len cap : Nat) (n f : Int) (w : World) (ha : StrArg w ao len) : Calls Try.prog 6 #[.slice ao len cap, .int .i64 n, .int .i64 f] w fun e w' => e = .returned (.bool true) ∧ Ext [] w w' := by
  have HA := Hs.hid ha
  clear ha
  go_enter Try.func6, Try.ntmps6
  go_upto_region 4 with (first
    | (go_at_call 12; refine (awake9_any _).mono ?_; rintro e w1 ⟨rfl, hx1⟩)
    | (go_at_call 13; refine (leaves_any ao len cap n _ (HA.out.ext hx1)).mono ?_; rintro e w2 ⟨v, ls, rfl, hO, hL, hOg, hx2⟩))
  have hxw := hx1.trans0 hx2
  clear hx1 hx2 hOg
  obtain ⟨ao2, cap2, rfl⟩ := hO.form
  obtain ⟨N, hN⟩ : ∃ N, ls.length = N := ⟨_, rfl⟩
  have hN40 : N ≤ 40 := by have := hL.out.1; omega
  have hN40' : (N : Int) ≤ 40 := by omega
  obtain ⟨fl, hfl, hflN⟩ : ∃ fl : Nat, min (max f 0) (N : Int) = (fl : Int) ∧ fl ≤ N := ⟨(min (max f 0) (N : Int)).toNat, by omega, by omega⟩
  rw [hN]
  rw [hN] at hO
  have HN := Hs.hid (And.intro hN (And.intro hflN (show ls.length ≤ 2 ^ 30 by have := p30; omega)))
  clear hN hflN
  go_upto_region 8 with (first
    | (go_at_call 14; (with_reducible refine (new_tr w2).mono ?_); rintro e w3 ⟨T1, M1, rfl, t1, hx1, hT1, hM1, hTM1⟩)
    | (go_at_call 14; (with_reducible refine (new_tr w3).mono ?_); rintro e w4 ⟨T2, M2, rfl, t2, hx2, hT2, hM2, hTM2⟩; have hap := Apart.of t1 hT2 hM2; have t1' := t1.ext0 hx2; have hO4 := (hO.ext0 hx1).ext0 hx2; have hg2 := (show w2.heap.size ≤ T2 ∧ w2.heap.size ≤ M2 by have := hx1.size; omega))
    | (go_at_call 15; (with_reducible refine (append_tr t1' (v := .slice ao2 N cap2) (ls := ls) (by have := hO4.strs; exact this) (Hs.hid (fun s hs => by have := hL.out.2 s hs; omega)) (by have := p30; have := HN.out.1; simp; omega)).mono ?_); rintro e w5 ⟨rfl, t3, hx3⟩; have t2' := t2.other' hx3 hap; have hO5 := hO4.far t1' hx3)
    | (go_at_call 15; (with_reducible refine (append_tr t2' (v := .slice ao2 N cap2) (ls := ls) (by have := hO5.strs; exact this) (Hs.hid (fun s hs => by have := hL.out.2 s hs; omega)) (by have := p30; have := HN.out.1; simp; omega)).mono ?_); rintro e w6 ⟨rfl, t4, hx4⟩; rw [List.nil_append] at t3 t4; have t3' := t3.other hx4 hap)
    | (go_at_call 19; (with_reducible refine (forget_any fl t4 HN.out.2.2 (by have := HN.out.1; have := HN.out.2.1; omega) (Nat.zero_le _)).mono ?_); rintro e w7 ⟨rfl, t5, hx5⟩))
  have hst : FSt w2 w7 T1 M1 T2 M2 ls fl := ⟨t3'.other hx5 hap, t5, (((hx1.trans0 hx2).trans hx3 (fun g hg => .inr (by have := hx1.size; simp at hg; rcases hg with rfl | rfl; exact hT1; exact hM1))).trans hx4 (fun g hg => .inr (by simp at hg; rcases hg with rfl | rfl; exact hg2.1; exact hg2.2))).trans hx5 (fun g hg => .inr (by simp at hg; rcases hg with rfl | rfl; exact hg2.1; exact hg2.2))⟩
  clear t1 hx1 hT1 hM1 hTM1 t2 hx2 hT2 hM2 hTM2 hap t1' hO4 hg2 t3 hx3 t2' hO5 t4 hx4 t3' t5 hx5 hO hfl
  go_wp2_with fail
  go_loopw [10] (fun mv wr => ∃ m : Nat, mv = .int .i64 m ∧ m ≤ N + 1 ∧ FSt w2 wr T1 M1 T2 M2 ls fl) (fun mv _ => N + 1 - (intOf mv).toNat)
  case atStart => exact ⟨0, rfl, by omega, hst⟩
  case round =>
    clear hst
    obtain ⟨m, rfl, hmN, hst⟩ := hrel
    by_cases hm : m ≤ N
    · have hm' : (m : Int) ≤ N := by omega
      have HM := Hs.hid (And.intro hm (show m ≤ ls.length by have := HN.out.1; omega))
      obtain ⟨rt, hrt⟩ : ∃ rt, rootT ls m = rt := ⟨_, rfl⟩
      have HRT := Hs.hid (And.intro hrt (show rootT (ls.take m) m = rt by rw [rootT_take, hrt]))
      clear hrt hm
      obtain ⟨wo, rfl⟩ : ∃ wo : World, wo = wr := ⟨_, rfl⟩
      go_upto_region 12 with (first
        | (go_at_call 16; refine (root_any m hst.a HN.out.2.2 HM.out.2 (Nat.zero_le _)).mono ?_; rintro e w8 ⟨cs, rfl, hcs, hx8⟩; rw [HRT.out.1] at hcs; have hq := hcs.out; subst hq; have hB8 := zeroSum w8)
        | (refine wpList_store_row rfl 27 (.tmp 11) (.tmp 54) rfl _ (digV rt) rfl rfl _ _ hB8 (by rw [digV_size]; exact infoSum) (by rw [digV_size]; exact bytesL_size _) (digV_one _) ?_))
      have hX := setRow_heap _ _ _ (digV rt) _ _ hB8
      have hx9 : Ext [] wo ((w8.alloc (.cells #[.int .u8 0, .int .u8 0, .int .u8 0, .int .u8 0, .int .u8 0, .int .u8 0, .int .u8 0, .int .u8 0, .int .u8 0, .int .u8 0, .int .u8 0, .int .u8 0, .int .u8 0, .int .u8 0, .int .u8 0, .int .u8 0, .int .u8 0, .int .u8 0, .int .u8 0, .int .u8 0, .int .u8 0, .int .u8 0, .int .u8 0, .int .u8 0, .int .u8 0, .int .u8 0, .int .u8 0, .int .u8 0, .int .u8 0, .int .u8 0, .int .u8 0, .int .u8 0] 27)).setRow w8.heap.size (digV rt)) := (hx8.alloc _).trans (setRow_ext _ _) (fun g hg => .inr (by simp at hg; have := hx8.size; omega))
      generalize (w8.alloc (.cells #[.int .u8 0, .int .u8 0, .int .u8 0, .int .u8 0, .int .u8 0, .int .u8 0, .int .u8 0, .int .u8 0, .int .u8 0, .int .u8 0, .int .u8 0, .int .u8 0, .int .u8 0, .int .u8 0, .int .u8 0, .int .u8 0, .int .u8 0, .int .u8 0, .int .u8 0, .int .u8 0, .int .u8 0, .int .u8 0, .int .u8 0, .int .u8 0, .int .u8 0, .int .u8 0, .int .u8 0, .int .u8 0, .int .u8 0, .int .u8 0, .int .u8 0, .int .u8 0] 27)).setRow w8.heap.size (digV rt) = W9 at hX hx9 ⊢
      generalize w8.heap.size = X at hX ⊢
      have hst := hst.ext0 hx9
      clear hB8 hx8 hx9
      go_cut [13, 14] (fun s13 s14 wx => ∃ Y ec cs, s13 = .pointer (some ⟨Y, 0, none⟩) ∧ s14 = .int .i64 ec ∧ wx.heap[Y]? = some (.cells cs 27 (0, 0)) ∧ Hid ((fl ≤ m → ec = 0 ∧ cs = digV rt) ∧ (m < fl → ec = 14)) ∧ Ext [] W9 wx)
      case first =>
        by_cases hfm : fl ≤ m
        · go_wp2_with (first
            | (go_at_call 16; refine (root_any m hst.b HN.out.2.2 HM.out.2 hfm).mono ?_; rintro e w10 ⟨cs, rfl, hcs, hx10⟩; rw [HRT.out.1] at hcs; have hq := hcs.out; subst hq; have hB10 := zeroSum w10)
            | (refine wpList_store_row rfl 27 (.tmp 13) (.tmp 60) rfl _ (digV rt) rfl rfl _ _ hB10 (by rw [digV_size]; exact infoSum) (by rw [digV_size]; exact bytesL_size _) (digV_one _) ?_))
          go_meet
          exact ⟨_, _, _, rfl, rfl, setRow_heap _ _ _ (digV rt) _ _ hB10, Hs.hid ⟨fun _ => ⟨rfl, rfl⟩, fun h => by omega⟩, (hx10.alloc _).trans (setRow_ext _ _) (fun g hg => .inr (by simp at hg; have := hx10.size; omega))⟩
        · obtain ⟨zs, hzs⟩ : ∃ zs, (bytesL fun _ => 0) = zs := ⟨_, rfl⟩
          have HZ := Hs.hid (And.intro hzs (And.intro (show zs.size = 32 by rw [← hzs]; exact bytesL_size _) (show zs.all (·.oneCell') = true by rw [← hzs]; exact bytesL_one _)))
          clear hzs
          go_wp2_with (first
            | (go_at_call 16; refine (root_low m hst.b HN.out.2.2 HM.out.2 (by omega)).mono ?_; rintro e w10 ⟨cs, rfl, hcs, hx10⟩; rw [HZ.out.1] at hcs; have hq := hcs.out; subst hq; have hB10 := zeroSum w10)
            | (refine wpList_store_row rfl 27 (.tmp 13) (.tmp 60) rfl _ cs rfl rfl _ _ hB10 (by rw [HZ.out.2.1]; exact infoSum) (by rw [HZ.out.2.1]; exact bytesL_size _) HZ.out.2.2 ?_))
          go_meet
          exact ⟨_, _, _, rfl, rfl, setRow_heap _ _ _ _ _ _ hB10, Hs.hid ⟨fun h => absurd h hfm, fun h => rfl⟩, (hx10.alloc _).trans (setRow_ext _ _) (fun g hg => .inr (by simp at hg; have := hx10.size; omega))⟩
      case rest =>
        obtain ⟨Y, ec, ys, rfl, rfl, hY, HY, hx10⟩ := hcut
        have hst := hst.ext0 hx10
        have hX := hx10.same hX (by simp)
        clear hx10
        have hb0 : rt = rt := rfl
        clear hb0
        go_upto_if 65 with (go_at_call 21; refine (floor_tr hst.b).mono ?_; rintro e w11 ⟨rfl, hw⟩; subst w11)
        go_cut [] (fun wx => Ext [] wc wx)
        case first =>
          by_cases hfm : fl ≤ m
          · have hd : decide (fl ≤ m) = true := by simpa using hfm
            go_upto_region 15 with (go_at_call 23; refine (treeClone_any m hst.b HN.out.2.2 HM.out.2 hfm).mono ?_; rintro e w12 ⟨T3, M3, rfl, t12, h12a, h12b, hx12⟩)
            have hX12 := hx12.same hX (by simp)
            have hst12 := hst.ext0 hx12
            have HT3 := Hs.hid (And.intro h12a (And.intro h12b (show (ls.take m).length = m by rw [List.length_take]; have := HM.out.2; omega)))
            clear h12a h12b
            go_upto_region 16 with (first
              | (go_at_call 16; refine (root_any m t12 (by rw [HT3.out.2.2]; have := HM.out.2; have := HN.out.2.2; omega) (by rw [HT3.out.2.2]; exact Nat.le_refl _) hfm).mono ?_; rintro e w13 ⟨cs, rfl, hcs, hx13⟩; rw [HRT.out.2] at hcs; have hq := hcs.out; subst hq; have hB13 := zeroSum w13)
              | (refine wpList_store_row rfl 27 (.tmp 16) (.tmp 73) rfl _ (digV rt) rfl rfl _ _ hB13 (by rw [digV_size]; exact infoSum) (by rw [digV_size]; exact bytesL_size _) (digV_one _) ?_))
            have hZ14 := setRow_heap _ _ _ (digV rt) _ _ hB13
            have hx14 : Ext [] w12 ((w13.alloc (.cells #[.int .u8 0, .int .u8 0, .int .u8 0, .int .u8 0, .int .u8 0, .int .u8 0, .int .u8 0, .int .u8 0, .int .u8 0, .int .u8 0, .int .u8 0, .int .u8 0, .int .u8 0, .int .u8 0, .int .u8 0, .int .u8 0, .int .u8 0, .int .u8 0, .int .u8 0, .int .u8 0, .int .u8 0, .int .u8 0, .int .u8 0, .int .u8 0, .int .u8 0, .int .u8 0, .int .u8 0, .int .u8 0, .int .u8 0, .int .u8 0, .int .u8 0, .int .u8 0] 27)).setRow w13.heap.size (digV rt)) := (hx13.alloc _).trans (setRow_ext _ _) (fun g hg => .inr (by simp at hg; have := hx13.size; omega))
            generalize (w13.alloc (.cells #[.int .u8 0, .int .u8 0, .int .u8 0, .int .u8 0, .int .u8 0, .int .u8 0, .int .u8 0, .int .u8 0, .int .u8 0, .int .u8 0, .int .u8 0, .int .u8 0, .int .u8 0, .int .u8 0, .int .u8 0, .int .u8 0, .int .u8 0, .int .u8 0, .int .u8 0, .int .u8 0, .int .u8 0, .int .u8 0, .int .u8 0, .int .u8 0, .int .u8 0, .int .u8 0, .int .u8 0, .int .u8 0, .int .u8 0, .int .u8 0, .int .u8 0, .int .u8 0] 27)).setRow w13.heap.size (digV rt) = W14 at hZ14 hx14 ⊢
            generalize w13.heap.size = Zb at hZ14 ⊢
            have t14 := t12.ext0 hx14
            have hX14 := hx14.same hX12 (by simp)
            have hst14 := hst12.ext0 hx14
            have hE14 := hx12.trans0 hx14
            clear hB13 hx13 hX12 hst12 hx14 t12 hx12
            go_upto_region 17 with (go_at_call 15; refine (append_tr (t14.ext0 ((Ext.refl [] W14).alloc (.cells #[.string sMore] 9))) (ls := [sMore]) (.inr ⟨W14.heap.size, 0, 1, _, _, _, rfl, heap_new _ _, fun k s h => by match k, h with | 0, h => simpa using h | k + 1, h => simp at h⟩) (Hs.hid (by decide)) (by rw [HT3.out.2.2]; have := p30; have := HM.out.1; have := hN40; simp; omega)).mono ?_; rintro e w15 ⟨rfl, t15, hx15⟩)
            have hlt3 := (show T3 ≠ X ∧ M3 ≠ X ∧ T3 ≠ Zb ∧ M3 ≠ Zb by
              obtain ⟨l3, tt3, _⟩ := t14
              exact ⟨ne_block tt3.cells hX14 (by simp), (tt3.map.ne hX14).symm, ne_block tt3.cells hZ14 (by simp), (tt3.map.ne hZ14).symm⟩)
            have hx15' : Ext [T3, M3] W14 w15 := ((Ext.refl [T3, M3] W14).alloc _).trans' hx15
            have hX15 := hx15'.same hX14 (by simp; exact ⟨Ne.symm hlt3.1, Ne.symm hlt3.2.1⟩)
            have hZ15 := hx15'.same hZ14 (by simp; exact ⟨Ne.symm hlt3.2.2.1, Ne.symm hlt3.2.2.2⟩)
            have hE15 : Ext [] wc w15 := hE14.trans hx15' (fun g hg => .inr (by simp at hg; rcases hg with rfl | rfl; exact HT3.out.1; exact HT3.out.2.1))
            have hst15 := hst.ext0 hE15
            have HLEN := Hs.hid (show (ls.take m ++ [sMore]).length = m + 1 by rw [List.length_append, HT3.out.2.2]; rfl)
            clear hlt3 hx15' hx15 hX14 hZ14 hE14 hst14 t14
            have eq1 := eqS_self rt
            go_wp2_with (first
              | (refine wpList_yield (.agg (digV rt)) (by rfl) (exec_load_row (.tmp 16) rfl Zb rfl rt _ ⟨_, hZ15⟩) ?_)
              | (refine wpList_yield (.agg (digV rt)) (by rfl) (exec_load_row (.tmp 11) rfl X rfl rt _ ⟨_, hX15⟩) ?_)
              | (refine wpList_yield (.bool (!eqS rt rt)) (by rfl) (exec_ne_sum (.tmp 81) (.tmp 82) _ rfl rt rt rfl rfl _) ?_)
              | (go_at_call 18; (with_reducible refine (len_tr t15).mono ?_); rintro e w16 ⟨he, hw⟩; rw [HLEN.out] at he; subst he; subst w16)
              | (go_at_call 21; (with_reducible refine (floor_tr t15).mono ?_); rintro e w16 ⟨rfl, hw⟩; subst w16)
              | (go_at_call 21; (with_reducible refine (floor_tr hst15.b).mono ?_); rintro e w16 ⟨rfl, hw⟩; subst w16)
              | (go_at_call 18; (with_reducible refine (len_tr hst15.b).mono ?_); rintro e w16 ⟨he, hw⟩; rw [HN.out.1] at he; subst he; subst w16))
            go_meet
            exact hE15
          · have hd : decide (fl ≤ m) = false := by simpa using hfm
            go_wp2
            go_meet
            exact Ext.refl _ _
        case rest =>
          have hst := hst.ext0 hcut
          have hX := hcut.same hX (by simp)
          have hY := hcut.same hY (by simp)
          clear hcut
          go_upto_region 19 with fail
          go_cut [121] (fun s121 wx => s121 = .bool false ∧ wx = wc)
          case first =>
            by_cases hfm : fl ≤ m
            · obtain ⟨rfl, hq⟩ := HY.out.1 hfm
              subst hq
              have hd : decide (m < fl) = false := by simp; omega
              have eq1 := eqS_self rt
              go_wp2_with (first
                | (refine wpList_yield (.agg (digV rt)) (by rfl) (exec_load_row (.tmp 11) rfl X rfl rt _ ⟨_, hX⟩) ?_)
                | (refine wpList_yield (.agg (digV rt)) (by rfl) (exec_load_row (.tmp 13) rfl Y rfl rt _ ⟨_, hY⟩) ?_)
                | (refine wpList_yield (.bool (!eqS rt rt)) (by rfl) (exec_ne_sum (.tmp 109) (.tmp 110) _ rfl rt rt rfl rfl _) ?_)
                | (go_at_call 21; (with_reducible refine (floor_tr hst.b).mono ?_); rintro e w16 ⟨rfl, hw⟩; subst w16))
              go_meet
              exact ⟨rfl, rfl⟩
            · obtain rfl := HY.out.2 (by omega)
              have hd : decide (m < fl) = true := by simp; omega
              go_wp2_with (first
                | (go_at_call 21; (with_reducible refine (floor_tr hst.b).mono ?_); rintro e w16 ⟨rfl, hw⟩; subst w16))
              go_meet
              exact ⟨rfl, rfl⟩
          case rest =>
            obtain ⟨rfl, hwq⟩ := hcut
            subst hwq
            clear hX hY HY HRT
            go_wp2_with fail
            obtain ⟨wk, rfl⟩ : ∃ wk : World, wk = wc := ⟨_, rfl⟩
            go_loopw [18] (fun kv wr => ∃ k : Nat, kv = .int .i64 k ∧ k ≤ m ∧ FSt w2 wr T1 M1 T2 M2 ls fl) (fun kv _ => m - (intOf kv).toNat)
            case atStart => exact ⟨0, rfl, by omega, hst⟩
            case round =>
              clear hst
              obtain ⟨k, rfl, hkm, hst⟩ := hrel
              by_cases hk : k < m
              · have HK := Hs.hid hk
                obtain ⟨pt, hpt⟩ : ∃ pt, pathT ls k m 0 = pt := ⟨_, rfl⟩
                have hpl6 := pathT_len ls 6 k m 0 (by have := HM.out.1; have : (2 : Nat) ^ 6 = 64 := (by decide); omega)
                rw [hpt] at hpl6
                have HPT := Hs.hid hpt
                clear hpt
                go_upto_region 25 with (go_at_call 24; refine (incl_any k m hst.a HN.out.2.2 HM.out.2 HK.out (Nat.zero_le _)).mono ?_; rintro e w8 ⟨v, rfl, hP, hPg, hx8⟩; rw [HPT.out] at hP)
                obtain ⟨a5, c5, rfl⟩ := hP.form
                obtain ⟨pl, hpl⟩ : ∃ pl, pt.length = pl := ⟨_, rfl⟩
                rw [hpl] at hP hPg hpl6 ⊢
                have hpl6' : (pl : Int) ≤ 6 := by omega
                have HPL := Hs.hid hpl
                have HPG := Hs.hid hPg
                have hst8 := hst.ext0 hx8
                clear hpl hPg hx8 hst
                by_cases hfk : fl ≤ k
                · have hd : decide (k < fl) = false := by simp; omega
                  have HFK := Hs.hid hfk
                  go_upto_region 26 with (go_at_call 24; refine (incl_any k m hst8.b HN.out.2.2 HM.out.2 HK.out HFK.out).mono ?_; rintro e w9 ⟨v, rfl, hQ, _, hx9⟩; rw [HPT.out] at hQ)
                  obtain ⟨a6, c6, rfl⟩ := hQ.form
                  rw [HPL.out] at hQ ⊢
                  have hP9 := hP.ext hx9 (by simp)
                  have hst9 := hst8.ext0 hx9
                  clear hP hst8 hx9 hfk
                  go_wp2_with (go_at_call 21; (with_reducible refine (floor_tr hst9.b).mono ?_); rintro e w16 ⟨rfl, hw⟩; subst w16)
                  obtain ⟨wi, rfl⟩ : ∃ wi : World, wi = wr := ⟨_, rfl⟩
                  go_loopw [161] (fun iv wq => ∃ i : Nat, iv = .int .i64 i ∧ i ≤ pl ∧ Ext [] w9 wq) (fun iv _ => pl - (intOf iv).toNat)
                  case atStart => exact ⟨0, rfl, by omega, Ext.refl _ _⟩
                  case round =>
                    obtain ⟨i, rfl, hi, hEi⟩ := hrel
                    by_cases hil : i < pl
                    · have hil' : (i : Int) < pl := by omega
                      obtain ⟨gP, rfl⟩ : ∃ g, a5 = some ⟨g, 0, none⟩ := by
                        rcases hP9.2 with ⟨h, h0⟩ | ⟨g, cp, cur, h, _⟩
                        · have := HPL.out; omega
                        · simp only [Value.slice.injEq] at h; exact ⟨g, h.1⟩
                      obtain ⟨gQ, rfl⟩ : ∃ g, a6 = some ⟨g, 0, none⟩ := by
                        rcases hQ.2 with ⟨h, h0⟩ | ⟨g, cp, cur, h, _⟩
                        · have := HPL.out; omega
                        · simp only [Value.slice.injEq] at h; exact ⟨g, h.1⟩
                      obtain ⟨x, hx⟩ : ∃ x, pt[i]? = some x := ⟨_, List.getElem?_eq_getElem (by have := HPL.out; omega)⟩
                      have hr1 := (hP9.ext hEi (by simp)).range hx
                      have hr2 := (hQ.ext hEi (by simp)).range hx
                      have HR12 := Hs.hid (And.intro hr1 hr2)
                      have eq1 := eqS_self x
                      clear hr1 hr2 hx
                      go_upto_region 31 with fail
                      refine wp_region_still' (by kernel_rfl) (by kernel_rfl) ?_
                      iterate 3 still_step
                      refine wpStill_yield (.agg (digV x)) (by rfl) (exec_load_mid (.tmp 166) rfl gP (i * 32) (by simp [Act.eval]) x _ HR12.out.1) ?_
                      simp only [Act.put, List.setIfInBounds_toArray, List.set_cons_zero, List.set_cons_succ]
                      iterate 3 still_step
                      refine wpStill_yield (.agg (digV x)) (by rfl) (exec_load_mid (.tmp 170) rfl gQ (i * 32) (by simp [Act.eval]) x _ HR12.out.2) ?_
                      simp only [Act.put, List.setIfInBounds_toArray, List.set_cons_zero, List.set_cons_succ]
                      refine wpStill_yield (.bool false) (by rfl) (exec_ne_self (.tmp 167) (.tmp 171) _ rfl x rfl rfl _) ?_
                      simp only [Act.put, List.setIfInBounds_toArray, List.set_cons_zero, List.set_cons_succ]
                      refine wpStill_nil ?_
                      go_wp2_with fail
                      go_round
                      case rel => exact ⟨i + 1, by go_num, by omega, hEi.drew⟩
                      case measure => simp [intOf]; omega
                    · have hil' : ¬ (i : Int) < pl := by omega
                      go_wp2_with fail
                      go_round
                      case rel => exact ⟨k + 1, by go_num, by omega, hst9.ext0 hEi⟩
                      case measure => simp [intOf]; omega
                · have hd : decide (k < fl) = true := by simp; omega
                  have HFK := Hs.hid (show k < fl by omega)
                  go_upto_region 26 with (go_at_call 24; refine (incl_low k m hst8.b HN.out.2.2 HM.out.2 HK.out HFK.out).mono ?_; rintro e w9 ⟨rfl, hx9⟩)
                  have hst9 := hst8.ext0 hx9
                  clear hP hst8 hx9 hfk
                  go_wp2_with (go_at_call 21; (with_reducible refine (floor_tr hst9.b).mono ?_); rintro e w16 ⟨rfl, hw⟩; subst w16)
                  refine wp_loop_rounds 1 ?_
                  rw [rounds_succ]
                  go_wp2_with fail
                  go_round
                  case rel => exact ⟨k + 1, by go_num, by omega, hst9⟩
                  case measure => simp [intOf]; omega
              · have hk' : ¬ (k : Int) < m := by omega
                go_wp2_with fail
                go_round
                case rel => exact ⟨m + 1, by go_num, by have := HM.out.1; omega, hst⟩
                case measure => simp [intOf]; omega
    · have hm' : ¬ (m : Int) ≤ N := by omega
      go_wp2_with (go_at_call 21; refine (floor_tr hst.a).mono ?_; rintro e w8 ⟨rfl, hw⟩; subst w8)
      go_ret
      exact ⟨rfl, hxw.trans0 hst.x⟩
end Go.Proofs.Ytnjjbolbemlceaa
