/-
  Texts of this claim, put together: CSides, CRev, CSidesF.
-/
import Derived.Deep.MidRow
import Derived.Test.YtjicjadibaomkaaMSf
import Derived.Test.YtjicjadibaomkaaMSg
set_option linter.unusedSimpArgs false
set_option linter.unusedVariables false
set_option maxHeartbeats 4000000
set_option maxRecDepth 100000
namespace Go.Proofs.Ytjicjadibaomkaa
open Go.RowKit Go.Hs Go.Dg

theorem csides_mth (b o : Nat) (L : List ByteArray) (HL : Hid (L.length ≤ 40 ∧ ∀ s ∈ L, s.size ≤ 20)) : ∀ (N n f m off cap : Nat) (whole : Bool) (old : S32) (xs : List S32) (ao2 : Option Addr) (cap2 : Nat), n ≤ N → 1 ≤ m → m ≤ n → f + n ≤ L.length → off = o + f → n ≤ cap → cap ≤ 9223372036854775807 →
    ∀ w : World, LeafAt w.heap b o L → Sums32 w.heap ao2 cap2 xs → Calls Try.prog 34 #[.int .i64 m, .slice (some ⟨b, off, none⟩) n cap, .slice ao2 xs.length cap2, .bool whole, .agg old.V] w (SideE w L n f m whole old xs)
  | 0, n, f, m, off, cap, whole, old, xs, ao2, cap2, hN, h1, hm, _, _, _, _, w, _, _ => by omega
  | N + 1, n, f, m, off, cap, whole, old, xs, ao2, cap2, hN, h1, hm, hfn, hoff, hcap, hcm, w, hLA, hT => by
    have hL40 := HL.out.1
    have hmax := hT.2.1
    have hcap2 := hT.1
    obtain ⟨hA, hB, hC, hx0⟩ := side_start w old
    by_cases hwh : m = n ∧ whole = true
    · obtain ⟨rfl, rfl⟩ := hwh
      have e0 : ((m : Int) == (m : Int)) = true := by simp
      have HP := Hs.hid (sidesP_whole L m f old xs)
      clear hN hfn hoff hLA hT hL40
      go_enter Try.func34, Try.ntmps34
      go_upto_region 1 with fail
      generalize ((w.alloc (.cells old.V 35)).alloc (.cells #[.int .u8 0, .int .u8 0, .int .u8 0, .int .u8 0, .int .u8 0, .int .u8 0, .int .u8 0, .int .u8 0, .int .u8 0, .int .u8 0, .int .u8 0, .int .u8 0, .int .u8 0, .int .u8 0, .int .u8 0, .int .u8 0, .int .u8 0, .int .u8 0, .int .u8 0, .int .u8 0, .int .u8 0, .int .u8 0, .int .u8 0, .int .u8 0, .int .u8 0, .int .u8 0, .int .u8 0, .int .u8 0, .int .u8 0, .int .u8 0, .int .u8 0, .int .u8 0] 35)).alloc (.cells #[.int .u8 0, .int .u8 0, .int .u8 0, .int .u8 0, .int .u8 0, .int .u8 0, .int .u8 0, .int .u8 0, .int .u8 0, .int .u8 0, .int .u8 0, .int .u8 0, .int .u8 0, .int .u8 0, .int .u8 0, .int .u8 0, .int .u8 0, .int .u8 0, .int .u8 0, .int .u8 0, .int .u8 0, .int .u8 0, .int .u8 0, .int .u8 0, .int .u8 0, .int .u8 0, .int .u8 0, .int .u8 0, .int .u8 0, .int .u8 0, .int .u8 0, .int .u8 0] 35) = W at hA hB hC hx0 ⊢
      obtain ⟨A, hAA⟩ : ∃ A, w.heap.size = A := ⟨_, rfl⟩
      obtain ⟨B, hBB⟩ : ∃ B, A + 1 = B := ⟨_, rfl⟩
      obtain ⟨C, hCC⟩ : ∃ C, B + 1 = C := ⟨_, rfl⟩
      rw [hAA] at hA hB hC
      rw [hBB] at hB hC
      rw [hCC] at hC
      try rw [hAA]
      try rw [hBB]
      try rw [hCC]
      have HRR := Hs.hid (show w.heap.size ≤ A ∧ w.heap.size ≤ B ∧ w.heap.size ≤ C by omega)
      have HAB := Hs.hid (show A < B ∧ B < C by omega)
      clear hAA hBB hCC
      have HNE := Hs.hid (show A ≠ B ∧ A ≠ C ∧ C ≠ B by have := HAB.out; omega)
      have hSRC := hA
      go_upto_region 3 with fail
      refine wp_region_noPanic ?_
      refine wp_region_held_drew (S := (fun w' => w'.heap[A]? = some (.cells old.V 35 (0, 0)))) (by kernel_rfl) ?_ (fun hHeld => ?_)
      · ((try dsimp only); exact hSRC)
      refine wpAnyH_take (i := 0) (v := _) rfl (by kernel_rfl) (by kernel_rfl) (by kernel_rfl) (fun _ _ _ h => h) (yieldsIf_of (.agg old.V) (by rfl) (fun w' hw => exec_load_rowV (.tmp 9) rfl A rfl old w' ⟨_, hw⟩)) (by assumption) ?_
      try simp only [Act.put, List.getElem_toArray, List.getElem_cons_succ, List.getElem_cons_zero, List.setIfInBounds_toArray, List.set_cons_zero, List.set_cons_succ]
      refine wpAnyH_take (i := 1) (v := _) rfl (by kernel_rfl) (by kernel_rfl) (by kernel_rfl) (fun _ _ _ h => h) (yieldsIf_of (.agg old.V) (by rfl) (fun w' hw => exec_load_rowV (.tmp 9) rfl A rfl old w' ⟨_, hw⟩)) (by assumption) ?_
      try simp only [Act.put, List.getElem_toArray, List.getElem_cons_succ, List.getElem_cons_zero, List.setIfInBounds_toArray, List.set_cons_zero, List.set_cons_succ]
      refine wpAnyH_take (i := 2) (v := ?_) rfl (by kernel_rfl) (by kernel_rfl) (by kernel_rfl) (fun _ _ _ h => h) (Or.inl ⟨by rfl, ?_⟩) (by assumption) ?_
      rotate_left
      · (intro w hSw; (try dsimp only at hSw); first | (go_simp; done) | (go_simp; with_reducible rfl))
      try simp only [Act.put, List.getElem_toArray, List.getElem_cons_succ, List.getElem_cons_zero, List.setIfInBounds_toArray, List.set_cons_zero, List.set_cons_succ]
      refine wpAnyH_take (i := 3) (v := ?_) rfl (by kernel_rfl) (by kernel_rfl) (by kernel_rfl) (fun _ _ _ h => h) (Or.inl ⟨by rfl, ?_⟩) (by assumption) ?_
      rotate_left
      · (intro w hSw; (try dsimp only at hSw); first | (go_simp; done) | (go_simp; with_reducible rfl))
      try simp only [Act.put, List.getElem_toArray, List.getElem_cons_succ, List.getElem_cons_zero, List.setIfInBounds_toArray, List.set_cons_zero, List.set_cons_succ]
      refine wpAnyH_take (i := 4) (v := ?_) rfl (by kernel_rfl) (by kernel_rfl) (by kernel_rfl) (fun _ _ _ h => h) (Or.inl ⟨by rfl, ?_⟩) (by assumption) ?_
      rotate_left
      · (intro w hSw; (try dsimp only at hSw); first | (go_simp; done) | (go_simp; with_reducible rfl))
      try simp only [Act.put, List.getElem_toArray, List.getElem_cons_succ, List.getElem_cons_zero, List.setIfInBounds_toArray, List.set_cons_zero, List.set_cons_succ]
      refine wpAnyH_ready (rs := [5]) (by kernel_rfl) (by simp) ?_
      refine AllReadyH.cons rfl (fun K hK => ?_) AllReadyH.nil
      rw [if_pos (by rfl)]
      (refine wp_store_row 35 _ _ rfl B old.V rfl rfl _ _ hB (by rw [old.size]; exact infoSum) (by rw [old.size]; rfl) old.one ?_)
      refine hK.out _ _ ?_ (fun hHeld => ?_)
      · ((try dsimp only); exact setRow_keep _ hHeld HNE.out.1)
      clear hK K
      try simp only [Act.put, List.getElem_toArray, List.getElem_cons_succ, List.getElem_cons_zero, List.setIfInBounds_toArray, List.set_cons_zero, List.set_cons_succ]
      refine wpAnyH_ready (rs := [6]) (by kernel_rfl) (by simp) ?_
      refine AllReadyH.cons rfl (fun K hK => ?_) AllReadyH.nil
      rw [if_pos (by rfl)]
      (refine wp_store_row 35 _ _ rfl C old.V rfl rfl _ _ (setRow_keep _ hC HNE.out.2.2) (by rw [old.size]; exact infoSum) (by rw [old.size]; rfl) old.one ?_)
      refine hK.out _ _ ?_ (fun hHeld => ?_)
      · ((try dsimp only); exact setRow_keep _ hHeld HNE.out.2.1)
      clear hK K
      try simp only [Act.put, List.getElem_toArray, List.getElem_cons_succ, List.getElem_cons_zero, List.setIfInBounds_toArray, List.set_cons_zero, List.set_cons_succ]
      refine wpAnyH_take (i := 7) (v := ?_) rfl (by kernel_rfl) (by kernel_rfl) (by kernel_rfl) (fun _ _ _ h => h) (Or.inl ⟨by rfl, ?_⟩) (by assumption) ?_
      rotate_left
      · (intro w hSw; (try dsimp only at hSw); first | (go_simp; done) | (go_simp; with_reducible rfl))
      try simp only [Act.put, List.getElem_toArray, List.getElem_cons_succ, List.getElem_cons_zero, List.setIfInBounds_toArray, List.set_cons_zero, List.set_cons_succ]
      refine wpAnyH_take (i := 8) (v := ?_) rfl (by kernel_rfl) (by kernel_rfl) (by kernel_rfl) (fun _ _ _ h => h) (Or.inl ⟨by rfl, ?_⟩) (by assumption) ?_
      rotate_left
      · (intro w hSw; (try dsimp only at hSw); first | (go_simp; done) | (go_simp; with_reducible rfl))
      try simp only [Act.put, List.getElem_toArray, List.getElem_cons_succ, List.getElem_cons_zero, List.setIfInBounds_toArray, List.set_cons_zero, List.set_cons_succ]
      refine wpAnyH_done (by kernel_rfl) ?_ _
      refine NoPanic.normal ?_
      go_wp2
      refine bodyPost_ret (v := .tuple #[.agg old.V, .agg old.V, .slice none 0 0, .bool ((xs.length : Int) == 0)]) (results_two Try.results34 _ rfl rfl rfl rfl (setRow_keep _ (setRow_heap _ _ _ _ _ _ hB) (Ne.symm HNE.out.2.2)) old.size (setRow_heap _ _ _ _ _ _ (setRow_keep _ hC HNE.out.2.2)) old.size) rfl ⟨old, old, .slice none 0 0, [], ((xs.length : Int) == 0), rfl, Hs.hid ?_, OwnP.nil _, (fun g hg => by cases hg), Nat.zero_le _, ?_⟩
      · rw [HP.out]; congr 1; cases xs <;> simp; omega
      · exact ((hx0.drew).trans (setRow_ext _ _) (fun g hg => .inr (by simp at hg; have := HRR.out; omega))).trans (setRow_ext _ _) (fun g hg => .inr (by simp at hg; have := HRR.out; omega))
    · rcases snoc_casesV xs with rfl | ⟨ys, y, rfl⟩
      · have HP := Hs.hid (sidesP_nil L n f m whole old hwh)
        have hl0 : ([] : List S32).length = 0 := rfl
        rw [hl0] at hcap2 ⊢
        have hb2 : (if (m : Int) == n then whole else false) = false := by
          cases whole
          · simp
          · rw [if_neg]; simp; intro h; exact hwh ⟨by omega, rfl⟩
        clear hN hfn hoff hLA hT hL40
        go_enter Try.func34, Try.ntmps34
        go_upto_region 1 with fail
        generalize ((w.alloc (.cells old.V 35)).alloc (.cells #[.int .u8 0, .int .u8 0, .int .u8 0, .int .u8 0, .int .u8 0, .int .u8 0, .int .u8 0, .int .u8 0, .int .u8 0, .int .u8 0, .int .u8 0, .int .u8 0, .int .u8 0, .int .u8 0, .int .u8 0, .int .u8 0, .int .u8 0, .int .u8 0, .int .u8 0, .int .u8 0, .int .u8 0, .int .u8 0, .int .u8 0, .int .u8 0, .int .u8 0, .int .u8 0, .int .u8 0, .int .u8 0, .int .u8 0, .int .u8 0, .int .u8 0, .int .u8 0] 35)).alloc (.cells #[.int .u8 0, .int .u8 0, .int .u8 0, .int .u8 0, .int .u8 0, .int .u8 0, .int .u8 0, .int .u8 0, .int .u8 0, .int .u8 0, .int .u8 0, .int .u8 0, .int .u8 0, .int .u8 0, .int .u8 0, .int .u8 0, .int .u8 0, .int .u8 0, .int .u8 0, .int .u8 0, .int .u8 0, .int .u8 0, .int .u8 0, .int .u8 0, .int .u8 0, .int .u8 0, .int .u8 0, .int .u8 0, .int .u8 0, .int .u8 0, .int .u8 0, .int .u8 0] 35) = W at hA hB hC hx0 ⊢
        obtain ⟨A, hAA⟩ : ∃ A, w.heap.size = A := ⟨_, rfl⟩
        obtain ⟨B, hBB⟩ : ∃ B, A + 1 = B := ⟨_, rfl⟩
        obtain ⟨C, hCC⟩ : ∃ C, B + 1 = C := ⟨_, rfl⟩
        rw [hAA] at hA hB hC
        rw [hBB] at hB hC
        rw [hCC] at hC
        try rw [hAA]
        try rw [hBB]
        try rw [hCC]
        have HRR := Hs.hid (show w.heap.size ≤ A ∧ w.heap.size ≤ B ∧ w.heap.size ≤ C by omega)
        have HAB := Hs.hid (show A < B ∧ B < C by omega)
        clear hAA hBB hCC
        have HNE := Hs.hid (show A ≠ B ∧ A ≠ C ∧ C ≠ B by have := HAB.out; omega)
        have hEnd : ∀ wz : World, wz = wz := fun _ => rfl
        cases whole
        · cases hmn : ((m : Int) == (n : Int))
          all_goals go_wp2_with (first
            | (refine wpList_store_row rfl 35 (.tmp 10) (.tmp 43) rfl B zeroS.V rfl rfl _ _ hB (by rw [zeroS.size]; exact infoSum) rfl zeroS.one ?_)
            | (refine wpList_store_row rfl 35 (.tmp 11) (.tmp 44) rfl C zeroS.V rfl rfl _ _ (setRow_keep _ hC HNE.out.2.2) (by rw [zeroS.size]; exact infoSum) rfl zeroS.one ?_))
          all_goals refine bodyPost_ret (v := .tuple #[.agg zeroS.V, .agg zeroS.V, .slice none 0 0, .bool false]) (results_two Try.results34 _ rfl rfl rfl rfl (setRow_keep _ (setRow_heap _ _ _ _ _ _ hB) (Ne.symm HNE.out.2.2)) zeroS.size (setRow_heap _ _ _ _ _ _ (setRow_keep _ hC HNE.out.2.2)) zeroS.size) rfl ⟨zeroS, zeroS, .slice none 0 0, [], false, rfl, Hs.hid ?_, OwnP.nil _, (fun g hg => by cases hg), Nat.zero_le _, ?_⟩
          all_goals first | exact HP.out | exact ((hx0).trans (setRow_ext _ _) (fun g hg => .inr (by simp at hg; have := HRR.out; omega))).trans (setRow_ext _ _) (fun g hg => .inr (by simp at hg; have := HRR.out; omega))
        · have hmn : ((m : Int) == (n : Int)) = false := by simp; intro h; exact hwh ⟨by omega, rfl⟩
          go_wp2_with (first
            | (refine wpList_store_row rfl 35 (.tmp 10) (.tmp 43) rfl B zeroS.V rfl rfl _ _ hB (by rw [zeroS.size]; exact infoSum) rfl zeroS.one ?_)
            | (refine wpList_store_row rfl 35 (.tmp 11) (.tmp 44) rfl C zeroS.V rfl rfl _ _ (setRow_keep _ hC HNE.out.2.2) (by rw [zeroS.size]; exact infoSum) rfl zeroS.one ?_))
          refine bodyPost_ret (v := .tuple #[.agg zeroS.V, .agg zeroS.V, .slice none 0 0, .bool false]) (results_two Try.results34 _ rfl rfl rfl rfl (setRow_keep _ (setRow_heap _ _ _ _ _ _ hB) (Ne.symm HNE.out.2.2)) zeroS.size (setRow_heap _ _ _ _ _ _ (setRow_keep _ hC HNE.out.2.2)) zeroS.size) rfl ⟨zeroS, zeroS, .slice none 0 0, [], false, rfl, Hs.hid ?_, OwnP.nil _, (fun g hg => by cases hg), Nat.zero_le _, ?_⟩
          · exact HP.out
          · exact ((hx0).trans (setRow_ext _ _) (fun g hg => .inr (by simp at hg; have := HRR.out; omega))).trans (setRow_ext _ _) (fun g hg => .inr (by simp at hg; have := HRR.out; omega))
      · obtain ⟨sb, so, rfl, hsb, hrg⟩ := hT.at (k := ys.length) (x := y) (by simp)
        have hyl : (ys ++ [y]).length = ys.length + 1 := by simp
        rw [hyl]
        by_cases hmn : m = n
        · subst hmn
          obtain rfl : whole = false := by cases whole; rfl; exact absurd ⟨rfl, rfl⟩ hwh
          exact side_end b o L HL f m off cap old ys y sb so cap2 h1 hfn hoff hcap hcm w hLA hT
        · have h2 : 2 ≤ n := by omega
          have hkl := halfN_lt h2
          have hkp := halfN_pos n
          obtain ⟨k, hk⟩ : ∃ k, halfN n = k := ⟨_, rfl⟩
          rw [hk] at hkl hkp
          by_cases hi : m ≤ k
          · exact side_left b o L HL n f m off cap k whole old ys y sb so cap2 h1 (by omega) hk hi hfn hoff hcap hcm (fun w' => csides_mth b o L HL N k f m off cap whole old ys (some ⟨sb, so, none⟩) cap2 (by omega) h1 hi (by omega) hoff (by omega) hcm w') w hLA hT
          · exact side_right_ b o L HL n f m off cap k whole old ys y sb so cap2 h1 (by omega) hk hi hfn hoff hcap hcm (fun w' => csides_mth b o L HL N (n - k) (f + k) (m - k) (off + k) (cap - k) false old ys (some ⟨sb, so, none⟩) cap2 (by omega) (by omega) (by omega) (by omega) (by omega) (by omega) (by omega) w') w hLA hT
end Go.Proofs.Ytjicjadibaomkaa
set_option linter.unusedSimpArgs false
set_option linter.unusedVariables false
set_option maxHeartbeats 2000000
set_option maxRecDepth 100000
namespace Go.Proofs.Ytjicjadibaomkaa
open Go.RowKit Go.Hs Go.Dg

theorem infoPair2 : (Try.prog.info? 43).map (·.size) = some 2 := by kernel_rfl
theorem wp_load_pair {op : Oper} {a : Act} {w : World} {K : Act → World → Prop} {Q : Exit → Act → World → Prop} (x : Operand) (ho : op.op = .load 43 x)
    (b o : Nat) (hx : a.eval x = .pointer (some ⟨b, o, none⟩)) (s t : ByteArray) (hc : w.rangeAt b o [.string s, .string t]) (h : K (a.put op.dst (.agg #[.string s, .string t])) w) : op.wp Try.prog a w K Q :=
  wp_load_mid 43 x ho b o hx [.string s, .string t] _ hc Try.underlying43 rfl infoPair2 h
theorem wp_store_pair {op : Oper} {a : Act} {w : World} {K : Act → World → Prop} {Q : Exit → Act → World → Prop} (x y : Operand) (ho : op.op = .store 43 x y)
    (b o : Nat) (s t : ByteArray) (hx : a.eval x = .pointer (some ⟨b, o, none⟩)) (hy : a.eval y = .agg #[.string s, .string t]) (ht : w.there b o 2) (h : K (a.put op.dst undef) (w.setCells b o [.string s, .string t])) : op.wp Try.prog a w K Q :=
  wp_store_mid 43 x y ho b o #[.string s, .string t] hx hy ht infoPair2 (by simp [Value.oneCell']) h
theorem flatP_get : ∀ (L : List (ByteArray × ByteArray)) (i : Nat) (p : ByteArray × ByteArray), L[i]? = some p → (flatP L)[i * 2]? = some (.string p.1) ∧ (flatP L)[i * 2 + 1]? = some (.string p.2)
  | [], i, p, h => by simp at h
  | q :: L, 0, p, h => by simp at h; subst h; exact ⟨rfl, rfl⟩
  | q :: L, i + 1, p, h => by
    have := flatP_get L i p (by simpa using h)
    rw [show (i + 1) * 2 = i * 2 + 2 by omega]
    exact this
theorem flatP_set : ∀ (L : List (ByteArray × ByteArray)) (i : Nat) (p : ByteArray × ByteArray), i < L.length → flatP (L.set i p) = ((flatP L).set (i * 2) (.string p.1)).set (i * 2 + 1) (.string p.2)
  | [], i, p, h => by simp at h
  | q :: L, 0, p, h => rfl
  | q :: L, i + 1, p, h => by
    have := flatP_set L i p (by simpa using h)
    rw [show (i + 1) * 2 = i * 2 + 2 by omega, List.set_cons_succ]
    show .string q.1 :: .string q.2 :: flatP (L.set i p) = _
    rw [this]; rfl
theorem flatP_len (L : List (ByteArray × ByteArray)) : (flatP L).length = L.length * 2 := by
  induction L with
  | nil => rfl
  | cons q L ih => show (flatP L).length + 1 + 1 = _; rw [ih, List.length_cons]; omega
theorem OwnP.block {w : World} {g n cap : Nat} {ps : List (ByteArray × ByteArray)} (o : OwnP w.heap (.slice (some ⟨g, 0, none⟩) n cap) ps) : ∃ cur, n = ps.length ∧ n ≤ cap ∧ w.heap[g]? = some (.cells cur 43 (0, 0)) ∧ cur.size = cap * 2 ∧ cur.toList.take (n * 2) = flatP ps := by
  have hn : n = ps.length := by obtain ⟨a, c, h⟩ := Own.form (w := w) o; simp at h; exact h.2.1
  rcases o.2 with ⟨h1, h0⟩ | ⟨g', cap', cur, h1, _, hg, hnc, hm, hs, ht⟩
  · simp at h1
  · simp at h1
    obtain ⟨rfl, _, rfl⟩ := h1
    exact ⟨cur, hn, by rw [hn]; exact hnc, hg, hs, by rw [hn]; exact ht⟩
theorem OwnP.size63 {w : World} {n : Nat} {ao : Option Addr} {cap : Nat} {ps : List (ByteArray × ByteArray)} (o : OwnP w.heap (.slice ao n cap) ps) : (n : Int) ≤ 9223372036854775807 := by
  obtain ⟨a, c, h⟩ := Own.form (w := w) o
  rcases o.2 with ⟨h1, h0⟩ | ⟨g', cap', cur, h1, _, hg, hnc, hm, hs, ht⟩
  · simp at h1; omega
  · simp at h1; unfold maxLen at hm; omega
theorem OwnP.at {w : World} {g n cap : Nat} {ps : List (ByteArray × ByteArray)} (o : OwnP w.heap (.slice (some ⟨g, 0, none⟩) n cap) ps) {i : Nat} {p : ByteArray × ByteArray} (hi : ps[i]? = some p) :
    w.rangeAt g (i * 2) [.string p.1, .string p.2] ∧ w.there g (i * 2) 2 := by
  obtain ⟨cur, hn, hc, hg, hs, ht⟩ := o.block
  have hil := (List.getElem?_eq_some_iff.1 hi).1
  obtain ⟨h0, h1⟩ := flatP_get ps i p hi
  rw [← ht, List.getElem?_take, if_pos (by omega), Array.getElem?_toList] at h0 h1
  constructor
  · intro j v hj
    rw [cellAt hg]
    match j, hj with
    | 0, hj => simp at hj; subst hj; exact h0
    | 1, hj => simp at hj; subst hj; exact h1
  · intro j hj
    refine ⟨?_, freeAt hg _⟩
    rw [cellAt hg, Array.getElem?_eq_getElem (by omega)]; rfl
theorem OwnP.put {w : World} {g n cap : Nat} {ps : List (ByteArray × ByteArray)} (o : OwnP w.heap (.slice (some ⟨g, 0, none⟩) n cap) ps) {i : Nat} (hi : i < n) (s t : ByteArray) :
    OwnP (w.setCells g (i * 2) [.string s, .string t]).heap (.slice (some ⟨g, 0, none⟩) n cap) (ps.set i (s, t)) ∧ Ext [g] w (w.setCells g (i * 2) [.string s, .string t]) := by
  obtain ⟨cur, hn, hc, hg, hs, ht⟩ := o.block
  have e : w.setCells g (i * 2) [.string s, .string t] = (w.setCell ⟨g, i * 2, none⟩ (.string s)).setCell ⟨g, i * 2 + 1, none⟩ (.string t) := by
    rw [World.setCells, World.setCells, World.setCells]
  rw [e]
  have h1 := heap_set hg (i * 2) (.string s)
  have h2 := heap_set h1 (i * 2 + 1) (.string t)
  refine ⟨⟨by rw [flatP_len], .inr ⟨g, cap, _, by simp [hn], Nat.zero_le _, h2, ?_, ?_, by simpa using hs, ?_⟩⟩, ((Ext.refl [g] w).set' (by simp) _ _).set' (by simp) _ _⟩
  · simp; omega
  · rcases o.2 with ⟨h1, h0⟩ | ⟨g', cap', cur', h1, _, hg', hnc, hm, hs', ht'⟩
    · simp at h1
    · simp at h1; rw [h1.2.2]; exact hm
  · simp only [Array.toList_setIfInBounds, List.length_set]
    rw [← hn, List.take_set, List.take_set, ht, flatP_set _ _ _ (by omega)]
/-- So far reversed. -/
structure RevI (ps : List (ByteArray × ByteArray)) (i : Nat) (qs : List (ByteArray × ByteArray)) : Prop where
  len : qs.length = ps.length
  get : ∀ k, k < ps.length → qs[k]? = if k < i ∨ ps.length ≤ k + i then ps[ps.length - 1 - k]? else ps[k]?
theorem RevI.start (ps : List (ByteArray × ByteArray)) : RevI ps 0 ps := ⟨rfl, fun k hk => by rw [if_neg (by omega)]⟩
theorem RevI.swap {ps qs : List (ByteArray × ByteArray)} {i j : Nat} {p q : ByteArray × ByteArray} (r : RevI ps i qs) (hp : qs[i]? = some p) (hq : qs[j]? = some q) (hij : i < j) (hs : i + j + 1 = ps.length) : RevI ps (i + 1) ((qs.set i q).set j p) := by
  refine ⟨by simp [r.len], fun k hk => ?_⟩
  have hl := r.len
  have e1 := r.get i (by omega)
  have e2 := r.get j (by omega)
  rw [if_neg (by omega), hp] at e1
  rw [if_neg (by omega), hq] at e2
  rw [List.getElem?_set, List.getElem?_set]
  by_cases hkj : j = k
  · subst hkj
    rw [if_pos rfl, if_pos (by simp; omega), if_pos (by omega), e1]; congr 1; omega
  · rw [if_neg hkj]
    by_cases hki : i = k
    · subst hki
      rw [if_pos rfl, if_pos (by omega), if_pos (by omega), e2]; congr 1; omega
    · rw [if_neg hki, r.get k hk]
      by_cases hc : k < i ∨ ps.length ≤ k + i
      · rw [if_pos hc, if_pos (by omega)]
      · rw [if_neg hc, if_neg (by omega)]
theorem RevI.done {ps qs : List (ByteArray × ByteArray)} {i : Nat} (r : RevI ps i qs) (h : ps.length ≤ 2 * i + 1) : qs = ps.reverse := by
  apply List.ext_getElem?
  intro k
  by_cases hk : k < ps.length
  · rw [List.getElem?_reverse hk, r.get k hk]
    split
    · rfl
    · congr 1; omega
  · rw [List.getElem?_eq_none (by rw [r.len]; omega), List.getElem?_eq_none (by simp; omega)]
theorem crev_any (v : Value) (ps : List (ByteArray × ByteArray)) (w : World) (hO : OwnP w.heap v ps) (hl : ps.length ≤ 1000) : Calls Try.prog 35 #[v] w fun e w' => e = .returned (.tuple #[]) ∧ OwnP w'.heap v ps.reverse ∧ Ext v.ownBlock.toList w w' := by
  obtain ⟨ao, cap, rfl⟩ := Own.form (w := w) hO
  obtain ⟨n, hn⟩ : ∃ n, ps.length = n := ⟨_, rfl⟩
  have HN := Hs.hid hn
  have hl2 : (n : Int) ≤ 1000 := by omega
  rw [hn] at hO ⊢
  have HO := Hs.hid hO
  clear hn hl hO
  go_enter Try.func35, Try.ntmps35
  go_wp2_with fail
  go_loopw [2, 3] (fun iv jv wr => ∃ (i : Nat) (j : Int) (qs : List (ByteArray × ByteArray)), iv = .int .i64 i ∧ jv = .int .i64 j ∧ (i : Int) + j = n - 1 ∧ Hid (RevI ps i qs) ∧ OwnP wr.heap (.slice ao n cap) qs ∧ Ext (Value.slice ao n cap).ownBlock.toList w wr) (fun iv _ _ => n - (intOf iv).toNat)
  case atStart => exact ⟨0, (n : Int) - 1, ps, rfl, rfl, by omega, Hs.hid (RevI.start ps), HO.out, Ext.refl _ _⟩
  case round =>
    clear HO
    obtain ⟨i, jI, qs, rfl, rfl, hij, HR, hO, hE⟩ := hrel
    by_cases hlt : (i : Int) < jI
    · obtain ⟨j, rfl⟩ : ∃ j : Nat, jI = j := ⟨jI.toNat, by omega⟩
      have hqn : qs.length = n := by rw [HR.out.len, HN.out]
      obtain ⟨g, rfl⟩ : ∃ g, ao = some ⟨g, 0, none⟩ := by
        rcases hO.2 with ⟨_, h0⟩ | ⟨g, cap', cur, h1, _⟩
        · omega
        · simp at h1; exact ⟨g, h1.1⟩
      obtain ⟨p, hp⟩ : ∃ p, qs[i]? = some p := ⟨_, List.getElem?_eq_getElem (by omega)⟩
      obtain ⟨q, hq⟩ : ∃ q, qs[j]? = some q := ⟨_, List.getElem?_eq_getElem (by omega)⟩
      replace hO : OwnP wr.drew.heap (.slice (some ⟨g, 0, none⟩) n cap) qs := hO
      replace hE := hE.drew
      have h1 := hO.at hp
      have h2 := hO.at hq
      have HQ := Hs.hid (And.intro h1 h2)
      obtain ⟨hO2, hE2⟩ := hO.put (i := i) (by omega) q.1 q.2
      obtain ⟨hO3, hE3'⟩ := hO2.put (i := j) (by omega) p.1 p.2
      have hE3 := (hE.trans' hE2).trans' hE3'
      have b1 : (i : Int) < n ∧ (j : Int) < n ∧ (0 : Int) ≤ i ∧ (0 : Int) ≤ j := by omega
      obtain ⟨b1, b2, b3, b4⟩ := b1
      have HP := Hs.hid (And.intro hp hq)
      clear hqn h1 h2 hO2 hE2 hE3' hE hO
      go_upto_region 3 with fail
      refine wp_region_noPanic ?_
      refine wp_region_held_drew (S := (fun _ => True)) (by kernel_rfl) ?_ (fun hHeld => ?_)
      · ((try dsimp only); all_goals trivial)
      refine wpAnyH_take (i := 0) (v := ?_) rfl (by kernel_rfl) (by kernel_rfl) (by kernel_rfl) (fun _ _ _ h => h) (Or.inl ⟨by rfl, ?_⟩) (by assumption) ?_
      rotate_left
      · (intro w hSw; (try dsimp only at hSw); first | (go_simp; done) | (go_simp; with_reducible rfl))
      try simp only [Act.put, List.getElem_toArray, List.getElem_cons_succ, List.getElem_cons_zero, List.setIfInBounds_toArray, List.set_cons_zero, List.set_cons_succ]
      refine wpAnyH_take (i := 1) (v := ?_) rfl (by kernel_rfl) (by kernel_rfl) (by kernel_rfl) (fun _ _ _ h => h) (Or.inl ⟨by rfl, ?_⟩) (by assumption) ?_
      rotate_left
      · (intro w hSw; (try dsimp only at hSw); first | (go_simp; done) | (go_simp; with_reducible rfl))
      try simp only [Act.put, List.getElem_toArray, List.getElem_cons_succ, List.getElem_cons_zero, List.setIfInBounds_toArray, List.set_cons_zero, List.set_cons_succ]
      refine wpAnyH_take (i := 2) (v := ?_) rfl (by kernel_rfl) (by kernel_rfl) (by kernel_rfl) (fun _ _ _ h => h) (Or.inl ⟨by rfl, ?_⟩) (by assumption) ?_
      rotate_left
      · (intro w hSw; (try dsimp only at hSw); first | (go_simp; done) | (go_simp; with_reducible rfl))
      try simp only [Act.put, List.getElem_toArray, List.getElem_cons_succ, List.getElem_cons_zero, List.setIfInBounds_toArray, List.set_cons_zero, List.set_cons_succ]
      refine wpAnyH_take (i := 3) (v := ?_) rfl (by kernel_rfl) (by kernel_rfl) (by kernel_rfl) (fun _ _ _ h => h) (Or.inl ⟨by rfl, ?_⟩) (by assumption) ?_
      rotate_left
      · (intro w hSw; (try dsimp only at hSw); first | (go_simp; done) | (go_simp; with_reducible rfl))
      try simp only [Act.put, List.getElem_toArray, List.getElem_cons_succ, List.getElem_cons_zero, List.setIfInBounds_toArray, List.set_cons_zero, List.set_cons_succ]
      refine wpAnyH_take (i := 4) (v := ?_) rfl (by kernel_rfl) (by kernel_rfl) (by kernel_rfl) (fun _ _ _ h => h) (Or.inl ⟨by rfl, ?_⟩) (by assumption) ?_
      rotate_left
      · (intro w hSw; (try dsimp only at hSw); first | (go_simp; done) | (go_simp; with_reducible rfl))
      try simp only [Act.put, List.getElem_toArray, List.getElem_cons_succ, List.getElem_cons_zero, List.setIfInBounds_toArray, List.set_cons_zero, List.set_cons_succ]
      refine wpAnyH_take (i := 5) (v := ?_) rfl (by kernel_rfl) (by kernel_rfl) (by kernel_rfl) (fun _ _ _ h => h) (Or.inl ⟨by rfl, ?_⟩) (by assumption) ?_
      rotate_left
      · (intro w hSw; (try dsimp only at hSw); first | (go_simp; done) | (go_simp; with_reducible rfl))
      try simp only [Act.put, List.getElem_toArray, List.getElem_cons_succ, List.getElem_cons_zero, List.setIfInBounds_toArray, List.set_cons_zero, List.set_cons_succ]
      refine wpAnyH_take (i := 6) (v := ?_) rfl (by kernel_rfl) (by kernel_rfl) (by kernel_rfl) (fun _ _ _ h => h) (Or.inl ⟨by rfl, ?_⟩) (by assumption) ?_
      rotate_left
      · (intro w hSw; (try dsimp only at hSw); first | (go_simp; done) | (go_simp; with_reducible rfl))
      try simp only [Act.put, List.getElem_toArray, List.getElem_cons_succ, List.getElem_cons_zero, List.setIfInBounds_toArray, List.set_cons_zero, List.set_cons_succ]
      refine wpAnyH_take (i := 8) (v := ?_) rfl (by kernel_rfl) (by kernel_rfl) (by kernel_rfl) (fun _ _ _ h => h) (Or.inl ⟨by rfl, ?_⟩) (by assumption) ?_
      rotate_left
      · (intro w hSw; (try dsimp only at hSw); first | (go_simp; done) | (go_simp; with_reducible rfl))
      try simp only [Act.put, List.getElem_toArray, List.getElem_cons_succ, List.getElem_cons_zero, List.setIfInBounds_toArray, List.set_cons_zero, List.set_cons_succ]
      refine wpAnyH_take (i := 9) (v := ?_) rfl (by kernel_rfl) (by kernel_rfl) (by kernel_rfl) (fun _ _ _ h => h) (Or.inl ⟨by rfl, ?_⟩) (by assumption) ?_
      rotate_left
      · (intro w hSw; (try dsimp only at hSw); first | (go_simp; done) | (go_simp; with_reducible rfl))
      try simp only [Act.put, List.getElem_toArray, List.getElem_cons_succ, List.getElem_cons_zero, List.setIfInBounds_toArray, List.set_cons_zero, List.set_cons_succ]
      refine wpAnyH_take (i := 10) (v := ?_) rfl (by kernel_rfl) (by kernel_rfl) (by kernel_rfl) (fun _ _ _ h => h) (Or.inl ⟨by rfl, ?_⟩) (by assumption) ?_
      rotate_left
      · (intro w hSw; (try dsimp only at hSw); first | (go_simp; done) | (go_simp; with_reducible rfl))
      try simp only [Act.put, List.getElem_toArray, List.getElem_cons_succ, List.getElem_cons_zero, List.setIfInBounds_toArray, List.set_cons_zero, List.set_cons_succ]
      refine wpAnyH_ready (rs := [7, 11]) (by kernel_rfl) (by simp) ?_
      refine AllReadyH.cons rfl (fun K hK => ?_) (AllReadyH.cons rfl (fun K hK => ?_) AllReadyH.nil)
      · rw [if_pos (by rfl)]
        (refine wp_load_pair _ rfl g (j * 2) rfl q.1 q.2 HQ.out.2.1 ?_)
        refine hK.out _ _ ?_ (fun hHeld => ?_)
        · ((try dsimp only); all_goals trivial)
        clear hK K
        try simp only [Act.put, List.getElem_toArray, List.getElem_cons_succ, List.getElem_cons_zero, List.setIfInBounds_toArray, List.set_cons_zero, List.set_cons_succ]
        refine wpAnyH_ready (rs := [11]) (by kernel_rfl) (by simp) ?_
        refine AllReadyH.cons rfl (fun K hK => ?_) AllReadyH.nil
        rw [if_pos (by rfl)]
        (refine wp_load_pair _ rfl g (i * 2) rfl p.1 p.2 HQ.out.1.1 ?_)
        refine hK.out _ _ ?_ (fun hHeld => ?_)
        · ((try dsimp only); all_goals trivial)
        clear hK K
        try simp only [Act.put, List.getElem_toArray, List.getElem_cons_succ, List.getElem_cons_zero, List.setIfInBounds_toArray, List.set_cons_zero, List.set_cons_succ]
        refine wpAnyH_take (i := 12) (v := ?_) rfl (by kernel_rfl) (by kernel_rfl) (by kernel_rfl) (fun _ _ _ h => h) (Or.inl ⟨by rfl, ?_⟩) (by assumption) ?_
        rotate_left
        · (intro w hSw; (try dsimp only at hSw); first | (go_simp; done) | (go_simp; with_reducible rfl))
        try simp only [Act.put, List.getElem_toArray, List.getElem_cons_succ, List.getElem_cons_zero, List.setIfInBounds_toArray, List.set_cons_zero, List.set_cons_succ]
        refine wpAnyH_ready (rs := [13]) (by kernel_rfl) (by simp) ?_
        refine AllReadyH.cons rfl (fun K hK => ?_) AllReadyH.nil
        rw [if_pos (by rfl)]
        (refine wp_store_pair _ _ rfl g (i * 2) q.1 q.2 rfl rfl HQ.out.1.2 ?_)
        refine hK.out _ _ ?_ (fun hHeld => ?_)
        · ((try dsimp only); all_goals trivial)
        clear hK K
        try simp only [Act.put, List.getElem_toArray, List.getElem_cons_succ, List.getElem_cons_zero, List.setIfInBounds_toArray, List.set_cons_zero, List.set_cons_succ]
        refine wpAnyH_take (i := 14) (v := ?_) rfl (by kernel_rfl) (by kernel_rfl) (by kernel_rfl) (fun _ _ _ h => h) (Or.inl ⟨by rfl, ?_⟩) (by assumption) ?_
        rotate_left
        · (intro w hSw; (try dsimp only at hSw); first | (go_simp; done) | (go_simp; with_reducible rfl))
        try simp only [Act.put, List.getElem_toArray, List.getElem_cons_succ, List.getElem_cons_zero, List.setIfInBounds_toArray, List.set_cons_zero, List.set_cons_succ]
        refine wpAnyH_ready (rs := [15]) (by kernel_rfl) (by simp) ?_
        refine AllReadyH.cons rfl (fun K hK => ?_) AllReadyH.nil
        rw [if_pos (by rfl)]
        (refine wp_store_pair _ _ rfl g (j * 2) p.1 p.2 rfl rfl (World.there_setCells HQ.out.2.2 _ _ _) ?_)
        refine hK.out _ _ ?_ (fun hHeld => ?_)
        · ((try dsimp only); all_goals trivial)
        clear hK K
        try simp only [Act.put, List.getElem_toArray, List.getElem_cons_succ, List.getElem_cons_zero, List.setIfInBounds_toArray, List.set_cons_zero, List.set_cons_succ]
        refine wpAnyH_done (by kernel_rfl) ?_ _
        refine NoPanic.normal ?_
        go_wp2_with fail
        go_round
        case rel => exact ⟨i + 1, (j : Int) - 1, _, by go_num, by go_num, by omega, Hs.hid (HR.out.swap HP.out.1 HP.out.2 (by omega) (by have := HN.out; omega)), hO3, hE3⟩
        case measure => simp [intOf]; omega
      · rw [if_pos (by rfl)]
        (refine wp_load_pair _ rfl g (i * 2) rfl p.1 p.2 HQ.out.1.1 ?_)
        refine hK.out _ _ ?_ (fun hHeld => ?_)
        · ((try dsimp only); all_goals trivial)
        clear hK K
        try simp only [Act.put, List.getElem_toArray, List.getElem_cons_succ, List.getElem_cons_zero, List.setIfInBounds_toArray, List.set_cons_zero, List.set_cons_succ]
        refine wpAnyH_ready (rs := [7]) (by kernel_rfl) (by simp) ?_
        refine AllReadyH.cons rfl (fun K hK => ?_) AllReadyH.nil
        rw [if_pos (by rfl)]
        (refine wp_load_pair _ rfl g (j * 2) rfl q.1 q.2 HQ.out.2.1 ?_)
        refine hK.out _ _ ?_ (fun hHeld => ?_)
        · ((try dsimp only); all_goals trivial)
        clear hK K
        try simp only [Act.put, List.getElem_toArray, List.getElem_cons_succ, List.getElem_cons_zero, List.setIfInBounds_toArray, List.set_cons_zero, List.set_cons_succ]
        refine wpAnyH_take (i := 12) (v := ?_) rfl (by kernel_rfl) (by kernel_rfl) (by kernel_rfl) (fun _ _ _ h => h) (Or.inl ⟨by rfl, ?_⟩) (by assumption) ?_
        rotate_left
        · (intro w hSw; (try dsimp only at hSw); first | (go_simp; done) | (go_simp; with_reducible rfl))
        try simp only [Act.put, List.getElem_toArray, List.getElem_cons_succ, List.getElem_cons_zero, List.setIfInBounds_toArray, List.set_cons_zero, List.set_cons_succ]
        refine wpAnyH_ready (rs := [13]) (by kernel_rfl) (by simp) ?_
        refine AllReadyH.cons rfl (fun K hK => ?_) AllReadyH.nil
        rw [if_pos (by rfl)]
        (refine wp_store_pair _ _ rfl g (i * 2) q.1 q.2 rfl rfl HQ.out.1.2 ?_)
        refine hK.out _ _ ?_ (fun hHeld => ?_)
        · ((try dsimp only); all_goals trivial)
        clear hK K
        try simp only [Act.put, List.getElem_toArray, List.getElem_cons_succ, List.getElem_cons_zero, List.setIfInBounds_toArray, List.set_cons_zero, List.set_cons_succ]
        refine wpAnyH_take (i := 14) (v := ?_) rfl (by kernel_rfl) (by kernel_rfl) (by kernel_rfl) (fun _ _ _ h => h) (Or.inl ⟨by rfl, ?_⟩) (by assumption) ?_
        rotate_left
        · (intro w hSw; (try dsimp only at hSw); first | (go_simp; done) | (go_simp; with_reducible rfl))
        try simp only [Act.put, List.getElem_toArray, List.getElem_cons_succ, List.getElem_cons_zero, List.setIfInBounds_toArray, List.set_cons_zero, List.set_cons_succ]
        refine wpAnyH_ready (rs := [15]) (by kernel_rfl) (by simp) ?_
        refine AllReadyH.cons rfl (fun K hK => ?_) AllReadyH.nil
        rw [if_pos (by rfl)]
        (refine wp_store_pair _ _ rfl g (j * 2) p.1 p.2 rfl rfl (World.there_setCells HQ.out.2.2 _ _ _) ?_)
        refine hK.out _ _ ?_ (fun hHeld => ?_)
        · ((try dsimp only); all_goals trivial)
        clear hK K
        try simp only [Act.put, List.getElem_toArray, List.getElem_cons_succ, List.getElem_cons_zero, List.setIfInBounds_toArray, List.set_cons_zero, List.set_cons_succ]
        refine wpAnyH_done (by kernel_rfl) ?_ _
        refine NoPanic.normal ?_
        go_wp2_with fail
        go_round
        case rel => exact ⟨i + 1, (j : Int) - 1, _, by go_num, by go_num, by omega, Hs.hid (HR.out.swap HP.out.1 HP.out.2 (by omega) (by have := HN.out; omega)), hO3, hE3⟩
        case measure => simp [intOf]; omega
    · go_wp2_with fail
      go_end0
      exact ⟨rfl, by rw [← HR.out.done (by have := HN.out; omega)]; exact hO, hE⟩
end Go.Proofs.Ytjicjadibaomkaa
set_option linter.unusedSimpArgs false
set_option linter.unusedVariables false
set_option maxHeartbeats 4000000
set_option maxRecDepth 100000
namespace Go.Proofs.Ytjicjadibaomkaa
open Go.RowKit Go.Hs Go.Dg

theorem two_boxes (w : World) (x y : S32) : ((w.alloc (.cells #[.int .u8 0, .int .u8 0, .int .u8 0, .int .u8 0, .int .u8 0, .int .u8 0, .int .u8 0, .int .u8 0, .int .u8 0, .int .u8 0, .int .u8 0, .int .u8 0, .int .u8 0, .int .u8 0, .int .u8 0, .int .u8 0, .int .u8 0, .int .u8 0, .int .u8 0, .int .u8 0, .int .u8 0, .int .u8 0, .int .u8 0, .int .u8 0, .int .u8 0, .int .u8 0, .int .u8 0, .int .u8 0, .int .u8 0, .int .u8 0, .int .u8 0, .int .u8 0] 35)).alloc (.cells #[.int .u8 0, .int .u8 0, .int .u8 0, .int .u8 0, .int .u8 0, .int .u8 0, .int .u8 0, .int .u8 0, .int .u8 0, .int .u8 0, .int .u8 0, .int .u8 0, .int .u8 0, .int .u8 0, .int .u8 0, .int .u8 0, .int .u8 0, .int .u8 0, .int .u8 0, .int .u8 0, .int .u8 0, .int .u8 0, .int .u8 0, .int .u8 0, .int .u8 0, .int .u8 0, .int .u8 0, .int .u8 0, .int .u8 0, .int .u8 0, .int .u8 0, .int .u8 0] 35)).heap[w.heap.size]? = some (.cells zeroS.V 35 (0, 0)) ∧ (((w.alloc (.cells #[.int .u8 0, .int .u8 0, .int .u8 0, .int .u8 0, .int .u8 0, .int .u8 0, .int .u8 0, .int .u8 0, .int .u8 0, .int .u8 0, .int .u8 0, .int .u8 0, .int .u8 0, .int .u8 0, .int .u8 0, .int .u8 0, .int .u8 0, .int .u8 0, .int .u8 0, .int .u8 0, .int .u8 0, .int .u8 0, .int .u8 0, .int .u8 0, .int .u8 0, .int .u8 0, .int .u8 0, .int .u8 0, .int .u8 0, .int .u8 0, .int .u8 0, .int .u8 0] 35)).alloc (.cells #[.int .u8 0, .int .u8 0, .int .u8 0, .int .u8 0, .int .u8 0, .int .u8 0, .int .u8 0, .int .u8 0, .int .u8 0, .int .u8 0, .int .u8 0, .int .u8 0, .int .u8 0, .int .u8 0, .int .u8 0, .int .u8 0, .int .u8 0, .int .u8 0, .int .u8 0, .int .u8 0, .int .u8 0, .int .u8 0, .int .u8 0, .int .u8 0, .int .u8 0, .int .u8 0, .int .u8 0, .int .u8 0, .int .u8 0, .int .u8 0, .int .u8 0, .int .u8 0] 35)).setRow w.heap.size x.V).heap[w.heap.size + 1]? = some (.cells zeroS.V 35 (0, 0)) ∧
    Ext [] w ((((w.alloc (.cells #[.int .u8 0, .int .u8 0, .int .u8 0, .int .u8 0, .int .u8 0, .int .u8 0, .int .u8 0, .int .u8 0, .int .u8 0, .int .u8 0, .int .u8 0, .int .u8 0, .int .u8 0, .int .u8 0, .int .u8 0, .int .u8 0, .int .u8 0, .int .u8 0, .int .u8 0, .int .u8 0, .int .u8 0, .int .u8 0, .int .u8 0, .int .u8 0, .int .u8 0, .int .u8 0, .int .u8 0, .int .u8 0, .int .u8 0, .int .u8 0, .int .u8 0, .int .u8 0] 35)).alloc (.cells #[.int .u8 0, .int .u8 0, .int .u8 0, .int .u8 0, .int .u8 0, .int .u8 0, .int .u8 0, .int .u8 0, .int .u8 0, .int .u8 0, .int .u8 0, .int .u8 0, .int .u8 0, .int .u8 0, .int .u8 0, .int .u8 0, .int .u8 0, .int .u8 0, .int .u8 0, .int .u8 0, .int .u8 0, .int .u8 0, .int .u8 0, .int .u8 0, .int .u8 0, .int .u8 0, .int .u8 0, .int .u8 0, .int .u8 0, .int .u8 0, .int .u8 0, .int .u8 0] 35)).setRow w.heap.size x.V).setRow (w.heap.size + 1) y.V) := by
  obtain ⟨h1, h2, h3, _⟩ := alloc_two' w (.cells #[.int .u8 0, .int .u8 0, .int .u8 0, .int .u8 0, .int .u8 0, .int .u8 0, .int .u8 0, .int .u8 0, .int .u8 0, .int .u8 0, .int .u8 0, .int .u8 0, .int .u8 0, .int .u8 0, .int .u8 0, .int .u8 0, .int .u8 0, .int .u8 0, .int .u8 0, .int .u8 0, .int .u8 0, .int .u8 0, .int .u8 0, .int .u8 0, .int .u8 0, .int .u8 0, .int .u8 0, .int .u8 0, .int .u8 0, .int .u8 0, .int .u8 0, .int .u8 0] 35) (.cells #[.int .u8 0, .int .u8 0, .int .u8 0, .int .u8 0, .int .u8 0, .int .u8 0, .int .u8 0, .int .u8 0, .int .u8 0, .int .u8 0, .int .u8 0, .int .u8 0, .int .u8 0, .int .u8 0, .int .u8 0, .int .u8 0, .int .u8 0, .int .u8 0, .int .u8 0, .int .u8 0, .int .u8 0, .int .u8 0, .int .u8 0, .int .u8 0, .int .u8 0, .int .u8 0, .int .u8 0, .int .u8 0, .int .u8 0, .int .u8 0, .int .u8 0, .int .u8 0] 35)
  refine ⟨h1, setRow_keep _ h2 (by omega), (h3.trans (setRow_ext _ _) (fun g hg => .inr (by simp at hg; omega))).trans (setRow_ext _ _) (fun g hg => .inr (by simp at hg; omega))⟩
/-- What Sides answers. -/
structure SidesR (w' : World) (r : SideR) (v : Value) (ok : Bool) : Prop where
  isOk : ok = r.ok
  no : ok = false → v = .slice none 0 0
  yes : ok = true → OwnP w'.heap v r.ps.reverse
theorem csidesF_any (b : Nat) (L : List ByteArray) (HL : Hid (L.length ≤ 40 ∧ ∀ s ∈ L, s.size ≤ 20)) (n m cap : Nat) (old : S32) (xs : List S32) (ao2 : Option Addr) (cap2 : Nat) (h1 : 1 ≤ m) (hm : m ≤ n) (hn : n = L.length) (hcap : n ≤ cap) (hcm : cap ≤ 9223372036854775807) (nx : Nat) (hnx : xs.length = nx)
    (w : World) (hLA : LeafAt w.heap b 0 L) (hT : Sums32 w.heap ao2 cap2 xs) : Calls Try.prog 14 #[.int .i64 m, .agg old.V, .slice (some ⟨b, 0, none⟩) n cap, .slice ao2 nx cap2] w fun e w' => ∃ v ok, e = .returned (.tuple #[v, .bool ok]) ∧
      Hid (SidesR w' (sidesP L n 0 m true old xs) v ok) ∧ (∀ g, v.ownBlock = some g → w.heap.size ≤ g) ∧ Ext [] w w' := by
  subst hnx
  have hA := heap_new w (.cells old.V 35)
  have hx0 := (Ext.refl [] w).alloc (.cells old.V 35)
  have IH := Hs.hid (csides_mth b 0 L HL n n 0 m 0 cap true old xs ao2 cap2 (Nat.le_refl _) h1 hm (by omega) (by omega) hcap hcm _ (hLA.ext0 hx0) (hT.ext hx0 (by simp)))
  have b1 : ¬ (m : Int) < 1 ∧ (m : Int) ≤ n ∧ (0 : Int) ≤ m := by omega
  obtain ⟨b1, b2, b3⟩ := b1
  have b4 : ¬ (n : Int) < m := by omega
  have HL2 := HL.out.1
  have HNL := Hs.hid (show n ≤ 40 by omega)
  clear hLA hT hn HL2
  go_enter Try.func14, Try.ntmps14
  go_upto_region 3 with fail
  generalize w.alloc (.cells old.V 35) = W at hA hx0 IH ⊢
  obtain ⟨A, hAA⟩ : ∃ A, w.heap.size = A := ⟨_, rfl⟩
  rw [hAA] at hA ⊢
  have HAA := Hs.hid hAA
  clear hAA
  go_upto_region 4 with (first
    | (refine wpList_yield (.agg old.V) (by rfl) (exec_load_rowV (.tmp 5) rfl A rfl old _ ⟨_, hA⟩) ?_)
    | (go_at_call 34; with_reducible refine (IH.out).mono ?_; intro e w7 hr; unfold SideE at hr; obtain ⟨x1, y1, v1, ps1, ok1, rfl, hr1, hO1, hg1, hn1, hx7⟩ := hr)
    | (refine wpList_store_row rfl 35 (.tmp 10) (.tmp 28) rfl w7.heap.size x1.V rfl rfl _ _ (two_boxes w7 x1 y1).1 (by rw [x1.size]; exact infoSum) (by rw [x1.size]; rfl) x1.one ?_)
    | (refine wpList_store_row rfl 35 (.tmp 11) (.tmp 29) rfl (w7.heap.size + 1) y1.V rfl rfl _ _ (two_boxes w7 x1 y1).2.1 (by rw [y1.size]; exact infoSum) (by rw [y1.size]; rfl) y1.one ?_))
  have hx8 := (two_boxes w7 x1 y1).2.2
  generalize (((w7.alloc (.cells #[.int .u8 0, .int .u8 0, .int .u8 0, .int .u8 0, .int .u8 0, .int .u8 0, .int .u8 0, .int .u8 0, .int .u8 0, .int .u8 0, .int .u8 0, .int .u8 0, .int .u8 0, .int .u8 0, .int .u8 0, .int .u8 0, .int .u8 0, .int .u8 0, .int .u8 0, .int .u8 0, .int .u8 0, .int .u8 0, .int .u8 0, .int .u8 0, .int .u8 0, .int .u8 0, .int .u8 0, .int .u8 0, .int .u8 0, .int .u8 0, .int .u8 0, .int .u8 0] 35)).alloc (.cells #[.int .u8 0, .int .u8 0, .int .u8 0, .int .u8 0, .int .u8 0, .int .u8 0, .int .u8 0, .int .u8 0, .int .u8 0, .int .u8 0, .int .u8 0, .int .u8 0, .int .u8 0, .int .u8 0, .int .u8 0, .int .u8 0, .int .u8 0, .int .u8 0, .int .u8 0, .int .u8 0, .int .u8 0, .int .u8 0, .int .u8 0, .int .u8 0, .int .u8 0, .int .u8 0, .int .u8 0, .int .u8 0, .int .u8 0, .int .u8 0, .int .u8 0, .int .u8 0] 35)).setRow w7.heap.size x1.V).setRow (w7.heap.size + 1) y1.V = W8 at hx8 ⊢
  have hO8 := hO1.ext hx8 (fun _ _ => List.not_mem_nil)
  have HE8 := Hs.hid ((hx0.trans0 hx7).trans0 hx8)
  have HG := Hs.hid (And.intro hg1 (And.intro hn1 (hx0.size)))
  clear hO1 hx7 hx8 hx0 hA IH hg1 hn1
  cases ok1
  · go_wp2_with fail
    go_ret2
    exact ⟨.slice none 0 0, false, rfl, Hs.hid ⟨by rw [hr1.out], fun _ => rfl, fun h => by cases h⟩, (fun g hg => by cases hg), HE8.out⟩
  · go_wp2_with (go_at_call 35; with_reducible refine (crev_any v1 ps1 _ hO8 (by have := HG.out.2.1; have := HNL.out; omega)).mono ?_; rintro e w9 ⟨rfl, hO9, hx9⟩)
    go_ret2
    have hgw : ∀ g, v1.ownBlock = some g → w.heap.size ≤ g := fun g hg => Nat.le_trans HG.out.2.2 (HG.out.1 g hg)
    exact ⟨v1, true, rfl, Hs.hid ⟨by rw [hr1.out], (fun h => by cases h), fun _ => by rw [hr1.out]; exact hO9⟩, hgw, HE8.out.trans hx9 (fun g hg => .inr (hgw g (by simpa using hg)))⟩
end Go.Proofs.Ytjicjadibaomkaa
