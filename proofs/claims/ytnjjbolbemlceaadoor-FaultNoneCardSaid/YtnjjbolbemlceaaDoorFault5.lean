/-
  Layer 3's law: number, wrapped.
-/
import Derived.Test.YtnjjbolbemlceaaDoorFault4
import Derived.Deep.CutBlock
import Derived.Deep.RegionHeld3
set_option linter.unusedSimpArgs false
set_option linter.unusedVariables false
set_option maxHeartbeats 4000000
set_option maxRecDepth 100000
namespace Go.Proofs.YtnjjbolbemlceaaDoor
open Go.RowKit Go.Extern.Stop Go.Stop Go.Extern Go.Hs

def cutB (s : ByteArray) (n : Nat) : ByteArray := if n < s.size then s.extract 0 n else s
theorem cutB_size (s : ByteArray) (n : Nat) : (cutB s n).size ≤ n := by
  unfold cutB; split
  · rw [ByteArray.size_extract]; omega
  · omega
theorem cutF_any (s : ByteArray) (n : Nat) (hn : n ≤ 1000000) (w : World) (hs : s.size ≤ maxLen) : Calls Tryd.prog 20 #[.string s, .int .i64 n] w fun e w' => e = .returned (.string (cutB s n)) ∧ w' = w := by
  unfold maxLen at hs
  have h1 : (n : Int) ≤ 1000000 := by omega
  have h2 : (0 : Int) ≤ n := by omega
  have h3 : (s.size : Int) ≤ 9223372036854775807 := by omega
  unfold cutB
  by_cases h : n < s.size
  · have hi : (n : Int) < s.size := by omega
    rw [if_pos h]
    have HN := Hs.hid h
    clear h
    go_enter Tryd.func20, Tryd.ntmps20
    go_wp2
    go_ret
    exact ⟨by simp, rfl⟩
  · have hi : ¬ (n : Int) < s.size := by omega
    rw [if_neg h]
    have HN := Hs.hid h
    clear h
    go_enter Tryd.func20, Tryd.ntmps20
    go_wp2
    go_ret
    exact ⟨rfl, rfl⟩
/-- The number that the law makes of an integer. -/
def numE (n : Int) : Nat := (1 + (Int.tmod n 20) % 20).toNat
theorem numE_eq (n : Int) : ((numE n : Nat) : Int) = 1 + (Int.tmod n 20) % 20 ∧ 1 ≤ numE n ∧ numE n < 21 := by
  unfold numE
  omega
theorem number_any (n : Int) (w : World) : Calls Tryd.prog 12 #[.int .i64 n] w fun e w' => e = .returned (.int .i64 (numE n : Nat)) ∧ w' = w := by
  have h1 : -20 < Int.tmod n 20 ∧ Int.tmod n 20 < 20 := ⟨by have := Int.lt_tmod_of_pos n (show (0:Int) < 20 by decide); omega, Int.tmod_lt_of_pos n (by decide)⟩
  go_enter Tryd.func12, Tryd.ntmps12
  go_wp2
  go_ret
  exact ⟨by rw [(numE_eq n).1]; rfl, rfl⟩
/-- An argument: a slice of steps. -/
def StepArg (w : World) (ao : Option Addr) (len : Nat) : Prop := (len : Int) ≤ 9223372036854775807 ∧ ∀ k, k < len → ∃ a s z, ao = some a ∧ a.block < w.heap.size ∧ w.cell? (a.add (k * 2)) = some (.string s) ∧ w.cell? ⟨(a.add (k * 2)).block, (a.add (k * 2)).off + 1, none⟩ = some (.int .i64 z) ∧ s.size ≤ maxLen
def flatE (L : List (ByteArray × Int)) : List Value := L.flatMap fun p => [.string p.1, .int .i64 p.2]
theorem flatE_append (L : List (ByteArray × Int)) (p : ByteArray × Int) : flatE (L ++ [p]) = flatE L ++ [.string p.1, .int .i64 p.2] := by simp [flatE]
def atE (z : Int) : Int := if z < -4611686018427387904 then -4611686018427387904 else z
theorem infoStep : (Tryd.prog.info? 38).map (fun i => (i.zero, i.size, i.bytes)) = some (some (.agg #[.string ⟨#[]⟩, .int .i64 0]), 2, 24) := by kernel_rfl
theorem StepArg.ext {w w' : World} {ao : Option Addr} {len : Nat} (h : StepArg w ao len) (x : Ext [] w w') : StepArg w' ao len := ⟨h.1, fun k hk => by
  obtain ⟨a, s, z, h1, h2, h3, h4, h5⟩ := h.2 k hk
  have hb : ∀ k, (a.add k).block = a.block := fun k => by unfold Addr.add; split <;> rfl
  exact ⟨a, s, z, h1, Nat.lt_of_lt_of_le h2 x.size, by rw [x.below.cell (p := a.add (k * 2)) (by rw [hb]; exact h2)]; exact h3, by rw [x.below.cell (p := ⟨(a.add (k * 2)).block, (a.add (k * 2)).off + 1, none⟩) (by show (a.add (k * 2)).block < _; rw [hb]; exact h2)]; exact h4, h5⟩⟩
/-- The steps that the law has taken. -/
structure FewAt (w0 w : World) (k : Nat) (L : List (ByteArray × Int)) (ao : Option Addr) (cap : Nat) : Prop where
  own : Own w.heap 38 2 (.slice ao k cap) k (flatE L)
  len : L.length = k
  six : k ≤ 6
  names : ∀ p ∈ L, p.1.size ≤ 10
  ext : Ext [] w0 w
  new : ∀ g, (Value.slice ao k cap).ownBlock = some g → w0.heap.size ≤ g
theorem FewAt.more {w0 w w' : World} {k : Nat} {L : List (ByteArray × Int)} {ao : Option Addr} {cap : Nat} (f : FewAt w0 w k L ao cap) (x : Ext [] w w') : FewAt w0 w' k L ao cap :=
  ⟨f.own.same fun g hg => x.block g (f.own.lt hg) (by simp), f.len, f.six, f.names, f.ext.trans' x, f.new⟩
theorem in_chain (s : ByteArray) (a n : Int) (hn : n ≠ 0) (L : List (ByteArray × Int)) (v : Value) (w : World) (hv : ErrV w.heap (errN n) L v) :
    Calls Tryd.prog 30 #[.string s, .int .i64 a, v] w fun ev w' => ∃ v', ev = .returned v' ∧ v' = .iface 66 (.pointer (some ⟨w.heap.size, 0, none⟩)) ∧ w'.heap[w.heap.size]? = some (.cells #[.string s, .int .i64 a, v] 68 (0, 0)) ∧ ErrV w'.heap (errN n) ((s, a) :: L) v' ∧ Ext [] w w' := by
  have key : ∀ v0, v0 = v → Calls Tryd.prog 30 #[.string s, .int .i64 a, v0] w (fun ev w' => ∃ v', ev = .returned v' ∧ v' = .iface 66 (.pointer (some ⟨w.heap.size, 0, none⟩)) ∧ w' = w.alloc (.cells #[.string s, .int .i64 a, v0] 68)) := by
    intro v0 h0
    cases L with
    | nil => cases hv; subst h0; exact in_num s a n hn w
    | cons p L => obtain ⟨b, u, h1, _⟩ := hv; subst h0; subst h1; exact in_ep s a _ w
  refine (key v rfl).mono ?_
  rintro e w' ⟨v', rfl, rfl, rfl⟩
  exact ⟨_, rfl, rfl, heap_new w _, ⟨_, _, rfl, heap_new w _, hv.alloc _⟩, (Ext.refl _ _).alloc _⟩
theorem flatE_get : ∀ (L : List (ByteArray × Int)) (i : Nat) (p : ByteArray × Int), L[i]? = some p → (flatE L)[i * 2]? = some (.string p.1) ∧ (flatE L)[i * 2 + 1]? = some (.int .i64 p.2)
  | [], i, p, h => by simp at h
  | q :: L, 0, p, h => by simp at h; subst h; exact ⟨rfl, rfl⟩
  | q :: L, i + 1, p, h => by
    have := flatE_get L i p (by simpa using h)
    rw [show (i + 1) * 2 = i * 2 + 2 by omega]
    exact this
theorem FewAt.cells {w0 w : World} {k : Nat} {L : List (ByteArray × Int)} {ao : Option Addr} {cap : Nat} (f : FewAt w0 w k L ao cap) {i : Nat} (hi : i < k) :
    ∃ g p, ao = some ⟨g, 0, none⟩ ∧ k ≤ cap ∧ L[i]? = some p ∧ w.cell? ⟨g, i * 2, none⟩ = some (.string p.1) ∧ w.cell? ⟨g, i * 2 + 1, none⟩ = some (.int .i64 p.2) := by
  rcases f.own.2 with ⟨_, h1⟩ | ⟨g, cap', cur, h1, _, hg, hn, hm, hsz, ht⟩
  · omega
  · simp only [Value.slice.injEq] at h1
    obtain ⟨rfl, _, rfl⟩ := h1
    have hil : i < L.length := by rw [f.len]; exact hi
    obtain ⟨h2, h3⟩ := flatE_get L i L[i] (List.getElem?_eq_getElem hil)
    rw [← ht, List.getElem?_take, if_pos (by omega)] at h2 h3
    exact ⟨g, L[i], rfl, hn, List.getElem?_eq_getElem hil, by rw [cellAt hg]; simpa using h2, by rw [cellAt hg]; simpa using h3⟩
theorem wrapped_any (ao : Option Addr) (len cap : Nat) (n : Int) (w : World) (hg : Gd w) (hA : StepArg w ao len) :
    Calls Tryd.prog 11 #[.slice ao len cap, .int .i64 n] w fun e w' => ∃ v k L ao2 cap2, e = .returned (.tuple #[v, .slice ao2 k cap2]) ∧ ErrV w'.heap (errN (numE n : Nat)) L v ∧ FewAt w w' k L ao2 cap2 := by
  obtain ⟨i0, hi, hz0, hz1, hz2⟩ := info_parts infoStep
  have HI := Hs.hid (And.intro hi (And.intro hz0 (And.intro hz1 hz2)))
  have HA := Hs.hid hA
  have hle := hA.1
  have hO := heap_new w (.cells #[] 38)
  have E0 : Ext [] w (w.alloc (.cells #[] 38)) := (Ext.refl _ _).alloc _
  have HF := Hs.hid (show FewAt w (w.alloc (.cells #[] 38)) 0 [] (some ⟨w.heap.size, 0, none⟩) 0 from ⟨⟨rfl, .inr ⟨w.heap.size, 0, #[], rfl, Nat.zero_le _, hO, Nat.le_refl _, by decide, rfl, rfl⟩⟩, rfl, by decide, by simp, E0, fun g hg => by simp [Value.ownBlock] at hg; omega⟩)
  clear hi hz0 hz1 hz2 hA hO E0
  go_enter Tryd.func11, Tryd.ntmps11
  go_upto_block 0 with fail
  generalize w.alloc (.cells #[] 38) = W at *
  generalize w.heap.size = A at *
  go_cut [6] (fun s6 wx => ∃ k L ao2 cap2, s6 = .slice ao2 k cap2 ∧ Hid (FewAt w wx k L ao2 cap2))
  case first =>
    go_wp2_with fail
    go_loopw [6, 7] (fun fv iv wr => ∃ (k : Nat) (L : List (ByteArray × Int)) (ao2 : Option Addr) (cap2 : Nat), iv = .int .i64 k ∧ fv = .slice ao2 k cap2 ∧ k ≤ len ∧ k ≤ 6 ∧ Hid (FewAt w wr k L ao2 cap2)) (fun _ iv _ => 6 - (intOf iv).toNat)
    case atStart => exact ⟨0, [], _, _, rfl, rfl, Nat.zero_le _, Nat.zero_le _, HF⟩
    case round =>
      clear HF
      obtain ⟨k, L, ao2, cap2, rfl, rfl, hk, hk2, HF⟩ := hrel
      have hki : (k : Int) ≤ 6 := by omega
      have hki0 : (0 : Int) ≤ k := by omega
      by_cases hlt : k < len ∧ k < 6
      · obtain ⟨hlt1, hlt2⟩ := hlt
        have hl1 : (k : Int) < len := by omega
        have hl2 : (k : Int) < 6 := by omega
        obtain ⟨a, s, z, rfl, hab, c0, c1, hs⟩ := HA.out.2 k hlt1
        have HB := Hs.hid (show (a.add (k * 2)).block < w.heap.size from cellIn c0)
        replace c0 := cell_same c0 (HF.out.ext.block _ (cellIn c0) (by simp))
        replace c1 := cell_same c1 (HF.out.ext.block _ (cellIn c1) (by simp))
        have HS := Hs.hid hs
        have HK := Hs.hid (And.intro hlt1 hlt2)
        clear hs hlt1 hlt2 hab
        go_upto_region 5 with fail
        refine wp_region_noPanic ?_
        refine wp_region_held_drew (S := (fun w' => w'.cell? (a.add (k * 2)) = some (.string s) ∧ w'.cell? ⟨(a.add (k * 2)).block, (a.add (k * 2)).off + 1, none⟩ = some (.int .i64 z))) (by kernel_rfl) ?_ (fun hHeld => ?_)
        · ((try dsimp only); exact ⟨c0, c1⟩)
        refine wpAnyH_take (i := 0) (v := ?_) rfl (by kernel_rfl) (by kernel_rfl) (by kernel_rfl) (fun _ _ _ h => h) (Or.inl ⟨by rfl, ?_⟩) (by assumption) ?_
        rotate_left
        · (intro w hSw; (try dsimp only at hSw); first | (go_simp; done) | (go_simp; with_reducible rfl))
        try simp only [Act.put, List.getElem_toArray, List.getElem_cons_succ, List.getElem_cons_zero, List.setIfInBounds_toArray, List.set_cons_zero, List.set_cons_succ]
        refine wpAnyH_take (i := 1) (v := ?_) rfl (by kernel_rfl) (by kernel_rfl) (by kernel_rfl) (fun _ _ _ h => h) (Or.inl ⟨by rfl, ?_⟩) (by assumption) ?_
        rotate_left
        · (intro w hSw; (try dsimp only at hSw); first | (go_simp; done) | (go_simp; with_reducible rfl))
        try simp only [Act.put, List.getElem_toArray, List.getElem_cons_succ, List.getElem_cons_zero, List.setIfInBounds_toArray, List.set_cons_zero, List.set_cons_succ]
        refine wpAnyH_take (i := 2) (v := ?_) rfl (by kernel_rfl) (by kernel_rfl) (by kernel_rfl) (fun _ _ _ h => h) (Or.inl ⟨by rfl, ?_⟩) (by assumption) ?_
        rotate_left
        · (intro w hSw; (try dsimp only at hSw); first | (go_simp; done) | (go_simp; with_reducible rfl))
        try simp only [Act.put, List.getElem_toArray, List.getElem_cons_succ, List.getElem_cons_zero, List.setIfInBounds_toArray, List.set_cons_zero, List.set_cons_succ]
        refine wpAnyH_take (i := 3) (v := ?_) rfl (by kernel_rfl) (by kernel_rfl) (by kernel_rfl) (fun _ _ _ h => h) (Or.inl ⟨by rfl, ?_⟩) (by assumption) ?_
        rotate_left
        · (intro w hSw; (try dsimp only at hSw); first | (go_simp; done) | (go_simp; with_reducible rfl))
        try simp only [Act.put, List.getElem_toArray, List.getElem_cons_succ, List.getElem_cons_zero, List.setIfInBounds_toArray, List.set_cons_zero, List.set_cons_succ]
        refine wpAnyH_take (i := 4) (v := ?_) rfl (by kernel_rfl) (by kernel_rfl) (by kernel_rfl) (fun _ _ _ h => h) (Or.inl ⟨by rfl, ?_⟩) (by assumption) ?_
        rotate_left
        · (intro w hSw; (try dsimp only at hSw); first | (go_simp; done) | (go_simp; with_reducible rfl))
        try simp only [Act.put, List.getElem_toArray, List.getElem_cons_succ, List.getElem_cons_zero, List.setIfInBounds_toArray, List.set_cons_zero, List.set_cons_succ]
        refine wpAnyH_take (i := 5) (v := ?_) rfl (by kernel_rfl) (by kernel_rfl) (by kernel_rfl) (fun _ _ _ h => h) (Or.inl ⟨by rfl, ?_⟩) (by assumption) ?_
        rotate_left
        · (intro w hSw; (try dsimp only at hSw); first | (go_simp; done) | (go_simp; with_reducible rfl))
        try simp only [Act.put, List.getElem_toArray, List.getElem_cons_succ, List.getElem_cons_zero, List.setIfInBounds_toArray, List.set_cons_zero, List.set_cons_succ]
        refine wpAnyH_take (i := 7) (v := ?_) rfl (by kernel_rfl) (by kernel_rfl) (by kernel_rfl) (fun _ _ _ h => h) (Or.inl ⟨by rfl, ?_⟩) (by assumption) ?_
        rotate_left
        · (intro w hSw; (try dsimp only at hSw); first | (go_simp; done) | (go_simp; with_reducible rfl))
        try simp only [Act.put, List.getElem_toArray, List.getElem_cons_succ, List.getElem_cons_zero, List.setIfInBounds_toArray, List.set_cons_zero, List.set_cons_succ]
        refine wpAnyH_take (i := 8) (v := ?_) rfl (by kernel_rfl) (by kernel_rfl) (by kernel_rfl) (fun _ _ _ h => h) (Or.inl ⟨by rfl, ?_⟩) (by assumption) ?_
        rotate_left
        · (intro w hSw; (try dsimp only at hSw); first | (go_simp; done) | (go_simp; with_reducible rfl))
        try simp only [Act.put, List.getElem_toArray, List.getElem_cons_succ, List.getElem_cons_zero, List.setIfInBounds_toArray, List.set_cons_zero, List.set_cons_succ]
        refine wpAnyH_take (i := 9) (v := ?_) rfl (by kernel_rfl) (by kernel_rfl) (by kernel_rfl) (fun _ _ _ h => h) (Or.inl ⟨by rfl, ?_⟩) (by assumption) ?_
        rotate_left
        · (intro w hSw; (try dsimp only at hSw); first | (go_simp; done) | (go_simp; with_reducible rfl))
        try simp only [Act.put, List.getElem_toArray, List.getElem_cons_succ, List.getElem_cons_zero, List.setIfInBounds_toArray, List.set_cons_zero, List.set_cons_succ]
        refine wpAnyH_take (i := 10) (v := ?_) rfl (by kernel_rfl) (by kernel_rfl) (by kernel_rfl) (fun _ _ _ h => h) (Or.inl ⟨by rfl, ?_⟩) (by assumption) ?_
        rotate_left
        · (intro w hSw; (try dsimp only at hSw); first | (go_simp; done) | (go_simp; with_reducible rfl))
        try simp only [Act.put, List.getElem_toArray, List.getElem_cons_succ, List.getElem_cons_zero, List.setIfInBounds_toArray, List.set_cons_zero, List.set_cons_succ]
        refine wpAnyH_take (i := 11) (v := ?_) rfl (by kernel_rfl) (by kernel_rfl) (by kernel_rfl) (fun _ _ _ h => h) (Or.inl ⟨by rfl, ?_⟩) (by assumption) ?_
        rotate_left
        · (intro w hSw; (try dsimp only at hSw); first | (go_simp; done) | (go_simp; with_reducible rfl))
        try simp only [Act.put, List.getElem_toArray, List.getElem_cons_succ, List.getElem_cons_zero, List.setIfInBounds_toArray, List.set_cons_zero, List.set_cons_succ]
        refine wpAnyH_take (i := 12) (v := ?_) rfl (by kernel_rfl) (by kernel_rfl) (by kernel_rfl) (fun _ _ _ h => h) (Or.inl ⟨by rfl, ?_⟩) (by assumption) ?_
        rotate_left
        · (intro w hSw; (try dsimp only at hSw); first | (go_simp; done) | (go_simp; with_reducible rfl))
        try simp only [Act.put, List.getElem_toArray, List.getElem_cons_succ, List.getElem_cons_zero, List.setIfInBounds_toArray, List.set_cons_zero, List.set_cons_succ]
        refine wpAnyH_ready (rs := [6]) (by kernel_rfl) (by simp) ?_
        refine AllReadyH.cons rfl (fun K hK => ?_) AllReadyH.nil
        go_simp
        (go_at_call 20; refine (cutF_any s 10 (by decide) _ HS.out).mono ?_; rintro e w6 ⟨rfl, rfl⟩)
        go_wp2_with fail
        refine hK.out _ _ ?_ (fun hHeld => ?_)
        · ((try dsimp only); exact hHeld)
        clear hK K
        try simp only [Act.put, List.getElem_toArray, List.getElem_cons_succ, List.getElem_cons_zero, List.setIfInBounds_toArray, List.set_cons_zero, List.set_cons_succ]
        refine wpAnyH_take (i := 13) (v := ?_) rfl (by kernel_rfl) (by kernel_rfl) (by kernel_rfl) (fun _ _ _ h => h) (Or.inl ⟨by rfl, ?_⟩) (by assumption) ?_
        rotate_left
        · (intro w hSw; (try dsimp only at hSw); first | (go_simp; done) | (go_simp; with_reducible rfl))
        try simp only [Act.put, List.getElem_toArray, List.getElem_cons_succ, List.getElem_cons_zero, List.setIfInBounds_toArray, List.set_cons_zero, List.set_cons_succ]
        refine wpAnyH_ready (rs := [14]) (by kernel_rfl) (by simp) ?_
        refine AllReadyH.cons rfl (fun K hK => ?_) AllReadyH.nil
        rw [if_pos (by rfl)]
        go_simp
        refine hK.out _ _ ?_ (fun hHeld => ?_)
        · ((try dsimp only); exact ⟨cell_same hHeld.1 (heap_old _ _ (cellIn hHeld.1)), cell_same hHeld.2 (heap_old _ _ (cellIn hHeld.2))⟩)
        clear hK K
        try simp only [Act.put, List.getElem_toArray, List.getElem_cons_succ, List.getElem_cons_zero, List.setIfInBounds_toArray, List.set_cons_zero, List.set_cons_succ]
        refine wpAnyH_ready (rs := [15]) (by kernel_rfl) (by simp) ?_
        refine AllReadyH.cons rfl (fun K hK => ?_) AllReadyH.nil
        (refine step_append_own rfl (.tmp 21) (.tmp 35) 22 rfl 38 i0 _ 2 24 Tryd.underlying22 HI.out.1 HI.out.2.1 HI.out.2.2.1 HI.out.2.2.2 rfl (by decide) (.slice ao2 k cap2) k _ rfl (HF.out.own.same fun g hg => heap_old _ _ (HF.out.own.lt hg)) ⟨wr.heap.size, 0, none⟩ 1 1 [.string (cutB s 10), .int .i64 (max z (-4611686018427387904))] rfl rfl (news_new wr _ _) (by simp [Value.oneCell']) (by unfold maxLen; omega) (by omega) ?_; intro ao3 cap3 w3 hO3 hx3 hg3)
        refine hK.out _ _ ?_ (fun hHeld => ?_)
        · ((try dsimp only); (have hnb : (a.add (k * 2)).block ∉ (Value.slice ao2 k cap2).ownBlock.toList := fun hm => (by have h1 := HF.out.new _ (by simpa using hm); have h2 := HB.out; omega); exact ⟨cell_same hHeld.1 (hx3.block _ (cellIn hHeld.1) hnb), cell_same hHeld.2 (hx3.block _ (cellIn hHeld.2) hnb)⟩))
        clear hK K
        try simp only [Act.put, List.getElem_toArray, List.getElem_cons_succ, List.getElem_cons_zero, List.setIfInBounds_toArray, List.set_cons_zero, List.set_cons_succ]
        refine wpAnyH_take (i := 16) (v := ?_) rfl (by kernel_rfl) (by kernel_rfl) (by kernel_rfl) (fun _ _ _ h => h) (Or.inl ⟨by rfl, ?_⟩) (by assumption) ?_
        rotate_left
        · (intro w hSw; (try dsimp only at hSw); first | (go_simp; done) | (go_simp; with_reducible rfl))
        try simp only [Act.put, List.getElem_toArray, List.getElem_cons_succ, List.getElem_cons_zero, List.setIfInBounds_toArray, List.set_cons_zero, List.set_cons_succ]
        refine wpAnyH_done (by kernel_rfl) ?_ _
        refine NoPanic.normal ?_
        go_wp2
        go_round
        case rel =>
          refine ⟨k + 1, L ++ [(cutB s 10, max z (-4611686018427387904))], ao3, cap3, by go_num, rfl, HK.out.1, HK.out.2, Hs.hid ⟨?_, by rw [List.length_append, HF.out.len]; rfl, HK.out.2, ?_, ?_, ?_⟩⟩
          · rw [flatE_append]; exact hO3
          · intro p hp
            rcases List.mem_append.1 hp with h | h
            · exact HF.out.names p h
            · obtain rfl := List.mem_singleton.1 h; exact cutB_size s 10
          · exact ((HF.out.ext.alloc _).drew).trans hx3 (fun g hg => .inr (HF.out.new g (by simpa using hg)))
          · intro g hg
            rcases hg3 g hg with h | h
            · exact HF.out.new g h
            · exact Nat.le_trans (HF.out.ext.alloc (.cells #[.string (cutB s 10), .int .i64 (max z (-4611686018427387904))] 38)).size h
        case measure => simp [intOf]; omega
      · by_cases hl : k < len
        · have h1 : (k : Int) < len := by omega
          have h2 : ¬ (k : Int) < 6 := by omega
          go_wp2_with fail
          go_meet
          exact ⟨k, L, ao2, cap2, rfl, HF⟩
        · have h1 : ¬ (k : Int) < len := by omega
          go_wp2_with fail
          go_meet
          exact ⟨k, L, ao2, cap2, rfl, HF⟩
  case rest =>
    clear HF
    obtain ⟨k, L, ao2, cap2, rfl, HF⟩ := hcut
    have hk6 := HF.out.six
    have HN := Hs.hid (numE_eq n)
    go_upto_block 2 with (go_at_call 12; refine (number_any n _).mono ?_; rintro e w1 ⟨rfl, rfl⟩)
    have hnn : ((numE n : Nat) : Int) ≠ 0 := by have := HN.out; omega
    have HNN := Hs.hid hnn
    clear hnn
    go_wp2_with fail
    go_loopw [8, 9] (fun ev iv wr => ∃ j : Nat, iv = .int .i64 ((j : Int) - 1) ∧ j ≤ k ∧ ErrV wr.heap (errN (numE n : Nat)) (L.drop j) ev ∧ Ext [] w1 wr) (fun _ iv _ => (intOf iv + 1).toNat)
    case atStart => exact ⟨k, rfl, Nat.le_refl _, by rw [List.drop_of_length_le (by rw [HF.out.len]; exact Nat.le_refl _)]; rfl, Ext.refl _ _⟩
    case round =>
      obtain ⟨j, rfl, hj, hv, hx⟩ := hrel
      by_cases h0 : j = 0
      · subst h0
        go_wp2_with fail
        go_ret2
        rw [List.drop_zero] at hv
        exact ⟨u8, k, L, ao2, cap2, rfl, hv, HF.out.more hx⟩
      · obtain ⟨i, rfl⟩ : ∃ i, j = i + 1 := ⟨j - 1, by omega⟩
        obtain ⟨g, p, rfl, hcap, hp, c0, c1⟩ := HF.out.cells (i := i) (by omega)
        replace c0 := cell_same c0 (hx.block _ (cellIn c0) (by simp))
        replace c1 := cell_same c1 (hx.block _ (cellIn c1) (by simp))
        have hd : L.drop i = p :: L.drop (i + 1) := by
          rw [List.drop_eq_getElem_cons (by have := (List.getElem?_eq_some_iff.1 hp).1; exact this)]
          rw [(List.getElem?_eq_some_iff.1 hp).2]
        have HD := Hs.hid hd
        clear hd hp
        have hi1 : (((i + 1 : Nat) : Int) - 1) = i := by omega
        rw [hi1]
        have hik : (i : Int) < k := by omega
        have hi0 : (0 : Int) ≤ i := by omega
        have hik6 : (i : Int) < 6 := by omega
        have HV := Hs.hid hv
        have HX := Hs.hid hx
        clear hv hx hi1
        go_upto_region 10 with fail
        refine wp_region_stl_tail 11 (by kernel_rfl) (by kernel_rfl) ?_
        simp only [List.take_succ_cons, List.take_zero, List.drop_succ_cons, List.drop_zero]
        refine still_val (v := ?_) (by rfl) ?_ ?_
        rotate_left
        · first | (go_simp; done) | (go_simp; with_reducible rfl)
        try simp only [Act.put, List.getElem_toArray, List.getElem_cons_succ, List.getElem_cons_zero, List.setIfInBounds_toArray, List.set_cons_zero, List.set_cons_succ]
        refine still_val (v := ?_) (by rfl) ?_ ?_
        rotate_left
        · first | (go_simp; done) | (go_simp; with_reducible rfl)
        try simp only [Act.put, List.getElem_toArray, List.getElem_cons_succ, List.getElem_cons_zero, List.setIfInBounds_toArray, List.set_cons_zero, List.set_cons_succ]
        refine still_val (v := ?_) (by rfl) ?_ ?_
        rotate_left
        · first | (go_simp; done) | (go_simp; with_reducible rfl)
        try simp only [Act.put, List.getElem_toArray, List.getElem_cons_succ, List.getElem_cons_zero, List.setIfInBounds_toArray, List.set_cons_zero, List.set_cons_succ]
        refine still_val (v := ?_) (by rfl) ?_ ?_
        rotate_left
        · first | (go_simp; done) | (go_simp; with_reducible rfl)
        try simp only [Act.put, List.getElem_toArray, List.getElem_cons_succ, List.getElem_cons_zero, List.setIfInBounds_toArray, List.set_cons_zero, List.set_cons_succ]
        refine still_val (v := ?_) (by rfl) ?_ ?_
        rotate_left
        · first | (go_simp; done) | (go_simp; with_reducible rfl)
        try simp only [Act.put, List.getElem_toArray, List.getElem_cons_succ, List.getElem_cons_zero, List.setIfInBounds_toArray, List.set_cons_zero, List.set_cons_succ]
        refine still_val (v := ?_) (by rfl) ?_ ?_
        rotate_left
        · first | (go_simp; done) | (go_simp; with_reducible rfl)
        try simp only [Act.put, List.getElem_toArray, List.getElem_cons_succ, List.getElem_cons_zero, List.setIfInBounds_toArray, List.set_cons_zero, List.set_cons_succ]
        refine still_val (v := ?_) (by rfl) ?_ ?_
        rotate_left
        · first | (go_simp; done) | (go_simp; with_reducible rfl)
        try simp only [Act.put, List.getElem_toArray, List.getElem_cons_succ, List.getElem_cons_zero, List.setIfInBounds_toArray, List.set_cons_zero, List.set_cons_succ]
        refine still_val (v := ?_) (by rfl) ?_ ?_
        rotate_left
        · first | (go_simp; done) | (go_simp; with_reducible rfl)
        try simp only [Act.put, List.getElem_toArray, List.getElem_cons_succ, List.getElem_cons_zero, List.setIfInBounds_toArray, List.set_cons_zero, List.set_cons_succ]
        refine still_val (v := ?_) (by rfl) ?_ ?_
        rotate_left
        · first | (go_simp; done) | (go_simp; with_reducible rfl)
        try simp only [Act.put, List.getElem_toArray, List.getElem_cons_succ, List.getElem_cons_zero, List.setIfInBounds_toArray, List.set_cons_zero, List.set_cons_succ]
        refine still_val (v := ?_) (by rfl) ?_ ?_
        rotate_left
        · first | (go_simp; done) | (go_simp; with_reducible rfl)
        try simp only [Act.put, List.getElem_toArray, List.getElem_cons_succ, List.getElem_cons_zero, List.setIfInBounds_toArray, List.set_cons_zero, List.set_cons_succ]
        refine still_val (v := ?_) (by rfl) ?_ ?_
        rotate_left
        · first | (go_simp; done) | (go_simp; with_reducible rfl)
        try simp only [Act.put, List.getElem_toArray, List.getElem_cons_succ, List.getElem_cons_zero, List.setIfInBounds_toArray, List.set_cons_zero, List.set_cons_succ]
        refine still_end ?_
        go_wp2_with (go_at_call 30; refine (in_chain p.1 p.2 _ HNN.out (L.drop (i + 1)) u8 _ (HV.out.ext0 (Ext.refl [] wr).drew)).mono ?_; rintro e w4 ⟨v4, rfl, rfl, _, hv4, hx4⟩)
        go_round
        case rel =>
          refine ⟨i, by go_num, by omega, ?_, HX.out.trans' ((Ext.refl [] wr).drew.trans' hx4)⟩
          rw [HD.out]; exact hv4
        case measure => simp [intOf]
end Go.Proofs.YtnjjbolbemlceaaDoor
