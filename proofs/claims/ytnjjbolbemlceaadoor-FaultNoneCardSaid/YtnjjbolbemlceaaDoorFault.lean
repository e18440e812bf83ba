/-
  Package fault: In, Of, Has, Within, Where over chains of faults.
-/
import Derived.Test.YtnjjbolbemlceaaDoorErrs5
import Derived.Deep.LoopGhost
import Derived.Deep.Cut
set_option linter.unusedSimpArgs false
set_option linter.unusedVariables false
set_option maxHeartbeats 4000000
set_option maxRecDepth 100000
namespace Go.Proofs.YtnjjbolbemlceaaDoor
open Go.RowKit Go.Extern.Stop Go.Stop Go.Extern Go.Hs

theorem infoStrF : (Tryd.prog.info? 9).map (fun i => (i.zero, i.size, i.bytes)) = some (some (.string ⟨#[]⟩), 1, 16) := by kernel_rfl
theorem in_num (s : ByteArray) (a n : Int) (hn : n ≠ 0) (w : World) :
    Calls Tryd.prog 30 #[.string s, .int .i64 a, errN n] w fun ev w' => ∃ v, ev = .returned v ∧ v = .iface 66 (.pointer (some ⟨w.heap.size, 0, none⟩)) ∧ w' = w.alloc (.cells #[.string s, .int .i64 a, errN n] 68) := by
  have e1 := eq_en n 0
  rw [show (n == (0 : Int)) = false by simpa using hn] at e1
  unfold errN
  go_enter Tryd.func30, Tryd.ntmps30
  go_wp2
  go_ret
  exact ⟨_, rfl, rfl, rfl⟩
theorem in_ep (s : ByteArray) (a : Int) (p : Value) (w : World) :
    Calls Tryd.prog 30 #[.string s, .int .i64 a, .iface 66 p] w fun ev w' => ∃ v, ev = .returned v ∧ v = .iface 66 (.pointer (some ⟨w.heap.size, 0, none⟩)) ∧ w' = w.alloc (.cells #[.string s, .int .i64 a, .iface 66 p] 68) := by
  have e1 := fun w => eq_ep_en p (.int .i64 0) w
  go_enter Tryd.func30, Tryd.ntmps30
  go_wp2
  go_ret
  exact ⟨_, rfl, rfl, rfl⟩
theorem in_ok (s : ByteArray) (a : Int) (w : World) :
    Calls Tryd.prog 30 #[.string s, .int .i64 a, errN 0] w fun ev w' => ev = .returned .nilIface ∧ Ext [] w w' := by
  have e1 := eq_en 0 0
  simp only [beq_self_eq_true] at e1
  unfold errN
  go_enter Tryd.func30, Tryd.ntmps30
  go_wp2
  go_ret
  exact ⟨rfl, Ext.refl _ _⟩
theorem ErrV.alloc {t : Value} {w : World} {L : List (ByteArray × Int)} {v : Value} (h : ErrV w.heap t L v) (o : Obj) : ErrV (w.alloc o).heap t L v := h.ext0 ((Ext.refl [] w).alloc o)
theorem faultOf_any (n : Int) (L : List (ByteArray × Int)) (v : Value) (w : World) (hg : Gd w) (hv : ErrV w.heap (errN n) L v) :
    Calls Tryd.prog 17 #[v] w fun ev w' => ev = .returned (.int .i64 n) ∧ Ext [] w w' := by
  have hA := heap_new w (.cells #[.int .i64 0] 28)
  have E0 : Ext [] w (w.alloc (.cells #[.int .i64 0] 28)) := (Ext.refl _ _).alloc _
  have hg1 := hg.ext E0 (by simp)
  have hv1 := hv.ext0 E0
  obtain ⟨ty, y, hvy⟩ := hv.iface
  subst hvy
  go_enter Tryd.func17, Tryd.ntmps17
  go_wp2_with (go_at_call 36; refine (as_errno n w.heap.size L _ _ _ hg1 hv1 hA).mono ?_; rintro e w1 ⟨rfl, hx, hy⟩; have k0 := cellAt hy 0; simp at k0)
  go_ret
  exact ⟨rfl, E0.trans hx (by simp)⟩
theorem has_any (n m : Int) (L : List (ByteArray × Int)) (v : Value) (w : World) (hv : ErrV w.heap (errN n) L v) :
    Calls Tryd.prog 33 #[v, .int .i64 m] w fun ev w' => ev = .returned (.bool (decide (n = m))) ∧ Ext [] w w' := by
  go_enter Tryd.func33, Tryd.ntmps33
  go_wp2_with (go_at_call 31; refine (Is_en n m L _ _ hv).mono ?_; rintro e w1 ⟨rfl, hx⟩)
  go_ret
  exact ⟨rfl, hx⟩
theorem within_any (n : Int) (r : ByteArray) (L : List (ByteArray × Int)) (v : Value) (w : World) (hv : ErrV w.heap (errN n) L v) :
    Calls Tryd.prog 32 #[v, .string r] w fun ev w' => ev = .returned (.bool (L.any fun p => decide (r = p.1))) ∧ Ext [] w w' := by
  have hA := heap_new w (.cells #[.string r, .int .i64 0, .nilIface] 68)
  have E0 : Ext [] w (w.alloc (.cells #[.string r, .int .i64 0, .nilIface] 68)) := (Ext.refl _ _).alloc _
  have hv1 := hv.ext0 E0
  go_enter Tryd.func32, Tryd.ntmps32
  go_wp2_with (go_at_call 31; refine (Is_ep n w.heap.size r 0 L _ _ hv1 hA).mono ?_; rintro e w1 ⟨rfl, hx⟩)
  go_ret
  exact ⟨rfl, E0.trans' hx⟩
/-- The place that Where tells. -/
def lastAt : Int → List (ByteArray × Int) → Int
  | d, [] => d
  | _, p :: L => lastAt p.2 L
def namesE (L : List (ByteArray × Int)) : List ByteArray := L.map (·.1)
theorem where_any (n : Int) (L : List (ByteArray × Int)) (hL : L.length ≤ 1000) (v : Value) (w : World) (hg : Gd w) (hv : ErrV w.heap (errN n) L v) :
    Calls Tryd.prog 18 #[v] w fun ev w' => ∃ s, ev = .returned (.tuple #[s, .int .i64 (lastAt (-1) L)]) ∧ Own w'.heap 9 1 s L.length ((namesE L).map Value.string) ∧ Ext [] w w' ∧ ∀ g, s.ownBlock = some g → w.heap.size ≤ g := by
  obtain ⟨i0, hi, hz0, hz1, hz2⟩ := info_parts infoStrF
  have HI := Hs.hid (And.intro hi (And.intro hz0 (And.intro hz1 hz2)))
  clear hi hz0 hz1 hz2
  go_enter Tryd.func18, Tryd.ntmps18
  go_wp2
  go_loopg [0, 4, 5] L.length (fun n0 s0 s4 s5 wr => ∃ L0 L1 ao cap d, L0.length = n0 ∧ ErrV wr.heap (errN n) L0 s0 ∧ s4 = .slice ao L1.length cap ∧ s5 = .int .i64 d ∧ Own wr.heap 9 1 (.slice ao L1.length cap) L1.length ((namesE L1).map Value.string) ∧ Ext [] w wr ∧ Hid (L = L1 ++ L0 ∧ lastAt d L0 = lastAt (-1) L ∧ ∀ g, (Value.slice ao L1.length cap).ownBlock = some g → w.heap.size ≤ g))
  · exact ⟨L, [], none, 0, -1, rfl, hv, rfl, rfl, ⟨rfl, .inl ⟨rfl, rfl⟩⟩, Ext.refl _ _, Hs.hid ⟨rfl, rfl, fun g h => by cases h⟩⟩
  obtain ⟨L0, L1, ao, cap, d, rfl, hv1, rfl, rfl, hO, hx, hH⟩ := hrel
  have hA := heap_new wr (.cells #[.pointer none] 66)
  have E0 : Ext [] wr (wr.alloc (.cells #[.pointer none] 66)) := (Ext.refl _ _).alloc _
  have hg1 := hg.ext (hx.trans' E0) (by simp)
  have hv2 := hv1.ext0 E0
  cases L0 with
  | nil =>
    cases hv2
    cases hv1
    unfold errN
    go_wp2_with (go_at_call 36; refine (as_fault_miss wr.heap.size n _ _ hg1 hA).mono ?_; rintro e w1 ⟨rfl, hx1⟩)
    go_ret2
    obtain ⟨h1, h2, h3⟩ := hH.out
    rw [List.append_nil] at h1
    subst h1
    refine ⟨_, by rw [← h2]; rfl, (hO.same fun g hg => ?_), hx.trans' (E0.trans' hx1), h3⟩
    exact (E0.trans' hx1).block g (hO.lt hg) (by simp)
  | cons p L0 =>
    obtain ⟨s, x⟩ := p
    obtain ⟨b, u, rfl, hb, hu⟩ := hv2
    have hbne : b ≠ wr.heap.size := fun e => by subst e; rw [hA] at hb; simp at hb
    go_upto_region 6 with (go_at_call 36; refine (as_fault_hit wr.heap.size ⟨b, 0, none⟩ _ _ hg1 hA).mono ?_; rintro e w1 ⟨rfl, hx1, hy1⟩)
    have hb1 := hx1.same hb (by simpa using hbne)
    have k0 := cellAt hy1 0
    have b0 := cellAt hb1 0
    have b1 := cellAt hb1 1
    have b2 := cellAt hb1 2
    simp at k0 b0 b1 b2
    have hO1 : Own w1.heap 9 1 (.slice ao L1.length cap) L1.length ((namesE L1).map Value.string) := hO.same fun g hg => (E0.block g (hO.lt hg) (by simp)) ▸ hx1.block g (Nat.lt_of_lt_of_le (hO.lt hg) E0.size) (by have := hO.lt hg; simp; omega)
    have hext : Ext [] w (w1.alloc (.cells #[.string s] 9)) := (hx.trans' E0 |>.trans hx1 (fun g hg => .inr (by simp at hg; subst hg; exact hx.size))).alloc _
    have hl1 : L1.length ≤ 1000 := by have := congrArg List.length hH.out.1; simp at this; omega
    go_upto_region 7 with (at_builtin; refine wpList_append rfl (.tmp 13) (.tmp 18) 34 rfl 9 i0 _ 1 16 Tryd.underlying34 HI.out.1 HI.out.2.1 HI.out.2.2.1 HI.out.2.2.2 rfl (by decide) (.slice ao L1.length cap) L1.length _ rfl (hO1.same fun g hg => heap_old _ _ (hO1.lt hg)) ⟨w1.heap.size, 0, none⟩ 1 1 [.string s] rfl rfl (news_new w1 [.string s] 9) (by simp [Value.oneCell']) (by unfold maxLen; omega) (by omega) ?_; intro ao3 cap3 w3 hO3 hx3 hg3)
    have hg4 : ∀ g ∈ (Value.slice ao L1.length cap).ownBlock.toList, ∃ cur, (w1.alloc (.cells #[.string s] 9)).heap[g]? = some (.cells cur 9 (0, 0)) := fun g hg => by
      obtain ⟨cur, hc⟩ := Own.block hO1 (g := g) (by simpa using hg)
      exact ⟨cur, heap_old' _ _ hc⟩
    have hbF : ∀ x cs, (w1.alloc (.cells #[.string s] 9)).heap[x]? = some (.cells cs 68 (0, 0)) → x ∉ (Value.slice ao L1.length cap).ownBlock.toList := fun x cs hx hm => by
      obtain ⟨cur, hc⟩ := hg4 x hm
      rw [hx] at hc
      simp at hc
    have hb3 := hx3.same (heap_old' _ _ hb1) (hbF b _ (heap_old' _ _ hb1))
    have hy3 := hx3.same (heap_old' _ _ hy1) (fun hm => by obtain ⟨cur, hc⟩ := hg4 _ hm; rw [heap_old' _ _ hy1] at hc; simp at hc)
    have hu3 : ErrV w3.heap (errN n) L0 u := by
      have h1 := hu.ext hx1 (fun g hg cs fr h => by simp at hg; subst hg; rw [hA] at h; simp at h)
      have h2 := h1.alloc (.cells #[.string s] 9)
      exact h2.ext hx3 (fun g hg cs fr h => by obtain ⟨cur, hc⟩ := hg4 g hg; rw [h] at hc; simp at hc)
    clear k0 b0 b1 b2
    have k0 := cellAt hy3 0
    have b1 := cellAt hb3 1
    have b2 := cellAt hb3 2
    simp at k0 b1 b2
    go_wp2
    go_roundg L0.length
    case measure => simp
    case rel =>
      refine ⟨L0, L1 ++ [(s, x)], ao3, cap3, x, rfl, hu3, by simp, rfl, ?_, hext.trans hx3 (fun g hg => .inr (hH.out.2.2 g (by simpa using hg))), Hs.hid ⟨?_, ?_, ?_⟩⟩
      · have : namesE (L1 ++ [(s, x)]) = namesE L1 ++ [s] := by simp [namesE]
        rw [this, List.map_append, List.length_append]
        exact hO3
      · rw [hH.out.1]; simp
      · exact hH.out.2.1
      · intro g hg
        rcases hg3 g (by rw [List.length_append] at hg; exact hg) with h | h
        · exact hH.out.2.2 g h
        · exact Nat.le_trans hext.size h
end Go.Proofs.YtnjjbolbemlceaaDoor
