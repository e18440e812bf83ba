/-
  digest.mix, walked.
-/
import Derived.Test.YtnjjbolbemlceaaDig
set_option linter.unusedSimpArgs false
set_option linter.unusedVariables false
set_option maxHeartbeats 1000000
set_option maxRecDepth 100000
namespace Go.Proofs.Ytnjjbolbemlceaa
open Go.RowKit Go.Hs Go.Dg

theorem round_any (w : World) : Calls Try.prog 53 #[] w fun e w' => e = .returned (.slice (some ⟨w.heap.size, 0, none⟩) 64 64) ∧ w' = w.alloc (.cells (keysL.map (Value.int .u32)).toArray 70) := by
  go_enter Try.func53, Try.ntmps53
  go_wp2
  go_ret
  exact ⟨rfl, rfl⟩
abbrev stCell (t : St) : Obj := .cells #[.int .u32 t.a, .int .u32 t.b, .int .u32 t.c, .int .u32 t.d, .int .u32 t.e, .int .u32 t.f, .int .u32 t.g, .int .u32 t.h] 72 (0, 0)
abbrev zSt : St := ⟨0, 0, 0, 0, 0, 0, 0, 0⟩
structure MxAt (w wr : World) (A R T Kb : Nat) (ao : Option Addr) (cap : Nat) (t0 tn : St) (ws : List Int) : Prop where
  a : wr.heap[A]? = some (stCell t0)
  r : wr.heap[R]? = some (stCell zSt)
  t : wr.heap[T]? = some (stCell tn)
  k : wr.heap[Kb]? = some (.cells (keysL.map (Value.int .u32)).toArray 70 (0, 0))
  ws : WsAt w wr ao 64 cap ws
  ne : T ≠ A ∧ T ≠ R ∧ w.heap.size ≤ T ∧ w.heap.size ≤ R
theorem MxAt.ext0 {w wr w' : World} {A R T Kb : Nat} {ao : Option Addr} {cap : Nat} {t0 tn : St} {ws : List Int} (h : MxAt w wr A R T Kb ao cap t0 tn ws) (hx : Ext [] wr w') : MxAt w w' A R T Kb ao cap t0 tn ws :=
  ⟨hx.same h.a (by simp), hx.same h.r (by simp), hx.same h.t (by simp), hx.same h.k (by simp), h.ws.ext0 hx, h.ne⟩
theorem st_cells {w : World} {T : Nat} {t : St} (h : w.heap[T]? = some (stCell t)) : w.cell? ⟨T, 0, none⟩ = some (.int .u32 t.a) ∧ w.cell? ⟨T, 1, none⟩ = some (.int .u32 t.b) ∧ w.cell? ⟨T, 2, none⟩ = some (.int .u32 t.c) ∧ w.cell? ⟨T, 3, none⟩ = some (.int .u32 t.d) ∧
    w.cell? ⟨T, 4, none⟩ = some (.int .u32 t.e) ∧ w.cell? ⟨T, 5, none⟩ = some (.int .u32 t.f) ∧ w.cell? ⟨T, 6, none⟩ = some (.int .u32 t.g) ∧ w.cell? ⟨T, 7, none⟩ = some (.int .u32 t.h) := ⟨cellAt h 0, cellAt h 1, cellAt h 2, cellAt h 3, cellAt h 4, cellAt h 5, cellAt h 6, cellAt h 7⟩
theorem keys_cell {w : World} {Kb : Nat} (h : w.heap[Kb]? = some (.cells (keysL.map (Value.int .u32)).toArray 70 (0, 0))) {k : Nat} (hk : k < 64) : w.cell? ⟨Kb, k, none⟩ = some (.int .u32 (keysL.getD k 0)) := by
  rw [cellAt h k]
  have hl : k < keysL.length := by simpa [keysL] using hk
  simp [List.getElem?_map, List.getD, hl]
theorem MxAt.put {w wr : World} {A R T Kb : Nat} {ao : Option Addr} {cap : Nat} {t0 tn : St} {ws : List Int} (h : MxAt w wr A R T Kb ao cap t0 tn ws) (hws : ∀ g, ao = some ⟨g, 0, none⟩ → g ≠ T) (hk : T ≠ Kb) (v0 v1 v2 v3 v4 v5 v6 v7 : Int) :
    MxAt w ((((((((wr.setCell ⟨T, 0, none⟩ (.int .u32 v0)).setCell ⟨T, 1, none⟩ (.int .u32 v1)).setCell ⟨T, 2, none⟩ (.int .u32 v2)).setCell ⟨T, 3, none⟩ (.int .u32 v3)).setCell ⟨T, 4, none⟩ (.int .u32 v4)).setCell ⟨T, 5, none⟩ (.int .u32 v5)).setCell ⟨T, 6, none⟩ (.int .u32 v6)).setCell ⟨T, 7, none⟩ (.int .u32 v7)) A R T Kb ao cap t0 ⟨v0, v1, v2, v3, v4, v5, v6, v7⟩ ws := by
  have hx : Ext [T] wr ((((((((wr.setCell ⟨T, 0, none⟩ (.int .u32 v0)).setCell ⟨T, 1, none⟩ (.int .u32 v1)).setCell ⟨T, 2, none⟩ (.int .u32 v2)).setCell ⟨T, 3, none⟩ (.int .u32 v3)).setCell ⟨T, 4, none⟩ (.int .u32 v4)).setCell ⟨T, 5, none⟩ (.int .u32 v5)).setCell ⟨T, 6, none⟩ (.int .u32 v6)).setCell ⟨T, 7, none⟩ (.int .u32 v7)) := by
    repeat (first | (with_reducible exact Ext.refl _ _) | (with_reducible refine Ext.set' (List.mem_singleton.2 rfl) ?_ _ _))
  obtain ⟨n1, n2, n3, n4⟩ := h.ne
  refine ⟨hx.same h.a (by simp; exact Ne.symm n1), hx.same h.r (by simp; exact Ne.symm n2), ?_, hx.same h.k (by simp; exact Ne.symm hk), ⟨h.ws.own.same fun g hg => hx.block g (h.ws.own.lt hg) ?_, h.ws.ext.trans hx (fun g hg => .inr (by simp at hg; omega)), h.ws.lo⟩, h.ne⟩
  · refine Eq.trans (heap_set (heap_set (heap_set (heap_set (heap_set (heap_set (heap_set (heap_set h.t 0 _) 1 _) 2 _) 3 _) 4 _) 5 _) 6 _) 7 _) ?_
    simp
  · rcases h.ws.own.2 with ⟨_, q⟩ | ⟨g', c', cur, e1, _⟩
    · omega
    · cases e1
      cases hg
      simpa using hws _ rfl
theorem mix_any (t : St) (s : ByteArray) (hs : 64 ≤ s.size) (hm : s.size ≤ maxLen) (w : World) :
    Calls Try.prog 44 #[t.val, .string s] w fun e w' => e = .returned (mixF t s).val ∧ Ext [] w w' := by
  unfold St.val
  have h0 : ∀ (w5 : World) (ao : Option Addr) (cap : Nat), WsAt ((((w.alloc (stCell t)).alloc (stCell zSt)).alloc (stCell t)).alloc (.cells (keysL.map (Value.int .u32)).toArray 70)) w5 ao 64 cap (wordsN s 48) →
      MxAt w w5 w.heap.size (w.heap.size + 1) (w.heap.size + 1 + 1) (w.heap.size + 1 + 1 + 1) ao cap t t (wordsN s 48) := by
    intro w5 ao cap hW
    have h1 : (w.alloc (stCell t)).heap.size = w.heap.size + 1 := by simp
    have h2 : ((w.alloc (stCell t)).alloc (stCell zSt)).heap.size = w.heap.size + 1 + 1 := by simp
    have h3 : (((w.alloc (stCell t)).alloc (stCell zSt)).alloc (stCell t)).heap.size = w.heap.size + 1 + 1 + 1 := by simp
    have hx := hW.ext
    refine ⟨hx.same (heap_old' _ _ (heap_old' _ _ (heap_old' _ _ (heap_new _ _)))) (by simp), hx.same (heap_old' _ _ (heap_old' _ _ (by rw [← h1]; exact heap_new _ _))) (by simp), hx.same (heap_old' _ _ (by rw [← h2]; exact heap_new _ _)) (by simp), hx.same (by rw [← h3]; exact heap_new _ _) (by simp), ?_, by omega⟩
    refine ⟨hW.own, ((((Ext.refl [] w).alloc _).alloc _).alloc _).alloc _ |>.trans0 hx, fun g hg => ?_⟩
    have := hW.lo g hg
    simp only [World.alloc] at this
    simp at this
    omega
  go_enter Try.func44, Try.ntmps44
  go_wp2_with (first
    | (go_at_call 53; refine (round_any _).mono ?_; rintro e w4 ⟨rfl, rfl⟩)
    | (go_at_call 54; refine (words_any s hs hm _).mono ?_; rintro e w5 ⟨ao, cap, rfl, hW⟩))
  have hM := h0 _ _ _ hW
  have hA := Hs.hid (show w.heap.size = w.heap.size from rfl)
  clear h0 hW
  obtain ⟨A, hA⟩ : ∃ A, w.heap.size = A := ⟨_, rfl⟩
  have HA := Hs.hid hA
  rw [hA] at hM ⊢
  clear hA
  go_loopw [18] (fun ii wr => ∃ n tn, n ≤ 64 ∧ ii = .int .i64 (n : Nat) ∧ MxAt w wr A (A + 1) (A + 1 + 1) (A + 1 + 1 + 1) ao cap t tn (wordsN s 48) ∧ Hid (tn = mixTo t (wordsN s 48) n)) (fun ii _ => 64 - (intOf ii).toNat)
  case atStart => exact ⟨0, t, Nat.zero_le _, rfl, hM, Hs.hid rfl⟩
  case round =>
    clear hM
    obtain ⟨n, tn, hn, rfl, hM, HT⟩ := hrel
    have hn0 : (0 : Int) ≤ n := by omega
    by_cases hlt : n < 64
    · have hni : (n : Int) < 64 := by omega
      obtain ⟨g, rfl, cw⟩ := hM.ws.cell hlt
      have ck := keys_cell hM.k hlt
      have HG : Hid (g ≠ A + 1 + 1) := Hs.hid (by
        have hb := hM.ws.own.block (g := g) rfl
        obtain ⟨cur, hc⟩ := hb
        exact ne_block hc hM.t (by simp))
      obtain ⟨c0, c1, c2, c3, c4, c5, c6, c7⟩ := st_cells hM.t
      have cf := freeAt hM.t
      obtain ⟨wv, hwv⟩ : ∃ v, (wordsN s 48).getD n 0 = v := ⟨_, rfl⟩
      obtain ⟨kv, hkv⟩ : ∃ v, keysL.getD n 0 = v := ⟨_, rfl⟩
      rw [hwv] at cw
      rw [hkv] at ck
      have HV := Hs.hid (And.intro hwv hkv)
      have HN := Hs.hid (And.intro hn hlt)
      clear hwv hkv hn hlt
      go_upto_region 8 with fail
      go_quiet (fail)
      have hM := hM.ext0 ((Ext.refl [] wr).drewN nq)
      clear c0 c1 c2 c3 c4 c5 c6 c7 cf cw ck
      generalize wr.drewN nq = wa at *
      obtain ⟨c0, c1, c2, c3, c4, c5, c6, c7⟩ := st_cells hM.t
      have cf := freeAt hM.t
      go_upto_region 9 with fail
      go_quiet ((go_at_call 55; exact Calls.quiet_of_same (rotI _ _ _ (by decide) (by decide +kernel))))
      have hM := hM.ext0 ((Ext.refl [] wa).drewN nq)
      clear c0 c1 c2 c3 c4 c5 c6 c7 cf
      generalize wa.drewN nq = wb at *
      obtain ⟨c0, c1, c2, c3, c4, c5, c6, c7⟩ := st_cells hM.t
      have cf := freeAt hM.t
      go_upto_region 11 with fail
      go_quiet ((go_at_call 55; exact Calls.quiet_of_same (rotI _ _ _ (by decide) (by decide +kernel))))
      have hM := hM.ext0 ((Ext.refl [] wb).drewN nq)
      clear c0 c1 c2 c3 c4 c5 c6 c7 cf
      generalize wb.drewN nq = wd at *
      obtain ⟨c0, c1, c2, c3, c4, c5, c6, c7⟩ := st_cells hM.t
      have cf := freeAt hM.t
      go_wp2
      go_round
      case rel =>
        refine ⟨n + 1, ⟨_, _, _, _, _, _, _, _⟩, HN.out.2, by go_num, hM.put (fun g' e => ?_) (by omega) _ _ _ _ _ _ _ _, Hs.hid ?_⟩
        · cases e; exact HG.out
        · rw [mixTo, ← HT.out, HV.out.1, HV.out.2]
          unfold stepR xF chF majF sig1 sig0 notU
          rfl
      case measure => have := HN.out; simp [intOf]; omega
    · obtain rfl : n = 64 := by omega
      obtain ⟨c0, c1, c2, c3, c4, c5, c6, c7⟩ := st_cells hM.t
      obtain ⟨a0, a1, a2, a3, a4, a5, a6, a7⟩ := st_cells hM.a
      have rf := freeAt hM.r
      obtain ⟨r0, r1, r2, r3, r4, r5, r6, r7⟩ := st_cells hM.r
      have hsum : mixF t s = t.add tn := by unfold mixF; rw [HT.out]
      have HS := Hs.hid hsum
      clear hn hlt hn0 hsum
      go_wp2
      refine bodyPost_ret (v := (t.add tn).val) (by simp [results, Try.results44, go_sem, St.val, St.add, r0, r1, r2, r3, r4, r5, r6, r7]) rfl ⟨by rw [HS.out]; rfl, ?_⟩
      have hz := HA.out
      have hx := hM.ws.ext
      have hl : w.heap.size ≤ A + 1 := by omega
      repeat (first | (with_reducible exact hx) | (with_reducible refine Ext.setN hl ?_ _ _) | (with_reducible refine Ext.drew ?_))
end Go.Proofs.Ytnjjbolbemlceaa
