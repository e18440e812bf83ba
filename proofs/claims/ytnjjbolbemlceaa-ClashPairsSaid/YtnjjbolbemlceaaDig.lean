/-
  digest.words, walked.
-/
import Derived.Test.YtnjjbolbemlceaaDigP
import Derived.Test.YtnjjbolbemlceaaPDgx1
import Derived.Deep.RegionLaw
import Derived.Deep.RegionWith
import Derived.IntWalk
set_option linter.unusedSimpArgs false
set_option linter.unusedVariables false
set_option maxHeartbeats 1000000
set_option maxRecDepth 100000
namespace Go.Proofs.Ytnjjbolbemlceaa
open Go.RowKit Go.Hs Go.Dg

theorem infoU32 : (Try.prog.info? 70).map (fun i => (i.zero, i.size, i.bytes)) = some (some (.int .u32 0), 1, 4) := by kernel_rfl
theorem rot_any (x : Int) (k : Nat) (hk1 : 1 ≤ k) (hk2 : k ≤ 31) (hb : Go.bits .and .u64 (k : Int) 31 = k) (w : World) :
    Calls Try.prog 55 #[.int .u32 x, .int .i64 k] w fun e w' => e = .returned (.int .u32 (rotl x k)) ∧ w' = w := by
  have h1 : (1 : Int) ≤ k := by omega
  have h2 : (k : Int) ≤ 31 := by omega
  have h3 : ((32 : Int) - k).toNat = 32 - k := by omega
  go_enter Try.func55, Try.ntmps55
  go_wp2
  go_ret
  exact ⟨rfl, rfl⟩
theorem rot25 (x : Int) (w : World) : Calls Try.prog 55 #[.int .u32 x, .int .i64 25] w fun e w' => e = .returned (.int .u32 (rotl x 25)) ∧ w' = w := rot_any x 25 (by decide) (by decide) (by decide +kernel) w
theorem rot14 (x : Int) (w : World) : Calls Try.prog 55 #[.int .u32 x, .int .i64 14] w fun e w' => e = .returned (.int .u32 (rotl x 14)) ∧ w' = w := rot_any x 14 (by decide) (by decide) (by decide +kernel) w
theorem rot15 (x : Int) (w : World) : Calls Try.prog 55 #[.int .u32 x, .int .i64 15] w fun e w' => e = .returned (.int .u32 (rotl x 15)) ∧ w' = w := rot_any x 15 (by decide) (by decide) (by decide +kernel) w
theorem rot13 (x : Int) (w : World) : Calls Try.prog 55 #[.int .u32 x, .int .i64 13] w fun e w' => e = .returned (.int .u32 (rotl x 13)) ∧ w' = w := rot_any x 13 (by decide) (by decide) (by decide +kernel) w
theorem rot26 (x : Int) (w : World) : Calls Try.prog 55 #[.int .u32 x, .int .i64 26] w fun e w' => e = .returned (.int .u32 (rotl x 26)) ∧ w' = w := rot_any x 26 (by decide) (by decide) (by decide +kernel) w
theorem rot21 (x : Int) (w : World) : Calls Try.prog 55 #[.int .u32 x, .int .i64 21] w fun e w' => e = .returned (.int .u32 (rotl x 21)) ∧ w' = w := rot_any x 21 (by decide) (by decide) (by decide +kernel) w
theorem rot7 (x : Int) (w : World) : Calls Try.prog 55 #[.int .u32 x, .int .i64 7] w fun e w' => e = .returned (.int .u32 (rotl x 7)) ∧ w' = w := rot_any x 7 (by decide) (by decide) (by decide +kernel) w
theorem rot30 (x : Int) (w : World) : Calls Try.prog 55 #[.int .u32 x, .int .i64 30] w fun e w' => e = .returned (.int .u32 (rotl x 30)) ∧ w' = w := rot_any x 30 (by decide) (by decide) (by decide +kernel) w
theorem rot19 (x : Int) (w : World) : Calls Try.prog 55 #[.int .u32 x, .int .i64 19] w fun e w' => e = .returned (.int .u32 (rotl x 19)) ∧ w' = w := rot_any x 19 (by decide) (by decide) (by decide +kernel) w
theorem rot10 (x : Int) (w : World) : Calls Try.prog 55 #[.int .u32 x, .int .i64 10] w fun e w' => e = .returned (.int .u32 (rotl x 10)) ∧ w' = w := rot_any x 10 (by decide) (by decide) (by decide +kernel) w
theorem rotI (x K : Int) (w : World) (h : 1 ≤ K ∧ K ≤ 31) (hb : Go.bits .and .u64 K 31 = K) : Calls Try.prog 55 #[.int .u32 x, .int .i64 K] w fun e w' => e = .returned (.int .u32 (rotl x K.toNat)) ∧ w' = w := by
  obtain ⟨k, rfl⟩ := Int.eq_ofNat_of_zero_le (show 0 ≤ K by omega)
  exact rot_any x k (by omega) (by omega) hb w
theorem own_made {w : World} {z : Value} {e : TypeId} {c : Nat} (hc : c ≤ maxLen) : Own (w.alloc (.cells (Array.replicate c z) e)).heap e 1 (.slice (some ⟨w.heap.size, 0, none⟩) 0 c) 0 [] :=
  ⟨rfl, .inr ⟨_, c, _, rfl, Nat.zero_le _, heap_new _ _, Nat.zero_le _, hc, by simp, by simp⟩⟩
/-- A row of words of the call's own. -/
structure WsAt (w wr : World) (ao : Option Addr) (n cap : Nat) (l : List Int) : Prop where
  own : Own wr.heap 70 1 (.slice ao n cap) n (l.map (Value.int .u32))
  ext : Ext [] w wr
  lo : ∀ g, (Value.slice ao n cap).ownBlock = some g → w.heap.size ≤ g
theorem WsAt.ext0 {w wr w' : World} {ao : Option Addr} {n cap : Nat} {l : List Int} (h : WsAt w wr ao n cap l) (hx : Ext [] wr w') : WsAt w w' ao n cap l :=
  ⟨h.own.same fun g hg => hx.block g (h.own.lt hg) (by simp), h.ext.trans0 hx, h.lo⟩
theorem WsAt.grow {w wr w' : World} {ao ao2 : Option Addr} {n cap cap2 : Nat} {l : List Int} {x : Int} (h : WsAt w wr ao n cap l) (o : Own w'.heap 70 1 (.slice ao2 (n + 1) cap2) (n + 1) (l.map (Value.int .u32) ++ [.int .u32 x]))
    (hx : Ext (Value.slice ao n cap).ownBlock.toList wr w') (hf : ∀ g, (Value.slice ao2 (n + 1) cap2).ownBlock = some g → (Value.slice ao n cap).ownBlock = some g ∨ wr.heap.size ≤ g) : WsAt w w' ao2 (n + 1) cap2 (l ++ [x]) := by
  refine ⟨by simpa using o, h.ext.trans hx (fun g hg => .inr (h.lo g (by simpa using hg))), fun g hg => ?_⟩
  rcases hf g hg with q | q
  · exact h.lo g q
  · have := h.ext.size; omega
theorem WsAt.cell {w wr : World} {ao : Option Addr} {n cap : Nat} {l : List Int} (h : WsAt w wr ao n cap l) {k : Nat} (hk : k < n) : ∃ g, ao = some ⟨g, 0, none⟩ ∧ wr.cell? ⟨g, k, none⟩ = some (.int .u32 (l.getD k 0)) := by
  have hl : l.length = n := by have := h.own.1; simpa using this
  rcases h.own.2 with ⟨h1, h2⟩ | ⟨g, c, cur, h1, _⟩
  · omega
  · cases h1
    refine ⟨g, rfl, ?_⟩
    have := Own.cells (w := wr) rfl h.own (g := g) rfl k (.int .u32 (l.getD k 0)) (by simp [List.getElem?_map, List.getD, show k < l.length by omega])
    rwa [add_off'] at this
theorem words_any (s : ByteArray) (hs : 64 ≤ s.size) (hm : s.size ≤ maxLen) (w : World) :
    Calls Try.prog 54 #[.string s] w fun e w' => ∃ ao cap, e = .returned (.slice ao 64 cap) ∧ WsAt w w' ao 64 cap (wordsN s 48) := by
  unfold maxLen at hm
  have hsi : (64 : Int) ≤ s.size := by omega
  have hmi : (s.size : Int) ≤ 9223372036854775807 := by omega
  have hmk : ∀ w : World, (Instr.makeSlice 78 (.int .i64 0) (.int .i64 64)).run Try.prog w = .ok (.slice (some ⟨w.heap.size, 0, none⟩) 0 64) (w.alloc (.cells (Array.replicate 64 (.int .u32 0)) 70)) := fun _ => by kernel_rfl
  obtain ⟨i0, hi, hz0, hz1, hz2⟩ := info_parts infoU32
  have h0 : WsAt w (w.alloc (.cells (Array.replicate 64 (.int .u32 0)) 70)) (some ⟨w.heap.size, 0, none⟩) 0 64 [] :=
    ⟨own_made (by decide), (Ext.refl _ _).alloc _, fun g hg => by simp [Value.ownBlock] at hg; omega⟩
  have HI := Hs.hid hi
  have HZ := Hs.hid (And.intro hz0 (And.intro hz1 hz2))
  clear hi hz0 hz1 hz2
  go_enter Try.func54, Try.ntmps54
  go_wp2
  clear hmk
  go_loopw [13, 3] (fun ii v wr => ∃ n ao cap, n ≤ 16 ∧ ii = .int .i64 (n : Nat) ∧ v = .slice ao n cap ∧ WsAt w wr ao n cap (firstW s n)) (fun ii _ _ => 16 - (intOf ii).toNat)
  case atStart => exact ⟨0, _, _, Nat.zero_le _, rfl, rfl, h0⟩
  case round =>
    clear h0
    obtain ⟨n, ao, cap, hn, rfl, rfl, hW⟩ := hrel
    have hn0 : (0 : Int) ≤ n := by omega
    by_cases hlt : n < 16
    · have hni : (n : Int) < 16 := by omega
      have HN := Hs.hid (And.intro hn hlt)
      clear hn hlt
      go_wp2
      go_loop [16, 5] (fun kk x => ∃ k : Nat, k ≤ 4 ∧ kk = .int .i64 k ∧ x = .int .u32 (word0 s n k)) (fun kk _ => 4 - (intOf kk).toNat)
      case atStart => exact ⟨0, Nat.zero_le _, rfl, rfl⟩
      case round =>
        obtain ⟨k, hk, rfl, rfl⟩ := hrel
        have hk0 : (0 : Int) ≤ k := by omega
        by_cases hkl : k < 4
        · have hki : (k : Int) < 4 := by omega
          have HK := Hs.hid hkl
          clear hk hkl
          have hb := byte_eq s (4 * n + k) (by have := HN.out; have := HK.out; omega)
          have HB := Hs.hid hb
          clear hb
          go_wp2
          go_round
          case rel => exact ⟨k + 1, HK.out, by go_num, by rw [HB.out]; rfl⟩
          case measure => have := HK.out; simp [intOf]; omega
        · obtain rfl : k = 4 := by omega
          have hm1 : n + 1 ≤ maxLen := by have := HN.out; simp [maxLen]; omega
          have hm2 : (n + 1) * 4 ≤ 140737488355328 := by have := HN.out; omega
          have hi := HI.out
          obtain ⟨hz0, hz1, hz2⟩ := HZ.out
          clear hk hk0
          go_wp2_with (at_builtin; refine wpList_append rfl (.tmp 30) (.tmp 32) 78 rfl 70 i0 _ 1 4 Try.underlying78 hi hz0 hz1 hz2 rfl (by decide) (.slice ao n cap) n _ rfl (hW.own.alloc _) ⟨wr.heap.size, 0, none⟩ 1 1 [.int .u32 (word0 s n 4)] rfl rfl (news_new wr _ _) (by simp [Value.oneCell']) hm1 hm2 ?_; intro ao2 cap2 w2 hl2 hx2 hf2)
          have hW2 := (hW.ext0 ((Ext.refl [] wr).alloc (.cells #[.int .u32 (word0 s n 4)] 70))).grow hl2 hx2 hf2
          clear hi hz0 hz1 hz2 hm1 hm2 hl2 hx2 hf2
          go_roundw
          case rel => exact ⟨n + 1, ao2, cap2, HN.out.2, by go_num, rfl, hW2⟩
          case measure => have := HN.out; simp [intOf]; omega
    · obtain rfl : n = 16 := by omega
      clear hn hlt hn0
      go_wp2
      rw [show ((16 : Nat) : Int) = 16 from rfl]
      have hW0 : WsAt w wr ao (16 + 0) cap (wordsN s 0) := hW
      clear hW
      go_loopw [7, 3] (fun ii v wr => ∃ n ao cap, n ≤ 48 ∧ ii = .int .i64 ((16 + n : Nat) : Int) ∧ v = .slice ao (16 + n) cap ∧ WsAt w wr ao (16 + n) cap (wordsN s n)) (fun ii _ _ => 64 - (intOf ii).toNat)
      case atStart => exact ⟨0, ao, cap, Nat.zero_le _, rfl, rfl, hW0⟩
      case round =>
        clear hW0
        obtain ⟨n, ao, cap, hn, rfl, rfl, hW⟩ := hrel
        have hlen := wordsN_len s n
        obtain ⟨l, hl⟩ : ∃ l, wordsN s n = l := ⟨_, rfl⟩
        have hnx : wordsN s (n + 1) = l ++ [nextW l] := by simp only [wordsN, hl]
        rw [hl] at hW hlen
        have HNX := Hs.hid hnx
        have HL := Hs.hid hl
        clear hnx hl
        by_cases hlt : n < 48
        · obtain ⟨m, hm⟩ : ∃ m, 16 + n = m := ⟨_, rfl⟩
          rw [hm] at hW hlen ⊢
          have hm16 : (16 : Int) ≤ m := by omega
          have hm64 : (m : Int) < 64 := by omega
          obtain ⟨g, rfl, c15⟩ := hW.cell (k := m - 15) (by omega)
          obtain ⟨_, e2, c2⟩ := hW.cell (k := m - 2) (by omega); cases e2
          obtain ⟨_, e7, c7⟩ := hW.cell (k := m - 7) (by omega); cases e7
          obtain ⟨_, e16, c16⟩ := hW.cell (k := m - 16) (by omega); cases e16
          have t15 : ((m : Int) - 15).toNat = m - 15 := by omega
          have t2 : ((m : Int) - 2).toNat = m - 2 := by omega
          have t7 : ((m : Int) - 7).toNat = m - 7 := by omega
          have t16 : ((m : Int) - 16).toNat = m - 16 := by omega
          have b15 : (0 : Int) ≤ (m : Int) - 15 ∧ (m : Int) - 15 < m := by omega
          have b2 : (0 : Int) ≤ (m : Int) - 2 ∧ (m : Int) - 2 < m := by omega
          have b7 : (0 : Int) ≤ (m : Int) - 7 ∧ (m : Int) - 7 < m := by omega
          have b16 : (0 : Int) ≤ (m : Int) - 16 ∧ (m : Int) - 16 < m := by omega
          obtain ⟨b15, d15⟩ := b15
          obtain ⟨b2, d2⟩ := b2
          obtain ⟨b7, d7⟩ := b7
          obtain ⟨b16, d16⟩ := b16
          have HM := Hs.hid hm
          have HN := Hs.hid (And.intro hn hlt)
          have HLEN := Hs.hid hlen
          obtain ⟨x15, hx15⟩ : ∃ x, l.getD (m - 15) 0 = x := ⟨_, rfl⟩
          obtain ⟨x2, hx2⟩ : ∃ x, l.getD (m - 2) 0 = x := ⟨_, rfl⟩
          obtain ⟨x7, hx7⟩ : ∃ x, l.getD (m - 7) 0 = x := ⟨_, rfl⟩
          obtain ⟨x16, hx16⟩ : ∃ x, l.getD (m - 16) 0 = x := ⟨_, rfl⟩
          rw [hx15] at c15
          rw [hx2] at c2
          rw [hx7] at c7
          rw [hx16] at c16
          have HX := Hs.hid (And.intro hx16 (And.intro hx15 (And.intro hx7 hx2)))
          clear hm hn hlt hlen hx15 hx2 hx7 hx16
          go_upto_region 16 with fail
          go_quiet (fail)
          have hW := hW.ext0 ((Ext.refl [] wr).drewN nq)
          clear c15 c2 t15 t2 b15 d15 b2 d2
          go_upto_region 19 with (first
            | (go_at_call 55; with_reducible refine (rot25 _ _).mono ?_; rintro e w4 ⟨rfl, rfl⟩)
            | (go_at_call 55; with_reducible refine (rot14 _ _).mono ?_; rintro e w4 ⟨rfl, rfl⟩)
            | (go_at_call 55; with_reducible refine (rot15 _ _).mono ?_; rintro e w4 ⟨rfl, rfl⟩)
            | (go_at_call 55; with_reducible refine (rot13 _ _).mono ?_; rintro e w4 ⟨rfl, rfl⟩))
          have hm1 : m + 1 ≤ maxLen := by have := HN.out; have := HM.out; simp [maxLen]; omega
          have hm2 : (m + 1) * 4 ≤ 140737488355328 := by have := HN.out; have := HM.out; omega
          have hi := HI.out
          obtain ⟨hz0, hz1, hz2⟩ := HZ.out
          have c16 : (wr.drewN nq).cell? ⟨g, m - 16, none⟩ = some (.int .u32 x16) := c16
          have c7 : (wr.drewN nq).cell? ⟨g, m - 7, none⟩ = some (.int .u32 x7) := c7
          generalize wr.drewN nq = wr at *
          have w16 : IntKind.i64.wrap ((m : Int) - 16) = (m : Int) - 16 := IntWalk.i64_in _ (by omega)
          have w7 : IntKind.i64.wrap ((m : Int) - 7) = (m : Int) - 7 := IntWalk.i64_in _ (by omega)
          have hm7 : (7 : Int) ≤ m := by omega
          have hnw : nextW l = IntKind.u32.wrap (IntKind.u32.wrap (IntKind.u32.wrap (x16 + smallS x15) + x7) + greatS x2) := by
            unfold nextW
            rw [HLEN.out, HX.out.1, HX.out.2.1, HX.out.2.2.1, HX.out.2.2.2]
            simp only [IntKind.wrap_u32]
          have HNW := Hs.hid hnw
          clear hnw
          go_region_law (refine step_append_own rfl (.tmp 65) (.tmp 81) 78 rfl 70 i0 _ 1 4 Try.underlying78 hi hz0 hz1 hz2 rfl (by decide) (.slice (some ⟨g, 0, none⟩) m cap) m _ (by simp [Act.eval, Act.put]) ((hW.ext0 (Ext.drew (Ext.refl [] _))).own.alloc _) ⟨wr.heap.size, 0, none⟩ 1 1 [.int .u32 _] (by simp [Act.eval, Act.put]) rfl (news_new wr.drew _ _) (by simp [Value.oneCell']) hm1 hm2 ?_; intro ao2 cap2 w2 hl2 hx2 hf2)
          all_goals
            have hW2 := (hW.ext0 (by first | exact ((Ext.refl [] wr).alloc _).drew | exact ((Ext.refl [] wr).drew).alloc _)).grow hl2 hx2 hf2
            have hW3 : WsAt w w2 ao2 (16 + (n + 1)) cap2 (wordsN s (n + 1)) := by
              rw [HNX.out, HNW.out, show 16 + (n + 1) = m + 1 by have := HM.out; omega]
              exact hW2
            clear hi hz0 hz1 hz2 hm1 hm2 hl2 hx2 hf2 hW2 c16 c7 w16 w7 hW t7 t16 b7 d7 b16 d16
            go_wp2
            go_roundw
            case rel => exact ⟨n + 1, ao2, cap2, HN.out.2, by have := HM.out; exact congrArg (Value.int .i64) (by omega), by rw [show 16 + (n + 1) = m + 1 by have := HM.out; omega], hW3⟩
            case measure => have := HM.out; have := HN.out; simp [intOf]; omega
        · obtain rfl : n = 48 := by omega
          go_wp2
          go_ret
          exact ⟨ao, cap, rfl, by rw [HL.out]; exact hW⟩
end Go.Proofs.Ytnjjbolbemlceaa
