/-
  ProcPlaces, walked.
-/
import Derived.Test.YtkhihpmadmmeaaaAwake
import Derived.Test.YtkhihpmadmmeaaaRange
set_option linter.unusedSimpArgs false
set_option linter.unusedVariables false
set_option maxHeartbeats 2000000
set_option maxRecDepth 100000
namespace Go.Proofs.Ytkhihpmadmmeaaa
open Go.RowKit Go.Hs

/-- Each of the first n numbers, once. -/
def ones (n : Nat) : List (Int × Int) := (List.range n).map fun (j : Nat) => ((j : Int), (1 : Int))
theorem ones_keys (n : Nat) (k : Nat) : (k : Int) ∈ (ones n).map (·.1) ↔ k < n := by
  simp only [ones, List.map_map, List.mem_map, List.mem_range, Function.comp]
  constructor
  · rintro ⟨a, h1, h2⟩; omega
  · intro h; exact ⟨k, h, rfl⟩
theorem ones_look (n : Nat) : mlook (ones n) (n : Int) = none := mlook_none.2 (fun h => by have := (ones_keys n n).1 h; omega)
theorem ones_put (n : Nat) : mput (ones n) (n : Int) 1 = ones (n + 1) := by
  unfold mput
  rw [if_neg (fun h => by have := (ones_keys n n).1 h; omega)]
  simp [ones, List.range_succ]
theorem ones_len (n : Nat) : (ones n).length = n := by simp [ones]
theorem ones_mem {n : Nat} {p : Int × Int} (h : p ∈ ones n) : ∃ j : Nat, j < n ∧ p = ((j : Int), (1 : Int)) := by
  simp only [ones, List.mem_map, List.mem_range] at h
  obtain ⟨j, h1, h2⟩ := h
  exact ⟨j, h1, h2.symm⟩
structure PlAt (w : World) (A m P S : Nat) (wr : World) (n : Nat) : Prop where
  pl : wr.heap[A]? = some (.cells #[.int .i64 P, .int .i64 S] 23 (0, 0))
  mp : MapAt (Value.int .i64) (Value.int .i64) wr.heap m (ones n)
  ext : Ext [] w wr
  lo : w.heap.size ≤ m
theorem PlAt.ext0 {w : World} {A m P S : Nat} {wr w' : World} {n : Nat} (h : PlAt w A m P S wr n) (hx : Ext [] wr w') : PlAt w A m P S w' n :=
  ⟨hx.same h.pl (by simp), h.mp.ext hx (by simp), h.ext.trans0 hx, h.lo⟩
theorem PlAt.put {w : World} {A m P S : Nat} {wr w' : World} {n : Nat} (h : PlAt w A m P S wr n) (hm : MapAt (Value.int .i64) (Value.int .i64) w'.heap m (ones (n + 1))) (hx : Ext [m] wr w') : PlAt w A m P S w' (n + 1) :=
  ⟨hx.same h.pl (by simpa using h.mp.ne h.pl), hm, h.ext.trans hx (fun g hg => .inr (by simp at hg; have := h.lo; omega)), h.lo⟩
theorem check_ok (p s : Int) (w : World) (h : 1 ≤ p ∧ p ≤ 64 ∧ 0 ≤ s ∧ s ≤ 256) : Calls Try.prog 10 #[.agg #[.int .i64 p, .int .i64 s]] w fun e w' => e = .returned (.int .i64 0) ∧ Ext [] w w' := by
  have := check_any p s w
  rw [if_neg (by omega)] at this
  exact this
theorem check_bad (p s : Int) (w : World) (h : ¬ (1 ≤ p ∧ p ≤ 64 ∧ 0 ≤ s ∧ s ≤ 256)) : Calls Try.prog 10 #[.agg #[.int .i64 p, .int .i64 s]] w fun e w' => e = .returned (.int .i64 4) ∧ Ext [] w w' := by
  have := check_any p s w
  rw [if_pos (by omega)] at this
  exact this
theorem places_any (procs slots : Int) (w : World) : Calls Try.prog 3 #[.int .i64 procs, .int .i64 slots] w fun e w' => e = .returned (.bool true) ∧ Ext [] w w' := by
  have hA := heap_new w (.cells #[.int .i64 procs, .int .i64 slots] 23)
  have hE : Ext [] w (w.alloc (.cells #[.int .i64 procs, .int .i64 slots] 23)) := (Ext.refl _ _).alloc _
  have hmk := fun w => run_makeMap (P := Try.prog) 27 w
  have HMK := Hs.hid hmk
  clear hmk
  go_enter Try.func3, Try.ntmps3
  go_upto_region 2 with fail
  generalize w.alloc (.cells #[.int .i64 procs, .int .i64 slots] 23) = W0 at *
  generalize hAA : w.heap.size = A at *
  go_cut [6] (fun s wx => s = .bool (decide (1 ≤ procs ∧ procs ≤ 64 ∧ 0 ≤ slots ∧ slots ≤ 256)) ∧ W0 = wx)
  case first =>
    go_wp2_with fail
    all_goals go_meet
    all_goals refine ⟨?_, rfl⟩
    all_goals first
      | (rw [decide_eq_false (by omega)])
      | (exact congrArg Value.bool (decide_eq_decide.2 (by omega)))
  case rest =>
    obtain ⟨rfl, rfl⟩ := hcut
    have p0 := cellAt hA 0
    have p1 := cellAt hA 1
    simp at p0 p1
    by_cases hmay : 1 ≤ procs ∧ procs ≤ 64 ∧ 0 ≤ slots ∧ slots ≤ 256
    · rw [decide_eq_true hmay]
      have q1 : 1 ≤ procs := hmay.1
      have q2 : procs ≤ 64 := hmay.2.1
      have q3 : 0 ≤ slots := hmay.2.2.1
      have q4 : slots ≤ 256 := hmay.2.2.2
      go_upto_region 7 with (first
        | (go_at_call 9; refine (awake_any _).mono ?_; rintro e w1 ⟨rfl, hx1⟩; replace hE := hE.trans0 hx1; replace hA := hx1.same hA (by simp); clear p0 p1; have p0 := cellAt hA 0; have p1 := cellAt hA 1; simp at p0 p1; clear hx1)
        | (go_at_call 10; refine (check_ok procs slots _ hmay).mono ?_; rintro e w2 ⟨rfl, hx2⟩; replace hE := hE.trans0 hx2; replace hA := hx2.same hA (by simp); clear p0 p1; have p0 := cellAt hA 0; have p1 := cellAt hA 1; simp at p0 p1; clear hx2))
      obtain ⟨P, rfl⟩ : ∃ P : Nat, procs = P := ⟨procs.toNat, by omega⟩
      obtain ⟨S, rfl⟩ : ∃ S : Nat, slots = S := ⟨slots.toNat, by omega⟩
      clear q1 q2 q3 q4 p0 p1
      have hmk := HMK.out
      go_upto_region 8 with fail
      clear hmk
      have hm0 := mapAt_new (Value.int .i64) (Value.int .i64) (κ := Int) (ν := Int) w2
      have h0 : PlAt w A w2.heap.size P S (w2.alloc (.map #[] 0)) 0 := ⟨heap_old' _ _ hA, hm0, hE.alloc _, hE.size⟩
      clear hm0 hA hE hAA
      generalize w2.alloc (.map #[] 0) = W3 at *
      generalize w2.heap.size = m at *
      have HM := Hs.hid hmay
      clear hmay
      go_wp2_with fail
      go_loopw [45] (fun i wr => ∃ k : Nat, k ≤ P ∧ i = .int .i64 k ∧ PlAt w A m P S wr k) (fun i _ => P - (intOf i).toNat)
      case atStart => exact ⟨0, Nat.zero_le _, rfl, h0⟩
      case round =>
        obtain ⟨k, hk, rfl, hR⟩ := hrel
        have hPi : (P : Int) ≤ 64 := by have := HM.out; omega
        have hSi : (S : Int) ≤ 256 := by have := HM.out; omega
        by_cases hk3 : k < P
        · have hk3b : decide ((k : Int) < P) = true := by simp; omega
          have hki : (k : Int) < P := by omega
          have hki0 : (0 : Int) ≤ k := by omega
          have HK := Hs.hid (And.intro hk hk3)
          clear hk hk3
          have hlook : (mlook (ones k) (k : Int)).getD 0 = 0 := by rw [ones_look]; rfl
          have p0 := cellAt hR.pl 0
          have p1 := cellAt hR.pl 1
          simp at p0 p1
          go_wp2_with (first
            | (go_at_call 11; refine (wish_any P S k _).mono ?_; rintro e w4 ⟨rfl, hx4⟩; have hR4 := hR.ext0 hx4)
            | (at_lookup; refine wpList_lookup (l := ones k) rfl _ _ _ rfl keyInt Try.underlying27 (d := (0 : Int)) (zeroInt _) rfl hR4.mp k rfl ?_)
            | (at_mapUpdate; refine wpList_mapUpdate (l := ones k) (venc := Value.int .i64) rfl rfl _ _ _ rfl keyInt Try.underlying27 rfl hR4.mp k rfl 1 rfl ?_; intro w5 hm5 hx5))
          rw [ones_put] at hm5
          have hR5 := hR4.put hm5 hx5
          go_round
          case rel => exact ⟨k + 1, by have := HK.out; omega, by go_num, hR5⟩
          case measure => have := HK.out; simp [intOf]; omega
        · have hk4 : k = P := by omega
          subst hk4
          clear hk3 hk hPi hSi h0
          go_wp2_with fail
          go_loopw [56] (fun i wr => ∃ j : Nat, j ≤ S ∧ i = .int .i64 j ∧ PlAt w A m k S wr (k + j)) (fun i _ => S - (intOf i).toNat)
          case atStart => exact ⟨0, Nat.zero_le _, rfl, hR⟩
          case round =>
            clear hR
            obtain ⟨j, hj, rfl, hR⟩ := hrel
            have hPi : (k : Int) ≤ 64 := by have := HM.out; omega
            have hSi : (S : Int) ≤ 256 := by have := HM.out; omega
            have hki0 : (0 : Int) ≤ k := by omega
            by_cases hj3 : j < S
            · have hj3b : decide ((j : Int) < S) = true := by simp; omega
              have hji : (j : Int) < S := by omega
              have hji0 : (0 : Int) ≤ j := by omega
              have HJ := Hs.hid (And.intro hj hj3)
              clear hj hj3
              have hlook : (mlook (ones (k + j)) ((k : Int) + j)).getD 0 = 0 := by rw [← Int.natCast_add, ones_look]; rfl
              have p0 := cellAt hR.pl 0
              have p1 := cellAt hR.pl 1
              simp at p0 p1
              go_wp2_with (first
                | (go_at_call 12; refine (slot_any k S j _ (by omega) (by omega) (by omega) (by omega)).mono ?_; rintro e w4 ⟨rfl, hx4⟩; have hR4 := hR.ext0 hx4)
                | (at_lookup; refine wpList_lookup (l := ones (k + j)) rfl _ _ _ rfl keyInt Try.underlying27 (d := (0 : Int)) (zeroInt _) rfl hR4.mp ((k : Int) + j) rfl ?_)
                | (at_mapUpdate; refine wpList_mapUpdate (l := ones (k + j)) (venc := Value.int .i64) rfl rfl _ _ _ rfl keyInt Try.underlying27 rfl hR4.mp ((k : Int) + j) rfl 1 rfl ?_; intro w5 hm5 hx5))
              rw [← Int.natCast_add, ones_put] at hm5
              have hR5 := hR4.put hm5 hx5
              go_round
              case rel => exact ⟨j + 1, by have := HJ.out; omega, by go_num, hR5⟩
              case measure => have := HJ.out; simp [intOf]; omega
            · have hj4 : j = S := by omega
              subst hj4
              clear hj3 hj
              obtain ⟨o, hrun, hRA⟩ := run_rangeAt (P := Try.prog) (t := 27) Try.underlying27 hR.mp
              have hpl := heap_old' _ o hR.pl
              have hE5 := hR.ext.alloc o
              have hmlo := hR.lo
              have hrlo := hR.ext.size
              go_wp2_with fail
              clear hrun hR
              generalize wr.alloc o = W6 at *
              generalize hrr : wr.heap.size = r at *
              go_loopw [68] (fun _ wq => RangeAt (Value.int .i64) (Value.int .i64) wq.heap r m (ones (k + j)) ∧ wq.heap[A]? = some (.cells #[.int .i64 k, .int .i64 j] 23 (0, 0)) ∧ Ext [] w wq) (fun _ wq => leftN wq.heap r m)
              case atStart => exact ⟨hRA, hpl, hE5⟩
              case round =>
                clear hRA hpl hE5
                obtain ⟨hRA, hpl, hE5⟩ := hrel
                have hrA : r ≠ A := by
                  obtain ⟨_, _, _, _, _, _, _, h1, _⟩ := hRA
                  exact ne_block h1 hpl (by simp)
                rcases run_nextAt (P := Try.prog) 0 hRA with ⟨h0, hnx⟩ | ⟨p, hp, w7, hlt, hnx, hen, hRA7, hx7⟩
                · have hln := run_lenMap (P := Try.prog) (t := 27) 3 Try.underlying27 hRA.map
                  rw [ones_len, Int.natCast_add] at hln
                  have p0 := cellAt hpl 0
                  have p1 := cellAt hpl 1
                  simp at p0 p1
                  clear h0
                  go_wp2_with (first
                    | (go_at_call 13; refine (cells_any k j _ (by omega) (by omega) (by omega) (by omega)).mono ?_; rintro e w8 ⟨rfl, hx8⟩; replace hpl := hx8.same hpl (by simp); replace hE5 := hE5.trans0 hx8; clear p0 p1; have p0 := cellAt hpl 0; have p1 := cellAt hpl 1; simp at p0 p1)
                    | (go_at_call 14; refine (bound_any k j _ (by omega) (by omega)).mono ?_; rintro e w9 ⟨rfl, hx9⟩; replace hE5 := hE5.trans0 hx9))
                  go_ret
                  exact ⟨rfl, hE5⟩
                · obtain ⟨i, hi, rfl⟩ := ones_mem hp
                  have hi0 : decide ((i : Int) < 0) = false := by simp
                  have hi1 : decide ((k : Int) + j ≤ i) = false := by simp; omega
                  have HI := Hs.hid hi
                  clear hi hp
                  have hpl7 := hx7.same hpl (by simpa using Ne.symm hrA)
                  have p0 := cellAt hpl7 0
                  have p1 := cellAt hpl7 1
                  simp at p0 p1
                  have hE7 := extBase hE5 hx7 (fun g hg => by simp at hg; omega)
                  go_wp2_with (first
                    | (go_at_call 13; refine (cells_any k j _ (by omega) (by omega) (by omega) (by omega)).mono ?_; rintro e w8 ⟨rfl, hx8⟩))
                  obtain ⟨g1, g2⟩ := hRA7.ext hx8 (by simp) (by simp)
                  go_round
                  case rel => exact ⟨g1, hx8.same hpl7 (by simp), hE7.trans0 hx8⟩
                  case measure => rw [g2]; exact hlt
    · rw [decide_eq_false hmay]
      go_wp2_with (first
        | (go_at_call 9; refine (awake_any _).mono ?_; rintro e w1 ⟨rfl, hx1⟩; replace hE := hE.trans0 hx1; replace hA := hx1.same hA (by simp); clear p0 p1; have p0 := cellAt hA 0; have p1 := cellAt hA 1; simp at p0 p1; clear hx1)
        | (go_at_call 10; refine (check_bad procs slots _ hmay).mono ?_; rintro e w2 ⟨rfl, hx2⟩; replace hE := hE.trans0 hx2; replace hA := hx2.same hA (by simp); clear p0 p1; have p0 := cellAt hA 0; have p1 := cellAt hA 1; simp at p0 p1; clear hx2))
      go_ret
      exact ⟨rfl, hE⟩
end Go.Proofs.Ytkhihpmadmmeaaa
