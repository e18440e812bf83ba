/-
  Texts of this claim, put together: FoldAt, PBuild, R1, R2, TailA, R3, R4, R5, R6, R7.
-/
import Derived.Laws.Tables
import Derived.Test.YtnjjbolbemlceaaDoorPDgx2
import Derived.StillTailTactics
import Derived.Laws.Rows
import Derived.Deep.RegionHeld3
import Derived.Deep.CutBlock
import Derived.WalkSpells
import Derived.Test.YtnjjbolbemlceaaDoorMPa1
set_option linter.unusedSimpArgs false
set_option linter.unusedVariables false
namespace Go.Proofs.YtnjjbolbemlceaaDoor
open Go.RowKit Go.Hs

theorem fold_at (off : Nat) : ∀ (l : List Value) (k : Nat) (b : Array Value), ((l.zipIdx k).foldl (fun a (p : Value × Nat) => a.setIfInBounds (off + p.2) p.1) b).size = b.size ∧
    ∀ i, ((l.zipIdx k).foldl (fun a (p : Value × Nat) => a.setIfInBounds (off + p.2) p.1) b)[i]? = if off + k ≤ i ∧ i < off + k + l.length ∧ i < b.size then l[i - (off + k)]? else b[i]?
  | [], k, b => ⟨rfl, fun i => by rw [if_neg (by simp; omega)]; rfl⟩
  | v :: l, k, b => by
    simp only [List.zipIdx_cons, List.foldl_cons]
    obtain ⟨h1, h2⟩ := fold_at off l (k + 1) (b.setIfInBounds (off + k) v)
    refine ⟨by rw [h1]; simp, fun i => ?_⟩
    rw [h2 i]
    simp only [Array.size_setIfInBounds, Array.getElem?_setIfInBounds, List.length_cons]
    by_cases hi : off + k = i
    · subst hi
      rw [if_neg (by omega)]
      by_cases hb : off + k < b.size
      · rw [if_pos rfl, if_pos hb, if_pos ⟨Nat.le_refl _, by omega, hb⟩]; simp
      · rw [if_pos rfl, if_neg hb, if_neg (by omega)]; simp; omega
    · by_cases hc : off + (k + 1) ≤ i ∧ i < off + (k + 1) + l.length ∧ i < b.size
      · rw [if_pos hc, if_pos ⟨by omega, by omega, hc.2.2⟩]
        rw [show i - (off + k) = (i - (off + (k + 1))) + 1 by omega, List.getElem?_cons_succ]
      · rw [if_neg hc, if_neg hi, if_neg (by omega)]
end Go.Proofs.YtnjjbolbemlceaaDoor
set_option linter.unusedSimpArgs false
set_option linter.unusedVariables false
set_option maxHeartbeats 1000000
set_option maxRecDepth 100000
namespace Go.Proofs.YtnjjbolbemlceaaDoor
open Go.RowKit Go.Hs Go.Dg

def walk0 : Array Value := (wCells ⟨0, 0, zeroS, zeroS, false⟩).toArray
theorem infoWalk : (Tryd.prog.info? 82).map (fun i => (i.zero, i.size)) = some (some (.agg walk0), 67) := by kernel_rfl
theorem walkPlaces : (Tryd.prog.info? 82).bind (fun it => (Tryd.prog.underlying 82).bind fun d => match d with
    | .struct fields => (fields.toList.mapM (fun f => (Tryd.prog.info? f.type).map fun i => (f.offset, i.size))).map fun p => (it.zero, p)
    | _ => none) = some (some (.agg walk0), [(0, 1), (1, 1), (2, 32), (34, 32), (66, 1)]) := by kernel_rfl
theorem mid_cells (A Y Z C : List Value) (hA : A.length = 34) (hY : Y.length = 32) (hZ : Z.length = 32) (i : Nat) :
    (A ++ Y ++ C)[i]? = if 34 ≤ i ∧ i < 66 ∧ i < (A ++ Z ++ C).length then Y[i - 34]? else (A ++ Z ++ C)[i]? := by
  by_cases h : 34 ≤ i ∧ i < 66
  · rw [if_pos ⟨h.1, h.2, by simp; omega⟩, List.append_assoc, List.getElem?_append_right (by omega), List.getElem?_append_left (by omega), hA]
  · rw [if_neg (fun q => h ⟨q.1, q.2.1⟩)]
    by_cases h2 : i < 34
    · rw [List.append_assoc, List.append_assoc, List.getElem?_append_left (by omega), List.getElem?_append_left (by omega)]
    · rw [List.getElem?_append_right (by simp; omega), List.getElem?_append_right (by simp; omega)]
      congr 1; simp; omega
theorem fill_walk (I E : Nat) (y : S32) : Instr.fill ([(0, 1), (1, 1), (2, 32), (34, 32), (66, 1)].toArray[·]?) walk0 [(0, .int .i64 (I : Int)), (1, .int .i64 (E : Int)), (3, .agg y.V)] = some (wCells ⟨I, E, zeroS, y, false⟩).toArray := by
  have e1 : Instr.fill ([(0, 1), (1, 1), (2, 32), (34, 32), (66, 1)].toArray[·]?) walk0 [(0, .int .i64 (I : Int)), (1, .int .i64 (E : Int)), (3, .agg y.V)]
      = Instr.fill ([(0, 1), (1, 1), (2, 32), (34, 32), (66, 1)].toArray[·]?) (wCells ⟨I, E, zeroS, zeroS, false⟩).toArray [(3, .agg y.V)] := by rfl
  rw [e1]
  have hc : (Value.agg y.V).cells = y.V := rfl
  have hw : (wCells ⟨I, E, zeroS, zeroS, false⟩).toArray.size = 67 := by rw [List.size_toArray, wCells_len]
  have hpl : ([(0, 1), (1, 1), (2, 32), (34, 32), (66, 1)].toArray : Array (Nat × Nat))[3]? = some (34, 32) := rfl
  simp only [Instr.fill, hpl, hc, hw, y.size]
  rw [if_neg (by decide)]
  congr 1
  have hf : y.V.zipIdx.foldl (fun cs (p : Value × Nat) => cs.setIfInBounds (34 + p.2) p.1) (wCells ⟨I, E, zeroS, zeroS, false⟩).toArray = (y.V.toList.zipIdx 0).foldl (fun a (p : Value × Nat) => a.setIfInBounds (34 + p.2) p.1) (wCells ⟨I, E, zeroS, zeroS, false⟩).toArray := by
    rw [← Array.foldl_toList, Array.toList_zipIdx]
  have hf' : y.V.zipIdx.foldl (fun cs (x : Value × Nat) => match x with | (c, j) => cs.setIfInBounds (34 + j) c) (wCells ⟨I, E, zeroS, zeroS, false⟩).toArray = (y.V.toList.zipIdx 0).foldl (fun a (p : Value × Nat) => a.setIfInBounds (34 + p.2) p.1) (wCells ⟨I, E, zeroS, zeroS, false⟩).toArray := hf
  rw [hf']
  obtain ⟨h1, h2⟩ := fold_at 34 y.V.toList 0 (wCells ⟨I, E, zeroS, zeroS, false⟩).toArray
  apply Array.ext_getElem?
  intro i
  rw [h2 i]
  have hl := S32.tlen y
  have hz := S32.tlen zeroS
  have := mid_cells ([.int .i64 (I : Int), .int .i64 (E : Int)] ++ zeroS.V.toList) y.V.toList zeroS.V.toList [.bool false] (by simp [zeroS, S32.V]) hl hz i
  have hq : ([.int .i64 (I : Int), .int .i64 (E : Int)] ++ zeroS.V.toList ++ zeroS.V.toList ++ [.bool false] : List Value).length = 67 := wCells_len ⟨I, E, zeroS, zeroS, false⟩
  rw [hq] at this
  rw [List.getElem?_toArray, List.getElem?_toArray, hw, hl]
  exact this.symm
theorem walk_built (I E : Nat) (y : S32) : Tryd.prog.built 82 [(0, .int .i64 (I : Int)), (1, .int .i64 (E : Int)), (3, .agg y.V)] = some (wCells ⟨I, E, zeroS, y, false⟩).toArray := by
  have hp := walkPlaces
  have hf := fill_walk I E y
  unfold Program.built
  cases hi : Tryd.prog.info? 82 with
  | none => rw [hi] at hp; simp at hp
  | some it =>
    cases hu : Tryd.prog.underlying 82 with
    | none => rw [hi, hu] at hp; simp at hp
    | some d =>
      rw [hi, hu] at hp
      cases d with
      | struct fields =>
        simp only [Option.bind_some, Option.map_eq_some_iff] at hp
        obtain ⟨pl, h1, h2⟩ := hp
        have h3 := (Prod.mk.inj h2).1
        have h4 := (Prod.mk.inj h2).2
        subst h4
        simp only [h1, h3]
        exact hf
      | _ => simp at hp
end Go.Proofs.YtnjjbolbemlceaaDoor
set_option linter.unusedSimpArgs false
set_option linter.unusedVariables false
set_option maxHeartbeats 1000000
set_option maxRecDepth 100000
namespace Go.Dg
open Go Go.RowKit Go.Hs

theorem or_u32 (A B k : Nat) (hB : B < 2 ^ k) (h : A * 2 ^ k + B < 4294967296) : Go.bits .or .u32 ((A * 2 ^ k : Nat) : Int) ((B : Nat) : Int) = ((A * 2 ^ k + B : Nat) : Int) := by
  have h1 : A * 2 ^ k < 4294967296 := by omega
  have h2 : B < 4294967296 := by omega
  rw [u32_or_nat _ _ h1 h2, Nat.mul_comm A, Nat.two_pow_add_eq_or_of_lt hB]
/-- A word to the right, as the document has it. -/
theorem rotl_sum (x : Nat) (k : Nat) (hk : k ≤ 31) (hx : x < 4294967296) : rotl (x : Int) k = ((x / 2 ^ (32 - k) + x * 2 ^ k % 4294967296 : Nat) : Int) ∧ x / 2 ^ (32 - k) + x * 2 ^ k % 4294967296 < 4294967296 := by
  have hp : (4294967296 : Nat) = 2 ^ (32 - k) * 2 ^ k := by rw [← Nat.pow_add, show 32 - k + k = 32 by omega]
  have hmod : x * 2 ^ k % 4294967296 = (x % 2 ^ (32 - k)) * 2 ^ k := by rw [hp, Nat.mul_mod_mul_right]
  have hdiv : x / 2 ^ (32 - k) < 2 ^ k := by
    apply Nat.div_lt_of_lt_mul
    rw [← hp]; exact hx
  have hlt : x % 2 ^ (32 - k) < 2 ^ (32 - k) := Nat.mod_lt _ (Nat.two_pow_pos _)
  have hsum : (x % 2 ^ (32 - k)) * 2 ^ k + x / 2 ^ (32 - k) < 4294967296 := by
    have : (x % 2 ^ (32 - k) + 1) * 2 ^ k ≤ 2 ^ (32 - k) * 2 ^ k := Nat.mul_le_mul_right _ hlt
    rw [Nat.add_mul, Nat.one_mul, ← hp] at this
    omega
  refine ⟨?_, by rw [hmod]; omega⟩
  unfold rotl
  have e1 : u32 ((x : Int) * 2 ^ k) = (((x % 2 ^ (32 - k)) * 2 ^ k : Nat) : Int) := by
    rw [← hmod]
    show ((x : Int) * 2 ^ k) % 4294967296 = _
    rw [Int.natCast_emod, Int.natCast_mul, Int.natCast_pow]; rfl
  have e2 : (x : Int) / 2 ^ (32 - k) = ((x / 2 ^ (32 - k) : Nat) : Int) := by rw [Int.natCast_ediv, Int.natCast_pow]; rfl
  rw [e1, e2, or_u32 _ _ _ hdiv hsum, hmod]
  congr 1; omega
end Go.Dg
namespace Go.Proofs.YtnjjbolbemlceaaDoor
open Go.RowKit Go.Hs Go.Dg
open Go.Proofs.YtnjjbolbemlceaaDoorW.PrintWords Go.Proofs.YtnjjbolbemlceaaDoorW.PrintLast Go.Proofs.YtnjjbolbemlceaaDoorW.PrintMore
open Go.Proofs.YtnjjbolbemlceaaDoor.PDg
/-- turn, by a literal count. -/
theorem turn_f (x : Nat) (hx : x < 4294967296) (n : Nat) (hn : n = 2 ∨ n = 6 ∨ n = 7 ∨ n = 11 ∨ n = 13 ∨ n = 17 ∨ n = 18 ∨ n = 19 ∨ n = 22 ∨ n = 25) : hindsightref01_turn.f (x : Int) (n : Int) = some (rotl (x : Int) (32 - n)) := by
  have h := rotl_sum x (32 - n) (by omega) hx
  have h2 := h.2
  rw [h.1]
  have wu : ∀ z : Int, IntKind.u32.wrap z = z % 4294967296 := fun z => by simp [IntKind.wrap, IntKind.bits, IntKind.signed]
  rcases hn with rfl | rfl | rfl | rfl | rfl | rfl | rfl | rfl | rfl | rfl
  all_goals
    simp [hindsightref01_turn.f, shl, wrap64, IntKind.bits, wu] at h2 ⊢
    omega
end Go.Proofs.YtnjjbolbemlceaaDoor
set_option linter.unusedSimpArgs false
set_option linter.unusedVariables false
set_option maxHeartbeats 1000000
set_option maxRecDepth 100000
namespace Go.Proofs.YtnjjbolbemlceaaDoor
open Go.RowKit Go.Hs Go.Dg
open Go.Proofs.YtnjjbolbemlceaaDoorW.PrintWords Go.Proofs.YtnjjbolbemlceaaDoorW.PrintLast Go.Proofs.YtnjjbolbemlceaaDoorW.PrintMore
open Go.Proofs.YtnjjbolbemlceaaDoor.PDg

def natW (s : ByteArray) (i : Nat) : Nat → Nat
  | 0 => 0
  | k + 1 => natW s i k * 256 + (s.data.toList.getD (4 * i + k) 0).toNat
theorem natW_lt (s : ByteArray) (i : Nat) : ∀ k, natW s i k < 256 ^ k
  | 0 => by simp [natW]
  | k + 1 => by
    have h1 := natW_lt s i k
    have h2 := (s.data.toList.getD (4 * i + k) 0).toNat_lt
    simp only [natW, Nat.pow_succ]
    have : (natW s i k + 1) * 256 ≤ 256 ^ k * 256 := Nat.mul_le_mul_right _ h1
    omega
theorem word0_nat (s : ByteArray) (i : Nat) : ∀ k, k ≤ 4 → word0 s i k = ((natW s i k : Nat) : Int)
  | 0, _ => rfl
  | k + 1, h => by
    have h1 := natW_lt s i k
    have h3 : 256 ^ k ≤ 256 ^ 3 := Nat.pow_le_pow_right (by omega) (by omega)
    have h4 : (256 : Nat) ^ 3 = 16777216 := by decide
    have h2 := (s.data.toList.getD (4 * i + k) 0).toNat_lt
    simp only [word0, natW, byteAt]
    rw [word0_nat s i k (by omega)]
    have e : u32 (((natW s i k : Nat) : Int) * 256) = ((natW s i k * 2 ^ 8 : Nat) : Int) := by
      show _ % 4294967296 = _
      omega
    rw [e, or_u32 _ _ 8 (by omega) (by omega)]
theorem bt_nat (s : ByteArray) (i : Nat) (h : i < s.size) : bt s ((i : Nat) : Int) = ((s.data.toList.getD i 0).toNat : Int) := by
  unfold bt
  rw [dif_pos (by simpa using h)]
  have h2 : i < s.data.toList.length := by simpa using h
  rw [List.getD_eq_getElem?_getD, List.getElem?_eq_getElem h2]
  rfl
/-- All are words. -/
def AllU (l : List Int) : Prop := ∀ i, ∃ n : Nat, l.getD i 0 = (n : Int) ∧ n < 4294967296
theorem AllU.nil : AllU [] := fun i => ⟨0, by simp, by omega⟩
theorem AllU.snoc {l : List Int} (h : AllU l) {x : Int} (hx : ∃ n : Nat, x = (n : Int) ∧ n < 4294967296) : AllU (l ++ [x]) := fun i => by
  by_cases hi : i < l.length
  · obtain ⟨n, h1, h2⟩ := h i
    refine ⟨n, ?_, h2⟩
    rw [← h1]; simp [List.getD_eq_getElem?_getD, List.getElem?_append_left hi]
  · by_cases he : i = l.length
    · subst he
      obtain ⟨n, h1, h2⟩ := hx
      exact ⟨n, by rw [← h1]; simp [List.getD_eq_getElem?_getD], h2⟩
    · exact ⟨0, by simp [List.getD_eq_getElem?_getD, List.getElem?_eq_none (l := l ++ [x]) (i := i) (by simp; omega)], by omega⟩
theorem firstW_u (s : ByteArray) : ∀ n, AllU (firstW s n)
  | 0 => AllU.nil
  | n + 1 => by
    have h1 := natW_lt s n 4
    have h4 : (256 : Nat) ^ 4 = 4294967296 := by decide
    exact (firstW_u s n).snoc ⟨natW s n 4, word0_nat s n 4 (by omega), by omega⟩
theorem mod_u (z : Int) : ∃ n : Nat, z % 4294967296 = (n : Int) ∧ n < 4294967296 := ⟨(z % 4294967296).toNat, by omega, by omega⟩
theorem wordsN_u (s : ByteArray) : ∀ n, AllU (wordsN s n)
  | 0 => firstW_u s 16
  | n + 1 => (wordsN_u s n).snoc (mod_u _)
theorem spread_l1 (s : ByteArray) : ∀ (d m k : Nat), m + d = 48 → d + 1 ≤ k → hindsightref01_spread.l1 k (wordsN s m) ((16 + m : Nat) : Int) = some (wordsN s 48)
  | 0, m, k, h, hk => by
    obtain rfl : m = 48 := by omega
    obtain ⟨k, rfl⟩ : ∃ q, k = q + 1 := ⟨k - 1, by omega⟩
    simp only [hindsightref01_spread.l1]
    rw [if_neg (by decide)]
  | d + 1, m, k, h, hk => by
    obtain ⟨k, rfl⟩ : ∃ q, k = q + 1 := ⟨k - 1, by omega⟩
    have hl := wordsN_len s m
    have hw : ∀ j : Nat, 1 ≤ j → j ≤ 16 → wrap64 (((16 + m : Nat) : Int) - (j : Int)) = ((16 + m - j : Nat) : Int) := fun j h1 h2 => by unfold wrap64; omega
    have w15 := hw 15 (by omega) (by omega)
    have w2 := hw 2 (by omega) (by omega)
    have w16 := hw 16 (by omega) (by omega)
    have w7 := hw 7 (by omega) (by omega)
    have w1 : wrap64 (((16 + m : Nat) : Int) + 1) = ((16 + (m + 1) : Nat) : Int) := by unfold wrap64; omega
    simp only [hindsightref01_spread.l1]
    simp only [show ((15 : Nat) : Int) = 15 from rfl, show ((2 : Nat) : Int) = 2 from rfl, show ((16 : Nat) : Int) = 16 from rfl, show ((7 : Nat) : Int) = 7 from rfl] at w15 w2 w16 w7
    rw [w15, w2, w16, w7, w1]
    obtain ⟨p, hp, hp2⟩ := wordsN_u s m (16 + m - 15)
    obtain ⟨q, hq, hq2⟩ := wordsN_u s m (16 + m - 2)
    have rp : rd (wordsN s m) ((16 + m - 15 : Nat) : Int) = (p : Int) := by unfold rd; rw [Int.toNat_natCast]; exact hp
    have rq : rd (wordsN s m) ((16 + m - 2 : Nat) : Int) = (q : Int) := by unfold rd; rw [Int.toNat_natCast]; exact hq
    have r16 : rd (wordsN s m) ((16 + m - 16 : Nat) : Int) = (wordsN s m).getD (16 + m - 16) 0 := by unfold rd; rw [Int.toNat_natCast]
    have r7 : rd (wordsN s m) ((16 + m - 7 : Nat) : Int) = (wordsN s m).getD (16 + m - 7) 0 := by unfold rd; rw [Int.toNat_natCast]
    rw [rp, rq, r16, r7, hl]
    rw [if_pos (by omega), if_pos (by omega), if_pos (by omega), if_pos (by omega), if_pos (by omega), if_pos (by omega), if_pos (by omega), if_pos (by omega), if_pos (by omega)]
    have t7 := turn_f p hp2 7 (by omega)
    have t18 := turn_f p hp2 18 (by omega)
    have t17 := turn_f q hq2 17 (by omega)
    have t19 := turn_f q hq2 19 (by omega)
    simp only [show ((7 : Nat) : Int) = 7 from rfl, show ((18 : Nat) : Int) = 18 from rfl, show ((17 : Nat) : Int) = 17 from rfl, show ((19 : Nat) : Int) = 19 from rfl] at t7 t18 t17 t19
    rw [t7, t18, t17, t19]
    simp only [Option.bind_some]
    rw [if_pos (by omega)]
    have hnext : wordsN s (m + 1) = wordsN s m ++ [nextW (wordsN s m)] := rfl
    have hval : nextW (wordsN s m) = ((((((wordsN s m).getD (16 + m - 16) 0) + ((wordsN s m).getD (16 + m - 7) 0)) % 4294967296 + (Go.bits .xor .u32 (Go.bits .xor .u32 (rotl (p : Int) (32 - 7)) (rotl (p : Int) (32 - 18))) ((Int.tdiv (p : Int) 8) % 4294967296))) % 4294967296 + (Go.bits .xor .u32 (Go.bits .xor .u32 (rotl (q : Int) (32 - 17)) (rotl (q : Int) (32 - 19))) ((Int.tdiv (q : Int) 1024) % 4294967296))) % 4294967296) := by
      have ep : Int.tdiv (p : Int) 8 % 4294967296 = (p : Int) / 8 := by rw [Int.tdiv_eq_ediv_of_nonneg (by omega)]; omega
      have eq : Int.tdiv (q : Int) 1024 % 4294967296 = (q : Int) / 1024 := by rw [Int.tdiv_eq_ediv_of_nonneg (by omega)]; omega
      rw [ep, eq]
      unfold nextW
      rw [hl, hp, hq]
      unfold smallS greatS
      simp only [u32]
      generalize Go.bits .xor .u32 (Go.bits .xor .u32 (rotl (p : Int) 25) (rotl (p : Int) 14)) ((p : Int) / 8) = A
      generalize Go.bits .xor .u32 (Go.bits .xor .u32 (rotl (q : Int) 15) (rotl (q : Int) 13)) ((q : Int) / 1024) = B
      generalize (wordsN s m).getD (16 + m - 16) 0 = x
      generalize (wordsN s m).getD (16 + m - 7) 0 = y
      omega
    rw [← hval, ← hnext]
    exact spread_l1 s d (m + 1) k (by omega) (by omega)
theorem spread_l0 (s : ByteArray) (hs : 64 ≤ s.size) (hm : s.size ≤ 2000000000) : ∀ (d i k : Nat), i + d = 16 → d + 50 ≤ k → hindsightref01_spread.l0 k s (firstW s i) ((i : Nat) : Int) = some (wordsN s 48)
  | 0, i, k, h, hk => by
    obtain rfl : i = 16 := by omega
    obtain ⟨k, rfl⟩ : ∃ q, k = q + 1 := ⟨k - 1, by omega⟩
    simp only [hindsightref01_spread.l0]
    rw [if_neg (by decide)]
    exact spread_l1 s 48 0 k (by omega) (by omega)
  | d + 1, i, k, h, hk => by
    obtain ⟨k, rfl⟩ : ∃ q, k = q + 1 := ⟨k - 1, by omega⟩
    have hl := firstW_len s i
    have w0 : wrap64 (4 * ((i : Nat) : Int)) = ((4 * i : Nat) : Int) := by unfold wrap64; omega
    have w1 : wrap64 (((4 * i : Nat) : Int) + 1) = ((4 * i + 1 : Nat) : Int) := by unfold wrap64; omega
    have w2 : wrap64 (((4 * i : Nat) : Int) + 2) = ((4 * i + 2 : Nat) : Int) := by unfold wrap64; omega
    have w3 : wrap64 (((4 * i : Nat) : Int) + 3) = ((4 * i + 3 : Nat) : Int) := by unfold wrap64; omega
    have wi : wrap64 (((i : Nat) : Int) + 1) = ((i + 1 : Nat) : Int) := by unfold wrap64; omega
    simp only [hindsightref01_spread.l0]
    rw [w0, w1, w2, w3, wi, bt_nat s _ (by omega), bt_nat s _ (by omega), bt_nat s _ (by omega), bt_nat s _ (by omega), hl]
    rw [if_pos (by omega), if_pos (by omega), if_pos (by omega), if_pos (by omega), if_pos (by omega), if_pos (by omega), if_pos (by omega), if_pos (by omega), if_pos (by omega), if_pos (by omega)]
    have hnext : firstW s (i + 1) = firstW s i ++ [word0 s i 4] := rfl
    have hval : word0 s i 4 = (((((((s.data.toList.getD (4 * i) 0).toNat : Int) % 4294967296) * 16777216) % 4294967296 + ((((s.data.toList.getD (4 * i + 1) 0).toNat : Int) % 4294967296) * 65536) % 4294967296) % 4294967296 + ((((s.data.toList.getD (4 * i + 2) 0).toNat : Int) % 4294967296) * 256) % 4294967296) % 4294967296 + ((s.data.toList.getD (4 * i + 3) 0).toNat : Int) % 4294967296) % 4294967296 := by
      rw [word0_nat s i 4 (by omega)]
      simp only [natW]
      have h0 := (s.data.toList.getD (4 * i + 0) 0).toNat_lt
      have h1 := (s.data.toList.getD (4 * i + 1) 0).toNat_lt
      have h2 := (s.data.toList.getD (4 * i + 2) 0).toNat_lt
      have h3 := (s.data.toList.getD (4 * i + 3) 0).toNat_lt
      rw [show 4 * i + 0 = 4 * i from rfl] at h0 ⊢
      omega
    rw [← hval, ← hnext]
    exact spread_l0 s hs hm d (i + 1) k (by omega) (by omega)
theorem spread_words (s : ByteArray) (hs : 64 ≤ s.size) (hm : s.size ≤ 2000000000) : hindsightref01_spread.f 100 s = some (wordsN s 48) := spread_l0 s hs hm 16 0 100 (by omega) (by omega)
end Go.Proofs.YtnjjbolbemlceaaDoor
set_option linter.unusedSimpArgs false
set_option linter.unusedVariables false
namespace Go.Hs
open Go Go.RowKit
theorem wp_region_tail {P : Program} {id : Nat} {Q : Exit → Act → World → Prop} {a : Act} {w : World} {l : List Oper} (n : Nat) (hm : P.follows .mixedOrders = true) (hB : Region.lexTailB .any l.toArray n = true)
    (h : wpStill P l.toArray w.drew (fun a' => wpList P l.toArray Q (l.drop n) a' w.drew) (l.take n) a) : (Code.region id l.toArray true).wp P Q a w :=
  wp_region_still_tail n hm hB h
theorem wpStill_load_row {P : Program} {ops : Array Oper} {rest : List Oper} {o : Oper} {a : Act} {w : World} {Q : Act → Prop} (hgd : o.guard = none) (ty : TypeId) (x : Operand) (ho : o.op = .load ty x)
    (g : Nat) (hx : a.eval x = .pointer (some ⟨g, 0, none⟩)) (t : TypeId) (cs : Array Value) (fr : Nat × Nat) (d : TypeDesc) (hg : w.heap[g]? = some (.cells cs t fr))
    (hu : P.underlying ty = some d) (hd : (match d with | .struct _ | .array _ _ => true | _ => false) = true) (hi : (P.info? ty).map (·.size) = some cs.size)
    (h : wpStill P ops w Q rest (a.put o.dst (.agg cs))) : wpStill P ops w Q (o :: rest) a := by
  refine wpStill_step fun K hK => ?_
  have hw : Region.wanted o (yielded ops a.tmps) = true := by simp [Region.wanted, hgd]
  rw [if_pos hw]
  unfold Oper.still execOp
  simp only [ho, hx, Instr.loadAt, Instr.sureAddr, Sem.run_bind, Sem.run_pure, Result.andThen_ok, run_loadVar_row w g t ty cs fr d hg hu hd hi, Oper.stillUpon_value]
  exact hK _ h
end Go.Hs
set_option linter.unusedSimpArgs false
set_option linter.unusedVariables false
set_option maxHeartbeats 4000000
set_option maxRecDepth 100000
namespace Go.Proofs.YtnjjbolbemlceaaDoor
open Go.RowKit Go.Hs Go.Dg
open Go.Proofs.YtnjjbolbemlceaaDoorW.PrintWords Go.Proofs.YtnjjbolbemlceaaDoorW.PrintLast Go.Proofs.YtnjjbolbemlceaaDoorW.PrintMore
open Go.Proofs.YtnjjbolbemlceaaDoor.PDg

theorem Ext.cellS {w w' : World} (x : Ext [] w w') {p : Addr} {v : Value} (h : w.cell? p = some v) : w'.cell? p = some v := by
  rw [x.below.cell (World.block_lt_of_cell? w p h)]; exact h
theorem refTurn_any (x n : Nat) (hx : x < 4294967296) (hn : n = 2 ∨ n = 6 ∨ n = 7 ∨ n = 11 ∨ n = 13 ∨ n = 17 ∨ n = 18 ∨ n = 19 ∨ n = 22 ∨ n = 25) (X Z : Int) (hX : X = (x : Int)) (hZ : Z = (n : Int)) (w : World) :
    Calls Tryd.prog 78 #[.int .u32 X, .int .i64 Z] w fun e w' => e = .returned (.int .u32 (rotl X (32 - n))) ∧ Ext [] w w' := by
  subst hX hZ
  refine (hindsightref01_turn.calls (x : Int) (n : Int) _ w (turn_f x hx n hn)).mono ?_
  rintro e w' ⟨rfl, hd⟩
  obtain ⟨k, rfl⟩ := hd.out
  exact ⟨rfl, (Ext.refl [] w).drewN k⟩
theorem refKeys_any (w : World) : Calls Tryd.prog 76 #[] w fun e w' => e = .returned (.slice (some ⟨w.heap.size, 0, none⟩) 64 64) ∧ w' = w.alloc (.cells (keysL.map (Value.int .u32)).toArray 121) := by
  go_enter Tryd.func76, Tryd.ntmps76
  go_wp2
  go_ret
  exact ⟨rfl, rfl⟩
theorem ws_of_R {w w' : World} {v : Value} {ws : List Int} (hl : ws.length = 64) (hR : (Kd.int .u32).R 121 w' w.heap.size (fun _ => True) v ws) (hB : Below w.heap.size w w') : ∃ ao cap, v = .slice ao 64 cap ∧ WsAt w w' ao 64 cap ws := by
  obtain ⟨g, cap, rfl, hg, _⟩ := Kd.R_form hR (by omega)
  have ho := Kd.own_of_R hR
  have hb := Kd.R_base hR
  rw [hl] at ho hb ⊢
  refine ⟨_, _, rfl, ⟨⟨?_, ?_⟩, Ext.ofBelow hB, fun k hk => hb k hk⟩⟩
  · rw [List.length_map]; omega
  · rcases ho.2 with h | ⟨g', c, cur, h1, h2, h3, h4, h5, h6, h7⟩
    · exact .inl h
    · exact .inr ⟨g', c, cur, h1, Nat.zero_le _, h3, h4, h5, h6, h7⟩
theorem refSpread_any (s : ByteArray) (hs : 64 ≤ s.size) (hm : s.size ≤ 2000000000) (w : World) :
    Calls Tryd.prog 77 #[.string s] w fun e w' => ∃ ao cap, e = .returned (.slice ao 64 cap) ∧ WsAt w w' ao 64 cap (wordsN s 48) := by
  have h1 := spread_words s hs hm
  have hl := wordsN_len s 48
  generalize wordsN s 48 = ws at h1 hl ⊢
  refine (hindsightref01_spread.calls 100 s _ w h1).mono ?_
  rintro e w' ⟨v, rfl, hR, hB⟩
  obtain ⟨ao, cap, rfl, hW⟩ := ws_of_R hl hR hB
  exact ⟨ao, cap, rfl, hW⟩
end Go.Proofs.YtnjjbolbemlceaaDoor
set_option linter.unusedSimpArgs false
set_option linter.unusedVariables false
set_option maxHeartbeats 4000000
set_option maxRecDepth 100000
namespace Go.Proofs.YtnjjbolbemlceaaDoor
open Go.RowKit Go.Hs Go.Dg

def stL (t : St) : List Int := [t.a, t.b, t.c, t.d, t.e, t.f, t.g, t.h]
/-- Block g begins with words. -/
def V8 (h : Array Obj) (g : Nat) (l : List Int) : Prop := ∃ cs, h[g]? = some (.cells cs 121 (0, 0)) ∧ ∀ (j : Nat) v, l[j]? = some v → cs[j]? = some (.int .u32 v)
theorem V8.ext {w w' : World} {F : List Nat} {g : Nat} {l : List Int} (h : V8 w.heap g l) (x : Ext F w w') (hg : g ∉ F) : V8 w'.heap g l := by
  obtain ⟨cs, h1, h2⟩ := h; exact ⟨cs, x.same h1 hg, h2⟩
theorem V8.cell {w : World} {g : Nat} {l : List Int} (h : V8 w.heap g l) {j : Nat} {v : Int} (hj : l[j]? = some v) : w.cell? ⟨g, j, none⟩ = some (.int .u32 v) := by
  obtain ⟨cs, h1, h2⟩ := h; rw [cellAt h1]; exact h2 j v hj
theorem V8.lt {h : Array Obj} {g : Nat} {l : List Int} (v : V8 h g l) : g < h.size := by obtain ⟨cs, h1, _⟩ := v; exact lt_of_heap h1
theorem V8.free {w : World} {g : Nat} {l : List Int} (h : V8 w.heap g l) (j : Nat) : w.frozen? ⟨g, j, none⟩ = false := by
  obtain ⟨cs, h1, _⟩ := h; exact freeAt h1 j
theorem V8.set {w : World} {g : Nat} {l : List Int} (h : V8 w.heap g l) (j : Nat) (v : Int) (hj : j < l.length) : V8 (w.setCell ⟨g, j, none⟩ (.int .u32 v)).heap g (l.set j v) := by
  obtain ⟨cs, h1, h2⟩ := h
  refine ⟨_, heap_set h1 j _, fun i u hi => ?_⟩
  rw [List.getElem?_set] at hi
  rw [Array.getElem?_setIfInBounds]
  have hjc : j < cs.size := by
    have := h2 j (l[j]) (List.getElem?_eq_getElem hj)
    exact (Array.getElem?_eq_some_iff.1 this).1
  by_cases e : j = i
  · subst e
    rw [if_pos rfl, if_pos hj] at hi
    rw [if_pos rfl, if_pos hjc]
    simp at hi; rw [hi]
  · rw [if_neg e] at hi ⊢
    exact h2 i u hi
theorem V8.of_own {w : World} {g n cap : Nat} {l : List Int} (o : Own w.heap 121 1 (.slice (some ⟨g, 0, none⟩) n cap) n (l.map (Value.int .u32))) : V8 w.heap g l := by
  rcases o.2 with ⟨h, _⟩ | ⟨g', c, cur, h1, _, h3, h4, h5, h6, h7⟩
  · simp at h
  · simp only [Value.slice.injEq, Option.some.injEq, Addr.mk.injEq, and_true] at h1
    obtain ⟨rfl, _⟩ := h1
    refine ⟨cur, h3, fun j v hj => ?_⟩
    have hl : l.length = n := by have := o.1; simpa using this
    have hjl := (List.getElem?_eq_some_iff.1 hj).1
    have : (cur.toList.take (n * 1))[j]? = some (.int .u32 v) := by rw [h7, List.getElem?_map, hj]; rfl
    rw [List.getElem?_take, if_pos (by omega)] at this
    simpa using this
/-- A state's words are words. -/
def StU (t : St) : Prop := ∀ z ∈ stL t, 0 ≤ z ∧ z < 4294967296
theorem StU.step {t : St} (h : StU t) (k w : Int) : StU (stepR t k w) := by
  intro z hz
  simp only [stL, stepR, List.mem_cons, List.not_mem_nil, or_false] at hz
  have hm : ∀ z ∈ [t.a, t.b, t.c, t.e, t.f, t.g], 0 ≤ z ∧ z < 4294967296 := fun z hz => h z (by simp only [stL, List.mem_cons, List.not_mem_nil, or_false] at hz ⊢; rcases hz with h | h | h | h | h | h <;> simp [h])
  rcases hz with rfl | rfl | rfl | rfl | rfl | rfl | rfl | rfl
  · omega
  · exact hm _ (by simp)
  · exact hm _ (by simp)
  · exact hm _ (by simp)
  · omega
  · exact hm _ (by simp)
  · exact hm _ (by simp)
  · exact hm _ (by simp)
theorem StU.mix {t : St} (h : StU t) (ws : List Int) : ∀ n, StU (mixTo t ws n)
  | 0 => h
  | n + 1 => (h.mix ws n).step _ _
theorem wu32 (z : Int) : IntKind.u32.wrap z = z % 4294967296 := by simp [IntKind.wrap, IntKind.bits, IntKind.signed]
theorem x_val (t : St) (key wd : Int) : IntKind.u32.wrap (IntKind.u32.wrap (IntKind.u32.wrap (IntKind.u32.wrap (t.h + Go.bits .xor .u32 (Go.bits .and .u32 t.e t.f) (Go.bits .and .u32 (Go.bits .xor .u32 IntKind.u32.max t.e) t.g)) + key) + wd) + Go.bits .xor .u32 (Go.bits .xor .u32 (rotl t.e 26) (rotl t.e 21)) (rotl t.e 7)) = xF t key wd % 4294967296 := by
  have e1 : chF t = Go.bits .xor .u32 (Go.bits .and .u32 t.e t.f) (Go.bits .and .u32 (Go.bits .xor .u32 IntKind.u32.max t.e) t.g) := rfl
  unfold xF sig1
  rw [e1]
  simp only [wu32]
  generalize Go.bits .xor .u32 (Go.bits .and .u32 t.e t.f) (Go.bits .and .u32 (Go.bits .xor .u32 IntKind.u32.max t.e) t.g) = A
  generalize Go.bits .xor .u32 (Go.bits .xor .u32 (rotl t.e 26) (rotl t.e 21)) (rotl t.e 7) = B
  omega
theorem y_val (t : St) : IntKind.u32.wrap (Go.bits .xor .u32 (Go.bits .xor .u32 (Go.bits .and .u32 t.a t.b) (Go.bits .and .u32 t.a t.c)) (Go.bits .and .u32 t.b t.c) + Go.bits .xor .u32 (Go.bits .xor .u32 (rotl t.a 30) (rotl t.a 19)) (rotl t.a 10)) = (majF t + sig0 t.a) % 4294967296 := by
  rw [wu32]; rfl
/-- A state's words, the first i of them with the elder ones added. -/
def addL (s t : St) (i : Nat) : List Int := (List.range 8).map fun j => if j < i then ((stL t).getD j 0 + (stL s).getD j 0) % 4294967296 else (stL t).getD j 0
theorem addL_len (s t : St) (i : Nat) : (addL s t i).length = 8 := by simp [addL]
theorem addL_zero (s t : St) : addL s t 0 = stL t := by simp [addL, stL, List.range, List.range.loop]
theorem addL_eight (s t : St) : addL s t 8 = stL (s.add t) := by simp [addL, stL, List.range, List.range.loop, St.add, Int.add_comm]
theorem addL_at (s t : St) {i : Nat} (h : i < 8) : (addL s t i)[i]? = some ((stL t).getD i 0) := by
  simp [addL, List.getElem?_map, List.getElem?_range h]
theorem stL_get (t : St) {i : Nat} (h : i < 8) : (stL t)[i]? = some ((stL t).getD i 0) := by
  have : i < (stL t).length := h
  rw [List.getD_eq_getElem?_getD, List.getElem?_eq_getElem this]; rfl
theorem addL_set (s t : St) {i : Nat} (h : i < 8) : (addL s t i).set i (((stL t).getD i 0 + (stL s).getD i 0) % 4294967296) = addL s t (i + 1) := by
  apply List.ext_getElem?
  intro j
  rw [List.getElem?_set]
  by_cases hj : j < 8
  · by_cases e : i = j
    · subst e
      rw [if_pos rfl, if_pos (by rw [addL_len]; exact hj)]
      simp [addL, List.getElem?_map, List.getElem?_range hj]
    · rw [if_neg e]
      simp only [addL, List.getElem?_map, List.getElem?_range hj, Option.map_some]
      by_cases h2 : j < i
      · rw [if_pos h2, if_pos (by omega)]
      · rw [if_neg h2, if_neg (by omega)]
  · rw [if_neg (by omega), List.getElem?_eq_none (by rw [addL_len]; omega), List.getElem?_eq_none (by rw [addL_len]; omega)]
theorem val_u32 {a b : Int} (h : a = b) : Value.int .u32 a = .int .u32 b := by rw [h]
theorem block_any (t0 : St) (hu : StU t0) (V vcap : Nat) (b : ByteArray) (hs : 64 ≤ b.size) (hm : b.size ≤ 2000000000) (w : World) (hV : V8 w.heap V (stL t0)) :
    Calls Tryd.prog 65 #[.slice (some ⟨V, 0, none⟩) 8 vcap, .string b] w fun e w' => ∃ g cap, e = .returned (.slice (some ⟨g, 0, none⟩) 8 cap) ∧ V8 w'.heap g (stL (mixF t0 b)) ∧ w.heap.size ≤ g ∧ Ext [] w w' := by
  obtain ⟨i0, hi, hz0, hz1, hz2⟩ := info_parts infoU32
  have HI := Hs.hid (And.intro hi (And.intro hz0 (And.intro hz1 hz2)))
  have HB := Hs.hid (And.intro hs hm)
  have hVlt := hV.lt
  clear hi hz0 hz1 hz2 hs hm
  obtain ⟨ws, hws⟩ : ∃ ws, wordsN b 48 = ws := ⟨_, rfl⟩
  have HWS := Hs.hid (And.intro hws (show ws.length = 64 by rw [← hws]; exact wordsN_len b 48))
  clear hws
  go_enter Tryd.func65, Tryd.ntmps65
  go_upto_region 3 with (first
    | (go_at_call 76; refine (refKeys_any _).mono ?_; rintro e w1 ⟨rfl, rfl⟩; have hK := heap_new w (.cells (keysL.map (Value.int .u32)).toArray 121); have hx1 := (Ext.refl [] w).alloc (.cells (keysL.map (Value.int .u32)).toArray 121))
    | (go_at_call 77; refine (refSpread_any b HB.out.1 HB.out.2 _).mono ?_; rintro e w2 ⟨wa, wcap, rfl, hW⟩; rw [HWS.out.1] at hW))
  generalize w.alloc (.cells (keysL.map (Value.int .u32)).toArray 121) = W1 at hK hx1 hW ⊢
  generalize hKb : w.heap.size = Kb at hK ⊢
  have hx2 := hx1.trans0 hW.ext
  have hK2 := hW.ext.same hK (by simp)
  have hV2 := hV.ext hx2 (by simp)
  have hVo : V < Kb := by omega
  have HKB := Hs.hid hKb
  clear hK hx1 hV hKb hVlt
  have hO0 : Own (w2.alloc (.cells #[] 121)).heap 121 1 (.slice (some ⟨w2.heap.size, 0, none⟩) 0 0) 0 [] := ⟨rfl, .inr ⟨_, 0, #[], rfl, Nat.zero_le _, heap_new _ _, Nat.le_refl _, by decide, rfl, rfl⟩⟩
  have hnews : ∀ (j : Nat) u, ((stL t0).map (Value.int .u32))[j]? = some u → (w2.alloc (.cells #[] 121)).cell? ((⟨V, 0, none⟩ : Addr).add j) = some u := fun j u hj => by
    rw [add_off']
    rw [List.getElem?_map] at hj
    cases hz : (stL t0)[j]? with
    | none => rw [hz] at hj; simp at hj
    | some z =>
      rw [hz] at hj
      simp at hj
      rw [← hj]
      exact (hV2.ext ((Ext.refl [] w2).alloc _) (by simp)).cell hz
  have HN := Hs.hid (And.intro hO0 hnews)
  clear hO0 hnews
  go_upto_region 4 with (at_builtin; refine wpList_append rfl (.tmp 17) (.tmp 18) 122 rfl 121 i0 _ 1 4 Tryd.underlying122 HI.out.1 HI.out.2.1 HI.out.2.2.1 HI.out.2.2.2 rfl (by decide) (.slice (some ⟨w2.heap.size, 0, none⟩) 0 0) 0 [] rfl HN.out.1 ⟨V, 0, none⟩ 8 vcap ((stL t0).map (Value.int .u32)) rfl rfl HN.out.2 (by simp [stL, Value.oneCell']) (by decide) (by decide) ?_; intro ao3 cap3 w3 hO3 hx3 hg3)
  obtain ⟨g3, rfl⟩ : ∃ g, ao3 = some ⟨g, 0, none⟩ := by
    rcases hO3.2 with ⟨_, h⟩ | ⟨g', c, cur, h1, _⟩
    · simp at h
    · simp only [Value.slice.injEq] at h1; exact ⟨g', h1.1⟩
  have hT3 := V8.of_own (n := 0 + 8) (by simpa using hO3)
  have hxx : Ext [] w2 w3 := ((Ext.refl [] w2).alloc (.cells #[] 121)).trans hx3 (fun g hg => .inr (by simp [Value.ownBlock] at hg; omega))
  have hgw : w2.heap.size ≤ g3 := by
    rcases hg3 g3 rfl with h | h
    · simp [Value.ownBlock] at h; omega
    · have : (w2.alloc (.cells #[] 121)).heap.size = w2.heap.size + 1 := by simp
      omega
  have hW3 := hW.ext0 hxx
  have hK3 := hxx.same hK2 (by simp)
  have hV3 := hV2.ext hxx (by simp)
  have hx30 := hx2.trans0 hxx
  have hg30 : w.heap.size ≤ g3 := by have := hx2.size; omega
  clear hO3 hx3 hg3 hxx hgw hW hK2 hV2 hx2 HN
  obtain ⟨w3', rfl⟩ : ∃ w3' : World, w3' = w3 := ⟨_, rfl⟩
  go_upto_block 0 with fail
  go_cut [7] (fun s7 wx => ∃ g cap, s7 = .slice (some ⟨g, 0, none⟩) 8 cap ∧ V8 wx.heap g (stL (mixTo t0 ws 64)) ∧ w.heap.size ≤ g ∧ Ext [] w3' wx)
  case first =>
    go_wp2_with fail
    go_loopw [7, 8] (fun tv iv wr => ∃ k g cap : Nat, tv = .slice (some ⟨g, 0, none⟩) 8 cap ∧ iv = .int .i64 k ∧ k ≤ 64 ∧ V8 wr.heap g (stL (mixTo t0 ws k)) ∧ w.heap.size ≤ g ∧ Ext [] w3' wr) (fun _ iv _ => 64 - (intOf iv).toNat)
    case atStart => exact ⟨0, g3, cap3, rfl, rfl, by omega, hT3, hg30, Ext.refl _ _⟩
    case round =>
      clear hT3 hg30
      obtain ⟨k, g, cap, rfl, rfl, hk, hT, hg, hE⟩ := hrel
      by_cases hlt : k < 64
      · have hlt' : (k : Int) < 64 := by omega
        have hmixs : mixTo t0 ws (k + 1) = stepR (mixTo t0 ws k) (keysL.getD k 0) (ws.getD k 0) := rfl
        have hU := hu.mix ws k
        obtain ⟨t, ht⟩ : ∃ t, mixTo t0 ws k = t := ⟨_, rfl⟩
        obtain ⟨key, hkey⟩ : ∃ z, keysL.getD k 0 = z := ⟨_, rfl⟩
        obtain ⟨wd, hwd⟩ : ∃ z, ws.getD k 0 = z := ⟨_, rfl⟩
        have cK : wr.cell? ⟨Kb, k, none⟩ = some (.int .u32 key) := by rw [← hkey]; exact keys_cell (hE.same hK3 (by simp)) hlt
        obtain ⟨gw, rfl, cW⟩ := (hW3.ext0 hE).cell hlt
        rw [hwd] at cW
        rw [ht, hkey, hwd] at hmixs
        rw [ht] at hT hU
        obtain ⟨en, hen, hen2⟩ : ∃ n : Nat, t.e = (n : Int) ∧ n < 4294967296 := ⟨t.e.toNat, by have := hU t.e (by simp [stL]); omega, by have := hU t.e (by simp [stL]); omega⟩
        obtain ⟨an, han, han2⟩ : ∃ n : Nat, t.a = (n : Int) ∧ n < 4294967296 := ⟨t.a.toNat, by have := hU t.a (by simp [stL]); omega, by have := hU t.a (by simp [stL]); omega⟩
        have HEN := Hs.hid (And.intro hen (And.intro hen2 (And.intro han (And.intro han2 hmixs))))
        clear ht hkey hwd hen hen2 han han2 hmixs
        have c0 := hT.cell (j := 0) (v := t.a) rfl
        have c1 := hT.cell (j := 1) (v := t.b) rfl
        have c2 := hT.cell (j := 2) (v := t.c) rfl
        have c3 := hT.cell (j := 3) (v := t.d) rfl
        have c4 := hT.cell (j := 4) (v := t.e) rfl
        have c5 := hT.cell (j := 5) (v := t.f) rfl
        have c6 := hT.cell (j := 6) (v := t.g) rfl
        have c7 := hT.cell (j := 7) (v := t.h) rfl
        go_upto_region 9 with fail
        go_cut [11] (fun s11 wx => s11 = .int .u32 (xF t key wd % 4294967296) ∧ Ext [] wr wx)
        case first =>
          refine wp_region_noPanic ?_
          refine wp_region_held_drew (S := (fun w' => w'.cell? ⟨g, 7, none⟩ = some (.int .u32 t.h) ∧ w'.cell? ⟨g, 5, none⟩ = some (.int .u32 t.f) ∧ w'.cell? ⟨g, 6, none⟩ = some (.int .u32 t.g) ∧ w'.cell? ⟨Kb, k, none⟩ = some (.int .u32 key) ∧ w'.cell? ⟨gw, k, none⟩ = some (.int .u32 wd))) (by kernel_rfl) ?_ (fun hHeld => ?_)
          · ((try dsimp only); exact ⟨c7, c5, c6, cK, cW⟩)
          refine wpAnyH_take (i := 0) (v := ?_) rfl (by kernel_rfl) (by kernel_rfl) (by kernel_rfl) (fun _ _ _ h => h) (Or.inl ⟨by rfl, ?_⟩) (by assumption) ?_
          rotate_left
          · (intro w hSw; (try dsimp only at hSw); first | (go_simp; done) | (go_simp; with_reducible rfl))
          try simp only [Act.put, List.getElem_toArray, List.getElem_cons_succ, List.getElem_cons_zero, List.setIfInBounds_toArray, List.set_cons_zero, List.set_cons_succ]
          refine wpAnyH_take (i := 1) (v := ?_) rfl (by kernel_rfl) (by kernel_rfl) (by kernel_rfl) (fun _ _ _ h => h) (Or.inl ⟨by rfl, ?_⟩) (by assumption) ?_
          rotate_left
          · (intro w hSw; (try dsimp only at hSw); first | (go_simp; done) | (go_simp; with_reducible rfl))
          try simp only [Act.put, List.getElem_toArray, List.getElem_cons_succ, List.getElem_cons_zero, List.setIfInBounds_toArray, List.set_cons_zero, List.set_cons_succ]
          refine wpAnyH_take (i := 2) (v := ?_) rfl (by kernel_rfl) (by kernel_rfl) (by kernel_rfl) (fun _ _ _ h => h) (Or.inl ⟨by rfl, ?_⟩) (by assumption) ?_
          rotate_left
          · (intro w hSw; (try dsimp only at hSw); first | (go_simp; done) | (go_simp; with_reducible rfl))
          try simp only [Act.put, List.getElem_toArray, List.getElem_cons_succ, List.getElem_cons_zero, List.setIfInBounds_toArray, List.set_cons_zero, List.set_cons_succ]
          refine wpAnyH_take (i := 3) (v := ?_) rfl (by kernel_rfl) (by kernel_rfl) (by kernel_rfl) (fun _ _ _ h => h) (Or.inl ⟨by rfl, ?_⟩) (by assumption) ?_
          rotate_left
          · (intro w hSw; (try dsimp only at hSw); first | (go_simp; done) | (go_simp; with_reducible rfl))
          try simp only [Act.put, List.getElem_toArray, List.getElem_cons_succ, List.getElem_cons_zero, List.setIfInBounds_toArray, List.set_cons_zero, List.set_cons_succ]
          refine wpAnyH_take (i := 4) (v := ?_) rfl (by kernel_rfl) (by kernel_rfl) (by kernel_rfl) (fun _ _ _ h => h) (Or.inl ⟨by rfl, ?_⟩) (by assumption) ?_
          rotate_left
          · (intro w hSw; (try dsimp only at hSw); first | (go_simp; done) | (go_simp; with_reducible rfl))
          try simp only [Act.put, List.getElem_toArray, List.getElem_cons_succ, List.getElem_cons_zero, List.setIfInBounds_toArray, List.set_cons_zero, List.set_cons_succ]
          refine wpAnyH_take (i := 5) (v := ?_) rfl (by kernel_rfl) (by kernel_rfl) (by kernel_rfl) (fun _ _ _ h => h) (Or.inl ⟨by rfl, ?_⟩) (by assumption) ?_
          rotate_left
          · (intro w hSw; (try dsimp only at hSw); first | (go_simp; done) | (go_simp; with_reducible rfl))
          try simp only [Act.put, List.getElem_toArray, List.getElem_cons_succ, List.getElem_cons_zero, List.setIfInBounds_toArray, List.set_cons_zero, List.set_cons_succ]
          refine wpAnyH_take (i := 6) (v := ?_) rfl (by kernel_rfl) (by kernel_rfl) (by kernel_rfl) (fun _ _ _ h => h) (Or.inl ⟨by rfl, ?_⟩) (by assumption) ?_
          rotate_left
          · (intro w hSw; (try dsimp only at hSw); first | (go_simp; done) | (go_simp; with_reducible rfl))
          try simp only [Act.put, List.getElem_toArray, List.getElem_cons_succ, List.getElem_cons_zero, List.setIfInBounds_toArray, List.set_cons_zero, List.set_cons_succ]
          refine wpAnyH_take (i := 7) (v := ?_) rfl (by kernel_rfl) (by kernel_rfl) (by kernel_rfl) (fun _ _ _ h => h) (Or.inl ⟨by rfl, ?_⟩) (by assumption) ?_
          rotate_left
          · (intro w hSw; (try dsimp only at hSw); first | (go_simp; done) | (go_simp; with_reducible rfl))
          try simp only [Act.put, List.getElem_toArray, List.getElem_cons_succ, List.getElem_cons_zero, List.setIfInBounds_toArray, List.set_cons_zero, List.set_cons_succ]
          refine wpAnyH_take (i := 8) (v := ?_) rfl (by kernel_rfl) (by kernel_rfl) (by kernel_rfl) (fun _ _ _ h => h) (Or.inl ⟨by rfl, ?_⟩) (by assumption) ?_
          rotate_left
          · (intro w hSw; (try dsimp only at hSw); first | (go_simp; done) | (go_simp; with_reducible rfl))
          try simp only [Act.put, List.getElem_toArray, List.getElem_cons_succ, List.getElem_cons_zero, List.setIfInBounds_toArray, List.set_cons_zero, List.set_cons_succ]
          refine wpAnyH_take (i := 9) (v := ?_) rfl (by kernel_rfl) (by kernel_rfl) (by kernel_rfl) (fun _ _ _ h => h) (Or.inl ⟨by rfl, ?_⟩) (by assumption) ?_
          rotate_left
          · (intro w hSw; (try dsimp only at hSw); first | (go_simp; done) | (go_simp; with_reducible rfl))
          try simp only [Act.put, List.getElem_toArray, List.getElem_cons_succ, List.getElem_cons_zero, List.setIfInBounds_toArray, List.set_cons_zero, List.set_cons_succ]
          refine wpAnyH_take (i := 10) (v := ?_) rfl (by kernel_rfl) (by kernel_rfl) (by kernel_rfl) (fun _ _ _ h => h) (Or.inl ⟨by rfl, ?_⟩) (by assumption) ?_
          rotate_left
          · (intro w hSw; (try dsimp only at hSw); first | (go_simp; done) | (go_simp; with_reducible rfl))
          try simp only [Act.put, List.getElem_toArray, List.getElem_cons_succ, List.getElem_cons_zero, List.setIfInBounds_toArray, List.set_cons_zero, List.set_cons_succ]
          refine wpAnyH_take (i := 11) (v := ?_) rfl (by kernel_rfl) (by kernel_rfl) (by kernel_rfl) (fun _ _ _ h => h) (Or.inl ⟨by rfl, ?_⟩) (by assumption) ?_
          rotate_left
          · (intro w hSw; (try dsimp only at hSw); first | (go_simp; done) | (go_simp; with_reducible rfl))
          try simp only [Act.put, List.getElem_toArray, List.getElem_cons_succ, List.getElem_cons_zero, List.setIfInBounds_toArray, List.set_cons_zero, List.set_cons_succ]
          refine wpAnyH_take (i := 12) (v := ?_) rfl (by kernel_rfl) (by kernel_rfl) (by kernel_rfl) (fun _ _ _ h => h) (Or.inl ⟨by rfl, ?_⟩) (by assumption) ?_
          rotate_left
          · (intro w hSw; (try dsimp only at hSw); first | (go_simp; done) | (go_simp; with_reducible rfl))
          try simp only [Act.put, List.getElem_toArray, List.getElem_cons_succ, List.getElem_cons_zero, List.setIfInBounds_toArray, List.set_cons_zero, List.set_cons_succ]
          refine wpAnyH_take (i := 13) (v := ?_) rfl (by kernel_rfl) (by kernel_rfl) (by kernel_rfl) (fun _ _ _ h => h) (Or.inl ⟨by rfl, ?_⟩) (by assumption) ?_
          rotate_left
          · (intro w hSw; (try dsimp only at hSw); first | (go_simp; done) | (go_simp; with_reducible rfl))
          try simp only [Act.put, List.getElem_toArray, List.getElem_cons_succ, List.getElem_cons_zero, List.setIfInBounds_toArray, List.set_cons_zero, List.set_cons_succ]
          refine wpAnyH_take (i := 14) (v := ?_) rfl (by kernel_rfl) (by kernel_rfl) (by kernel_rfl) (fun _ _ _ h => h) (Or.inl ⟨by rfl, ?_⟩) (by assumption) ?_
          rotate_left
          · (intro w hSw; (try dsimp only at hSw); first | (go_simp; done) | (go_simp; with_reducible rfl))
          try simp only [Act.put, List.getElem_toArray, List.getElem_cons_succ, List.getElem_cons_zero, List.setIfInBounds_toArray, List.set_cons_zero, List.set_cons_succ]
          refine wpAnyH_take (i := 15) (v := ?_) rfl (by kernel_rfl) (by kernel_rfl) (by kernel_rfl) (fun _ _ _ h => h) (Or.inl ⟨by rfl, ?_⟩) (by assumption) ?_
          rotate_left
          · (intro w hSw; (try dsimp only at hSw); first | (go_simp; done) | (go_simp; with_reducible rfl))
          try simp only [Act.put, List.getElem_toArray, List.getElem_cons_succ, List.getElem_cons_zero, List.setIfInBounds_toArray, List.set_cons_zero, List.set_cons_succ]
          refine wpAnyH_take (i := 16) (v := ?_) rfl (by kernel_rfl) (by kernel_rfl) (by kernel_rfl) (fun _ _ _ h => h) (Or.inl ⟨by rfl, ?_⟩) (by assumption) ?_
          rotate_left
          · (intro w hSw; (try dsimp only at hSw); first | (go_simp; done) | (go_simp; with_reducible rfl))
          try simp only [Act.put, List.getElem_toArray, List.getElem_cons_succ, List.getElem_cons_zero, List.setIfInBounds_toArray, List.set_cons_zero, List.set_cons_succ]
          refine wpAnyH_take (i := 17) (v := ?_) rfl (by kernel_rfl) (by kernel_rfl) (by kernel_rfl) (fun _ _ _ h => h) (Or.inl ⟨by rfl, ?_⟩) (by assumption) ?_
          rotate_left
          · (intro w hSw; (try dsimp only at hSw); first | (go_simp; done) | (go_simp; with_reducible rfl))
          try simp only [Act.put, List.getElem_toArray, List.getElem_cons_succ, List.getElem_cons_zero, List.setIfInBounds_toArray, List.set_cons_zero, List.set_cons_succ]
          refine wpAnyH_take (i := 18) (v := ?_) rfl (by kernel_rfl) (by kernel_rfl) (by kernel_rfl) (fun _ _ _ h => h) (Or.inl ⟨by rfl, ?_⟩) (by assumption) ?_
          rotate_left
          · (intro w hSw; (try dsimp only at hSw); first | (go_simp; done) | (go_simp; with_reducible rfl))
          try simp only [Act.put, List.getElem_toArray, List.getElem_cons_succ, List.getElem_cons_zero, List.setIfInBounds_toArray, List.set_cons_zero, List.set_cons_succ]
          refine wpAnyH_take (i := 19) (v := ?_) rfl (by kernel_rfl) (by kernel_rfl) (by kernel_rfl) (fun _ _ _ h => h) (Or.inl ⟨by rfl, ?_⟩) (by assumption) ?_
          rotate_left
          · (intro w hSw; (try dsimp only at hSw); first | (go_simp; done) | (go_simp; with_reducible rfl))
          try simp only [Act.put, List.getElem_toArray, List.getElem_cons_succ, List.getElem_cons_zero, List.setIfInBounds_toArray, List.set_cons_zero, List.set_cons_succ]
          refine wpAnyH_take (i := 20) (v := ?_) rfl (by kernel_rfl) (by kernel_rfl) (by kernel_rfl) (fun _ _ _ h => h) (Or.inl ⟨by rfl, ?_⟩) (by assumption) ?_
          rotate_left
          · (intro w hSw; (try dsimp only at hSw); first | (go_simp; done) | (go_simp; with_reducible rfl))
          try simp only [Act.put, List.getElem_toArray, List.getElem_cons_succ, List.getElem_cons_zero, List.setIfInBounds_toArray, List.set_cons_zero, List.set_cons_succ]
          refine wpAnyH_take (i := 21) (v := ?_) rfl (by kernel_rfl) (by kernel_rfl) (by kernel_rfl) (fun _ _ _ h => h) (Or.inl ⟨by rfl, ?_⟩) (by assumption) ?_
          rotate_left
          · (intro w hSw; (try dsimp only at hSw); first | (go_simp; done) | (go_simp; with_reducible rfl))
          try simp only [Act.put, List.getElem_toArray, List.getElem_cons_succ, List.getElem_cons_zero, List.setIfInBounds_toArray, List.set_cons_zero, List.set_cons_succ]
          refine wpAnyH_take (i := 22) (v := ?_) rfl (by kernel_rfl) (by kernel_rfl) (by kernel_rfl) (fun _ _ _ h => h) (Or.inl ⟨by rfl, ?_⟩) (by assumption) ?_
          rotate_left
          · (intro w hSw; (try dsimp only at hSw); first | (go_simp; done) | (go_simp; with_reducible rfl))
          try simp only [Act.put, List.getElem_toArray, List.getElem_cons_succ, List.getElem_cons_zero, List.setIfInBounds_toArray, List.set_cons_zero, List.set_cons_succ]
          refine wpAnyH_take (i := 23) (v := ?_) rfl (by kernel_rfl) (by kernel_rfl) (by kernel_rfl) (fun _ _ _ h => h) (Or.inl ⟨by rfl, ?_⟩) (by assumption) ?_
          rotate_left
          · (intro w hSw; (try dsimp only at hSw); first | (go_simp; done) | (go_simp; with_reducible rfl))
          try simp only [Act.put, List.getElem_toArray, List.getElem_cons_succ, List.getElem_cons_zero, List.setIfInBounds_toArray, List.set_cons_zero, List.set_cons_succ]
          refine wpAnyH_take (i := 24) (v := ?_) rfl (by kernel_rfl) (by kernel_rfl) (by kernel_rfl) (fun _ _ _ h => h) (Or.inl ⟨by rfl, ?_⟩) (by assumption) ?_
          rotate_left
          · (intro w hSw; (try dsimp only at hSw); first | (go_simp; done) | (go_simp; with_reducible rfl))
          try simp only [Act.put, List.getElem_toArray, List.getElem_cons_succ, List.getElem_cons_zero, List.setIfInBounds_toArray, List.set_cons_zero, List.set_cons_succ]
          refine wpAnyH_take (i := 25) (v := ?_) rfl (by kernel_rfl) (by kernel_rfl) (by kernel_rfl) (fun _ _ _ h => h) (Or.inl ⟨by rfl, ?_⟩) (by assumption) ?_
          rotate_left
          · (intro w hSw; (try dsimp only at hSw); first | (go_simp; done) | (go_simp; with_reducible rfl))
          try simp only [Act.put, List.getElem_toArray, List.getElem_cons_succ, List.getElem_cons_zero, List.setIfInBounds_toArray, List.set_cons_zero, List.set_cons_succ]
          refine wpAnyH_take (i := 26) (v := ?_) rfl (by kernel_rfl) (by kernel_rfl) (by kernel_rfl) (fun _ _ _ h => h) (Or.inl ⟨by rfl, ?_⟩) (by assumption) ?_
          rotate_left
          · (intro w hSw; (try dsimp only at hSw); first | (go_simp; done) | (go_simp; with_reducible rfl))
          try simp only [Act.put, List.getElem_toArray, List.getElem_cons_succ, List.getElem_cons_zero, List.setIfInBounds_toArray, List.set_cons_zero, List.set_cons_succ]
          refine wpAnyH_take (i := 28) (v := ?_) rfl (by kernel_rfl) (by kernel_rfl) (by kernel_rfl) (fun _ _ _ h => h) (Or.inl ⟨by rfl, ?_⟩) (by assumption) ?_
          rotate_left
          · (intro w hSw; (try dsimp only at hSw); first | (go_simp; done) | (go_simp; with_reducible rfl))
          try simp only [Act.put, List.getElem_toArray, List.getElem_cons_succ, List.getElem_cons_zero, List.setIfInBounds_toArray, List.set_cons_zero, List.set_cons_succ]
          refine wpAnyH_take (i := 31) (v := ?_) rfl (by kernel_rfl) (by kernel_rfl) (by kernel_rfl) (fun _ _ _ h => h) (Or.inl ⟨by rfl, ?_⟩) (by assumption) ?_
          rotate_left
          · (intro w hSw; (try dsimp only at hSw); first | (go_simp; done) | (go_simp; with_reducible rfl))
          try simp only [Act.put, List.getElem_toArray, List.getElem_cons_succ, List.getElem_cons_zero, List.setIfInBounds_toArray, List.set_cons_zero, List.set_cons_succ]
          refine wpAnyH_ready (rs := [27]) (by kernel_rfl) (by simp) ?_
          refine AllReadyH.cons rfl (fun K hK => ?_) AllReadyH.nil
          go_simp
          (go_at_call 78; refine (refTurn_any en 6 HEN.out.2.1 (by omega) _ _ HEN.out.1 rfl _).mono ?_; rintro e wa1 ⟨rfl, hxwa1⟩)
          go_wp2_with fail
          refine hK.out _ _ ?_ (fun hHeld => ?_)
          · ((try dsimp only); exact ⟨Ext.cellS hxwa1 hHeld.1, Ext.cellS hxwa1 hHeld.2.1, Ext.cellS hxwa1 hHeld.2.2.1, Ext.cellS hxwa1 hHeld.2.2.2.1, Ext.cellS hxwa1 hHeld.2.2.2.2⟩)
          clear hK K
          try simp only [Act.put, List.getElem_toArray, List.getElem_cons_succ, List.getElem_cons_zero, List.setIfInBounds_toArray, List.set_cons_zero, List.set_cons_succ]
          refine wpAnyH_ready (rs := [29]) (by kernel_rfl) (by simp) ?_
          refine AllReadyH.cons rfl (fun K hK => ?_) AllReadyH.nil
          go_simp
          (go_at_call 78; refine (refTurn_any en 11 HEN.out.2.1 (by omega) _ _ HEN.out.1 rfl _).mono ?_; rintro e wa2 ⟨rfl, hxwa2⟩)
          go_wp2_with fail
          refine hK.out _ _ ?_ (fun hHeld => ?_)
          · ((try dsimp only); exact ⟨Ext.cellS hxwa2 hHeld.1, Ext.cellS hxwa2 hHeld.2.1, Ext.cellS hxwa2 hHeld.2.2.1, Ext.cellS hxwa2 hHeld.2.2.2.1, Ext.cellS hxwa2 hHeld.2.2.2.2⟩)
          clear hK K
          try simp only [Act.put, List.getElem_toArray, List.getElem_cons_succ, List.getElem_cons_zero, List.setIfInBounds_toArray, List.set_cons_zero, List.set_cons_succ]
          refine wpAnyH_take (i := 30) (v := ?_) rfl (by kernel_rfl) (by kernel_rfl) (by kernel_rfl) (fun _ _ _ h => h) (Or.inl ⟨by rfl, ?_⟩) (by assumption) ?_
          rotate_left
          · (intro w hSw; (try dsimp only at hSw); first | (go_simp; done) | (go_simp; with_reducible rfl))
          try simp only [Act.put, List.getElem_toArray, List.getElem_cons_succ, List.getElem_cons_zero, List.setIfInBounds_toArray, List.set_cons_zero, List.set_cons_succ]
          refine wpAnyH_ready (rs := [32]) (by kernel_rfl) (by simp) ?_
          refine AllReadyH.cons rfl (fun K hK => ?_) AllReadyH.nil
          go_simp
          (go_at_call 78; refine (refTurn_any en 25 HEN.out.2.1 (by omega) _ _ HEN.out.1 rfl _).mono ?_; rintro e wa3 ⟨rfl, hxwa3⟩)
          go_wp2_with fail
          refine hK.out _ _ ?_ (fun hHeld => ?_)
          · ((try dsimp only); exact ⟨Ext.cellS hxwa3 hHeld.1, Ext.cellS hxwa3 hHeld.2.1, Ext.cellS hxwa3 hHeld.2.2.1, Ext.cellS hxwa3 hHeld.2.2.2.1, Ext.cellS hxwa3 hHeld.2.2.2.2⟩)
          clear hK K
          try simp only [Act.put, List.getElem_toArray, List.getElem_cons_succ, List.getElem_cons_zero, List.setIfInBounds_toArray, List.set_cons_zero, List.set_cons_succ]
          refine wpAnyH_take (i := 33) (v := ?_) rfl (by kernel_rfl) (by kernel_rfl) (by kernel_rfl) (fun _ _ _ h => h) (Or.inl ⟨by rfl, ?_⟩) (by assumption) ?_
          rotate_left
          · (intro w hSw; (try dsimp only at hSw); first | (go_simp; done) | (go_simp; with_reducible rfl))
          try simp only [Act.put, List.getElem_toArray, List.getElem_cons_succ, List.getElem_cons_zero, List.setIfInBounds_toArray, List.set_cons_zero, List.set_cons_succ]
          refine wpAnyH_take (i := 34) (v := ?_) rfl (by kernel_rfl) (by kernel_rfl) (by kernel_rfl) (fun _ _ _ h => h) (Or.inl ⟨by rfl, ?_⟩) (by assumption) ?_
          rotate_left
          · (intro w hSw; (try dsimp only at hSw); first | (go_simp; done) | (go_simp; with_reducible rfl))
          try simp only [Act.put, List.getElem_toArray, List.getElem_cons_succ, List.getElem_cons_zero, List.setIfInBounds_toArray, List.set_cons_zero, List.set_cons_succ]
          refine wpAnyH_take (i := 35) (v := ?_) rfl (by kernel_rfl) (by kernel_rfl) (by kernel_rfl) (fun _ _ _ h => h) (Or.inl ⟨by rfl, ?_⟩) (by assumption) ?_
          rotate_left
          · (intro w hSw; (try dsimp only at hSw); first | (go_simp; done) | (go_simp; with_reducible rfl))
          try simp only [Act.put, List.getElem_toArray, List.getElem_cons_succ, List.getElem_cons_zero, List.setIfInBounds_toArray, List.set_cons_zero, List.set_cons_succ]
          refine wpAnyH_done (by kernel_rfl) ?_ _
          refine NoPanic.normal ?_
          go_wp2; go_meet; exact ⟨val_u32 (x_val t key wd), (((Ext.refl [] wr).drew.trans0 hxwa1).trans0 hxwa2).trans0 hxwa3⟩
        case rest =>
          obtain ⟨rfl, hx9⟩ := hcut
          have hT := hT.ext hx9 (by simp)
          have hE := hE.trans0 hx9
          clear c0 c1 c2 c3 c4 c5 c6 c7 cK cW hx9
          have c1 := hT.cell (j := 1) (v := t.b) rfl
          have c2 := hT.cell (j := 2) (v := t.c) rfl
          obtain ⟨xx, hxx⟩ : ∃ z, xF t key wd % 4294967296 = z := ⟨_, rfl⟩
          rw [hxx]
          have HXX := Hs.hid hxx
          clear hxx
          go_upto_region 10 with fail
          go_cut [12] (fun s12 wx => s12 = .int .u32 ((majF t + sig0 t.a) % 4294967296) ∧ Ext [] wc wx)
          case first =>
            refine wp_region_noPanic ?_
            refine wp_region_held_drew (S := (fun w' => w'.cell? ⟨g, 1, none⟩ = some (.int .u32 t.b) ∧ w'.cell? ⟨g, 2, none⟩ = some (.int .u32 t.c))) (by kernel_rfl) ?_ (fun hHeld => ?_)
            · ((try dsimp only); exact ⟨c1, c2⟩)
            refine wpAnyH_take (i := 0) (v := ?_) rfl (by kernel_rfl) (by kernel_rfl) (by kernel_rfl) (fun _ _ _ h => h) (Or.inl ⟨by rfl, ?_⟩) (by assumption) ?_
            rotate_left
            · (intro w hSw; (try dsimp only at hSw); first | (go_simp; done) | (go_simp; with_reducible rfl))
            try simp only [Act.put, List.getElem_toArray, List.getElem_cons_succ, List.getElem_cons_zero, List.setIfInBounds_toArray, List.set_cons_zero, List.set_cons_succ]
            refine wpAnyH_take (i := 1) (v := ?_) rfl (by kernel_rfl) (by kernel_rfl) (by kernel_rfl) (fun _ _ _ h => h) (Or.inl ⟨by rfl, ?_⟩) (by assumption) ?_
            rotate_left
            · (intro w hSw; (try dsimp only at hSw); first | (go_simp; done) | (go_simp; with_reducible rfl))
            try simp only [Act.put, List.getElem_toArray, List.getElem_cons_succ, List.getElem_cons_zero, List.setIfInBounds_toArray, List.set_cons_zero, List.set_cons_succ]
            refine wpAnyH_take (i := 2) (v := ?_) rfl (by kernel_rfl) (by kernel_rfl) (by kernel_rfl) (fun _ _ _ h => h) (Or.inl ⟨by rfl, ?_⟩) (by assumption) ?_
            rotate_left
            · (intro w hSw; (try dsimp only at hSw); first | (go_simp; done) | (go_simp; with_reducible rfl))
            try simp only [Act.put, List.getElem_toArray, List.getElem_cons_succ, List.getElem_cons_zero, List.setIfInBounds_toArray, List.set_cons_zero, List.set_cons_succ]
            refine wpAnyH_take (i := 3) (v := ?_) rfl (by kernel_rfl) (by kernel_rfl) (by kernel_rfl) (fun _ _ _ h => h) (Or.inl ⟨by rfl, ?_⟩) (by assumption) ?_
            rotate_left
            · (intro w hSw; (try dsimp only at hSw); first | (go_simp; done) | (go_simp; with_reducible rfl))
            try simp only [Act.put, List.getElem_toArray, List.getElem_cons_succ, List.getElem_cons_zero, List.setIfInBounds_toArray, List.set_cons_zero, List.set_cons_succ]
            refine wpAnyH_take (i := 4) (v := ?_) rfl (by kernel_rfl) (by kernel_rfl) (by kernel_rfl) (fun _ _ _ h => h) (Or.inl ⟨by rfl, ?_⟩) (by assumption) ?_
            rotate_left
            · (intro w hSw; (try dsimp only at hSw); first | (go_simp; done) | (go_simp; with_reducible rfl))
            try simp only [Act.put, List.getElem_toArray, List.getElem_cons_succ, List.getElem_cons_zero, List.setIfInBounds_toArray, List.set_cons_zero, List.set_cons_succ]
            refine wpAnyH_take (i := 5) (v := ?_) rfl (by kernel_rfl) (by kernel_rfl) (by kernel_rfl) (fun _ _ _ h => h) (Or.inl ⟨by rfl, ?_⟩) (by assumption) ?_
            rotate_left
            · (intro w hSw; (try dsimp only at hSw); first | (go_simp; done) | (go_simp; with_reducible rfl))
            try simp only [Act.put, List.getElem_toArray, List.getElem_cons_succ, List.getElem_cons_zero, List.setIfInBounds_toArray, List.set_cons_zero, List.set_cons_succ]
            refine wpAnyH_take (i := 6) (v := ?_) rfl (by kernel_rfl) (by kernel_rfl) (by kernel_rfl) (fun _ _ _ h => h) (Or.inl ⟨by rfl, ?_⟩) (by assumption) ?_
            rotate_left
            · (intro w hSw; (try dsimp only at hSw); first | (go_simp; done) | (go_simp; with_reducible rfl))
            try simp only [Act.put, List.getElem_toArray, List.getElem_cons_succ, List.getElem_cons_zero, List.setIfInBounds_toArray, List.set_cons_zero, List.set_cons_succ]
            refine wpAnyH_take (i := 7) (v := ?_) rfl (by kernel_rfl) (by kernel_rfl) (by kernel_rfl) (fun _ _ _ h => h) (Or.inl ⟨by rfl, ?_⟩) (by assumption) ?_
            rotate_left
            · (intro w hSw; (try dsimp only at hSw); first | (go_simp; done) | (go_simp; with_reducible rfl))
            try simp only [Act.put, List.getElem_toArray, List.getElem_cons_succ, List.getElem_cons_zero, List.setIfInBounds_toArray, List.set_cons_zero, List.set_cons_succ]
            refine wpAnyH_take (i := 8) (v := ?_) rfl (by kernel_rfl) (by kernel_rfl) (by kernel_rfl) (fun _ _ _ h => h) (Or.inl ⟨by rfl, ?_⟩) (by assumption) ?_
            rotate_left
            · (intro w hSw; (try dsimp only at hSw); first | (go_simp; done) | (go_simp; with_reducible rfl))
            try simp only [Act.put, List.getElem_toArray, List.getElem_cons_succ, List.getElem_cons_zero, List.setIfInBounds_toArray, List.set_cons_zero, List.set_cons_succ]
            refine wpAnyH_take (i := 9) (v := ?_) rfl (by kernel_rfl) (by kernel_rfl) (by kernel_rfl) (fun _ _ _ h => h) (Or.inl ⟨by rfl, ?_⟩) (by assumption) ?_
            rotate_left
            · (intro w hSw; (try dsimp only at hSw); first | (go_simp; done) | (go_simp; with_reducible rfl))
            try simp only [Act.put, List.getElem_toArray, List.getElem_cons_succ, List.getElem_cons_zero, List.setIfInBounds_toArray, List.set_cons_zero, List.set_cons_succ]
            refine wpAnyH_take (i := 10) (v := ?_) rfl (by kernel_rfl) (by kernel_rfl) (by kernel_rfl) (fun _ _ _ h => h) (Or.inl ⟨by rfl, ?_⟩) (by assumption) ?_
            rotate_left
            · (intro w hSw; (try dsimp only at hSw); first | (go_simp; done) | (go_simp; with_reducible rfl))
            try simp only [Act.put, List.getElem_toArray, List.getElem_cons_succ, List.getElem_cons_zero, List.setIfInBounds_toArray, List.set_cons_zero, List.set_cons_succ]
            refine wpAnyH_take (i := 11) (v := ?_) rfl (by kernel_rfl) (by kernel_rfl) (by kernel_rfl) (fun _ _ _ h => h) (Or.inl ⟨by rfl, ?_⟩) (by assumption) ?_
            rotate_left
            · (intro w hSw; (try dsimp only at hSw); first | (go_simp; done) | (go_simp; with_reducible rfl))
            try simp only [Act.put, List.getElem_toArray, List.getElem_cons_succ, List.getElem_cons_zero, List.setIfInBounds_toArray, List.set_cons_zero, List.set_cons_succ]
            refine wpAnyH_take (i := 12) (v := ?_) rfl (by kernel_rfl) (by kernel_rfl) (by kernel_rfl) (fun _ _ _ h => h) (Or.inl ⟨by rfl, ?_⟩) (by assumption) ?_
            rotate_left
            · (intro w hSw; (try dsimp only at hSw); first | (go_simp; done) | (go_simp; with_reducible rfl))
            try simp only [Act.put, List.getElem_toArray, List.getElem_cons_succ, List.getElem_cons_zero, List.setIfInBounds_toArray, List.set_cons_zero, List.set_cons_succ]
            refine wpAnyH_take (i := 13) (v := ?_) rfl (by kernel_rfl) (by kernel_rfl) (by kernel_rfl) (fun _ _ _ h => h) (Or.inl ⟨by rfl, ?_⟩) (by assumption) ?_
            rotate_left
            · (intro w hSw; (try dsimp only at hSw); first | (go_simp; done) | (go_simp; with_reducible rfl))
            try simp only [Act.put, List.getElem_toArray, List.getElem_cons_succ, List.getElem_cons_zero, List.setIfInBounds_toArray, List.set_cons_zero, List.set_cons_succ]
            refine wpAnyH_take (i := 14) (v := ?_) rfl (by kernel_rfl) (by kernel_rfl) (by kernel_rfl) (fun _ _ _ h => h) (Or.inl ⟨by rfl, ?_⟩) (by assumption) ?_
            rotate_left
            · (intro w hSw; (try dsimp only at hSw); first | (go_simp; done) | (go_simp; with_reducible rfl))
            try simp only [Act.put, List.getElem_toArray, List.getElem_cons_succ, List.getElem_cons_zero, List.setIfInBounds_toArray, List.set_cons_zero, List.set_cons_succ]
            refine wpAnyH_take (i := 15) (v := ?_) rfl (by kernel_rfl) (by kernel_rfl) (by kernel_rfl) (fun _ _ _ h => h) (Or.inl ⟨by rfl, ?_⟩) (by assumption) ?_
            rotate_left
            · (intro w hSw; (try dsimp only at hSw); first | (go_simp; done) | (go_simp; with_reducible rfl))
            try simp only [Act.put, List.getElem_toArray, List.getElem_cons_succ, List.getElem_cons_zero, List.setIfInBounds_toArray, List.set_cons_zero, List.set_cons_succ]
            refine wpAnyH_take (i := 16) (v := ?_) rfl (by kernel_rfl) (by kernel_rfl) (by kernel_rfl) (fun _ _ _ h => h) (Or.inl ⟨by rfl, ?_⟩) (by assumption) ?_
            rotate_left
            · (intro w hSw; (try dsimp only at hSw); first | (go_simp; done) | (go_simp; with_reducible rfl))
            try simp only [Act.put, List.getElem_toArray, List.getElem_cons_succ, List.getElem_cons_zero, List.setIfInBounds_toArray, List.set_cons_zero, List.set_cons_succ]
            refine wpAnyH_take (i := 17) (v := ?_) rfl (by kernel_rfl) (by kernel_rfl) (by kernel_rfl) (fun _ _ _ h => h) (Or.inl ⟨by rfl, ?_⟩) (by assumption) ?_
            rotate_left
            · (intro w hSw; (try dsimp only at hSw); first | (go_simp; done) | (go_simp; with_reducible rfl))
            try simp only [Act.put, List.getElem_toArray, List.getElem_cons_succ, List.getElem_cons_zero, List.setIfInBounds_toArray, List.set_cons_zero, List.set_cons_succ]
            refine wpAnyH_take (i := 18) (v := ?_) rfl (by kernel_rfl) (by kernel_rfl) (by kernel_rfl) (fun _ _ _ h => h) (Or.inl ⟨by rfl, ?_⟩) (by assumption) ?_
            rotate_left
            · (intro w hSw; (try dsimp only at hSw); first | (go_simp; done) | (go_simp; with_reducible rfl))
            try simp only [Act.put, List.getElem_toArray, List.getElem_cons_succ, List.getElem_cons_zero, List.setIfInBounds_toArray, List.set_cons_zero, List.set_cons_succ]
            refine wpAnyH_take (i := 19) (v := ?_) rfl (by kernel_rfl) (by kernel_rfl) (by kernel_rfl) (fun _ _ _ h => h) (Or.inl ⟨by rfl, ?_⟩) (by assumption) ?_
            rotate_left
            · (intro w hSw; (try dsimp only at hSw); first | (go_simp; done) | (go_simp; with_reducible rfl))
            try simp only [Act.put, List.getElem_toArray, List.getElem_cons_succ, List.getElem_cons_zero, List.setIfInBounds_toArray, List.set_cons_zero, List.set_cons_succ]
            refine wpAnyH_take (i := 21) (v := ?_) rfl (by kernel_rfl) (by kernel_rfl) (by kernel_rfl) (fun _ _ _ h => h) (Or.inl ⟨by rfl, ?_⟩) (by assumption) ?_
            rotate_left
            · (intro w hSw; (try dsimp only at hSw); first | (go_simp; done) | (go_simp; with_reducible rfl))
            try simp only [Act.put, List.getElem_toArray, List.getElem_cons_succ, List.getElem_cons_zero, List.setIfInBounds_toArray, List.set_cons_zero, List.set_cons_succ]
            refine wpAnyH_take (i := 24) (v := ?_) rfl (by kernel_rfl) (by kernel_rfl) (by kernel_rfl) (fun _ _ _ h => h) (Or.inl ⟨by rfl, ?_⟩) (by assumption) ?_
            rotate_left
            · (intro w hSw; (try dsimp only at hSw); first | (go_simp; done) | (go_simp; with_reducible rfl))
            try simp only [Act.put, List.getElem_toArray, List.getElem_cons_succ, List.getElem_cons_zero, List.setIfInBounds_toArray, List.set_cons_zero, List.set_cons_succ]
            refine wpAnyH_ready (rs := [20]) (by kernel_rfl) (by simp) ?_
            refine AllReadyH.cons rfl (fun K hK => ?_) AllReadyH.nil
            go_simp
            (go_at_call 78; refine (refTurn_any an 2 HEN.out.2.2.2.1 (by omega) _ _ HEN.out.2.2.1 rfl _).mono ?_; rintro e wb1 ⟨rfl, hxwb1⟩)
            go_wp2_with fail
            refine hK.out _ _ ?_ (fun hHeld => ?_)
            · ((try dsimp only); exact ⟨Ext.cellS hxwb1 hHeld.1, Ext.cellS hxwb1 hHeld.2⟩)
            clear hK K
            try simp only [Act.put, List.getElem_toArray, List.getElem_cons_succ, List.getElem_cons_zero, List.setIfInBounds_toArray, List.set_cons_zero, List.set_cons_succ]
            refine wpAnyH_ready (rs := [22]) (by kernel_rfl) (by simp) ?_
            refine AllReadyH.cons rfl (fun K hK => ?_) AllReadyH.nil
            go_simp
            (go_at_call 78; refine (refTurn_any an 13 HEN.out.2.2.2.1 (by omega) _ _ HEN.out.2.2.1 rfl _).mono ?_; rintro e wb2 ⟨rfl, hxwb2⟩)
            go_wp2_with fail
            refine hK.out _ _ ?_ (fun hHeld => ?_)
            · ((try dsimp only); exact ⟨Ext.cellS hxwb2 hHeld.1, Ext.cellS hxwb2 hHeld.2⟩)
            clear hK K
            try simp only [Act.put, List.getElem_toArray, List.getElem_cons_succ, List.getElem_cons_zero, List.setIfInBounds_toArray, List.set_cons_zero, List.set_cons_succ]
            refine wpAnyH_take (i := 23) (v := ?_) rfl (by kernel_rfl) (by kernel_rfl) (by kernel_rfl) (fun _ _ _ h => h) (Or.inl ⟨by rfl, ?_⟩) (by assumption) ?_
            rotate_left
            · (intro w hSw; (try dsimp only at hSw); first | (go_simp; done) | (go_simp; with_reducible rfl))
            try simp only [Act.put, List.getElem_toArray, List.getElem_cons_succ, List.getElem_cons_zero, List.setIfInBounds_toArray, List.set_cons_zero, List.set_cons_succ]
            refine wpAnyH_ready (rs := [25]) (by kernel_rfl) (by simp) ?_
            refine AllReadyH.cons rfl (fun K hK => ?_) AllReadyH.nil
            go_simp
            (go_at_call 78; refine (refTurn_any an 22 HEN.out.2.2.2.1 (by omega) _ _ HEN.out.2.2.1 rfl _).mono ?_; rintro e wb3 ⟨rfl, hxwb3⟩)
            go_wp2_with fail
            refine hK.out _ _ ?_ (fun hHeld => ?_)
            · ((try dsimp only); exact ⟨Ext.cellS hxwb3 hHeld.1, Ext.cellS hxwb3 hHeld.2⟩)
            clear hK K
            try simp only [Act.put, List.getElem_toArray, List.getElem_cons_succ, List.getElem_cons_zero, List.setIfInBounds_toArray, List.set_cons_zero, List.set_cons_succ]
            refine wpAnyH_take (i := 26) (v := ?_) rfl (by kernel_rfl) (by kernel_rfl) (by kernel_rfl) (fun _ _ _ h => h) (Or.inl ⟨by rfl, ?_⟩) (by assumption) ?_
            rotate_left
            · (intro w hSw; (try dsimp only at hSw); first | (go_simp; done) | (go_simp; with_reducible rfl))
            try simp only [Act.put, List.getElem_toArray, List.getElem_cons_succ, List.getElem_cons_zero, List.setIfInBounds_toArray, List.set_cons_zero, List.set_cons_succ]
            refine wpAnyH_take (i := 27) (v := ?_) rfl (by kernel_rfl) (by kernel_rfl) (by kernel_rfl) (fun _ _ _ h => h) (Or.inl ⟨by rfl, ?_⟩) (by assumption) ?_
            rotate_left
            · (intro w hSw; (try dsimp only at hSw); first | (go_simp; done) | (go_simp; with_reducible rfl))
            try simp only [Act.put, List.getElem_toArray, List.getElem_cons_succ, List.getElem_cons_zero, List.setIfInBounds_toArray, List.set_cons_zero, List.set_cons_succ]
            refine wpAnyH_take (i := 28) (v := ?_) rfl (by kernel_rfl) (by kernel_rfl) (by kernel_rfl) (fun _ _ _ h => h) (Or.inl ⟨by rfl, ?_⟩) (by assumption) ?_
            rotate_left
            · (intro w hSw; (try dsimp only at hSw); first | (go_simp; done) | (go_simp; with_reducible rfl))
            try simp only [Act.put, List.getElem_toArray, List.getElem_cons_succ, List.getElem_cons_zero, List.setIfInBounds_toArray, List.set_cons_zero, List.set_cons_succ]
            refine wpAnyH_done (by kernel_rfl) ?_ _
            refine NoPanic.normal ?_
            go_wp2; go_meet; exact ⟨val_u32 (y_val t), (((Ext.refl [] wc).drew.trans0 hxwb1).trans0 hxwb2).trans0 hxwb3⟩
          case rest =>
            obtain ⟨rfl, hx10⟩ := hcut
            have hT := hT.ext hx10 (by simp)
            have hE := hE.trans0 hx10
            clear c1 c2 hx10
            have c1 := hT.cell (j := 1) (v := t.b) rfl
            have c2 := hT.cell (j := 2) (v := t.c) rfl
            have c3 := hT.cell (j := 3) (v := t.d) rfl
            have c5 := hT.cell (j := 5) (v := t.f) rfl
            have c6 := hT.cell (j := 6) (v := t.g) rfl
            obtain ⟨yy, hyy⟩ : ∃ z, (majF t + sig0 t.a) % 4294967296 = z := ⟨_, rfl⟩
            rw [hyy]
            have HYY := Hs.hid hyy
            clear hyy
            go_upto_region 11 with fail
            refine wp_region_tail 22 (by kernel_rfl) (by kernel_rfl) ?_
            simp only [List.take_succ_cons, List.take_zero, List.drop_succ_cons, List.drop_zero]
            iterate 22 still_step
            refine wpStill_nil ?_
            go_wp2_with fail
            go_round
            case rel =>
              have hst : stL (mixTo t0 ws (k + 1)) = [(xx + yy) % 4294967296, t.a, t.b, t.c, (t.d + xx) % 4294967296, t.e, t.f, t.g] := by
                rw [HEN.out.2.2.2.2, ← HXX.out, ← HYY.out]
                simp only [stL, stepR, List.cons.injEq, and_true, true_and]
                generalize xF t key wd = A
                generalize majF t + sig0 t.a = B
                constructor <;> omega
              refine ⟨k + 1, wc.heap.size, 8, rfl, by go_num, by omega, ⟨_, heap_new _ _, fun j v hj => ?_⟩, ?_, (hE.alloc _).drew⟩
              · rw [hst] at hj
                match j, hj with
                | 0, hj => simpa using hj
                | 1, hj => simpa using hj
                | 2, hj => simpa using hj
                | 3, hj => simpa using hj
                | 4, hj => simpa using hj
                | 5, hj => simpa using hj
                | 6, hj => simpa using hj
                | 7, hj => simpa using hj
                | j + 8, hj => simp at hj
              · have := hE.size; have := hx30.size; omega
            case measure => simp [intOf]; omega
      · have hk64 : k = 64 := by omega
        subst hk64
        go_wp2
        go_meet
        exact ⟨g, cap, rfl, hT, hg, hE⟩
  case rest =>
    obtain ⟨g, cap, rfl, hT, hg, hE⟩ := hcut
    have hVc := hV3.ext hE (by simp)
    have hE0 := hx30.trans0 hE
    obtain ⟨tn, htn⟩ : ∃ tn, mixTo t0 ws 64 = tn := ⟨_, rfl⟩
    rw [htn] at hT
    have HTN := Hs.hid htn
    have hgV : V ≠ g := by have := HKB.out; omega
    clear htn hW3 hK3 hV3 hx30 hE hT3 hg30
    go_wp2_with fail
    go_loopw [13] (fun iv wr => ∃ i : Nat, iv = .int .i64 i ∧ i ≤ 8 ∧ V8 wr.heap g (addL t0 tn i) ∧ V8 wr.heap V (stL t0) ∧ Ext [] w wr) (fun iv _ => 8 - (intOf iv).toNat)
    case atStart => exact ⟨0, rfl, by omega, by rw [addL_zero]; exact hT, hVc, hE0⟩
    case round =>
      clear hT hVc hE0
      obtain ⟨i, rfl, hi8, hT, hVr, hE⟩ := hrel
      by_cases hi : i < 8
      · have hi' : (i : Int) < 8 := by omega
        obtain ⟨x, hx⟩ : ∃ x, (stL tn).getD i 0 = x := ⟨_, rfl⟩
        obtain ⟨y, hy⟩ : ∃ y, (stL t0).getD i 0 = y := ⟨_, rfl⟩
        have c1 : wr.cell? ⟨g, i, none⟩ = some (.int .u32 x) := hT.cell (by rw [addL_at _ _ hi]; rw [hx])
        have c2 : wr.cell? ⟨V, i, none⟩ = some (.int .u32 y) := hVr.cell (by rw [← hy]; exact stL_get t0 hi)
        have f1 := hT.free i
        have HXY := Hs.hid (And.intro hx hy)
        clear hx hy
        go_upto_region 15 with fail
        refine wp_region_tail 10 (by kernel_rfl) (by kernel_rfl) ?_
        simp only [List.take_succ_cons, List.take_zero, List.drop_succ_cons, List.drop_zero]
        iterate 10 still_step
        refine wpStill_nil ?_
        go_wp2_with fail
        go_round
        case rel =>
          have h1 := hT.set i ((x + y) % 4294967296) (by rw [addL_len]; exact hi)
          refine ⟨i + 1, by go_num, by omega, ?_, (hVr.ext (F := [g]) (((Ext.refl [g] wr).set' (b := g) (by simp) i (.int .u32 ((x + y) % 4294967296))).drew) (by simpa using hgV)), ((hE.setN hg i (.int .u32 ((x + y) % 4294967296))).drew)⟩
          rw [← addL_set _ _ hi, HXY.out.1, HXY.out.2]
          exact h1
        case measure => simp [intOf]; omega
      · have hi' : i = 8 := by omega
        subst hi'
        go_wp2
        go_ret
        refine ⟨g, cap, rfl, ?_, hg, hE⟩
        have h8 := addL_eight t0 tn
        rw [h8] at hT
        unfold mixF
        rw [HWS.out.1, HTN.out]
        exact hT
end Go.Proofs.YtnjjbolbemlceaaDoor
set_option linter.unusedSimpArgs false
set_option linter.unusedVariables false
set_option maxHeartbeats 1000000
set_option maxRecDepth 100000
namespace Go.Dg
open Go Go.RowKit

theorem getD_append_lt {a b : ByteArray} {i : Nat} (h : i < a.size) : (a ++ b).data.toList.getD i 0 = a.data.toList.getD i 0 := by
  have h2 : i < a.data.toList.length := by simpa using h
  simp [List.getD_eq_getElem?_getD, List.getElem?_append_left h2]
/-- The words hang on 64 bytes alone. -/
theorem wordsN_congr {a b : ByteArray} (h : ∀ i, i < 64 → a.data.toList.getD i 0 = b.data.toList.getD i 0) : ∀ n, wordsN a n = wordsN b n
  | n + 1 => by simp only [wordsN, wordsN_congr h n]
  | 0 => by
    have hw : ∀ i k, 4 * i + k ≤ 64 → word0 a i k = word0 b i k := by
      intro i k
      induction k with
      | zero => intro _; rfl
      | succ k ih =>
        intro hk
        simp only [word0, byteAt]
        rw [ih (by omega), h (4 * i + k) (by omega)]
    have hf : ∀ n, n ≤ 16 → firstW a n = firstW b n := by
      intro n
      induction n with
      | zero => intro _; rfl
      | succ n ih => intro hn; simp only [firstW]; rw [ih (by omega), hw n 4 (by omega)]
    exact hf 16 (Nat.le_refl _)
theorem mixF_congr (t : St) {a b : ByteArray} (h : ∀ i, i < 64 → a.data.toList.getD i 0 = b.data.toList.getD i 0) : mixF t a = mixF t b := by
  unfold mixF; rw [wordsN_congr h]
theorem mixF_append (t : St) {a b : ByteArray} (h : 64 ≤ a.size) : mixF t (a ++ b) = mixF t a := mixF_congr t fun i hi => getD_append_lt (by omega)
theorem lb_ext (x : ByteArray) (i j : Nat) : (x.extract i j).data.toList = (x.data.toList.drop i).take (j - i) := by
  simp [ByteArray.data_extract, List.extract]
theorem lb_app (a b : ByteArray) : (a ++ b).data.toList = a.data.toList ++ b.data.toList := by simp
theorem lb_len (a : ByteArray) : a.data.toList.length = a.size := by simp
theorem lb_inj {a b : ByteArray} (h : a.data.toList = b.data.toList) : a = b := ByteArray.ext (Array.toList_inj.1 h)
theorem extract_append (a b : ByteArray) (h : 64 ≤ a.size) : (a ++ b).extract 64 (a ++ b).size = a.extract 64 a.size ++ b := by
  apply lb_inj
  rw [lb_ext, lb_app, lb_app, lb_ext, ByteArray.size_append]
  have hl := lb_len a
  have hl2 := lb_len b
  rw [List.drop_append_of_le_length (by omega), List.take_of_length_le (by rw [List.length_append, List.length_drop]; omega), List.take_of_length_le (by rw [List.length_drop]; omega)]
theorem eat_append : ∀ (n : Nat) (t : St) (s p : ByteArray), s.size ≤ n → eat t (s ++ p) = eat (eat t s).1 ((eat t s).2 ++ p) := by
  intro n
  induction n with
  | zero => intro t s p h; rw [eat_end (s := s) (by omega)]
  | succ n ih =>
    intro t s p h
    by_cases h64 : 64 ≤ s.size
    · rw [eat_more (s := s ++ p) (by rw [ByteArray.size_append]; omega), eat_more h64, mixF_append t h64, extract_append s p h64]
      exact ih _ _ _ (by rw [ByteArray.size_extract]; omega)
    · rw [eat_end (s := s) h64]
theorem eat_left_size : ∀ (n : Nat) (t : St) (s : ByteArray), s.size ≤ n → (eat t s).2.size = s.size % 64 := by
  intro n
  induction n with
  | zero => intro t s h; rw [eat_end (by omega)]; show s.size = _; omega
  | succ n ih =>
    intro t s h
    by_cases h64 : 64 ≤ s.size
    · rw [eat_more h64, ih _ _ (by rw [ByteArray.size_extract]; omega), ByteArray.size_extract]
      omega
    · rw [eat_end h64]; show s.size = _; omega
theorem lenTo_app (a b : ByteArray) (n : Nat) : ∀ j, lenTo (a ++ b) n j = a ++ lenTo b n j
  | 0 => rfl
  | j + 1 => by simp only [lenTo]; rw [lenTo_app a b n j, ByteArray.append_assoc]
def zerosB (k : Nat) : ByteArray := ⟨(List.replicate k 0).toArray⟩
/-- Bytes, and what is behind them. -/
def padAll (s : ByteArray) : ByteArray := s ++ lenTo (⟨#[128]⟩ ++ zerosB ((119 - s.size % 64) % 64)) s.size 8
theorem sumF_all (s : ByteArray) : sumF s = (eat begin0 (padAll s)).1 := by
  unfold sumF padAll
  rw [eat_append s.size begin0 s _ (Nat.le_refl _)]
  have hl := eat_left_size s.size begin0 s (Nat.le_refl _)
  unfold padB
  rw [hl]
  show (eat (eat begin0 s).1 (lenTo ((eat begin0 s).2 ++ ⟨#[128]⟩ ++ zerosB ((119 - s.size % 64) % 64)) s.size 8)).1 = _
  rw [ByteArray.append_assoc, lenTo_app]
theorem padAll_size (s : ByteArray) : (padAll s).size % 64 = 0 ∧ s.size + 9 ≤ (padAll s).size ∧ (padAll s).size ≤ s.size + 72 := by
  unfold padAll
  rw [ByteArray.size_append, lenTo_size, ByteArray.size_append]
  have h1 : (⟨#[128]⟩ : ByteArray).size = 1 := rfl
  have h2 : (zerosB ((119 - s.size % 64) % 64)).size = (119 - s.size % 64) % 64 := by unfold zerosB; show (List.replicate _ (0 : UInt8)).toArray.size = _; simp
  rw [h1, h2]
  omega
/-- A state behind so many blocks. -/
def stN (S : ByteArray) : Nat → St
  | 0 => begin0
  | q + 1 => mixF (stN S q) (S.extract (64 * q) (64 * q + 64))
theorem eat_stN (S : ByteArray) : ∀ q, 64 * q ≤ S.size → eat begin0 S = eat (stN S q) (S.extract (64 * q) S.size)
  | 0, _ => by
    show _ = eat begin0 (S.extract 0 S.size)
    rw [ByteArray.extract_zero_size]
  | q + 1, h => by
    rw [eat_stN S q (by omega), eat_more (by rw [ByteArray.size_extract]; omega)]
    have hl := lb_len S
    have h1 : mixF (stN S q) (S.extract (64 * q) S.size) = stN S (q + 1) := by
      simp only [stN]
      generalize stN S q = t
      refine mixF_congr _ fun i hi => ?_
      rw [lb_ext, lb_ext]
      simp only [List.getD_eq_getElem?_getD]
      rw [List.getElem?_take, List.getElem?_take, if_pos (by omega), if_pos (by omega)]
    have h2 : (S.extract (64 * q) S.size).extract 64 (S.extract (64 * q) S.size).size = S.extract (64 * (q + 1)) S.size := by
      apply lb_inj
      rw [lb_ext, lb_ext, lb_ext, ByteArray.size_extract]
      rw [List.take_of_length_le (l := List.drop (64 * q) _) (by rw [List.length_drop]; omega), List.drop_drop, List.take_of_length_le (by rw [List.length_drop]; omega), List.take_of_length_le (by rw [List.length_drop]; omega)]
      congr 1
    rw [h1, h2]
theorem sumF_stN (s : ByteArray) {Q : Nat} (hQ : 64 * Q = (padAll s).size) : sumF s = stN (padAll s) Q := by
  rw [sumF_all, eat_stN (padAll s) Q (by omega), hQ]
  rw [eat_end (by rw [ByteArray.size_extract]; omega)]
end Go.Dg
set_option linter.unusedSimpArgs false
set_option linter.unusedVariables false
set_option maxHeartbeats 400000
set_option maxRecDepth 100000
namespace Go.Proofs.YtnjjbolbemlceaaDoor
open Go.RowKit Go.Hs Go.Dg
open Go.Proofs.YtnjjbolbemlceaaDoorW.PrintWords Go.Proofs.YtnjjbolbemlceaaDoorW.PrintLast Go.Proofs.YtnjjbolbemlceaaDoorW.PrintMore
open Go.Proofs.YtnjjbolbemlceaaDoor.PDg

def tailB (N : Nat) : Nat → ByteArray
  | 0 => ⟨#[]⟩
  | i + 1 => strN [N / 256 ^ i % 256] ++ tailB N i
theorem tailB_size (N : Nat) : ∀ i, (tailB N i).size = i
  | 0 => rfl
  | i + 1 => by
    rw [tailB, ByteArray.size_append, tailB_size N i]
    show 1 + i = _; omega
theorem nums_one (x : Nat) : strOfNums [((x : Nat) : Int)] = strN [x] := by simp [strOfNums, strN]
theorem l1_num (q : Nat) (h : q < 1099511627776) : Int.tmod ((q : Nat) : Int) 256 % 256 = ((q % 256 : Nat) : Int) ∧ wrap64 (Int.tdiv ((q : Nat) : Int) 256) = ((q / 256 : Nat) : Int) := by
  refine ⟨?_, ?_⟩
  · rw [Int.tmod_eq_emod_of_nonneg (by omega)]; omega
  · rw [Int.tdiv_eq_ediv_of_nonneg (by omega)]; unfold wrap64; omega
theorem wrap_next (i : Nat) (h : i < 1000) : wrap64 (((i : Nat) : Int) + 1) = ((i + 1 : Nat) : Int) := by unfold wrap64; omega
theorem long_l1 (x0 : ByteArray) (N : Nat) (hN : N < 1099511627776) (hx : x0.size ≤ 1000000000) : ∀ (d i k : Nat), i + d = 8 → d + 1 ≤ k → hindsightref01_long.l1 k x0 ((N / 256 ^ i : Nat) : Int) (tailB N i) ((i : Nat) : Int) = some (x0 ++ tailB N 8)
  | 0, i, k, h, hk => by
    obtain rfl : i = 8 := by omega
    obtain ⟨k, rfl⟩ : ∃ q, k = q + 1 := ⟨k - 1, by omega⟩
    have hsz := tailB_size N 8
    generalize tailB N 8 = tl at hsz ⊢
    generalize N / 256 ^ 8 = q
    have step : hindsightref01_long.l1 (k + 1) x0 (q : Int) tl ((8 : Nat) : Int) = (if ((8 : Nat) : Int) < 8 then ((some (([(Int.tmod (q : Int) 256) % 256] : List Int) : List Int)).bind fun y127 => (if (strOfNums y127).size + tl.size ≤ 9223372036854775807 then (hindsightref01_long.l1 k x0 (wrap64 (Int.tdiv (q : Int) 256)) ((strOfNums y127) ++ tl) (wrap64 (((8 : Nat) : Int) + 1))) else (none))) else (if x0.size + tl.size ≤ 9223372036854775807 then (some (x0 ++ tl)) else (none))) := by rw [hindsightref01_long.l1]
    have hs2 : x0.size + tl.size ≤ 9223372036854775807 := by omega
    rw [step, if_neg (by decide), if_pos hs2]
  | d + 1, i, k, h, hk => by
    obtain ⟨k, rfl⟩ : ∃ q, k = q + 1 := ⟨k - 1, by omega⟩
    have ih := long_l1 x0 N hN hx d (i + 1) k (by omega) (by omega)
    have hle : N / 256 ^ i ≤ N := Nat.div_le_self _ _
    have hs : N / 256 ^ (i + 1) = N / 256 ^ i / 256 := by rw [Nat.pow_succ, Nat.div_div_eq_div_mul]
    have ht : tailB N (i + 1) = strN [N / 256 ^ i % 256] ++ tailB N i := rfl
    rw [hs, ht] at ih
    have hsz := tailB_size N i
    generalize tailB N 8 = tl at ih ⊢
    generalize tailB N i = ti at ih hsz ⊢
    generalize N / 256 ^ i = q at ih hle ⊢
    have step : hindsightref01_long.l1 (k + 1) x0 (q : Int) ti (i : Int) = (if ((i : Nat) : Int) < 8 then ((some (([(Int.tmod (q : Int) 256) % 256] : List Int) : List Int)).bind fun y127 => (if (strOfNums y127).size + ti.size ≤ 9223372036854775807 then (hindsightref01_long.l1 k x0 (wrap64 (Int.tdiv (q : Int) 256)) ((strOfNums y127) ++ ti) (wrap64 ((i : Int) + 1))) else (none))) else (if x0.size + ti.size ≤ 9223372036854775807 then (some (x0 ++ ti)) else (none))) := by rw [hindsightref01_long.l1]
    have h8 : ((i : Nat) : Int) < 8 := by omega
    have hq : q < 1099511627776 := by omega
    have hi : i < 1000 := by omega
    have hs2 : (strN [q % 256]).size + ti.size ≤ 9223372036854775807 := by
      have h1 : (strN [q % 256]).size = 1 := rfl
      rw [h1, hsz]; omega
    rw [step, if_pos h8, (l1_num q hq).1, (l1_num q hq).2, wrap_next i hi, Option.bind_some, nums_one, if_pos hs2]
    exact ih
theorem zerosB_succ (j : Nat) : zerosB (j + 1) = zerosB j ++ ⟨#[0]⟩ := by
  apply lb_inj
  rw [lb_app]
  unfold zerosB
  simp [List.replicate_succ']
theorem zerosB_size (j : Nat) : (zerosB j).size = j := by unfold zerosB; show (List.replicate j (0 : UInt8)).toArray.size = _; simp
theorem lenTo_tail' (pre : ByteArray) (n : Nat) : ∀ j i, j + i = 8 → lenTo pre n j ++ tailB (n * 8) i = pre ++ tailB (n * 8) 8
  | 0, i, h => by
    obtain rfl : i = 8 := by omega
    rfl
  | j + 1, i, h => by
    have h1 := lenTo_tail' pre n j (i + 1) (by omega)
    have hp : 2 ^ (8 * (7 - j)) = 256 ^ i := by
      rw [show (256 : Nat) = 2 ^ 8 from rfl, ← Nat.pow_mul]
      congr 1; omega
    have h2 : lenTo pre n (j + 1) = lenTo pre n j ++ strN [n * 8 / 256 ^ i % 256] := by rw [← hp]; rfl
    have h3 : tailB (n * 8) (i + 1) = strN [n * 8 / 256 ^ i % 256] ++ tailB (n * 8) i := rfl
    rw [h2, ByteArray.append_assoc, ← h3]
    exact h1
theorem lenTo_tail (pre : ByteArray) (n : Nat) : lenTo pre n 8 = pre ++ tailB (n * 8) 8 := by
  have h := lenTo_tail' pre n 8 0 rfl
  have h0 : lenTo pre n 8 ++ tailB (n * 8) 0 = lenTo pre n 8 := by
    apply lb_inj; rw [lb_app]; simp [tailB]
  rw [h0] at h
  exact h
theorem long_l0 (s : ByteArray) (hs : s.size ≤ 100000000) : ∀ (d j k : Nat), j + d = (119 - s.size % 64) % 64 → d + 20 ≤ k →
    hindsightref01_long.l0 k (s ++ ⟨#[128]⟩ ++ zerosB j) (s.size : Int) ((j : Nat) : Int) = some (padAll s)
  | 0, j, k, h, hk => by
    obtain ⟨k, rfl⟩ : ∃ q, k = q + 1 + 1 := ⟨k - 2, by omega⟩
    have hsz : (s ++ ⟨#[128]⟩ ++ zerosB j).size = s.size + 1 + j := by rw [ByteArray.size_append, ByteArray.size_append, zerosB_size]; rfl
    simp only [hindsightref01_long.l0]
    rw [if_pos (by omega), hsz, if_pos (by omega)]
    simp only [hindsightref01_long.j1]
    have e0 : wrap64 ((s.size : Int) * 8) = ((s.size * 8 / 256 ^ 0 : Nat) : Int) := by
      simp only [Nat.pow_zero, Nat.div_one]; unfold wrap64; omega
    rw [e0]
    have h1 := long_l1 (s ++ ⟨#[128]⟩ ++ zerosB j) (s.size * 8) (by omega) (by omega) 8 0 k (by omega) (by omega)
    have h2 : tailB (s.size * 8) 0 = ⟨#[]⟩ := rfl
    rw [h2] at h1
    refine Eq.trans h1 ?_
    congr 1
    unfold padAll
    have hz : (119 - s.size % 64) % 64 = j := by omega
    rw [hz, lenTo_tail, ← ByteArray.append_assoc, ← ByteArray.append_assoc]
  | d + 1, j, k, h, hk => by
    obtain ⟨k, rfl⟩ : ∃ q, k = q + 1 := ⟨k - 1, by omega⟩
    have hsz : (s ++ ⟨#[128]⟩ ++ zerosB j).size = s.size + 1 + j := by rw [ByteArray.size_append, ByteArray.size_append, zerosB_size]; rfl
    have e3 : wrap64 (((j : Nat) : Int) + 1) = ((j + 1 : Nat) : Int) := by unfold wrap64; omega
    simp only [hindsightref01_long.l0]
    have hzz : s ++ ⟨#[128]⟩ ++ zerosB j ++ (⟨#[0]⟩ : ByteArray) = s ++ ⟨#[128]⟩ ++ zerosB (j + 1) := by rw [zerosB_succ, ← ByteArray.append_assoc]
    rw [if_pos (by omega), hsz, if_neg (by omega), if_pos (by omega), e3, hzz]
    exact long_l0 s hs d (j + 1) k (by omega) (by omega)
theorem long_pad (s : ByteArray) (hs : s.size ≤ 100000000) : hindsightref01_long.f 200 s = some (padAll s) := by
  unfold hindsightref01_long.f
  rw [if_pos (by omega)]
  have h := long_l0 s hs ((119 - s.size % 64) % 64) 0 200 (by omega) (by omega)
  have hz : s ++ ⟨#[128]⟩ ++ zerosB 0 = s ++ ⟨#[128]⟩ := by
    apply lb_inj; rw [lb_app]; simp [zerosB]
  rw [hz] at h
  exact h
theorem refLong_any (s : ByteArray) (hs : s.size ≤ 100000000) (w : World) : Calls Tryd.prog 64 #[.string s] w fun e w' => e = .returned (.string (padAll s)) ∧ Ext [] w w' := by
  have h1 := long_pad s hs
  generalize padAll s = p at h1 ⊢
  refine (hindsightref01_long.calls 200 s p w h1).mono ?_
  rintro e w' ⟨rfl, hB⟩
  exact ⟨rfl, Ext.ofBelow hB⟩
end Go.Proofs.YtnjjbolbemlceaaDoor
set_option linter.unusedSimpArgs false
set_option linter.unusedVariables false
set_option maxHeartbeats 2000000
set_option maxRecDepth 100000
namespace Go.Proofs.YtnjjbolbemlceaaDoor
open Go.RowKit Go.Hs Go.Dg

theorem StU.begin0 : StU begin0 := by
  intro z hz
  simp only [stL, Go.Dg.begin0, List.mem_cons, List.not_mem_nil, or_false] at hz
  omega
theorem StU.add (s t : St) : StU (s.add t) := by
  intro z hz
  simp only [stL, St.add, List.mem_cons, List.not_mem_nil, or_false] at hz
  omega
theorem StU.stN (S : ByteArray) : ∀ q, StU (stN S q)
  | 0 => StU.begin0
  | q + 1 => by unfold Go.Dg.stN mixF; exact StU.add _ _
theorem V8.begin (w : World) : V8 (w.alloc (.cells #[.int .u32 1779033703, .int .u32 3144134277, .int .u32 1013904242, .int .u32 2773480762, .int .u32 1359893119, .int .u32 2600822924, .int .u32 528734635, .int .u32 1541459225] 121)).heap w.heap.size (stL Go.Dg.begin0) :=
  ⟨_, heap_new _ _, fun j v hj => by
    match j, hj with
    | 0, hj => simpa [stL, Go.Dg.begin0] using hj
    | 1, hj => simpa [stL, Go.Dg.begin0] using hj
    | 2, hj => simpa [stL, Go.Dg.begin0] using hj
    | 3, hj => simpa [stL, Go.Dg.begin0] using hj
    | 4, hj => simpa [stL, Go.Dg.begin0] using hj
    | 5, hj => simpa [stL, Go.Dg.begin0] using hj
    | 6, hj => simpa [stL, Go.Dg.begin0] using hj
    | 7, hj => simpa [stL, Go.Dg.begin0] using hj
    | j + 8, hj => simp [stL, Go.Dg.begin0] at hj⟩
/-- So many words' bytes. -/
def outB (t : St) (i : Nat) : List Nat := (List.range (4 * i)).map fun j => (sumByte t j).toNat
theorem outB_succ (t : St) (i : Nat) (x : Int) (hx : (stL t).getD i 0 = x) : outB t (i + 1) = outB t i ++ [(x / 16777216 % 256).toNat, (x / 65536 % 256).toNat, (x / 256 % 256).toNat, (x % 256).toNat] := by
  have hw : ∀ k, k < 4 → sumByte t (4 * i + k) = x / 2 ^ (24 - 8 * k) % 256 := fun k hk => by
    unfold sumByte wordOf
    have h1 : (4 * i + k) / 4 = i := by omega
    have h2 : (4 * i + k) % 4 = k := by omega
    rw [h1, h2]
    show (stL t).getD i 0 / _ % 256 = _
    rw [hx]
  have h0 := hw 0 (by omega)
  have h1 := hw 1 (by omega)
  have h2 := hw 2 (by omega)
  have h3 := hw 3 (by omega)
  unfold outB
  rw [show 4 * (i + 1) = 4 * i + 1 + 1 + 1 + 1 by omega, List.range_succ, List.range_succ, List.range_succ, List.range_succ]
  simp only [List.map_append, List.map_cons, List.map_nil, List.append_assoc, List.cons_append, List.nil_append]
  rw [show 4 * i = 4 * i + 0 from rfl] at h0
  rw [show (4 * i + 0 : Nat) = 4 * i from rfl] at h0
  rw [h0, show 4 * i + 1 + 1 = 4 * i + 2 from rfl, show 4 * i + 2 + 1 = 4 * i + 3 from rfl, h1, h2, h3]
  simp
theorem outB_eight (t : St) (s : ByteArray) (h : sumF s = t) : outB t 8 = digN s := by
  unfold outB digN; rw [h]
theorem outB_len (t : St) (i : Nat) : (outB t i).length = 4 * i := by simp [outB]
theorem refOf_any (s : ByteArray) (hs : s.size ≤ 100000000) (w : World) : Calls Tryd.prog 48 #[.string s] w fun e w' => e = .returned (.string (strN (digN s))) ∧ Ext [] w w' := by
  obtain ⟨hp1, hp2, hp3⟩ := padAll_size s
  obtain ⟨S, hS⟩ : ∃ S, padAll s = S := ⟨_, rfl⟩
  rw [hS] at hp1 hp2 hp3
  have HS := Hs.hid (And.intro hS (And.intro hs (And.intro hp1 hp2)))
  have hSz : (S.size : Int) ≤ 100000100 := by omega
  clear hS hs hp1 hp2 hp3
  go_enter Tryd.func48, Tryd.ntmps48
  go_upto_block 0 with (go_at_call 64; refine (refLong_any s HS.out.2.1 _).mono ?_; rintro e w1 ⟨rfl, hx1⟩; rw [HS.out.1])
  have hV := V8.begin w1
  have hx2 := hx1.alloc (.cells #[.int .u32 1779033703, .int .u32 3144134277, .int .u32 1013904242, .int .u32 2773480762, .int .u32 1359893119, .int .u32 2600822924, .int .u32 528734635, .int .u32 1541459225] 121)
  generalize w1.alloc (.cells #[.int .u32 1779033703, .int .u32 3144134277, .int .u32 1013904242, .int .u32 2773480762, .int .u32 1359893119, .int .u32 2600822924, .int .u32 528734635, .int .u32 1541459225] 121) = W2 at hV hx2 ⊢
  generalize w1.heap.size = g0 at hV ⊢
  clear hx1
  go_cut [3] (fun s3 wx => ∃ q g cap : Nat, s3 = .slice (some ⟨g, 0, none⟩) 8 cap ∧ 64 * q = S.size ∧ V8 wx.heap g (stL (stN S q)) ∧ Ext [] w wx)
  case first =>
    go_wp2_with fail
    go_loopw [3, 4] (fun vv iv wr => ∃ q z g cap : Nat, vv = .slice (some ⟨g, 0, none⟩) 8 cap ∧ iv = .int .i64 z ∧ Hid (z = 64 * q) ∧ z ≤ S.size ∧ V8 wr.heap g (stL (stN S q)) ∧ Ext [] w wr) (fun _ iv _ => S.size - (intOf iv).toNat)
    case atStart => exact ⟨0, 0, g0, 8, rfl, rfl, Hs.hid rfl, by omega, hV, hx2⟩
    case round =>
      clear hV hx2
      obtain ⟨q, z, g, cap, rfl, rfl, HZ, hz, hV, hE⟩ := hrel
      by_cases hlt : z < S.size
      · have h64 : z + 64 ≤ S.size := by have := HZ.out; have := HS.out.2.2.1; omega
        have h64' : (z : Int) + 64 ≤ S.size := by omega
        have hlt' : (z : Int) < S.size := by omega
        have hle1 : (z : Int) ≤ (z : Int) + 64 := by omega
        have hle0 : (0 : Int) ≤ (z : Int) := by omega
        have hle2 : (0 : Int) ≤ (z : Int) + 64 := by omega
        have hesz : (S.extract z (z + 64)).size = 64 := by rw [ByteArray.size_extract]; omega
        have hst : stN S (q + 1) = mixF (stN S q) (S.extract z (z + 64)) := by rw [HZ.out]; rfl
        have hu := StU.stN S q
        obtain ⟨b, hb⟩ : ∃ b, S.extract z (z + 64) = b := ⟨_, rfl⟩
        rw [hb] at hesz hst
        have HB := Hs.hid (And.intro hb (And.intro hesz hst))
        clear hb hesz hst
        go_wp2_with (go_at_call 65; rw [HB.out.1]; refine (block_any (stN S q) hu g cap b (by rw [HB.out.2.1]; exact Nat.le_refl _) (by rw [HB.out.2.1]; decide) _ hV).mono ?_; rintro e w3 ⟨g3, cap3, rfl, hV3, _, hx3⟩; rw [← HB.out.2.2] at hV3)
        go_round
        case rel => exact ⟨q + 1, z + 64, g3, cap3, rfl, by go_num, Hs.hid (by have := HZ.out; omega), h64, hV3, hE.trans0 hx3⟩
        case measure => simp [intOf]; omega
      · have hlt' : ¬ (z : Int) < S.size := by omega
        go_wp2
        go_meet
        exact ⟨q, g, cap, rfl, by have := HZ.out; omega, hV, hE⟩
  case rest =>
    obtain ⟨q, g, cap, rfl, hq, hV, hE⟩ := hcut
    have hsum : sumF s = stN S q := by
      rw [← HS.out.1]
      exact sumF_stN s (by rw [HS.out.1]; exact hq)
    have hu := StU.stN S q
    obtain ⟨t, ht⟩ : ∃ t, stN S q = t := ⟨_, rfl⟩
    rw [ht] at hV hu hsum
    have HT := Hs.hid hsum
    clear hq ht hsum
    obtain ⟨i0, hi, hz0, hz1, hz2⟩ := info_parts infoU8
    have HI := Hs.hid (And.intro hi (And.intro hz0 (And.intro hz1 hz2)))
    clear hi hz0 hz1 hz2
    go_wp2_with fail
    have hO := heap_new wc (.cells #[] 5)
    have hx4 := (Ext.refl [] wc).alloc (.cells #[] 5)
    have hgo := hV.lt
    generalize wc.alloc (.cells #[] 5) = W4 at hO hx4 ⊢
    have hgs : w.heap.size ≤ wc.heap.size := hE.size
    generalize wc.heap.size = go at hO hgs hgo ⊢
    have HGS := Hs.hid (And.intro hgs hgo)
    clear hgs hgo
    go_loopw [5, 27] (fun ov iv wr => ∃ (i : Nat) (ao : Option Addr) (cap : Nat), ov = .slice ao (4 * i) cap ∧ iv = .int .i64 i ∧ i ≤ 8 ∧ Own wr.heap 5 1 (.slice ao (4 * i) cap) (4 * i) ((outB t i).map fun (c : Nat) => Value.int .u8 c) ∧ Hid (∀ k, (Value.slice ao (4 * i) cap).ownBlock = some k → w.heap.size ≤ k ∧ k ≠ g) ∧ V8 wr.heap g (stL t) ∧ Ext [] w wr) (fun _ iv _ => 8 - (intOf iv).toNat)
    case atStart =>
      exact ⟨0, _, _, rfl, rfl, by omega, ⟨by simp [outB], .inr ⟨go, 0, #[], rfl, Nat.zero_le _, hO, Nat.le_refl _, by decide, rfl, by simp [outB]⟩⟩, Hs.hid fun k hk => by
        have := HGS.out; simp [Value.ownBlock] at hk; omega, hV.ext hx4 (by simp), hE.trans0 hx4⟩
    case round =>
      clear hO hx4 hV hE
      obtain ⟨i, ao, cap2, rfl, rfl, hi8, hOw, hfr, hV, hE⟩ := hrel
      by_cases hi : i < 8
      · have hi' : (i : Int) < 8 := by omega
        obtain ⟨x, hx⟩ : ∃ x, (stL t).getD i 0 = x := ⟨_, rfl⟩
        have hxb := hu x (by rw [← hx]; exact List.mem_of_getElem? (stL_get t hi))
        have c1 : wr.cell? ⟨g, i, none⟩ = some (.int .u32 x) := hV.cell (by rw [← hx]; exact stL_get t hi)
        obtain ⟨hx0, hx1⟩ := hxb
        have HX := Hs.hid hx
        clear hx
        go_wp2_with (at_builtin; refine wpList_append rfl (.tmp 31) (.tmp 46) 50 rfl 5 i0 _ 1 1 Tryd.underlying50 HI.out.1 HI.out.2.1 HI.out.2.2.1 HI.out.2.2.2 rfl (by decide) (.slice ao (4 * i) cap2) (4 * i) _ rfl (hOw.alloc _) ⟨wr.heap.size, 0, none⟩ 4 4 [.int .u8 (x / 16777216), .int .u8 (x / 65536 % 256), .int .u8 (x / 256 % 256), .int .u8 (x % 256)] rfl rfl (news_new wr _ 5) (by simp [Value.oneCell']) (by unfold maxLen; omega) (by omega) ?_; intro ao3 cap3 w3 hO3 hx3 hg3)
        go_round
        case rel =>
          have ho : (outB t (i + 1)).map (fun (c : Nat) => Value.int .u8 c) = (outB t i).map (fun (c : Nat) => Value.int .u8 c) ++ [.int .u8 (x / 16777216), .int .u8 (x / 65536 % 256), .int .u8 (x / 256 % 256), .int .u8 (x % 256)] := by
            rw [outB_succ t i x HX.out]
            have e1 : ((x / 16777216 % 256).toNat : Int) = x / 16777216 := by omega
            have e2 : ((x / 65536 % 256).toNat : Int) = x / 65536 % 256 := by omega
            have e3 : ((x / 256 % 256).toNat : Int) = x / 256 % 256 := by omega
            have e4 : ((x % 256).toNat : Int) = x % 256 := by omega
            simp only [List.map_append, List.map_cons, List.map_nil, e1, e2, e3, e4]
          have hb : ∀ k, (Value.slice ao (4 * i) cap2).ownBlock = some k → w.heap.size ≤ k ∧ k ≠ g := hfr.out
          refine ⟨i + 1, ao3, cap3, rfl, by go_num, by omega, by rw [ho]; exact hO3, Hs.hid fun k hk => ?_, (hV.ext ((Ext.refl [] wr).alloc _) (by simp)).ext hx3 (fun hm => (hb g (by simpa using hm)).2 rfl), (hE.alloc _).trans hx3 (fun k hk => .inr (hb k (by simpa using hk)).1)⟩
          rcases hg3 k hk with h | h
          · exact hb k h
          · have h1 := hV.lt
            have h2 := hE.size
            have h3 := (hE.alloc (.cells #[.int .u8 (x / 16777216), .int .u8 (x / 65536 % 256), .int .u8 (x / 256 % 256), .int .u8 (x % 256)] 5)).size
            have h4 := ((Ext.refl [] wr).alloc (.cells #[.int .u8 (x / 16777216), .int .u8 (x / 65536 % 256), .int .u8 (x / 256 % 256), .int .u8 (x % 256)] 5)).size
            have h5 : (wr.alloc (.cells #[.int .u8 (x / 16777216), .int .u8 (x / 65536 % 256), .int .u8 (x / 256 % 256), .int .u8 (x % 256)] 5)).heap.size ≤ k := h
            omega
        case measure => simp [intOf]; omega
      · have hi' : ¬ (i : Int) < 8 := by omega
        obtain rfl : i = 8 := by omega
        have hcv := run_bytes_text (P := Tryd.prog) (w := wr) 50 9 5 Tryd.underlying50 Tryd.underlying5 Tryd.underlying9 _ (outB t 8) (by rw [outB_len]; exact hOw)
        rw [outB_eight t s HT.out] at hcv
        go_wp2_with fail
        go_ret
        exact ⟨rfl, hE⟩
end Go.Proofs.YtnjjbolbemlceaaDoor
