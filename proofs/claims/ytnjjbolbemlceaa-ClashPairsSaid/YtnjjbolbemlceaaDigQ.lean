/-
  The digest, pure: its bytes.
-/
import Derived.Test.YtnjjbolbemlceaaDigP
set_option linter.unusedSimpArgs false
set_option linter.unusedVariables false
namespace Go.Dg
open Go Go.RowKit

def wordOf (t : St) (i : Nat) : Int := [t.a, t.b, t.c, t.d, t.e, t.f, t.g, t.h].getD i 0
/-- The j-th of a state's 32 bytes. -/
def sumByte (t : St) (j : Nat) : Int := wordOf t (j / 4) / 2 ^ (24 - 8 * (j % 4)) % 256
def upTo (t : St) (c j : Nat) : Int := if j < c then sumByte t j else 0
def bytesL (f : Nat → Int) : Array Value := ((List.range 32).map fun j => Value.int .u8 (f j)).toArray
theorem bytesL_size (f : Nat → Int) : (bytesL f).size = 32 := by simp [bytesL]
theorem bytesL_get (f : Nat → Int) {j : Nat} (h : j < 32) : (bytesL f)[j]? = some (.int .u8 (f j)) := by
  simp [bytesL, h]
theorem bytesL_set (f : Nat → Int) {j : Nat} (h : j < 32) (v : Int) : (bytesL f).setIfInBounds j (.int .u8 v) = bytesL (fun q => if q = j then v else f q) := by
  apply Array.ext_getElem?
  intro q
  rw [Array.getElem?_setIfInBounds]
  by_cases hq : q < 32
  · by_cases e : j = q
    · subst e
      rw [if_pos rfl, if_pos (by rw [bytesL_size]; exact h), bytesL_get _ h, if_pos rfl]
    · rw [if_neg e, bytesL_get f hq, bytesL_get _ hq, if_neg (fun h => e h.symm)]
  · rw [if_neg (by omega), Array.getElem?_eq_none (by rw [bytesL_size]; omega), Array.getElem?_eq_none (by rw [bytesL_size]; omega)]
theorem bytesL_congr {f g : Nat → Int} (h : ∀ j, j < 32 → f j = g j) : bytesL f = bytesL g := by
  apply Array.ext_getElem?
  intro q
  by_cases hq : q < 32
  · rw [bytesL_get _ hq, bytesL_get _ hq, h q hq]
  · rw [Array.getElem?_eq_none (by rw [bytesL_size]; omega), Array.getElem?_eq_none (by rw [bytesL_size]; omega)]
theorem upTo_step (t : St) {c : Nat} (h : c < 32) : bytesL (fun q => if q = c then sumByte t c else upTo t c q) = bytesL (upTo t (c + 1)) := by
  refine bytesL_congr fun j _ => ?_
  unfold upTo
  by_cases e : j = c
  · subst e; simp
  · rw [if_neg e]
    by_cases h1 : j < c
    · rw [if_pos h1, if_pos (by omega)]
    · rw [if_neg h1, if_neg (by omega)]
theorem bytesL_one (f : Nat → Int) : (bytesL f).all (·.oneCell') = true := by
  rw [Array.all_eq_true_iff_forall_mem]
  intro v hv
  simp only [bytesL, List.mem_toArray, List.mem_map] at hv
  obtain ⟨j, _, rfl⟩ := hv
  rfl
/-- The digest. -/
def sumF (s : ByteArray) : St := (eat (eat begin0 s).1 (padB (eat begin0 s).2 s.size)).1
def sumV (t : St) (left : ByteArray) (n : Nat) : Array Value := bytesL (sumByte (eat t (padB left n)).1)
theorem sumV_size (t : St) (left : ByteArray) (n : Nat) : (sumV t left n).size = 32 := bytesL_size _
theorem sumV_one (t : St) (left : ByteArray) (n : Nat) : (sumV t left n).all (·.oneCell') = true := bytesL_one _
def digV (s : ByteArray) : Array Value := bytesL (sumByte (sumF s))
theorem digV_size (s : ByteArray) : (digV s).size = 32 := bytesL_size _
theorem digV_one (s : ByteArray) : (digV s).all (·.oneCell') = true := bytesL_one _
theorem eatN_left : ∀ (n : Nat) (t : St) (s : ByteArray), s.size ≤ n → (eatN n t s).2.size < 64
  | 0, t, s, h => by show s.size < 64; omega
  | n + 1, t, s, h => by
    simp only [eatN]
    split
    · exact eatN_left n _ _ (by rw [ByteArray.size_extract]; omega)
    · show s.size < 64; omega
theorem eat_left (t : St) (s : ByteArray) : (eat t s).2.size < 64 := eatN_left _ _ _ (Nat.le_refl _)
theorem empty_cat (s : ByteArray) : (⟨#[]⟩ : ByteArray) ++ s = s := by
  apply ByteArray.ext
  simp
/-- The digest's bytes, as numbers. -/
def digN (s : ByteArray) : List Nat := (List.range 32).map fun j => (sumByte (sumF s) j).toNat
theorem digN_len (s : ByteArray) : (digN s).length = 32 := by simp [digN]
theorem digN_V (s : ByteArray) : digV s = ((digN s).map fun (c : Nat) => Value.int .u8 c).toArray := by
  unfold digV digN bytesL
  rw [List.map_map]
  congr 1
  apply List.map_congr_left
  intro j _
  simp only [Function.comp]
  congr 1
  exact (Int.toNat_of_nonneg (Int.emod_nonneg _ (by decide))).symm
theorem digN_inj {a b : ByteArray} (h : digV a = digV b) : digN a = digN b := by
  rw [digN_V, digN_V] at h
  have h2 := List.toArray_inj h
  exact (List.map_inj_right (fun (x y : Nat) (e : Value.int IntKind.u8 (x : Int) = Value.int IntKind.u8 (y : Int)) => by
    injection e with _ e2
    omega)).1 h2
theorem digN_eq {a b : ByteArray} : digV a = digV b ↔ digN a = digN b := ⟨digN_inj, fun h => by rw [digN_V, digN_V, h]⟩
end Go.Dg
