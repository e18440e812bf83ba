/-
  The digest, pure: words, rounds, states.
-/
import Derived.Test.YtnjjbolbemlceaaBase
set_option linter.unusedSimpArgs false
set_option linter.unusedVariables false
namespace Go.Dg
open Go Go.RowKit

abbrev u32 (x : Int) : Int := x % 4294967296
/-- RotateLeft32. -/
def rotl (x : Int) (k : Nat) : Int := Go.bits .or .u32 (u32 (x * 2 ^ k)) (x / 2 ^ (32 - k))
/-- The i-th byte. -/
def byteAt (s : ByteArray) (i : Nat) : Int := ((s.data.toList.getD i 0).toNat : Int)
def word0 (s : ByteArray) (i : Nat) : Nat → Int
  | 0 => 0
  | k + 1 => Go.bits .or .u32 (u32 (word0 s i k * 256)) (byteAt s (4 * i + k))
def firstW (s : ByteArray) : Nat → List Int
  | 0 => []
  | n + 1 => firstW s n ++ [word0 s n 4]
def smallS (p : Int) : Int := Go.bits .xor .u32 (Go.bits .xor .u32 (rotl p 25) (rotl p 14)) (p / 8)
def greatS (q : Int) : Int := Go.bits .xor .u32 (Go.bits .xor .u32 (rotl q 15) (rotl q 13)) (q / 1024)
def nextW (l : List Int) : Int :=
  u32 (u32 (u32 (l.getD (l.length - 16) 0 + smallS (l.getD (l.length - 15) 0)) + l.getD (l.length - 7) 0) + greatS (l.getD (l.length - 2) 0))
def wordsN (s : ByteArray) : Nat → List Int
  | 0 => firstW s 16
  | n + 1 => wordsN s n ++ [nextW (wordsN s n)]
theorem firstW_len (s : ByteArray) : ∀ n, (firstW s n).length = n
  | 0 => rfl
  | n + 1 => by simp [firstW, firstW_len s n]
theorem wordsN_len (s : ByteArray) : ∀ n, (wordsN s n).length = 16 + n
  | 0 => firstW_len s 16
  | n + 1 => by simp [wordsN, wordsN_len s n]; omega
structure St where
  a : Int
  b : Int
  c : Int
  d : Int
  e : Int
  f : Int
  g : Int
  h : Int
def St.val (t : St) : Value := .agg #[.int .u32 t.a, .int .u32 t.b, .int .u32 t.c, .int .u32 t.d, .int .u32 t.e, .int .u32 t.f, .int .u32 t.g, .int .u32 t.h]
theorem byte_eq (s : ByteArray) (i : Nat) (h : i < s.size) : ((s[i]'h).toNat : Int) % 4294967296 = byteAt s i := by
  unfold byteAt
  have h1 : s.data.toList.getD i 0 = s[i]'h := by
    have h2 : i < s.data.toList.length := by simpa using h
    rw [List.getD_eq_getElem?_getD, List.getElem?_eq_getElem h2]
    rfl
  rw [h1]
  have := (s[i]'h).toNat_lt
  omega
def notU (x : Int) : Int := Go.bits .xor .u32 (if IntKind.u32.signed = true then -1 else IntKind.u32.max) x
def chF (t : St) : Int := Go.bits .xor .u32 (Go.bits .and .u32 t.e t.f) (Go.bits .and .u32 (notU t.e) t.g)
def majF (t : St) : Int := Go.bits .xor .u32 (Go.bits .xor .u32 (Go.bits .and .u32 t.a t.b) (Go.bits .and .u32 t.a t.c)) (Go.bits .and .u32 t.b t.c)
def sig1 (e : Int) : Int := Go.bits .xor .u32 (Go.bits .xor .u32 (rotl e 26) (rotl e 21)) (rotl e 7)
def sig0 (a : Int) : Int := Go.bits .xor .u32 (Go.bits .xor .u32 (rotl a 30) (rotl a 19)) (rotl a 10)
def xF (t : St) (k w : Int) : Int := t.h + chF t + k + w + sig1 t.e
def stepR (t : St) (k w : Int) : St := ⟨(xF t k w + (majF t + sig0 t.a)) % 4294967296, t.a, t.b, t.c, (t.d + xF t k w) % 4294967296, t.e, t.f, t.g⟩
def keysL : List Int := [1116352408, 1899447441, 3049323471, 3921009573, 961987163, 1508970993, 2453635748, 2870763221, 3624381080, 310598401, 607225278, 1426881987, 1925078388, 2162078206, 2614888103, 3248222580, 3835390401, 4022224774, 264347078, 604807628, 770255983, 1249150122, 1555081692, 1996064986, 2554220882, 2821834349, 2952996808, 3210313671, 3336571891, 3584528711, 113926993, 338241895, 666307205, 773529912, 1294757372, 1396182291, 1695183700, 1986661051, 2177026350, 2456956037, 2730485921, 2820302411, 3259730800, 3345764771, 3516065817, 3600352804, 4094571909, 275423344, 430227734, 506948616, 659060556, 883997877, 958139571, 1322822218, 1537002063, 1747873779, 1955562222, 2024104815, 2227730452, 2361852424, 2428436474, 2756734187, 3204031479, 3329325298]
def mixTo (t : St) (ws : List Int) : Nat → St
  | 0 => t
  | n + 1 => stepR (mixTo t ws n) (keysL.getD n 0) (ws.getD n 0)
def St.add (s t : St) : St := ⟨(s.a + t.a) % 4294967296, (s.b + t.b) % 4294967296, (s.c + t.c) % 4294967296, (s.d + t.d) % 4294967296, (s.e + t.e) % 4294967296, (s.f + t.f) % 4294967296, (s.g + t.g) % 4294967296, (s.h + t.h) % 4294967296⟩
/-- A state behind the first 64 bytes. -/
def mixF (t : St) (s : ByteArray) : St := t.add (mixTo t (wordsN s 48) 64)
def begin0 : St := ⟨1779033703, 3144134277, 1013904242, 2773480762, 1359893119, 2600822924, 528734635, 1541459225⟩
/-- All whole blocks of bytes, eaten. -/
def eatN : Nat → St → ByteArray → St × ByteArray
  | 0, t, s => (t, s)
  | n + 1, t, s => if 64 ≤ s.size then eatN n (mixF t s) (s.extract 64 s.size) else (t, s)
def eat (t : St) (s : ByteArray) : St × ByteArray := eatN s.size t s
theorem eatN_enough : ∀ (n m : Nat) (t : St) (s : ByteArray), s.size ≤ n → s.size ≤ m → eatN n t s = eatN m t s := by
  intro n
  induction n with
  | zero =>
    intro m t s h1 h2
    cases m with
    | zero => rfl
    | succ m => simp only [eatN]; rw [if_neg (by omega)]
  | succ n ih =>
    intro m t s h1 h2
    cases m with
    | zero => simp only [eatN]; rw [if_neg (by omega)]
    | succ m =>
      simp only [eatN]
      split
      · rename_i h
        exact ih m _ _ (by rw [ByteArray.size_extract]; omega) (by rw [ByteArray.size_extract]; omega)
      · rfl
theorem eat_more {t : St} {s : ByteArray} (h : 64 ≤ s.size) : eat t s = eat (mixF t s) (s.extract 64 s.size) := by
  unfold eat
  obtain ⟨n, hn⟩ : ∃ n, s.size = n + 1 := ⟨s.size - 1, by omega⟩
  rw [hn]
  simp only [eatN]
  rw [if_pos h, ← hn]
  exact eatN_enough _ _ _ _ (by rw [ByteArray.size_extract]; omega) (Nat.le_refl _)
theorem eat_end {t : St} {s : ByteArray} (h : ¬ 64 ≤ s.size) : eat t s = (t, s) := by
  unfold eat
  cases hs : s.size with
  | zero => rfl
  | succ n => simp only [eatN]; rw [if_neg h]
/-- The length's eight bytes, behind. -/
def lenTo (pre : ByteArray) (n : Nat) : Nat → ByteArray
  | 0 => pre
  | j + 1 => lenTo pre n j ++ Go.Hs.strN [n * 8 / 2 ^ (8 * (7 - j)) % 256]
theorem lenTo_size (pre : ByteArray) (n : Nat) : ∀ j, (lenTo pre n j).size = pre.size + j
  | 0 => rfl
  | j + 1 => by
    rw [lenTo, ByteArray.size_append, lenTo_size pre n j]
    show _ + 1 = _
    omega
def padB (left : ByteArray) (n : Nat) : ByteArray := lenTo (left ++ ⟨#[128]⟩ ++ ⟨(List.replicate ((119 - left.size) % 64) 0).toArray⟩) n 8
theorem padB_size {left : ByteArray} (h : left.size < 64) (n : Nat) : (padB left n).size = 64 ∨ (padB left n).size = 128 := by
  unfold padB
  rw [lenTo_size, ByteArray.size_append, ByteArray.size_append]
  have h1 : (⟨#[128]⟩ : ByteArray).size = 1 := rfl
  have h2 : (⟨(List.replicate ((119 - left.size) % 64) 0).toArray⟩ : ByteArray).size = (119 - left.size) % 64 := by
    show (List.replicate ((119 - left.size) % 64) (0 : UInt8)).toArray.size = _
    simp
  rw [h1, h2]
  omega
end Go.Dg
