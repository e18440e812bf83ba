/-
  A record's bytes: the program's reader and the document's come to the same answer, whatever the bytes.
-/
import Derived.Test.YtkhihpmadmmeaaaPScx1
import Derived.Test.YtkhihpmadmmeaaaPScx2
set_option linter.unusedSimpArgs false
set_option linter.unusedVariables false
set_option maxHeartbeats 1000000
namespace Go.Proofs.Ytkhihpmadmmeaaa
open Go.RowKit Go.Proofs.Ytkhihpmadmmeaaa.PSc Go.Proofs.YtkhihpmadmmeaaaW.PrintWords

theorem and127i (b : Int) (h0 : 0 ≤ b) (h1 : b ≤ 255) : Go.bits .and .u8 b 127 = b % 128 := by
  have : ∀ x : Fin 256, Go.bits .and .u8 ((x.1 : Nat) : Int) 127 = ((x.1 : Nat) : Int) % 128 := by decide +kernel
  have := this ⟨b.toNat, by omega⟩
  simpa [Int.toNat_of_nonneg h0] using this
theorem or_low (n x : Nat) (hx : x < 128) (hn : n < 144115188075855872) : Go.bits .or .u64 ((n : Int) * 128) (x : Int) = (n : Int) * 128 + x := by
  have h1 : ((n : Int) * 128) = ((n * 128 : Nat) : Int) := by simp
  rw [h1, bits_or_u64_nat (n * 128) x (by omega) (by omega)]
  have h2 : n * 128 ||| x = n * 128 + x := by
    have := Nat.shiftLeft_add_eq_or_of_lt (i := 7) (b := x) (by simpa using hx) n
    rw [Nat.shiftLeft_eq] at this
    simpa using this.symm
  rw [h2]; simp
theorem wrapU (x : Int) (h0 : 0 ≤ x) (h1 : x < 18446744073709551616) : IntKind.u64.wrap x = x := by rw [IntKind.wrap_u64]; omega

def Big (i n : Nat) : Prop := 1 ≤ i ∧ 128 ^ (i - 1) ≤ n
theorem Big.pos {i n : Nat} (h : Big i n) : 1 ≤ i := h.1
theorem Big.one {x : Nat} (h : 1 ≤ x) : Big 1 (0 * 128 + x) := ⟨Nat.le_refl 1, by simpa using h⟩
theorem Big.step {i n : Nat} (x : Nat) (h : Big i n) : Big (i + 1) (n * 128 + x) := by
  refine ⟨Nat.le_add_left 1 i, ?_⟩
  obtain ⟨h1, h2⟩ := h
  have : 128 ^ (i + 1 - 1) = 128 ^ (i - 1) * 128 := by
    rw [← Nat.pow_succ]; congr 1; omega
  rw [this]
  exact Nat.le_trans (Nat.mul_le_mul_right 128 h2) (Nat.le_add_right _ _)
theorem Big.ten {n : Nat} (h : Big 10 n) : 144115188075855872 ≤ n := Nat.le_trans (by decide) h.2
theorem nine0 {i : Nat} (h : i = 0) : i + 1 ≤ 10 := by omega
theorem c_pos (c : Int) (h0 : ¬ c < 128) (h1 : c ≤ 255) (h2 : c ≠ 128) : 1 ≤ (c % 128).toNat := by omega
theorem Big.nine {i n : Nat} (h : Big i n) (h1 : i ≤ 10) (h2 : ¬ 144115188075855872 ≤ n) : i + 1 ≤ 10 := by
  have h3 : i ≠ 10 := fun e => by rw [e] at h; exact h2 h.ten
  clear h2 h
  omega
theorem one_byte {x : ByteArray} {c : Int} (h : x.size = 1) (hc : bt x 0 = c) : (x.toList == ([128] : List UInt8)) = decide (c = 128) := by
  have h1 : x.data.toList.length = 1 := by rw [Array.length_toList]; exact h
  obtain ⟨u, hu⟩ := List.length_eq_one_iff.1 h1
  have hx : x.toList = [u] := by rw [← hu]; exact ByteArray.toList_eq x
  have hcu : c = (u.toNat : Int) := by
    rw [← hc]
    unfold bt
    have h0 : (0 : Int).toNat < x.size := by rw [h]; decide
    rw [dif_pos h0]
    have h2 : x.data.toList[0]? = some u := by rw [hu]; rfl
    have h3 : x.data[0]? = some u := by rw [← h2]; simp
    obtain ⟨h4, h5⟩ := Array.getElem?_eq_some_iff.1 h3
    exact congrArg (fun z : UInt8 => ((z.toNat : Nat) : Int)) h5
  rw [hx, hcu]
  rw [Bool.eq_iff_iff]
  constructor
  · intro h
    have : u = 128 := by simpa using h
    subst this; rfl
  · intro h
    have h6 : ((u.toNat : Nat) : Int) = 128 := of_decide_eq_true h
    have : u = 128 := UInt8.toNat_inj.1 (by have : u.toNat = 128 := by omega
                                            rw [this]; rfl)
    subst this; rfl
/-- What both readers come to at a number: the value, what is left, the error. -/
theorem num_both (d : Nat) : ∀ (s : ByteArray) (n i : Nat), s.size = d → n < 18446744073709551616 → (i = 0 ∧ n = 0 ∨ Big i n) → i ≤ 10 →
    ∃ (K : Nat) (v : Int) (s' : ByteArray) (e : Int), (∀ k, K ≤ k → wire_Reader_Num.l0 k n i s 0 = some (v, s', e) ∧ hindsightref02_TakeNum.l0 k n i s 0 = some (s', e, v)) ∧
      0 ≤ v ∧ v < 18446744073709551616 ∧ (e = 0 ∨ s' = (⟨#[]⟩ : ByteArray) ∧ v = 0) ∧ s'.size ≤ d := by
  induction d with
  | zero =>
    intro s n i hs hn hi hi10
    have htake : wire_Reader_take.f s 0 1 = some (⟨#[]⟩, ⟨#[]⟩, 1) := by
      simp only [wire_Reader_take.f, wire_Reader_Fail.f]
      rw [if_pos trivial, if_pos (by omega), if_pos trivial]; rfl
    have hTake : hindsightref02_Take.f s 0 1 = some (⟨#[]⟩, 1, ⟨#[]⟩) := by
      simp only [hindsightref02_Take.f]; rw [if_pos trivial, if_pos (by omega)]
    refine ⟨1, 0, ⟨#[]⟩, 1, fun k hk => ?_, by omega, by omega, .inr ⟨rfl, rfl⟩, Nat.le_refl 0⟩
    obtain ⟨k, rfl⟩ : ∃ m, k = m + 1 := ⟨k - 1, by omega⟩
    constructor
    · rw [wire_Reader_Num.l0, htake]; rfl
    · rw [hindsightref02_TakeNum.l0, if_pos (by omega), hTake]; rfl
  | succ d ih =>
    intro s n i hs hn hi hi10
    have hsz : ¬ (1 : Int) > (s.size : Int) := by omega
    have hb := bt_range (s.extract 0 1) 0
    have hes : (s.extract 0 1).size = 1 := by simp [ByteArray.size_extract]; omega
    generalize hx : s.extract 0 (1 : Int).toNat = x at *
    have hx' : s.extract 0 1 = x := hx
    rw [hx'] at hb hes
    generalize ht : s.extract (1 : Int).toNat s.size = t at *
    have hts : t.size = d := by rw [← ht]; simp [ByteArray.size_extract]; omega
    generalize hc : bt x 0 = c at *
    have htake : wire_Reader_take.f s 0 1 = some (x, t, 0) := by
      simp only [wire_Reader_take.f]; rw [if_pos trivial, if_neg hsz, if_pos (by omega), if_pos (by omega), hx, ht]
    have hTake : hindsightref02_Take.f s 0 1 = some (t, 0, x) := by
      simp only [hindsightref02_Take.f]; rw [if_pos trivial, if_neg hsz, if_pos (by omega), if_pos (by omega), hx, ht]
    have hx1 : (0 : Int) < (x.size : Int) := by omega
    have h128 : (x.toList == ([128] : List UInt8)) = decide (c = 128) := one_byte hes hc
    -- the value behind this byte
    by_cases hbig : 144115188075855872 ≤ n
    · -- too great
      refine ⟨3, 0, ⟨#[]⟩, 2, fun k hk => ?_, by omega, by omega, .inr ⟨rfl, rfl⟩, Nat.zero_le _⟩
      obtain ⟨k, rfl⟩ : ∃ m, k = m + 3 := ⟨k - 3, by omega⟩
      have hi0 : ¬ (i : Int) = 0 := by
        rcases hi with ⟨rfl, rfl⟩ | h
        · omega
        · have := h.pos; omega
      have hd1 : decide ((n : Int) / 144115188075855872 > 0) = true := by simp; omega
      have hd2 : decide ((n : Int) ≥ 144115188075855872) = true := by simp; omega
      constructor
      · simp only [wire_Reader_Num.l0, htake, Option.bind_some, if_true, if_neg hi0, wire_Reader_Num.j1, wire_Reader_Num.j2, hd1]
        simp [wire_Reader_Fail.f]
      · simp only [hindsightref02_TakeNum.l0, hTake, Option.bind_some, if_true, if_neg hi0, hindsightref02_TakeNum.j1, hd2]
        rw [if_pos (by omega)]
    · have hd1 : decide ((n : Int) / 144115188075855872 > 0) = false := by simp; omega
      have hd2 : decide ((n : Int) ≥ 144115188075855872) = false := by simp; omega
      have hw1 : IntKind.u64.wrap ((n : Int) * 128) = (n : Int) * 128 := wrapU _ (by omega) (by omega)
      have hm : Int.tmod c 128 = c % 128 := Int.tmod_eq_emod_of_nonneg hb.1
      have hw2 : IntKind.u64.wrap (Go.bits .and .u8 c 127) = c % 128 := by rw [and127i c hb.1 hb.2]; exact wrapU _ (by omega) (by omega)
      have hw3 : IntKind.u64.wrap (Int.tmod c 128) = c % 128 := by rw [hm]; exact wrapU _ (by omega) (by omega)
      have hor : Go.bits .or .u64 ((n : Int) * 128) (c % 128) = (n : Int) * 128 + c % 128 := by
        have := or_low n (c % 128).toNat (by omega) (by omega)
        rwa [Int.toNat_of_nonneg (by omega)] at this
      have hw4 : IntKind.u64.wrap ((n : Int) * 128 + c % 128) = (n : Int) * 128 + c % 128 := wrapU _ (by omega) (by omega)
      by_cases hz : i = 0 ∧ c = 128
      · -- a first byte that says nothing
        obtain ⟨rfl, rfl⟩ := hz
        refine ⟨3, 0, ⟨#[]⟩, 2, fun k hk => ?_, by omega, by omega, .inr ⟨rfl, rfl⟩, Nat.zero_le _⟩
        obtain ⟨k, rfl⟩ : ∃ m, k = m + 3 := ⟨k - 3, by omega⟩
        constructor
        · simp only [wire_Reader_Num.l0, htake, Option.bind_some, if_true, Int.natCast_zero, h128, decide_true, wire_Reader_Num.j1, wire_Reader_Num.j2]
          simp [wire_Reader_Fail.f]
        · simp only [hindsightref02_TakeNum.l0, hTake, Option.bind_some, if_true, Int.natCast_zero, hindsightref02_TakeNum.j1, hc]
          rw [if_pos (by omega), if_pos hx1]
      · have hP : ∀ k, wire_Reader_Num.l0 (k + 3) n i s 0 = if c < 128 then some ((n : Int) * 128 + c % 128, t, 0) else wire_Reader_Num.l0 k ((n : Int) * 128 + c % 128) (wrap64 ((i : Int) + 1)) t 0 := by
          intro k
          by_cases hi0 : i = 0
          · subst hi0
            have hc128 : ¬ c = 128 := fun h => hz ⟨rfl, h⟩
            simp only [wire_Reader_Num.l0, htake, Option.bind_some, if_true, Int.natCast_zero, h128, hc128, decide_false, wire_Reader_Num.j1, wire_Reader_Num.j2, hd1, Bool.false_eq_true, if_false, hx1, hc, hw1, hw2, hor]
          · have hi0' : ¬ (i : Int) = 0 := by omega
            simp only [wire_Reader_Num.l0, htake, Option.bind_some, if_true, if_neg hi0', wire_Reader_Num.j1, wire_Reader_Num.j2, hd1, Bool.false_eq_true, if_false, hx1, hc, hw1, hw2, hor]
        have hR : ∀ k, hindsightref02_TakeNum.l0 (k + 2) n i s 0 = if c < 128 then some (t, 0, (n : Int) * 128 + c % 128) else hindsightref02_TakeNum.l0 k ((n : Int) * 128 + c % 128) (wrap64 ((i : Int) + 1)) t 0 := by
          intro k
          have hi11 : (i : Int) < 11 := by omega
          by_cases hi0 : i = 0
          · subst hi0
            have hc128 : ¬ c = 128 := fun h => hz ⟨rfl, h⟩
            simp only [hindsightref02_TakeNum.l0, hTake, Option.bind_some, if_true, Int.natCast_zero, hindsightref02_TakeNum.j1, hd2, Bool.false_eq_true, if_false, hx1, hc, hc128, hw1, hw3, hw4, show (0 : Int) < 11 by omega]
          · have hi0' : ¬ (i : Int) = 0 := by omega
            simp only [hindsightref02_TakeNum.l0, hTake, Option.bind_some, if_true, if_neg hi0', hindsightref02_TakeNum.j1, hd2, Bool.false_eq_true, if_false, hx1, hc, hw1, hw3, hw4, hi11]
        by_cases hlt : c < 128
        · refine ⟨3, (n : Int) * 128 + c % 128, t, 0, fun k hk => ?_, by omega, by omega, .inl rfl, by omega⟩
          obtain ⟨k, rfl⟩ : ∃ m, k = m + 3 := ⟨k - 3, by omega⟩
          refine ⟨?_, ?_⟩
          · rw [hP, if_pos hlt]
          · rw [show k + 3 = (k + 1) + 2 by omega, hR, if_pos hlt]
        · have hi1 : wrap64 ((i : Int) + 1) = ((i + 1 : Nat) : Int) := by unfold wrap64; omega
          have hn1 : ((n : Int) * 128 + c % 128) = ((n * 128 + (c % 128).toNat : Nat) : Int) := by simp; omega
          have hpow : Big (i + 1) (n * 128 + (c % 128).toNat) := by
            rcases hi with ⟨rfl, rfl⟩ | h
            · have : c ≠ 128 := fun h => hz ⟨rfl, h⟩
              exact Big.one (c_pos c hlt hb.2 this)
            · exact h.step _
          have hi9 : i + 1 ≤ 10 := by
            rcases hi with ⟨h, _⟩ | h
            · exact nine0 h
            · exact h.nine hi10 hbig
          obtain ⟨K, v, s', e, hall, h1, h2, h3, h4⟩ := ih t (n * 128 + (c % 128).toNat) (i + 1) hts (by omega) (.inr hpow) hi9
          refine ⟨K + 3, v, s', e, fun k hk => ?_, h1, h2, h3, by omega⟩
          obtain ⟨k, rfl⟩ : ∃ m, k = m + 3 := ⟨k - 3, by omega⟩
          refine ⟨?_, ?_⟩
          · rw [hP, if_neg hlt, hi1, hn1]; exact (hall k (by omega)).1
          · rw [show k + 3 = (k + 1) + 2 by omega, hR, if_neg hlt, hi1, hn1]; exact (hall (k + 1) (by omega)).2
/-- What stands in a reader: nothing, where there is an error. -/
def Rd (s : ByteArray) (e : Int) : Prop := e = 0 ∨ s = (⟨#[]⟩ : ByteArray)
theorem num_all (s : ByteArray) (e : Int) (hR : Rd s e) : ∃ (K : Nat) (v : Int) (s' : ByteArray) (e' : Int),
    (∀ k, K ≤ k → wire_Reader_Num.f k s e = some (v, s', e') ∧ hindsightref02_TakeNum.f k s e = some (s', e', v)) ∧ 0 ≤ v ∧ v < 18446744073709551616 ∧ (e' = 0 ∨ s' = (⟨#[]⟩ : ByteArray) ∧ v = 0) ∧ s'.size ≤ s.size := by
  by_cases he : e = 0
  · subst he
    obtain ⟨K, v, s', e', h1, h2, h3, h4, h5⟩ := num_both s.size s 0 0 rfl (by omega) (.inl ⟨rfl, rfl⟩) (by omega)
    exact ⟨K, v, s', e', fun k hk => h1 k hk, h2, h3, h4, h5⟩
  · have hs : s = (⟨#[]⟩ : ByteArray) := hR.resolve_left he
    subst hs
    refine ⟨1, 0, ⟨#[]⟩, e, fun k hk => ?_, by omega, by omega, .inr ⟨rfl, rfl⟩, Nat.le_refl _⟩
    obtain ⟨k, rfl⟩ : ∃ m, k = m + 1 := ⟨k - 1, by omega⟩
    have htake : wire_Reader_take.f ⟨#[]⟩ e 1 = some (⟨#[]⟩, ⟨#[]⟩, e) := by simp only [wire_Reader_take.f]; rw [if_neg he]
    have hTake : hindsightref02_Take.f ⟨#[]⟩ e 1 = some (⟨#[]⟩, e, ⟨#[]⟩) := by simp only [hindsightref02_Take.f]; rw [if_neg he]
    constructor
    · unfold wire_Reader_Num.f
      rw [wire_Reader_Num.l0, htake, Option.bind_some, if_neg he]
    · unfold hindsightref02_TakeNum.f
      rw [hindsightref02_TakeNum.l0, if_pos (by omega), hTake, Option.bind_some, if_neg he]

theorem upto_all (s : ByteArray) (e : Int) (m : Int) (hR : Rd s e) (hm : 0 ≤ m) (hm2 : m < 9223372036854775808) : ∃ (K : Nat) (v : Int) (s' : ByteArray) (e' : Int),
    (∀ k, K ≤ k → wire_Reader_Upto.f k s e m = some (v, s', e') ∧ hindsightref02_Upto.f k s e m = some (s', e', v)) ∧ 0 ≤ v ∧ v ≤ m ∧ (e' = 0 ∨ s' = (⟨#[]⟩ : ByteArray) ∧ v = 0) ∧ s'.size ≤ s.size := by
  obtain ⟨K, v, s', e', h1, h2, h3, h4, h5⟩ := num_all s e hR
  have hw : IntKind.u64.wrap (mx m 0) = m := by rw [show mx m 0 = m by unfold mx; omega]; exact wrapU _ hm (by omega)
  by_cases hv : v > m
  · have he : e' = 0 := by
      rcases h4 with h | ⟨_, h⟩
      · exact h
      · omega
    refine ⟨K, 0, ⟨#[]⟩, 3, fun k hk => ?_, by omega, hm, .inr ⟨rfl, rfl⟩, Nat.zero_le _⟩
    obtain ⟨g1, g2⟩ := h1 k hk
    constructor
    · simp only [wire_Reader_Upto.f, g1, Option.bind_some, hw, if_pos hv, wire_Reader_Fail.f, if_pos he]
    · simp only [hindsightref02_Upto.f, g2, Option.bind_some, hw, if_pos hv]
  · have hwv : wrap64 v = v := by unfold wrap64; omega
    refine ⟨K, v, s', e', fun k hk => ?_, h2, by omega, h4, h5⟩
    obtain ⟨g1, g2⟩ := h1 k hk
    constructor
    · simp only [wire_Reader_Upto.f, g1, Option.bind_some, hw, if_neg hv, hwv]
    · simp only [hindsightref02_Upto.f, g2, Option.bind_some, hw, if_neg hv, hwv]

theorem str_all (s : ByteArray) (e : Int) (m : Int) (hR : Rd s e) (hm : 0 ≤ m) (hm2 : m < 9223372036854775808) : ∃ (K : Nat) (x s' : ByteArray) (e' : Int),
    (∀ k, K ≤ k → wire_Reader_Str.f k s e m = some (x, s', e') ∧ hindsightref02_TakeStr.f k s e m = some (s', e', x)) ∧ x.size ≤ m.toNat ∧ Rd s' e' ∧ s'.size ≤ s.size := by
  obtain ⟨K, v, s1, e1, h1, h2, h3, h4, h5⟩ := upto_all s e m hR hm hm2
  by_cases he : e1 = 0
  · subst he
    by_cases hv : v > (s1.size : Int)
    · refine ⟨K, ⟨#[]⟩, ⟨#[]⟩, 1, fun k hk => ?_, Nat.zero_le _, .inr rfl, Nat.zero_le _⟩
      obtain ⟨g1, g2⟩ := h1 k hk
      constructor
      · simp only [wire_Reader_Str.f, g1, Option.bind_some, wire_Reader_take.f, wire_Reader_Fail.f, if_pos hv, if_true]
      · simp only [hindsightref02_TakeStr.f, g2, Option.bind_some, hindsightref02_Take.f, if_pos hv, if_true]
    · refine ⟨K, s1.extract 0 v.toNat, s1.extract v.toNat s1.size, 0, fun k hk => ?_, by simp [ByteArray.size_extract]; omega, .inl rfl, by simp [ByteArray.size_extract]; omega⟩
      obtain ⟨g1, g2⟩ := h1 k hk
      constructor
      · simp only [wire_Reader_Str.f, g1, Option.bind_some, wire_Reader_take.f, if_neg hv, if_true, if_pos h2, if_pos (show v ≤ (s1.size : Int) by omega)]
      · simp only [hindsightref02_TakeStr.f, g2, Option.bind_some, hindsightref02_Take.f, if_neg hv, if_true, if_pos h2, if_pos (show v ≤ (s1.size : Int) by omega)]
  · have hs : s1 = (⟨#[]⟩ : ByteArray) := by
      rcases h4 with h | ⟨h, _⟩
      · exact absurd h he
      · exact h
    subst hs
    refine ⟨K, ⟨#[]⟩, ⟨#[]⟩, e1, fun k hk => ?_, Nat.zero_le _, .inr rfl, Nat.zero_le _⟩
    obtain ⟨g1, g2⟩ := h1 k hk
    constructor
    · simp only [wire_Reader_Str.f, g1, Option.bind_some, wire_Reader_take.f, if_neg he]
    · simp only [hindsightref02_TakeStr.f, g2, Option.bind_some, hindsightref02_Take.f, if_neg he]

theorem end_all (s : ByteArray) (e : Int) (hR : Rd s e) : ∃ (r : Int) (s' : ByteArray) (e' : Int), wire_Reader_End.f s e = some (r, s', e') ∧ hindsightref02_End.f s e = some r := by
  by_cases hs : s.toList = []
  · refine ⟨e, s, e, by simp only [wire_Reader_End.f, if_pos hs], ?_⟩
    simp only [hindsightref02_End.f, if_pos hs]; split <;> rfl
  · have he : e = 0 := by
      rcases hR with h | h
      · exact h
      · subst h; exact absurd (ByteArray.toList_eq _) hs
    subst he
    exact ⟨2, ⟨#[]⟩, 2, by simp [wire_Reader_End.f, if_neg hs, wire_Reader_Fail.f], by simp [hindsightref02_End.f, if_neg hs]⟩

/-- WHATEVER THE BYTES: the program's record, or error, is the document's; its numbers are in their ranges. -/
theorem parse_all (s : ByteArray) : ∃ (k : Nat) (r1 r2 : Int) (r3 : ByteArray) (r4 : Int), proc_Parse.f k s = some (r1, r2, r3, r4) ∧ hindsightref16_Parse.f k s = some (r1, r2, r3, r4) ∧
    0 ≤ r1 ∧ r1 ≤ 63 ∧ 0 ≤ r2 ∧ r2 ≤ 1099511627776 ∧ r3.size ≤ 1024 := by
  obtain ⟨K1, v1, s1, e1, h1, a1, b1, c1, d1⟩ := upto_all s 0 63 (.inl rfl) (by omega) (by omega)
  have R1 : Rd s1 e1 := c1.imp id (fun h => h.1)
  obtain ⟨K2, v2, s2, e2, h2, a2, b2, c2, d2⟩ := upto_all s1 e1 1099511627776 R1 (by omega) (by omega)
  have R2 : Rd s2 e2 := c2.imp id (fun h => h.1)
  obtain ⟨K3, x, s3, e3, h3, a3, R3, d3⟩ := str_all s2 e2 1024 R2 (by omega) (by omega)
  obtain ⟨r, s4, e4, h4, h5⟩ := end_all s3 e3 R3
  let k := K1 + K2 + K3
  obtain ⟨p1, q1⟩ := h1 k (by omega)
  obtain ⟨p2, q2⟩ := h2 k (by omega)
  obtain ⟨p3, q3⟩ := h3 k (by omega)
  by_cases hr : r = 0
  · refine ⟨k, v1, v2, x, 0, ?_, ?_, a1, b1, a2, b2, by simpa using a3⟩
    · simp only [proc_Parse.f, wire_Read.f, Option.bind_some, p1, p2, p3, h4, if_pos hr]
    · simp only [hindsightref16_Parse.f, Option.bind_some, q1, q2, q3, h5, if_pos hr]
  · refine ⟨k, 0, 0, ⟨#[]⟩, r, ?_, ?_, by omega, by omega, by omega, by omega, Nat.zero_le _⟩
    · simp only [proc_Parse.f, wire_Read.f, Option.bind_some, p1, p2, p3, h4, if_neg hr]
    · simp only [hindsightref16_Parse.f, Option.bind_some, q1, q2, q3, h5, if_neg hr]
end Go.Proofs.Ytkhihpmadmmeaaa
