/-
  Texts of this claim, put together: Parse, Proc, Proc2, Ref3, Proc3, Ref4, Ref5, Ref6.
-/
import Derived.Test.YtkhihpmadmmeaaaPScx1
import Derived.Test.YtkhihpmadmmeaaaPScx2
import Derived.Laws.ResultCell
import Derived.Deep.RegionHeld3
import Derived.Test.YtkhihpmadmmeaaaMPl1
set_option linter.unusedSimpArgs false
set_option linter.unusedVariables false
set_option maxHeartbeats 1000000
namespace Go.Proofs.Ytkhihpmadmmeaaa
open Go.RowKit Go.Proofs.Ytkhihpmadmmeaaa.PSc Go.Proofs.YtkhihpmadmmeaaaW.PrintWords

theorem and127i (b : Int) (h0 : 0 ≤ b) (h1 : b ≤ 255) : Go.bits .and .u8 b 127 = b % 128 := by
  have : ∀ x : Fin 256, Go.bits .and .u8 ((x.1 : Nat) : Int) 127 = ((x.1 : Nat) : Int) % 128 := by decide +kernel
  have := this ⟨b.toNat, by omega⟩
  simpa [Int.toNat_of_nonneg h0] using this
theorem or_low (n x : Nat) (hx : x < 128) (hn : n < 144115188075855872) : Go.bits .or .u64 ((n : Int) * 128) (x : Int) = (n : Int) * 128 + x := by
  have h1 : ((n : Int) * 128) = ((n * 128 : Nat) : Int) := by simp
  rw [h1, bits_or_u64_nat (n * 128) x (by omega) (by omega)]
  have h2 : n * 128 ||| x = n * 128 + x := by
    have := Nat.shiftLeft_add_eq_or_of_lt (i := 7) (b := x) (by simpa using hx) n
    rw [Nat.shiftLeft_eq] at this
    simpa using this.symm
  rw [h2]; simp
theorem wrapU (x : Int) (h0 : 0 ≤ x) (h1 : x < 18446744073709551616) : IntKind.u64.wrap x = x := by rw [IntKind.wrap_u64]; omega

def Big (i n : Nat) : Prop := 1 ≤ i ∧ 128 ^ (i - 1) ≤ n
theorem Big.pos {i n : Nat} (h : Big i n) : 1 ≤ i := h.1
theorem Big.one {x : Nat} (h : 1 ≤ x) : Big 1 (0 * 128 + x) := ⟨Nat.le_refl 1, by simpa using h⟩
theorem Big.step {i n : Nat} (x : Nat) (h : Big i n) : Big (i + 1) (n * 128 + x) := by
  refine ⟨Nat.le_add_left 1 i, ?_⟩
  obtain ⟨h1, h2⟩ := h
  have : 128 ^ (i + 1 - 1) = 128 ^ (i - 1) * 128 := by
    rw [← Nat.pow_succ]; congr 1; omega
  rw [this]
  exact Nat.le_trans (Nat.mul_le_mul_right 128 h2) (Nat.le_add_right _ _)
theorem Big.ten {n : Nat} (h : Big 10 n) : 144115188075855872 ≤ n := Nat.le_trans (by decide) h.2
theorem nine0 {i : Nat} (h : i = 0) : i + 1 ≤ 10 := by omega
theorem c_pos (c : Int) (h0 : ¬ c < 128) (h1 : c ≤ 255) (h2 : c ≠ 128) : 1 ≤ (c % 128).toNat := by omega
theorem Big.nine {i n : Nat} (h : Big i n) (h1 : i ≤ 10) (h2 : ¬ 144115188075855872 ≤ n) : i + 1 ≤ 10 := by
  have h3 : i ≠ 10 := fun e => by rw [e] at h; exact h2 h.ten
  clear h2 h
  omega
theorem one_byte {x : ByteArray} {c : Int} (h : x.size = 1) (hc : bt x 0 = c) : (x.toList == ([128] : List UInt8)) = decide (c = 128) := by
  have h1 : x.data.toList.length = 1 := by rw [Array.length_toList]; exact h
  obtain ⟨u, hu⟩ := List.length_eq_one_iff.1 h1
  have hx : x.toList = [u] := by rw [← hu]; exact ByteArray.toList_eq x
  have hcu : c = (u.toNat : Int) := by
    rw [← hc]
    unfold bt
    have h0 : (0 : Int).toNat < x.size := by rw [h]; decide
    rw [dif_pos h0]
    have h2 : x.data.toList[0]? = some u := by rw [hu]; rfl
    have h3 : x.data[0]? = some u := by rw [← h2]; simp
    obtain ⟨h4, h5⟩ := Array.getElem?_eq_some_iff.1 h3
    exact congrArg (fun z : UInt8 => ((z.toNat : Nat) : Int)) h5
  rw [hx, hcu]
  rw [Bool.eq_iff_iff]
  constructor
  · intro h
    have : u = 128 := by simpa using h
    subst this; rfl
  · intro h
    have h6 : ((u.toNat : Nat) : Int) = 128 := of_decide_eq_true h
    have : u = 128 := UInt8.toNat_inj.1 (by have : u.toNat = 128 := by omega
                                            rw [this]; rfl)
    subst this; rfl
/-- What both readers come to at a number: the value, what is left, the error. -/
theorem num_both (d : Nat) : ∀ (s : ByteArray) (n i : Nat), s.size = d → n < 18446744073709551616 → (i = 0 ∧ n = 0 ∨ Big i n) → i ≤ 10 →
    ∃ (K : Nat) (v : Int) (s' : ByteArray) (e : Int), (∀ k, K ≤ k → wire_Reader_Num.l0 k n i s 0 = some (v, s', e) ∧ hindsightref02_TakeNum.l0 k n i s 0 = some (s', e, v)) ∧
      0 ≤ v ∧ v < 18446744073709551616 ∧ (e = 0 ∨ s' = (⟨#[]⟩ : ByteArray) ∧ v = 0) ∧ s'.size ≤ d := by
  induction d with
  | zero =>
    intro s n i hs hn hi hi10
    have htake : wire_Reader_take.f s 0 1 = some (⟨#[]⟩, ⟨#[]⟩, 1) := by
      simp only [wire_Reader_take.f, wire_Reader_Fail.f]
      rw [if_pos trivial, if_pos (by omega), if_pos trivial]; rfl
    have hTake : hindsightref02_Take.f s 0 1 = some (⟨#[]⟩, 1, ⟨#[]⟩) := by
      simp only [hindsightref02_Take.f]; rw [if_pos trivial, if_pos (by omega)]
    refine ⟨1, 0, ⟨#[]⟩, 1, fun k hk => ?_, by omega, by omega, .inr ⟨rfl, rfl⟩, Nat.le_refl 0⟩
    obtain ⟨k, rfl⟩ : ∃ m, k = m + 1 := ⟨k - 1, by omega⟩
    constructor
    · rw [wire_Reader_Num.l0, htake]; rfl
    · rw [hindsightref02_TakeNum.l0, if_pos (by omega), hTake]; rfl
  | succ d ih =>
    intro s n i hs hn hi hi10
    have hsz : ¬ (1 : Int) > (s.size : Int) := by omega
    have hb := bt_range (s.extract 0 1) 0
    have hes : (s.extract 0 1).size = 1 := by simp [ByteArray.size_extract]; omega
    generalize hx : s.extract 0 (1 : Int).toNat = x at *
    have hx' : s.extract 0 1 = x := hx
    rw [hx'] at hb hes
    generalize ht : s.extract (1 : Int).toNat s.size = t at *
    have hts : t.size = d := by rw [← ht]; simp [ByteArray.size_extract]; omega
    generalize hc : bt x 0 = c at *
    have htake : wire_Reader_take.f s 0 1 = some (x, t, 0) := by
      simp only [wire_Reader_take.f]; rw [if_pos trivial, if_neg hsz, if_pos (by omega), if_pos (by omega), hx, ht]
    have hTake : hindsightref02_Take.f s 0 1 = some (t, 0, x) := by
      simp only [hindsightref02_Take.f]; rw [if_pos trivial, if_neg hsz, if_pos (by omega), if_pos (by omega), hx, ht]
    have hx1 : (0 : Int) < (x.size : Int) := by omega
    have h128 : (x.toList == ([128] : List UInt8)) = decide (c = 128) := one_byte hes hc
    -- the value behind this byte
    by_cases hbig : 144115188075855872 ≤ n
    · -- too great
      refine ⟨3, 0, ⟨#[]⟩, 2, fun k hk => ?_, by omega, by omega, .inr ⟨rfl, rfl⟩, Nat.zero_le _⟩
      obtain ⟨k, rfl⟩ : ∃ m, k = m + 3 := ⟨k - 3, by omega⟩
      have hi0 : ¬ (i : Int) = 0 := by
        rcases hi with ⟨rfl, rfl⟩ | h
        · omega
        · have := h.pos; omega
      have hd1 : decide ((n : Int) / 144115188075855872 > 0) = true := by simp; omega
      have hd2 : decide ((n : Int) ≥ 144115188075855872) = true := by simp; omega
      constructor
      · simp only [wire_Reader_Num.l0, htake, Option.bind_some, if_true, if_neg hi0, wire_Reader_Num.j1, wire_Reader_Num.j2, hd1]
        simp [wire_Reader_Fail.f]
      · simp only [hindsightref02_TakeNum.l0, hTake, Option.bind_some, if_true, if_neg hi0, hindsightref02_TakeNum.j1, hd2]
        rw [if_pos (by omega)]
    · have hd1 : decide ((n : Int) / 144115188075855872 > 0) = false := by simp; omega
      have hd2 : decide ((n : Int) ≥ 144115188075855872) = false := by simp; omega
      have hw1 : IntKind.u64.wrap ((n : Int) * 128) = (n : Int) * 128 := wrapU _ (by omega) (by omega)
      have hm : Int.tmod c 128 = c % 128 := Int.tmod_eq_emod_of_nonneg hb.1
      have hw2 : IntKind.u64.wrap (Go.bits .and .u8 c 127) = c % 128 := by rw [and127i c hb.1 hb.2]; exact wrapU _ (by omega) (by omega)
      have hw3 : IntKind.u64.wrap (Int.tmod c 128) = c % 128 := by rw [hm]; exact wrapU _ (by omega) (by omega)
      have hor : Go.bits .or .u64 ((n : Int) * 128) (c % 128) = (n : Int) * 128 + c % 128 := by
        have := or_low n (c % 128).toNat (by omega) (by omega)
        rwa [Int.toNat_of_nonneg (by omega)] at this
      have hw4 : IntKind.u64.wrap ((n : Int) * 128 + c % 128) = (n : Int) * 128 + c % 128 := wrapU _ (by omega) (by omega)
      by_cases hz : i = 0 ∧ c = 128
      · -- a first byte that says nothing
        obtain ⟨rfl, rfl⟩ := hz
        refine ⟨3, 0, ⟨#[]⟩, 2, fun k hk => ?_, by omega, by omega, .inr ⟨rfl, rfl⟩, Nat.zero_le _⟩
        obtain ⟨k, rfl⟩ : ∃ m, k = m + 3 := ⟨k - 3, by omega⟩
        constructor
        · simp only [wire_Reader_Num.l0, htake, Option.bind_some, if_true, Int.natCast_zero, h128, decide_true, wire_Reader_Num.j1, wire_Reader_Num.j2]
          simp [wire_Reader_Fail.f]
        · simp only [hindsightref02_TakeNum.l0, hTake, Option.bind_some, if_true, Int.natCast_zero, hindsightref02_TakeNum.j1, hc]
          rw [if_pos (by omega), if_pos hx1]
      · have hP : ∀ k, wire_Reader_Num.l0 (k + 3) n i s 0 = if c < 128 then some ((n : Int) * 128 + c % 128, t, 0) else wire_Reader_Num.l0 k ((n : Int) * 128 + c % 128) (wrap64 ((i : Int) + 1)) t 0 := by
          intro k
          by_cases hi0 : i = 0
          · subst hi0
            have hc128 : ¬ c = 128 := fun h => hz ⟨rfl, h⟩
            simp only [wire_Reader_Num.l0, htake, Option.bind_some, if_true, Int.natCast_zero, h128, hc128, decide_false, wire_Reader_Num.j1, wire_Reader_Num.j2, hd1, Bool.false_eq_true, if_false, hx1, hc, hw1, hw2, hor]
          · have hi0' : ¬ (i : Int) = 0 := by omega
            simp only [wire_Reader_Num.l0, htake, Option.bind_some, if_true, if_neg hi0', wire_Reader_Num.j1, wire_Reader_Num.j2, hd1, Bool.false_eq_true, if_false, hx1, hc, hw1, hw2, hor]
        have hR : ∀ k, hindsightref02_TakeNum.l0 (k + 2) n i s 0 = if c < 128 then some (t, 0, (n : Int) * 128 + c % 128) else hindsightref02_TakeNum.l0 k ((n : Int) * 128 + c % 128) (wrap64 ((i : Int) + 1)) t 0 := by
          intro k
          have hi11 : (i : Int) < 11 := by omega
          by_cases hi0 : i = 0
          · subst hi0
            have hc128 : ¬ c = 128 := fun h => hz ⟨rfl, h⟩
            simp only [hindsightref02_TakeNum.l0, hTake, Option.bind_some, if_true, Int.natCast_zero, hindsightref02_TakeNum.j1, hd2, Bool.false_eq_true, if_false, hx1, hc, hc128, hw1, hw3, hw4, show (0 : Int) < 11 by omega]
          · have hi0' : ¬ (i : Int) = 0 := by omega
            simp only [hindsightref02_TakeNum.l0, hTake, Option.bind_some, if_true, if_neg hi0', hindsightref02_TakeNum.j1, hd2, Bool.false_eq_true, if_false, hx1, hc, hw1, hw3, hw4, hi11]
        by_cases hlt : c < 128
        · refine ⟨3, (n : Int) * 128 + c % 128, t, 0, fun k hk => ?_, by omega, by omega, .inl rfl, by omega⟩
          obtain ⟨k, rfl⟩ : ∃ m, k = m + 3 := ⟨k - 3, by omega⟩
          refine ⟨?_, ?_⟩
          · rw [hP, if_pos hlt]
          · rw [show k + 3 = (k + 1) + 2 by omega, hR, if_pos hlt]
        · have hi1 : wrap64 ((i : Int) + 1) = ((i + 1 : Nat) : Int) := by unfold wrap64; omega
          have hn1 : ((n : Int) * 128 + c % 128) = ((n * 128 + (c % 128).toNat : Nat) : Int) := by simp; omega
          have hpow : Big (i + 1) (n * 128 + (c % 128).toNat) := by
            rcases hi with ⟨rfl, rfl⟩ | h
            · have : c ≠ 128 := fun h => hz ⟨rfl, h⟩
              exact Big.one (c_pos c hlt hb.2 this)
            · exact h.step _
          have hi9 : i + 1 ≤ 10 := by
            rcases hi with ⟨h, _⟩ | h
            · exact nine0 h
            · exact h.nine hi10 hbig
          obtain ⟨K, v, s', e, hall, h1, h2, h3, h4⟩ := ih t (n * 128 + (c % 128).toNat) (i + 1) hts (by omega) (.inr hpow) hi9
          refine ⟨K + 3, v, s', e, fun k hk => ?_, h1, h2, h3, by omega⟩
          obtain ⟨k, rfl⟩ : ∃ m, k = m + 3 := ⟨k - 3, by omega⟩
          refine ⟨?_, ?_⟩
          · rw [hP, if_neg hlt, hi1, hn1]; exact (hall k (by omega)).1
          · rw [show k + 3 = (k + 1) + 2 by omega, hR, if_neg hlt, hi1, hn1]; exact (hall (k + 1) (by omega)).2
/-- What stands in a reader: nothing, where there is an error. -/
def Rd (s : ByteArray) (e : Int) : Prop := e = 0 ∨ s = (⟨#[]⟩ : ByteArray)
theorem num_all (s : ByteArray) (e : Int) (hR : Rd s e) : ∃ (K : Nat) (v : Int) (s' : ByteArray) (e' : Int),
    (∀ k, K ≤ k → wire_Reader_Num.f k s e = some (v, s', e') ∧ hindsightref02_TakeNum.f k s e = some (s', e', v)) ∧ 0 ≤ v ∧ v < 18446744073709551616 ∧ (e' = 0 ∨ s' = (⟨#[]⟩ : ByteArray) ∧ v = 0) ∧ s'.size ≤ s.size := by
  by_cases he : e = 0
  · subst he
    obtain ⟨K, v, s', e', h1, h2, h3, h4, h5⟩ := num_both s.size s 0 0 rfl (by omega) (.inl ⟨rfl, rfl⟩) (by omega)
    exact ⟨K, v, s', e', fun k hk => h1 k hk, h2, h3, h4, h5⟩
  · have hs : s = (⟨#[]⟩ : ByteArray) := hR.resolve_left he
    subst hs
    refine ⟨1, 0, ⟨#[]⟩, e, fun k hk => ?_, by omega, by omega, .inr ⟨rfl, rfl⟩, Nat.le_refl _⟩
    obtain ⟨k, rfl⟩ : ∃ m, k = m + 1 := ⟨k - 1, by omega⟩
    have htake : wire_Reader_take.f ⟨#[]⟩ e 1 = some (⟨#[]⟩, ⟨#[]⟩, e) := by simp only [wire_Reader_take.f]; rw [if_neg he]
    have hTake : hindsightref02_Take.f ⟨#[]⟩ e 1 = some (⟨#[]⟩, e, ⟨#[]⟩) := by simp only [hindsightref02_Take.f]; rw [if_neg he]
    constructor
    · unfold wire_Reader_Num.f
      rw [wire_Reader_Num.l0, htake, Option.bind_some, if_neg he]
    · unfold hindsightref02_TakeNum.f
      rw [hindsightref02_TakeNum.l0, if_pos (by omega), hTake, Option.bind_some, if_neg he]

theorem upto_all (s : ByteArray) (e : Int) (m : Int) (hR : Rd s e) (hm : 0 ≤ m) (hm2 : m < 9223372036854775808) : ∃ (K : Nat) (v : Int) (s' : ByteArray) (e' : Int),
    (∀ k, K ≤ k → wire_Reader_Upto.f k s e m = some (v, s', e') ∧ hindsightref02_Upto.f k s e m = some (s', e', v)) ∧ 0 ≤ v ∧ v ≤ m ∧ (e' = 0 ∨ s' = (⟨#[]⟩ : ByteArray) ∧ v = 0) ∧ s'.size ≤ s.size := by
  obtain ⟨K, v, s', e', h1, h2, h3, h4, h5⟩ := num_all s e hR
  have hw : IntKind.u64.wrap (mx m 0) = m := by rw [show mx m 0 = m by unfold mx; omega]; exact wrapU _ hm (by omega)
  by_cases hv : v > m
  · have he : e' = 0 := by
      rcases h4 with h | ⟨_, h⟩
      · exact h
      · omega
    refine ⟨K, 0, ⟨#[]⟩, 3, fun k hk => ?_, by omega, hm, .inr ⟨rfl, rfl⟩, Nat.zero_le _⟩
    obtain ⟨g1, g2⟩ := h1 k hk
    constructor
    · simp only [wire_Reader_Upto.f, g1, Option.bind_some, hw, if_pos hv, wire_Reader_Fail.f, if_pos he]
    · simp only [hindsightref02_Upto.f, g2, Option.bind_some, hw, if_pos hv]
  · have hwv : wrap64 v = v := by unfold wrap64; omega
    refine ⟨K, v, s', e', fun k hk => ?_, h2, by omega, h4, h5⟩
    obtain ⟨g1, g2⟩ := h1 k hk
    constructor
    · simp only [wire_Reader_Upto.f, g1, Option.bind_some, hw, if_neg hv, hwv]
    · simp only [hindsightref02_Upto.f, g2, Option.bind_some, hw, if_neg hv, hwv]

theorem str_all (s : ByteArray) (e : Int) (m : Int) (hR : Rd s e) (hm : 0 ≤ m) (hm2 : m < 9223372036854775808) : ∃ (K : Nat) (x s' : ByteArray) (e' : Int),
    (∀ k, K ≤ k → wire_Reader_Str.f k s e m = some (x, s', e') ∧ hindsightref02_TakeStr.f k s e m = some (s', e', x)) ∧ x.size ≤ m.toNat ∧ Rd s' e' ∧ s'.size ≤ s.size := by
  obtain ⟨K, v, s1, e1, h1, h2, h3, h4, h5⟩ := upto_all s e m hR hm hm2
  by_cases he : e1 = 0
  · subst he
    by_cases hv : v > (s1.size : Int)
    · refine ⟨K, ⟨#[]⟩, ⟨#[]⟩, 1, fun k hk => ?_, Nat.zero_le _, .inr rfl, Nat.zero_le _⟩
      obtain ⟨g1, g2⟩ := h1 k hk
      constructor
      · simp only [wire_Reader_Str.f, g1, Option.bind_some, wire_Reader_take.f, wire_Reader_Fail.f, if_pos hv, if_true]
      · simp only [hindsightref02_TakeStr.f, g2, Option.bind_some, hindsightref02_Take.f, if_pos hv, if_true]
    · refine ⟨K, s1.extract 0 v.toNat, s1.extract v.toNat s1.size, 0, fun k hk => ?_, by simp [ByteArray.size_extract]; omega, .inl rfl, by simp [ByteArray.size_extract]; omega⟩
      obtain ⟨g1, g2⟩ := h1 k hk
      constructor
      · simp only [wire_Reader_Str.f, g1, Option.bind_some, wire_Reader_take.f, if_neg hv, if_true, if_pos h2, if_pos (show v ≤ (s1.size : Int) by omega)]
      · simp only [hindsightref02_TakeStr.f, g2, Option.bind_some, hindsightref02_Take.f, if_neg hv, if_true, if_pos h2, if_pos (show v ≤ (s1.size : Int) by omega)]
  · have hs : s1 = (⟨#[]⟩ : ByteArray) := by
      rcases h4 with h | ⟨h, _⟩
      · exact absurd h he
      · exact h
    subst hs
    refine ⟨K, ⟨#[]⟩, ⟨#[]⟩, e1, fun k hk => ?_, Nat.zero_le _, .inr rfl, Nat.zero_le _⟩
    obtain ⟨g1, g2⟩ := h1 k hk
    constructor
    · simp only [wire_Reader_Str.f, g1, Option.bind_some, wire_Reader_take.f, if_neg he]
    · simp only [hindsightref02_TakeStr.f, g2, Option.bind_some, hindsightref02_Take.f, if_neg he]

theorem end_all (s : ByteArray) (e : Int) (hR : Rd s e) : ∃ (r : Int) (s' : ByteArray) (e' : Int), wire_Reader_End.f s e = some (r, s', e') ∧ hindsightref02_End.f s e = some r := by
  by_cases hs : s.toList = []
  · refine ⟨e, s, e, by simp only [wire_Reader_End.f, if_pos hs], ?_⟩
    simp only [hindsightref02_End.f, if_pos hs]; split <;> rfl
  · have he : e = 0 := by
      rcases hR with h | h
      · exact h
      · subst h; exact absurd (ByteArray.toList_eq _) hs
    subst he
    exact ⟨2, ⟨#[]⟩, 2, by simp [wire_Reader_End.f, if_neg hs, wire_Reader_Fail.f], by simp [hindsightref02_End.f, if_neg hs]⟩

/-- WHATEVER THE BYTES: the program's record, or error, is the document's; its numbers are in their ranges. -/
theorem parse_all (s : ByteArray) : ∃ (k : Nat) (r1 r2 : Int) (r3 : ByteArray) (r4 : Int), proc_Parse.f k s = some (r1, r2, r3, r4) ∧ hindsightref16_Parse.f k s = some (r1, r2, r3, r4) ∧
    0 ≤ r1 ∧ r1 ≤ 63 ∧ 0 ≤ r2 ∧ r2 ≤ 1099511627776 ∧ r3.size ≤ 1024 := by
  obtain ⟨K1, v1, s1, e1, h1, a1, b1, c1, d1⟩ := upto_all s 0 63 (.inl rfl) (by omega) (by omega)
  have R1 : Rd s1 e1 := c1.imp id (fun h => h.1)
  obtain ⟨K2, v2, s2, e2, h2, a2, b2, c2, d2⟩ := upto_all s1 e1 1099511627776 R1 (by omega) (by omega)
  have R2 : Rd s2 e2 := c2.imp id (fun h => h.1)
  obtain ⟨K3, x, s3, e3, h3, a3, R3, d3⟩ := str_all s2 e2 1024 R2 (by omega) (by omega)
  obtain ⟨r, s4, e4, h4, h5⟩ := end_all s3 e3 R3
  let k := K1 + K2 + K3
  obtain ⟨p1, q1⟩ := h1 k (by omega)
  obtain ⟨p2, q2⟩ := h2 k (by omega)
  obtain ⟨p3, q3⟩ := h3 k (by omega)
  by_cases hr : r = 0
  · refine ⟨k, v1, v2, x, 0, ?_, ?_, a1, b1, a2, b2, by simpa using a3⟩
    · simp only [proc_Parse.f, wire_Read.f, Option.bind_some, p1, p2, p3, h4, if_pos hr]
    · simp only [hindsightref16_Parse.f, Option.bind_some, q1, q2, q3, h5, if_pos hr]
  · refine ⟨k, 0, 0, ⟨#[]⟩, r, ?_, ?_, by omega, by omega, by omega, by omega, Nat.zero_le _⟩
    · simp only [proc_Parse.f, wire_Read.f, Option.bind_some, p1, p2, p3, h4, if_neg hr]
    · simp only [hindsightref16_Parse.f, Option.bind_some, q1, q2, q3, h5, if_neg hr]
end Go.Proofs.Ytkhihpmadmmeaaa
set_option linter.unusedSimpArgs false
set_option linter.unusedVariables false
set_option maxHeartbeats 1000000
set_option maxRecDepth 100000
namespace Go.Proofs.Ytkhihpmadmmeaaa
open Go.RowKit Go.Hs

theorem check_any (p s : Int) (w : World) : Calls Try.prog 10 #[.agg #[.int .i64 p, .int .i64 s]] w fun e w' =>
    e = .returned (.int .i64 (if p < 1 ∨ p > 64 ∨ s < 0 ∨ s > 256 then 4 else 0)) ∧ Ext [] w w' := by
  by_cases h1 : p < 1
  · have d1 : decide (p < 1) = true := by simpa using h1
    go_enter Try.func10, Try.ntmps10
    go_wp2
    go_ret
    exact ⟨by simp [h1], (Ext.refl _ _).alloc _⟩
  · have d1 : decide (p < 1) = false := by simpa using h1
    by_cases h2 : p > 64
    · have d2 : decide (64 < p) = true := by simpa using h2
      go_enter Try.func10, Try.ntmps10
      go_wp2
      go_ret
      exact ⟨by simp [h1, h2], (Ext.refl _ _).alloc _⟩
    · have d2 : decide (64 < p) = false := by simpa using h2
      by_cases h3 : s < 0
      · have d3 : decide (s < 0) = true := by simpa using h3
        go_enter Try.func10, Try.ntmps10
        go_wp2
        go_ret
        exact ⟨by simp [h1, h2, h3], (Ext.refl _ _).alloc _⟩
      · have d3 : decide (s < 0) = false := by simpa using h3
        by_cases h4 : s > 256
        · have d4 : decide (256 < s) = true := by simpa using h4
          go_enter Try.func10, Try.ntmps10
          go_wp2
          go_ret
          exact ⟨by simp [h1, h2, h3, h4], (Ext.refl _ _).alloc _⟩
        · have d4 : decide (256 < s) = false := by simpa using h4
          go_enter Try.func10, Try.ntmps10
          go_wp2
          go_ret
          exact ⟨by simp [h1, h2, h3, h4], (Ext.refl _ _).alloc _⟩
theorem wish_any (p s k : Int) (w : World) : Calls Try.prog 11 #[.agg #[.int .i64 p, .int .i64 s], .int .i64 k] w fun e w' => e = .returned (.int .i64 k) ∧ Ext [] w w' := by
  go_enter Try.func11, Try.ntmps11
  go_wp2
  go_ret
  first | exact ⟨rfl, Ext.refl _ _⟩ | exact ⟨rfl, (Ext.refl _ _).alloc _⟩
theorem slot_any (p s k : Int) (w : World) (h : 0 ≤ p) (h' : p ≤ 100000) (h1 : 0 ≤ k) (h2 : k ≤ 100000) :
    Calls Try.prog 12 #[.agg #[.int .i64 p, .int .i64 s], .int .i64 k] w fun e w' => e = .returned (.int .i64 (p + k)) ∧ Ext [] w w' := by
  go_enter Try.func12, Try.ntmps12
  go_wp2
  go_ret
  exact ⟨rfl, (Ext.refl _ _).alloc _⟩
theorem cells_any (p s : Int) (w : World) (h : 0 ≤ p) (h' : p ≤ 100000) (h1 : 0 ≤ s) (h2 : s ≤ 100000) :
    Calls Try.prog 13 #[.agg #[.int .i64 p, .int .i64 s]] w fun e w' => e = .returned (.int .i64 (p + s)) ∧ Ext [] w w' := by
  go_enter Try.func13, Try.ntmps13
  go_wp2
  go_ret
  exact ⟨rfl, (Ext.refl _ _).alloc _⟩
theorem bound_any (p s : Int) (w : World) (h1 : 0 ≤ s) (h2 : s ≤ 100000) :
    Calls Try.prog 14 #[.agg #[.int .i64 p, .int .i64 s]] w fun e w' => e = .returned (.int .i64 (2 + 3 * s)) ∧ Ext [] w w' := by
  go_enter Try.func14, Try.ntmps14
  go_wp2
  go_ret
  exact ⟨rfl, (Ext.refl _ _).alloc _⟩

/-- A process's own: what it is for, where it is, what it has seen. -/
structure PSt where
  P : Nat
  S : Nat
  who : Nat
  phase : Int
  at_ : Nat
  seen : List (Int × Int)
  seq : Nat
  mwho : Nat
  body : ByteArray
  offer : ByteArray
def PSt.cells (x : PSt) (m : Nat) : Array Value :=
  #[.int .i64 x.P, .int .i64 x.S, .int .i64 x.who, .int .i64 x.phase, .int .i64 x.at_, .map (some m), .int .i64 x.mwho, .int .i64 x.seq, .string x.body, .string x.offer]
structure IsProc (h : Array Obj) (b m : Nat) (x : PSt) : Prop where
  hb : h[b]? = some (.cells (x.cells m) 75 (0, 0))
  hm : MapAt (Value.int .i64) (Value.int .i64) h m x.seen
theorem IsProc.same {h h' : Array Obj} {b m : Nat} {x : PSt} (i : IsProc h b m x) (e1 : h'[b]? = h[b]?) (e2 : h'[m]? = h[m]?) : IsProc h' b m x := ⟨e1.trans i.hb, i.hm.same e2⟩
theorem IsProc.ext {F : List Nat} {w w' : World} {b m : Nat} {x : PSt} (i : IsProc w.heap b m x) (h : Ext F w w') (h1 : b ∉ F) (h2 : m ∉ F) : IsProc w'.heap b m x := ⟨h.same i.hb h1, i.hm.ext h h2⟩

theorem idle_any (b m : Nat) (x : PSt) (w : World) (hI : IsProc w.heap b m x) :
    Calls Try.prog 23 #[.pointer (some ⟨b, 0, none⟩)] w fun e w' => e = .returned (.bool (x.phase == 0)) ∧ w' = w := by
  have c3 := cellAt hI.hb 3
  simp [PSt.cells] at c3
  go_enter Try.func23, Try.ntmps23
  go_wp2
  go_ret
  exact ⟨rfl, rfl⟩
theorem at_any (b m : Nat) (x : PSt) (w : World) (hI : IsProc w.heap b m x) :
    Calls Try.prog 45 #[.pointer (some ⟨b, 0, none⟩)] w fun e w' => e = .returned (.int .i64 x.at_) ∧ w' = w := by
  have c4 := cellAt hI.hb 4
  simp [PSt.cells] at c4
  go_enter Try.func45, Try.ntmps45
  go_wp2
  go_ret
  exact ⟨rfl, rfl⟩
theorem seq_any (b m : Nat) (x : PSt) (w : World) (hI : IsProc w.heap b m x) :
    Calls Try.prog 18 #[.pointer (some ⟨b, 0, none⟩)] w fun e w' => e = .returned (.int .i64 x.seq) ∧ w' = w := by
  have c7 := cellAt hI.hb 7
  simp [PSt.cells] at c7
  go_enter Try.func18, Try.ntmps18
  go_wp2
  go_ret
  exact ⟨rfl, rfl⟩
theorem full_any (b m : Nat) (x : PSt) (w : World) (hI : IsProc w.heap b m x) :
    Calls Try.prog 39 #[.pointer (some ⟨b, 0, none⟩)] w fun e w' => e = .returned (.bool (decide (x.S ≤ x.at_))) ∧ ∃ n, w' = w.drewN n := by
  have c4 := cellAt hI.hb 4
  have c1 := cellAt hI.hb 1
  simp [PSt.cells] at c4 c1
  go_enter Try.func39, Try.ntmps39
  go_wp2
  go_quiet (fail)
  go_wp2
  go_ret
  exact ⟨by simp, _, rfl⟩
def PSt.doHead (x : PSt) : Int × PSt := if x.phase = 0 then (0, { x with phase := 5 }) else (20, x)
theorem head_any (b m : Nat) (x : PSt) (w : World) (hI : IsProc w.heap b m x) :
    Calls Try.prog 26 #[.pointer (some ⟨b, 0, none⟩)] w fun e w' =>
      e = .returned (.int .i64 x.doHead.1) ∧ IsProc w'.heap b m x.doHead.2 ∧ Ext [b] w w' := by
  have c3 := cellAt hI.hb 3
  have f3 := freeAt hI.hb 3
  simp [PSt.cells] at c3
  by_cases hp : x.phase = 0
  · have hpb : (x.phase == 0) = true := by simpa using hp
    have hd : x.doHead = (0, { x with phase := 5 }) := by simp [PSt.doHead, hp]
    have HD := Hs.hid hd; clear hd hp
    go_enter Try.func26, Try.ntmps26
    go_wp2_with (go_at_call 23; refine (idle_any b m x _ hI).mono ?_; rintro e w1 ⟨rfl, rfl⟩)
    go_ret
    refine ⟨by rw [HD.out]; rfl, ?_, (Ext.refl _ _).setCell (.inl (by simp)) _⟩
    rw [HD.out]
    exact ⟨by rw [heap_set hI.hb]; simp [PSt.cells], hI.hm.same (heap_set_ne _ _ _ (hI.hm.ne hI.hb))⟩
  · have hpb : (x.phase == 0) = false := by simpa using hp
    have hd : x.doHead = (20, x) := by simp [PSt.doHead, hp]
    have HD := Hs.hid hd; clear hd hp
    go_enter Try.func26, Try.ntmps26
    go_wp2_with (go_at_call 23; refine (idle_any b m x _ hI).mono ?_; rintro e w1 ⟨rfl, rfl⟩)
    go_ret
    exact ⟨by rw [HD.out]; rfl, by rw [HD.out]; exact hI, Ext.refl _ _⟩

/-- A process begins. -/
def PSt.doBegin (x : PSt) (body : ByteArray) : Int × PSt :=
  if x.phase = 0 then (if body.size ≤ 1024 then (0, { x with phase := 1, mwho := x.who, seq := x.seq + 1, body := body }) else (3, x)) else (20, x)
theorem begin_any (b m : Nat) (x : PSt) (body : ByteArray) (w : World) (hI : IsProc w.heap b m x) (hs : x.seq < 1000000000) :
    Calls Try.prog 22 #[.pointer (some ⟨b, 0, none⟩), .string body] w fun e w' =>
      e = .returned (.int .i64 (x.doBegin body).1) ∧ IsProc w'.heap b m (x.doBegin body).2 ∧ Ext [b] w w' := by
  have hI' := hI.hb
  simp only [PSt.cells] at hI'
  have c2 := cellAt hI' 2
  have c3 := cellAt hI' 3
  have c6 := cellAt hI' 6
  have c7 := cellAt hI' 7
  have c8 := cellAt hI' 8
  have f := freeAt hI'
  simp at c2 c3 c6 c7 c8
  have hsi : (x.seq : Int) < 1000000000 := by omega
  by_cases hp : x.phase = 0
  · have hpb : (x.phase == 0) = true := by simpa using hp
    by_cases hb : body.size ≤ 1024
    · have hbb : decide ((1024 : Int) < (body.size : Int)) = false := by simp; omega
      have hd : x.doBegin body = (0, { x with phase := 1, mwho := x.who, seq := x.seq + 1, body := body }) := by simp [PSt.doBegin, hp, hb]
      have HD := Hs.hid hd; clear hd hp hb
      go_enter Try.func22, Try.ntmps22
      go_wp2_with (go_at_call 23; refine (idle_any b m x _ hI).mono ?_; rintro e w1 ⟨rfl, rfl⟩)
      go_region
      all_goals
        go_wp2_with fail
        go_ret
        refine (fun (hE : Ext [b] w1 _) => ⟨by rw [HD.out]; rfl, ?_, hE⟩) ?_
        · repeat (first | exact Ext.refl _ _ | refine Ext.drew ?_ | refine Ext.set' (List.mem_singleton.2 rfl) ?_ _ _)
        · rw [HD.out]
          refine ⟨?_, hI.hm.ext hE (by simpa using fun e => hI.hm.ne hI.hb e.symm)⟩
          refine Eq.trans (heap_set (heap_set (heap_set (heap_set hI.hb 6 _) 7 _) 8 _) 3 _) ?_
          simp [PSt.cells]
    · have hbb : decide ((1024 : Int) < (body.size : Int)) = true := by simp; omega
      have hd : x.doBegin body = (3, x) := by simp [PSt.doBegin, hp, hb]
      have HD := Hs.hid hd; clear hd hp hb
      go_enter Try.func22, Try.ntmps22
      go_wp2_with (go_at_call 23; refine (idle_any b m x _ hI).mono ?_; rintro e w1 ⟨rfl, rfl⟩)
      go_ret
      exact ⟨by rw [HD.out]; rfl, by rw [HD.out]; exact hI, Ext.refl _ _⟩
  · have hpb : (x.phase == 0) = false := by simpa using hp
    have hd : x.doBegin body = (20, x) := by simp [PSt.doBegin, hp]
    have HD := Hs.hid hd; clear hd hp
    go_enter Try.func22, Try.ntmps22
    go_wp2_with (go_at_call 23; refine (idle_any b m x _ hI).mono ?_; rintro e w1 ⟨rfl, rfl⟩)
    go_ret
    exact ⟨by rw [HD.out]; rfl, by rw [HD.out]; exact hI, Ext.refl _ _⟩
end Go.Proofs.Ytkhihpmadmmeaaa
set_option linter.unusedSimpArgs false
set_option linter.unusedVariables false
set_option maxHeartbeats 1000000
set_option maxRecDepth 100000
namespace Go.Proofs.Ytkhihpmadmmeaaa
open Go.RowKit Go.Hs

open Go.Proofs.Ytkhihpmadmmeaaa.PSc in
theorem parse_some (s : ByteArray) : ∃ r : Int × Int × ByteArray × Int, (∃ k, proc_Parse.f k s = some r ∧ hindsightref16_Parse.f k s = some r) ∧ 0 ≤ r.1 ∧ r.1 ≤ 63 ∧ 0 ≤ r.2.1 ∧ r.2.1 ≤ 1099511627776 ∧ r.2.2.1.size ≤ 1024 := by
  obtain ⟨k, r1, r2, r3, r4, h1, h2, h3, h4, h5, h6, h7⟩ := parse_all s
  exact ⟨(r1, r2, r3, r4), ⟨k, h1, h2⟩, h3, h4, h5, h6, h7⟩
/-- What a text says as a record: its process, its number, its body, the error. -/
noncomputable def parseR (s : ByteArray) : Int × Int × ByteArray × Int := Classical.choose (parse_some s)
theorem parse_any (s : ByteArray) (r1 r2 r4 : Int) (r3 : ByteArray) (h : parseR s = (r1, r2, r3, r4)) (w : World) :
    Calls Try.prog 42 #[.string s] w fun e w' => e = .returned (.tuple #[.agg #[.int .i64 r1, .int .i64 r2, .string r3], .int .i64 r4]) ∧ Ext [] w w' := by
  obtain ⟨⟨k, hk, _⟩, _⟩ := Classical.choose_spec (parse_some s)
  have hk' : PSc.proc_Parse.f k s = some (r1, r2, r3, r4) := by rw [← h]; exact hk
  exact (PSc.proc_Parse.calls k s r1 r2 r3 r4 w hk').mono fun e w' ⟨h1, h2⟩ => ⟨h1, Ext.ofBelow h2⟩
theorem refParse_any (s : ByteArray) (r1 r2 r4 : Int) (r3 : ByteArray) (h : parseR s = (r1, r2, r3, r4)) (w : World) :
    Calls Try.prog 57 #[.string s] w fun e w' => e = .returned (.tuple #[.agg #[.int .i64 r1, .int .i64 r2, .string r3], .int .i64 r4]) ∧ Ext [] w w' := by
  obtain ⟨⟨k, _, hk⟩, _⟩ := Classical.choose_spec (parse_some s)
  have hk' : PSc.hindsightref16_Parse.f k s = some (r1, r2, r3, r4) := by rw [← h]; exact hk
  exact (PSc.hindsightref16_Parse.calls k s r1 r2 r3 r4 w hk').mono fun e w' ⟨h1, h2⟩ => ⟨h1, Ext.ofBelow h2⟩
theorem parseR_range (s : ByteArray) : 0 ≤ (parseR s).1 ∧ (parseR s).1 ≤ 63 ∧ 0 ≤ (parseR s).2.1 ∧ (parseR s).2.1 ≤ 1099511627776 := by
  obtain ⟨_, h1, h2, h3, h4, _⟩ := Classical.choose_spec (parse_some s)
  exact ⟨h1, h2, h3, h4⟩

def PSt.ph (x : PSt) (k : Int) : PSt := { x with phase := k }
theorem IsProc.phase {w : World} {b m : Nat} {x : PSt} (hI : IsProc w.heap b m x) (k : Int) : IsProc (w.setCell ⟨b, 3, none⟩ (.int .i64 k)).heap b m (x.ph k) :=
  ⟨by rw [heap_set hI.hb]; simp [PSt.cells, PSt.ph], hI.hm.same (heap_set_ne _ _ _ (hI.hm.ne hI.hb))⟩
theorem IsProc.alloc {w : World} {b m : Nat} {x : PSt} (hI : IsProc w.heap b m x) (o : Obj) : IsProc (w.alloc o).heap b m x := ⟨heap_old' _ _ hI.hb, hI.hm.same (heap_old _ _ hI.hm.lt)⟩
theorem end_any (b m : Nat) (x : PSt) (d f : Bool) (sl : Int) (w : World) (hI : IsProc w.heap b m x) :
    Calls Try.prog 40 #[.pointer (some ⟨b, 0, none⟩), .agg #[.bool d, .bool f, .int .i64 sl]] w fun e w' =>
      e = .returned (.agg #[.bool d, .bool f, .int .i64 sl]) ∧ IsProc w'.heap b m (x.ph 0) ∧ Ext [b] w w' := by
  have hI' := hI.hb
  simp only [PSt.cells] at hI'
  have hlt := lt_of_heap hI'
  have hlt2 : b ≠ w.heap.size := by omega
  have f3 := freeAt hI' 3
  have c3 := cellAt hI' 3
  simp at c3
  go_enter Try.func40, Try.ntmps40
  go_wp2
  refine bodyPost_ret (v := .agg #[.bool d, .bool f, .int .i64 sl]) (by simp [results, Try.results40, go_sem]) rfl ⟨rfl, ?_, ?_⟩
  · exact ((hI.phase 0).alloc _).alloc _
  · exact (((Ext.refl _ _).set' (List.mem_singleton.2 rfl) _ _).alloc _).alloc _

/-- What it has seen, behind one record more. -/
def PSt.see (x : PSt) (r1 r2 r4 : Int) : List (Int × Int) := if r4 = 0 then mput x.seen r1 (if (mlook x.seen r1).getD 0 < r2 then r2 else (mlook x.seen r1).getD 0) else x.seen
noncomputable def PSt.decide (x : PSt) (s : ByteArray) : PSt := { x with seen := x.see (parseR s).1 (parseR s).2.1 (parseR s).2.2.2, at_ := x.at_ + 1, phase := 2 }
abbrev PSt.mine (x : PSt) : ByteArray := recText x.mwho x.seq x.body
structure PSt.Ok (x : PSt) : Prop where
  who : x.who < 1000
  mwho : x.mwho < 1000
  seq : x.seq < 1000000000
  body : x.body.size ≤ 1024
  at_ : x.at_ ≤ 1000
  P : 1 ≤ x.P ∧ x.P ≤ 1000
  S : x.S ≤ 1000

theorem decided_fin {w wr w2 : World} {b m : Nat} {x y : PSt} {sn : List (Int × Int)} (hd : y = { x with seen := sn, at_ := x.at_ + 1, phase := 2 })
    (hIr : IsProc wr.heap b m { x with seen := sn }) (hEr : Ext [b, m] w wr) (hx2 : Ext [] ((wr.setCell ⟨b, 4, none⟩ (.int .i64 (x.at_ + 1))).setCell ⟨b, 3, none⟩ (.int .i64 2)) w2) :
    IsProc w2.heap b m y ∧ Ext [b, m] w w2 := by
  subst hd
  have h1 : IsProc ((wr.setCell ⟨b, 4, none⟩ (.int .i64 (x.at_ + 1))).setCell ⟨b, 3, none⟩ (.int .i64 2)).heap b m { x with seen := sn, at_ := x.at_ + 1, phase := 2 } := by
    refine ⟨?_, ?_⟩
    · refine Eq.trans (heap_set (heap_set hIr.hb 4 _) 3 _) ?_
      simp [PSt.cells]
    · exact hIr.hm.same (by rw [heap_set_ne _ _ _ (hIr.hm.ne hIr.hb), heap_set_ne _ _ _ (hIr.hm.ne hIr.hb)])
  exact ⟨h1.ext hx2 (by simp) (by simp), (Ext.set' (by simp) (Ext.set' (by simp) hEr _ _) _ _).trans hx2 (by simp)⟩

theorem decided_any (b m : Nat) (x : PSt) (s : ByteArray) (w : World) (hI : IsProc w.heap b m x) (hx : x.Ok) :
    Calls Try.prog 55 #[.pointer (some ⟨b, 0, none⟩), .string s] w fun e w' =>
      e = .returned (.bool (s.toList == x.mine.toList)) ∧ IsProc w'.heap b m (x.decide s) ∧ Ext [b, m] w w' := by
  obtain ⟨r1, r2, r3, r4, hr⟩ : ∃ r1 r2 r3 r4, parseR s = (r1, r2, r3, r4) := ⟨_, _, _, _, rfl⟩
  have hd : x.decide s = { x with seen := x.see r1 r2 r4, at_ := x.at_ + 1, phase := 2 } := by simp [PSt.decide, hr]
  have HD := Hs.hid hd; clear hd
  go_enter Try.func55, Try.ntmps55
  by_cases h4 : r4 = 0
  · subst h4
    have HR := Hs.hid hr; clear hr
    go_upto_region 3 with (first | (go_at_call 42; refine (parse_any s r1 r2 0 r3 HR.out _).mono ?_; rintro e w1 ⟨rfl, hx1⟩))
    have hI1 := (hI.ext hx1 (by simp) (by simp)).alloc (.cells #[.int .i64 r1, .int .i64 r2, .string r3] 50)
    have hA := heap_new w1 (.cells #[.int .i64 r1, .int .i64 r2, .string r3] 50)
    have hE1 : Ext [b, m] w (w1.alloc (.cells #[.int .i64 r1, .int .i64 r2, .string r3] 50)) := (hx1.mono (by simp)).alloc _
    have hAm : w1.heap.size ≠ m := hI1.hm.ne hA
    generalize w1.alloc (.cells #[.int .i64 r1, .int .i64 r2, .string r3] 50) = W at *
    generalize w1.heap.size = A at *
    clear hx1
    go_cut [] (fun wx => IsProc wx.heap b m { x with seen := x.see r1 r2 0 } ∧ Ext [b, m] w wx)
    case first =>
      have hI' := hI1.hb
      simp only [PSt.cells] at hI'
      have c5 := cellAt hI' 5
      simp at c5
      have a0 := cellAt hA 0
      have a1 := cellAt hA 1
      simp at a0 a1
      have hlk := run_lookup (P := Try.prog) (w := W.drew) (t := 27) keyInt Try.underlying27 (d := (0 : Int)) (zeroInt _) hI1.hm r1 false
      obtain ⟨w2, hup, hm2, hx2⟩ := run_mapUpdate (P := Try.prog) (w := W.drew) (t := 27) (venc := Value.int .i64) keyInt Try.underlying27 hI1.hm r1 (if (mlook x.seen r1).getD 0 < r2 then r2 else (mlook x.seen r1).getD 0)
      simp only [Bool.false_eq_true, if_false] at hlk
      have HM := Hs.hid hm2; clear hm2
      have HX := Hs.hid hx2; clear hx2
      go_region
      all_goals go_wp2_with fail
      all_goals
        go_meet
        refine ⟨⟨HX.out.same hI1.hb (by simpa using fun e => hI1.hm.ne hI1.hb e), by simpa [PSt.see] using HM.out⟩, hE1.drew.trans HX.out (by simp)⟩
    case rest =>
      obtain ⟨hIr, hEr⟩ := hcut
      have hI' := hIr.hb
      simp only [PSt.cells] at hI'
      have c3 := cellAt hI' 3
      have c4 := cellAt hI' 4
      have c6 := cellAt hI' 6
      have c7 := cellAt hI' 7
      have c8 := cellAt hI' 8
      have f := freeAt hI'
      simp at c3 c4 c6 c7 c8
      have hat : (x.at_ : Int) ≤ 1000 := by have := hx.at_; omega
      go_wp2_with (first | (go_at_call 19; (with_reducible refine (recText_any x.mwho x.seq x.body _ (by have := hx.mwho; omega) (by have := hx.seq; omega) (by have := hx.body; omega)).mono ?_); rintro e w2 ⟨rfl, hx2⟩))
      go_ret
      obtain ⟨hP, hE⟩ := decided_fin HD.out hIr hEr hx2
      exact ⟨rfl, hP, hE⟩
  · have HR := Hs.hid hr; clear hr
    have h4b : (r4 == 0) = false := by simpa using h4
    have hs4 : x.see r1 r2 r4 = x.seen := by simp [PSt.see, h4]
    rw [hs4] at HD
    clear hs4 h4
    go_upto_region 4 with (first | (go_at_call 42; refine (parse_any s r1 r2 r4 r3 HR.out _).mono ?_; rintro e w1 ⟨rfl, hx1⟩))
    have hIr := (hI.ext hx1 (by simp) (by simp)).alloc (.cells #[.int .i64 r1, .int .i64 r2, .string r3] 50)
    have hEr : Ext [b, m] w (w1.alloc (.cells #[.int .i64 r1, .int .i64 r2, .string r3] 50)) := (hx1.mono (by simp)).alloc _
    generalize w1.alloc (.cells #[.int .i64 r1, .int .i64 r2, .string r3] 50) = W at *
    clear hx1
    have hI' := hIr.hb
    simp only [PSt.cells] at hI'
    have c3 := cellAt hI' 3
    have c4 := cellAt hI' 4
    have c6 := cellAt hI' 6
    have c7 := cellAt hI' 7
    have c8 := cellAt hI' 8
    have f := freeAt hI'
    simp at c3 c4 c6 c7 c8
    have hat : (x.at_ : Int) ≤ 1000 := by have := hx.at_; omega
    go_wp2_with (first | (go_at_call 19; (with_reducible refine (recText_any x.mwho x.seq x.body _ (by have := hx.mwho; omega) (by have := hx.seq; omega) (by have := hx.body; omega)).mono ?_); rintro e w2 ⟨rfl, hx2⟩))
    go_ret
    obtain ⟨hP, hE⟩ := decided_fin HD.out hIr hEr hx2
    exact ⟨rfl, hP, hE⟩
end Go.Proofs.Ytkhihpmadmmeaaa
set_option linter.unusedSimpArgs false
set_option linter.unusedVariables false
set_option maxHeartbeats 2000000
set_option maxRecDepth 100000
namespace Go.Proofs.Ytkhihpmadmmeaaa
open Go.RowKit Go.Hs

noncomputable def knownStep (who : Int) (n : Int) (s : ByteArray) : Int := if (parseR s).2.2.2 = 0 ∧ (parseR s).1 = who then max n (parseR s).2.1 else n
noncomputable def knownF (L : List ByteArray) (who : Int) : Int := L.foldl (knownStep who) 0
theorem knownF_snoc (L : List ByteArray) (s : ByteArray) (who : Int) : knownF (L ++ [s]) who = knownStep who (knownF L who) s := by simp [knownF]
theorem known_any (S Pn : Nat) (sao : Option Addr) (scap : Nat) (wao : Option Addr) (wcap pg pcap : Nat) (X : RW) (at_ : Nat) (who : Int) (w : World) (hR : RefV w.heap S Pn sao scap wao wcap pg pcap X) (hat : at_ ≤ S) (hS : S ≤ 1000) :
    Calls Try.prog 58 #[.agg #[.slice sao S scap, .slice wao Pn wcap, .slice (some ⟨pg, 0, none⟩) Pn pcap], .int .i64 at_, .int .i64 who] w fun e w' =>
      e = .returned (.int .i64 (knownF (X.slots.take at_) who)) ∧ Ext [] w w' := by
  have hB := heap_new w (.cells #[.slice sao S scap, .slice wao Pn wcap, .slice (some ⟨pg, 0, none⟩) Pn pcap] 37)
  have hE : Ext [] w (w.alloc (.cells #[.slice sao S scap, .slice wao Pn wcap, .slice (some ⟨pg, 0, none⟩) Pn pcap] 37)) := (Ext.refl _ _).alloc _
  have hsl := hR.S_eq
  have hcap : S ≤ scap := by
    rcases hR.s.2 with ⟨h, h0⟩ | ⟨g, cap', cur, hv, _, _, h4, _⟩
    · omega
    · simp only [Value.slice.injEq] at hv; omega
  have ha0 : (0 : Int) ≤ at_ := by omega
  have ha1 : (at_ : Int) ≤ scap := by omega
  have ha2 : (at_ : Int) ≤ 1000 := by omega
  go_enter Try.func58, Try.ntmps58
  go_upto_region 2 with fail
  generalize w.alloc (.cells #[.slice sao S scap, .slice wao Pn wcap, .slice (some ⟨pg, 0, none⟩) Pn pcap] 37) = W at *
  generalize w.heap.size = B at *
  have b0 := cellAt hB 0
  simp at b0
  have hcase : (at_ = 0) ∨ ∃ g, sao = some ⟨g, 0, none⟩ := by
    rcases hR.s.2 with ⟨h, h0⟩ | ⟨g, cap', cur, hv, _⟩
    · left; omega
    · right
      simp only [Value.slice.injEq] at hv
      exact ⟨g, hv.1⟩
  go_wp2_with fail
  go_loopw [7, 17] (fun n i wr => ∃ j : Nat, j ≤ at_ ∧ i = .int .i64 j ∧ n = .int .i64 (knownF (X.slots.take j) who) ∧ Ext [] w wr) (fun _ i _ => at_ - (intOf i).toNat)
  case atStart => exact ⟨0, Nat.zero_le _, rfl, rfl, hE⟩
  case round =>
    obtain ⟨j, hj, rfl, rfl, hx⟩ := hrel
    by_cases hj3 : j < at_
    · obtain ⟨g, rfl⟩ : ∃ g, sao = some ⟨g, 0, none⟩ := hcase.resolve_left (by omega)
      clear hcase
      have hjb : decide ((j : Int) < at_) = true := by simp; omega
      have hji0 : (0 : Int) ≤ j := by omega
      have hji : (j : Int) < at_ := by omega
      obtain ⟨t, ht⟩ : ∃ t, X.slots[j]? = some t := ⟨_, List.getElem?_eq_getElem (by omega)⟩
      obtain ⟨g', hgg, hcell, _⟩ := str_at (hR.ext0 hx).s ht
      simp only [Option.some.injEq, Addr.mk.injEq] at hgg
      obtain ⟨rfl, _⟩ := hgg
      obtain ⟨r1, r2, r3, r4, hr⟩ : ∃ r1 r2 r3 r4, parseR t = (r1, r2, r3, r4) := ⟨_, _, _, _, rfl⟩
      have hk : knownF (X.slots.take (j + 1)) who = if r4 = 0 ∧ r1 = who then max (knownF (X.slots.take j) who) r2 else knownF (X.slots.take j) who := by
        rw [List.take_add_one, ht, Option.toList_some, knownF_snoc]
        unfold knownStep
        rw [hr]
      generalize knownF (X.slots.take j) who = n at *
      have HR := Hs.hid hr; clear hr
      have HJ := Hs.hid (And.intro hj hj3); clear hj hj3
      have HS := Hs.hid (And.intro hat hcap); clear hat hcap
      go_upto_region 6 with (go_at_call 57; refine (refParse_any t r1 r2 r4 r3 HR.out _).mono ?_; rintro e w1 ⟨rfl, hx1⟩)
      have hA := heap_new w1 (.cells #[.int .i64 r1, .int .i64 r2, .string r3] 60)
      have hE1 : Ext [] w (w1.alloc (.cells #[.int .i64 r1, .int .i64 r2, .string r3] 60)) := (hx.trans0 hx1).alloc _
      generalize w1.alloc (.cells #[.int .i64 r1, .int .i64 r2, .string r3] 60) = W1 at *
      generalize w1.heap.size = A at *
      have a0 := cellAt hA 0
      have a1 := cellAt hA 1
      simp at a0 a1
      clear hx1 hcell
      by_cases h4 : r4 = 0
      · by_cases h1 : r1 = who
        · rw [if_pos ⟨h4, h1⟩] at hk
          have HK := Hs.hid hk; clear hk
          have h1b : (r1 == who) = true := by simpa using h1
          have h4b : (r4 == 0) = true := by simpa using h4
          by_cases hmx : n < r2
          · have hmv : max n r2 = r2 := by omega
            have hmn : n ≤ r2 := by omega
            go_wp2
            go_round
            case rel => exact ⟨j + 1, by have := HJ.out; omega, by go_num, by rw [HK.out, hmv], hE1⟩
            case measure => have := HJ.out; simp [intOf]; omega
          · have hmv : max n r2 = n := by omega
            have hmn : r2 ≤ n := by omega
            go_wp2
            go_round
            case rel => exact ⟨j + 1, by have := HJ.out; omega, by go_num, by rw [HK.out, hmv], hE1⟩
            case measure => have := HJ.out; simp [intOf]; omega
        · rw [if_neg (fun h => h1 h.2)] at hk
          have HK := Hs.hid hk; clear hk
          have h1b : (r1 == who) = false := by simpa using h1
          have h4b : (r4 == 0) = true := by simpa using h4
          go_wp2
          go_round
          case rel => exact ⟨j + 1, by have := HJ.out; omega, by go_num, by rw [HK.out], hE1⟩
          case measure => have := HJ.out; simp [intOf]; omega
      · rw [if_neg (fun h => h4 h.1)] at hk
        have HK := Hs.hid hk; clear hk
        have h4b : (r4 == 0) = false := by simpa using h4
        go_wp2
        go_round
        case rel => exact ⟨j + 1, by have := HJ.out; omega, by go_num, by rw [HK.out], hE1⟩
        case measure => have := HJ.out; simp [intOf]; omega
    · have hj4 : j = at_ := by omega
      subst hj4
      have hjb : decide ((j : Int) < j) = false := by simp
      clear hj3 hj
      go_wp2
      go_ret
      exact ⟨rfl, hx⟩
end Go.Proofs.Ytkhihpmadmmeaaa
set_option linter.unusedSimpArgs false
set_option linter.unusedVariables false
set_option maxHeartbeats 1000000
set_option maxRecDepth 100000
namespace Go.Proofs.Ytkhihpmadmmeaaa
open Go.RowKit Go.Hs

structure EndR where
  done : Bool
  full : Bool
  slot : Int
def EndR.val (e : EndR) : Value := .agg #[.bool e.done, .bool e.full, .int .i64 e.slot]
def EndR.no : EndR := ⟨false, false, 0⟩
noncomputable def PSt.after (x : PSt) (s : ByteArray) : EndR × PSt :=
  if (s.toList == x.mine.toList) = true then (⟨true, false, x.at_⟩, (x.decide s).ph 0)
  else if x.S ≤ x.at_ + 1 then (⟨true, true, 0⟩, (x.decide s).ph 0) else (.no, x.decide s)

theorem notIn2 {w : World} {b m : Nat} {x : PSt} (hI : IsProc w.heap b m x) : w.heap.size ∉ [b, m] := by
  have h1 := lt_of_heap hI.hb
  have h2 := hI.hm.lt
  simp; omega
theorem notIn1 {w : World} {b m : Nat} {x : PSt} (hI : IsProc w.heap b m x) : w.heap.size ∉ [b] := by
  have h1 := lt_of_heap hI.hb
  simp; omega
theorem IsProc.far {w : World} {b m A : Nat} {x : PSt} (hA : A ∉ [b, m]) (hI : IsProc w.heap b m x) (o : Nat) (v : Value) : IsProc (w.setCell ⟨A, o, none⟩ v).heap b m x := by
  simp at hA
  exact hI.same (heap_set_ne _ _ _ hA.1) (heap_set_ne _ _ _ hA.2)
theorem after_any (b m : Nat) (x : PSt) (s : ByteArray) (w : World) (hI : IsProc w.heap b m x) (hx : x.Ok) :
    Calls Try.prog 43 #[.pointer (some ⟨b, 0, none⟩), .string s] w fun e w' =>
      e = .returned (x.after s).1.val ∧ IsProc w'.heap b m (x.after s).2 ∧ Ext [b, m] w w' := by
  have hat := hx.at_
  have hati : (x.at_ : Int) ≤ 1000 := by omega
  have hE0 : Ext [b, m] w (w.alloc (.cells #[.bool false, .bool false, .int .i64 0] 42)) := (Ext.refl _ _).alloc _
  by_cases h1 : (s.toList == x.mine.toList) = true
  · have hd : x.after s = (⟨true, false, x.at_⟩, (x.decide s).ph 0) := by unfold PSt.after; rw [if_pos h1]
    have HD := Hs.hid hd; clear hd

    go_enter Try.func43, Try.ntmps43
    go_wp2_with (first
      | (go_at_call 55; (with_reducible refine (decided_any b m x s _ (hI.alloc _) hx).mono ?_); rintro e w1 ⟨rfl, hI1, hx1⟩; have c4 := cellAt hI1.hb 4; simp [PSt.cells, PSt.decide] at c4; have hr1 := hx1.same (heap_new w _) (notIn2 hI); have q0 := cellAt hr1 0; have q1 := cellAt hr1 1; have q2 := cellAt hr1 2; have qf := freeAt hr1; simp at q0 q1 q2)
      | (go_at_call 39; (with_reducible refine (full_any b m (x.decide s) _ hI1).mono ?_); rintro e w3 ⟨rfl, n3, rfl⟩)
      | (go_at_call 40; (with_reducible refine (end_any b m (x.decide s) true false x.at_ _ ?_).mono ?_); exact hI1; rintro e w2 ⟨rfl, hI2, hx2⟩; have hr2 := hx2.same hr1 (notIn1 hI); have r0 := cellAt hr2 0; have r1 := cellAt hr2 1; have r2 := cellAt hr2 2; have rf := freeAt hr2; simp at r0 r1 r2))
    refine bodyPost_ret (v := .agg #[.bool true, .bool false, .int .i64 x.at_]) (by simp [results, Try.results43, go_sem, r0, r1, r2]) rfl ⟨by rw [HD.out]; rfl, ?_, ?_⟩
    · rw [HD.out]
      repeat (refine IsProc.far (notIn2 hI) ?_ _ _)
      exact hI2
    · repeat (refine Ext.setN (Nat.le_refl _) ?_ _ _)
      exact (hE0.trans' hx1).trans hx2 (by simp)

  · have h1 : (s.toList == x.mine.toList) = false := by simpa using h1
    by_cases h2 : x.S ≤ x.at_ + 1
    · have hd : x.after s = (⟨true, true, 0⟩, (x.decide s).ph 0) := by unfold PSt.after; rw [h1, if_neg (by simp), if_pos h2]
      have HD := Hs.hid hd; clear hd
      have h2p : (x.decide s).S ≤ (x.decide s).at_ := h2
      have h2b : decide ((x.decide s).S ≤ (x.decide s).at_) = true := decide_eq_true h2
      clear h2
      go_enter Try.func43, Try.ntmps43
      go_wp2_with (first
        | (go_at_call 55; (with_reducible refine (decided_any b m x s _ (hI.alloc _) hx).mono ?_); rintro e w1 ⟨rfl, hI1, hx1⟩; have c4 := cellAt hI1.hb 4; simp [PSt.cells, PSt.decide] at c4; have hr1 := hx1.same (heap_new w _) (notIn2 hI); have q0 := cellAt hr1 0; have q1 := cellAt hr1 1; have q2 := cellAt hr1 2; have qf := freeAt hr1; simp at q0 q1 q2)
        | (go_at_call 39; (with_reducible refine (full_any b m (x.decide s) _ hI1).mono ?_); rintro e w3 ⟨rfl, n3, rfl⟩)
        | (go_at_call 40; (with_reducible refine (end_any b m (x.decide s) true true 0 _ ?_).mono ?_); exact hI1; rintro e w2 ⟨rfl, hI2, hx2⟩; have hr2 := hx2.same hr1 (notIn1 hI); have r0 := cellAt hr2 0; have r1 := cellAt hr2 1; have r2 := cellAt hr2 2; have rf := freeAt hr2; simp at r0 r1 r2))
      refine bodyPost_ret (v := .agg #[.bool true, .bool true, .int .i64 0]) (by simp [results, Try.results43, go_sem, r0, r1, r2]) rfl ⟨by rw [HD.out]; rfl, ?_, ?_⟩
      · rw [HD.out]
        repeat (refine IsProc.far (notIn2 hI) ?_ _ _)
        exact hI2
      · repeat (refine Ext.setN (Nat.le_refl _) ?_ _ _)
        exact ((hE0.trans' hx1).drewN n3).trans hx2 (by simp)
    · have hd : x.after s = (.no, x.decide s) := by unfold PSt.after; rw [h1, if_neg (by simp), if_neg h2]
      have HD := Hs.hid hd; clear hd
      have h2p : ¬ (x.decide s).S ≤ (x.decide s).at_ := h2
      have h2b : decide ((x.decide s).S ≤ (x.decide s).at_) = false := decide_eq_false h2
      clear h2
      go_enter Try.func43, Try.ntmps43
      go_wp2_with (first
        | (go_at_call 55; (with_reducible refine (decided_any b m x s _ (hI.alloc _) hx).mono ?_); rintro e w1 ⟨rfl, hI1, hx1⟩; have c4 := cellAt hI1.hb 4; simp [PSt.cells, PSt.decide] at c4; have hr1 := hx1.same (heap_new w _) (notIn2 hI); have q0 := cellAt hr1 0; have q1 := cellAt hr1 1; have q2 := cellAt hr1 2; have qf := freeAt hr1; simp at q0 q1 q2)
        | (go_at_call 39; (with_reducible refine (full_any b m (x.decide s) _ hI1).mono ?_); rintro e w3 ⟨rfl, n3, rfl⟩)
        | (go_at_call 40; (with_reducible refine (end_any b m (x.decide s) true true 0 _ ?_).mono ?_); exact hI1; rintro e w2 ⟨rfl, hI2, hx2⟩; have hr2 := hx2.same hr1 (notIn1 hI); have r0 := cellAt hr2 0; have r1 := cellAt hr2 1; have r2 := cellAt hr2 2; have rf := freeAt hr2; simp at r0 r1 r2))
      refine bodyPost_ret (v := .agg #[.bool false, .bool false, .int .i64 0]) (by simp [results, Try.results43, go_sem, q0, q1, q2]) rfl ⟨by rw [HD.out]; rfl, ?_, ?_⟩
      · rw [HD.out]
        repeat (refine IsProc.far (notIn2 hI) ?_ _ _)
        exact hI1
      · repeat (refine Ext.setN (Nat.le_refl _) ?_ _ _)
        exact (hE0.trans' hx1).drewN _
end Go.Proofs.Ytkhihpmadmmeaaa
set_option linter.unusedSimpArgs false
set_option linter.unusedVariables false
set_option maxHeartbeats 2000000
set_option maxRecDepth 100000
namespace Go.Proofs.Ytkhihpmadmmeaaa
open Go.RowKit Go.Hs

/-- A slice of the world is as it was, or new. -/
def Kept (v v' : Value) (B : Nat) : Prop := v' = v ∨ ∀ g, v'.ownBlock = some g → B ≤ g
/-- The post of a step of the reference. -/
def RStep (w : World) (S Pn : Nat) (sao : Option Addr) (scap : Nat) (wao : Option Addr) (wcap : Nat) (e : Ending) (w' : World) (X' : RW) (E : EndR) : Prop :=
  ∃ sao2 scap2 wao2 wcap2 g2 cap2, e = .returned (.tuple #[.agg #[.slice sao2 S scap2, .slice wao2 Pn wcap2, .slice (some ⟨g2, 0, none⟩) Pn cap2], .agg #[.bool E.done, .bool E.full, .int .i64 E.slot]]) ∧
    RefV w'.heap S Pn sao2 scap2 wao2 wcap2 g2 cap2 X' ∧ Ext [] w w' ∧ Kept (.slice sao S scap) (.slice sao2 S scap2) w.heap.size ∧ Kept (.slice wao Pn wcap) (.slice wao2 Pn wcap2) w.heap.size ∧ w.heap.size ≤ g2
theorem infoStrS : (Try.prog.info? 9).map (fun i => (i.zero, i.size, i.bytes)) = some (some (.string ⟨#[]⟩), 1, 16) := by kernel_rfl
theorem alloc_four (w : World) (A C D E : Obj) :
    ((((w.alloc A).alloc C).alloc D).alloc E).heap[w.heap.size]? = some A ∧ ((((w.alloc A).alloc C).alloc D).alloc E).heap[w.heap.size + 1]? = some C ∧ ((((w.alloc A).alloc C).alloc D).alloc E).heap[w.heap.size + 1 + 1]? = some D ∧
    ((((w.alloc A).alloc C).alloc D).alloc E).heap[w.heap.size + 1 + 1 + 1]? = some E ∧ Ext [] w ((((w.alloc A).alloc C).alloc D).alloc E) ∧ ((((w.alloc A).alloc C).alloc D).alloc E).heap.size = w.heap.size + 1 + 1 + 1 + 1 := by
  obtain ⟨h1, h2, h3, h4, h5⟩ := alloc_three w A C D
  have hn := heap_new (((w.alloc A).alloc C).alloc D) E
  rw [h5] at hn
  exact ⟨heap_old' _ _ h1, heap_old' _ _ h2, heap_old' _ _ h3, hn, h4.alloc _, by simp⟩
theorem own_strs_set {g n cap : Nat} {L : List ByteArray} {w : World} (o : Own w.heap 9 1 (.slice (some ⟨g, 0, none⟩) n cap) n (L.map Value.string)) (k : Nat) (t : ByteArray) :
    Own (w.setCell ⟨g, k, none⟩ (.string t)).heap 9 1 (.slice (some ⟨g, 0, none⟩) n cap) n ((L.set k t).map Value.string) := by
  rcases o.2 with ⟨hv, _⟩ | ⟨g', cap', cur, hv, h0, hg, h3, h4, h5, h6⟩
  · simp at hv
  · simp only [Value.slice.injEq, Option.some.injEq, Addr.mk.injEq] at hv
    obtain ⟨⟨rfl, _, _⟩, _, rfl⟩ := hv
    refine ⟨by have := o.1; simpa using this, .inr ⟨g, cap, _, rfl, h0, heap_set hg k _, h3, h4, by simpa using h5, ?_⟩⟩
    rw [Array.toList_setIfInBounds, List.take_set, h6, List.map_set]
theorem str_at' {w : World} {g n cap : Nat} {L : List ByteArray} (o : Own w.heap 9 1 (.slice (some ⟨g, 0, none⟩) n cap) n (L.map Value.string)) {k : Nat} {t : ByteArray} (hk : L[k]? = some t) :
    w.cell? ⟨g, k, none⟩ = some (.string t) := by
  have := Own.cells (w := w) rfl o (g := g) rfl k (.string t) (by rw [List.getElem?_map, hk]; rfl)
  rw [add_off'] at this
  exact this
def RP.wished (p : RP) (S : Nat) : RP := { p with next := if S ≤ p.at_ then 0 else 2 }
theorem refWish_any (S Pn : Nat) (sao : Option Addr) (scap : Nat) (wao : Option Addr) (wcap pg pcap : Nat) (X : RW) (who : Nat) (p : RP) (w : World) (hR : RefV w.heap S Pn sao scap wao wcap pg pcap X) (hw : who < Pn) (hl : Pn ≤ 1000) (hS : S ≤ 1000)
    (hp1 : p.who < 1000000) (hp2 : p.seq < 1000000000000000) (hp3 : p.body.size < 100000) :
    Calls Try.prog 47 #[.agg #[.slice sao S scap, .slice wao Pn wcap, .slice (some ⟨pg, 0, none⟩) Pn pcap], .int .i64 who, .agg #[.int .i64 p.next, .int .i64 p.at_, .int .i64 p.who, .int .i64 p.seq, .string p.body, .string p.offer]] w fun e w' =>
      RStep w S Pn sao scap wao wcap e w' { X with wishes := X.wishes.set who (recText p.who p.seq p.body), P := X.P.set who (p.wished S) } (if S ≤ p.at_ then ⟨true, true, 0⟩ else .no) := by
  obtain ⟨i0, hi, hz0, hz1, hz2⟩ := info_parts infoStrS
  have hW := hR.W_eq
  obtain ⟨wg, rfl⟩ : ∃ wg, wao = some ⟨wg, 0, none⟩ := by
    obtain ⟨g, cap', cur, hv, _⟩ := own_some hR.w (by omega)
    simp only [Value.slice.injEq] at hv
    exact ⟨g, hv.1⟩
  obtain ⟨hB, hC, hD, hQ, hE, hsz⟩ := alloc_four w (.cells #[.slice sao S scap, .slice (some ⟨wg, 0, none⟩) Pn wcap, .slice (some ⟨pg, 0, none⟩) Pn pcap] 37)
    (.cells #[.int .i64 p.next, .int .i64 p.at_, .int .i64 p.who, .int .i64 p.seq, .string p.body, .string p.offer] 62) (.cells #[.slice none 0 0, .slice none 0 0, .slice none 0 0] 37) (.cells #[.bool false, .bool false, .int .i64 0] 65)
  have hw0 : (0 : Int) ≤ who := by omega
  have hwi : (who : Int) < Pn := by omega
  have hwl := hR.w.lt (g := wg) rfl
  go_enter Try.func47, Try.ntmps47
  go_upto_region 1 with fail
  have hRW := hR.ext0 hE
  generalize (((w.alloc (.cells #[.slice sao S scap, .slice (some ⟨wg, 0, none⟩) Pn wcap, .slice (some ⟨pg, 0, none⟩) Pn pcap] 37)).alloc
    (.cells #[.int .i64 p.next, .int .i64 p.at_, .int .i64 p.who, .int .i64 p.seq, .string p.body, .string p.offer] 62)).alloc (.cells #[.slice none 0 0, .slice none 0 0, .slice none 0 0] 37)).alloc (.cells #[.bool false, .bool false, .int .i64 0] 65) = W at *
  generalize hBB : w.heap.size = B at *
  have b1 := cellAt hB 1
  simp at b1
  have hm1 : 0 + Pn ≤ maxLen := by simp [maxLen]; omega
  have hm2 : (0 + Pn) * 16 ≤ 140737488355328 := by omega
  have hnil : Own (W.alloc (.cells #[] 9)).heap 9 1 (.slice (some ⟨W.heap.size, 0, none⟩) 0 0) 0 [] :=
    ⟨rfl, .inr ⟨W.heap.size, 0, #[], rfl, Nat.zero_le _, heap_new _ _, Nat.le_refl _, Nat.zero_le _, rfl, rfl⟩⟩
  rw [hsz] at hnil
  have hold := Own.cells (w := W.alloc (.cells #[] 9)) rfl (own_ext hRW.w ((Ext.refl [] W).alloc _) (by simp)) (g := wg) rfl
  have h1c : ∀ u ∈ X.wishes.map Value.string, u.oneCell' = true := by
    intro u hu
    obtain ⟨q, _, rfl⟩ := List.mem_map.1 hu
    rfl
  go_upto_region 2 with (at_builtin; refine wpList_append rfl (.tmp 9) (.tmp 11) 34 rfl 9 i0 _ 1 16 Try.underlying34 hi hz0 hz1 hz2 rfl (by decide) (.slice (some ⟨B + 1 + 1 + 1 + 1, 0, none⟩) 0 0) 0 [] rfl hnil ⟨wg, 0, none⟩ Pn wcap (X.wishes.map Value.string) rfl (by simp [hW]) hold h1c hm1 hm2 ?_; intro ao cap2 w2 hl2 hx2 hf2)
  simp only [Nat.zero_add, List.nil_append] at hl2
  obtain ⟨g2, cap3, cur2, hv, hg2, hn2, hc2, hcs2, htk2⟩ := own_some hl2 (by omega)
  simp only [Value.slice.injEq] at hv
  obtain ⟨rfl, _, rfl⟩ := hv
  have hg2lo : B + 1 + 1 + 1 + 1 ≤ g2 := by
    rcases hf2 g2 rfl with h | h
    · simp [Value.ownBlock] at h; omega
    · have : (W.alloc (.cells #[] 9)).heap.size = W.heap.size + 1 := by simp
      omega
  have hB2 := hx2.same (heap_old' _ _ hB) (by simp [Value.ownBlock]; omega)
  have hC2 := hx2.same (heap_old' _ _ hC) (by simp [Value.ownBlock])
  have hD2 := hx2.same (heap_old' _ _ hD) (by simp [Value.ownBlock])
  have hQ2 := hx2.same (heap_old' _ _ hQ) (by simp [Value.ownBlock])
  have hE2 : Ext [] w w2 := (hE.alloc _).trans hx2 (fun q hq => .inr (by simp [Value.ownBlock] at hq; omega))
  have c2 := cellAt hC2 2
  have c3 := cellAt hC2 3
  have c4 := cellAt hC2 4
  simp at c2 c3 c4
  clear b1 hold h1c hnil
  have hlw := hl2
  have n1 : g2 ≠ B := by omega
  have n2 : B ≠ g2 := by omega
  have n3 : g2 ≠ B + 1 := by omega
  have n4 : B + 1 ≠ g2 := by omega
  clear hl2
  go_upto_region 5 with (go_at_call 56; refine (refText_any p.who p.seq p.body _ hp1 hp2 hp3).mono ?_; rintro e w5 ⟨rfl, hx5⟩; have hB5 := hx5.same hB2 (by simp); have hC5 := hx5.same hC2 (by simp); have hD5 := hx5.same hD2 (by simp); have hQ5 := hx5.same hQ2 (by simp); have hl5 := own_ext hlw hx5 (by simp); have hcell := str_at' hl5 (List.getElem?_eq_getElem (show who < X.wishes.length by omega)); have hg5 := hx5.same hg2 (by simp); have gf := freeAt hg5; have b1 := cellAt hB5 1; have bf := freeAt hB5; have k0 := cellAt hC5 0; have kf := freeAt hC5; simp at b1 k0)
  -- GENERATED (gen_ref4.py)
  have hB6 : (((w5.setCell ⟨g2, who, none⟩ (.string (recText p.who p.seq p.body))).setCell ⟨B, 1, none⟩ (.slice (some ⟨g2, 0, none⟩) Pn cap2)).setCell ⟨B + 1, 0, none⟩ (.int .i64 2)).heap[B]? = some (.cells #[.slice sao S scap, .slice (some ⟨g2, 0, none⟩) Pn cap2, .slice (some ⟨pg, 0, none⟩) Pn pcap] 37 (0, 0)) := by
    rw [heap_set_ne _ _ _ (by show B + 1 ≠ B; omega)]
    refine (heap_set ((heap_set_ne _ _ _ n1).trans hB5) 1 _).trans ?_
    simp
  have hC6 : (((w5.setCell ⟨g2, who, none⟩ (.string (recText p.who p.seq p.body))).setCell ⟨B, 1, none⟩ (.slice (some ⟨g2, 0, none⟩) Pn cap2)).setCell ⟨B + 1, 0, none⟩ (.int .i64 2)).heap[B + 1]? = some (.cells #[.int .i64 2, .int .i64 p.at_, .int .i64 p.who, .int .i64 p.seq, .string p.body, .string p.offer] 62 (0, 0)) := by
    refine (heap_set ((heap_set_ne _ _ _ (by show B ≠ B + 1; omega)).trans ((heap_set_ne _ _ _ n3).trans hC5)) 0 _).trans ?_
    simp
  have hfar : ∀ q, q ≠ g2 → q ≠ B → q ≠ B + 1 → (((w5.setCell ⟨g2, who, none⟩ (.string (recText p.who p.seq p.body))).setCell ⟨B, 1, none⟩ (.slice (some ⟨g2, 0, none⟩) Pn cap2)).setCell ⟨B + 1, 0, none⟩ (.int .i64 2)).heap[q]? = w5.heap[q]? := by
    intro q h1 h2 h3
    rw [heap_set_ne _ _ _ (Ne.symm h3), heap_set_ne _ _ _ (Ne.symm h2), heap_set_ne _ _ _ (Ne.symm h1)]
  have hD6 := (hfar (B + 1 + 1) (by omega) (by omega) (by omega)).trans hD5
  have hQ6 := (hfar (B + 1 + 1 + 1) (by omega) (by omega) (by omega)).trans hQ5
  have hw6 : Own (((w5.setCell ⟨g2, who, none⟩ (.string (recText p.who p.seq p.body))).setCell ⟨B, 1, none⟩ (.slice (some ⟨g2, 0, none⟩) Pn cap2)).setCell ⟨B + 1, 0, none⟩ (.int .i64 2)).heap 9 1 (.slice (some ⟨g2, 0, none⟩) Pn cap2) Pn ((X.wishes.set who (recText p.who p.seq p.body)).map Value.string) := by
    refine (own_strs_set hl5 who _).same fun q hq => ?_
    have hq' : q = g2 := by simpa [Value.ownBlock] using hq.symm
    subst hq'
    rw [heap_set_ne _ _ _ n4, heap_set_ne _ _ _ n2]
  have hE6 : Ext [] w (((w5.setCell ⟨g2, who, none⟩ (.string (recText p.who p.seq p.body))).setCell ⟨B, 1, none⟩ (.slice (some ⟨g2, 0, none⟩) Pn cap2)).setCell ⟨B + 1, 0, none⟩ (.int .i64 2)) := by
    repeat (refine Ext.setN (by omega) ?_ _ _)
    exact hE2.trans0 hx5
  have hs6 := lt_of_heap hQ6
  clear hfar gf b1 bf k0 kf hcell hg5 hl5 hlw hB5 hC5 hD5 hQ5 hx5
  generalize ((w5.setCell ⟨g2, who, none⟩ (.string (recText p.who p.seq p.body))).setCell ⟨B, 1, none⟩ (.slice (some ⟨g2, 0, none⟩) Pn cap2)).setCell ⟨B + 1, 0, none⟩ (.int .i64 2) = W6 at *
  have b0 := cellAt hB6 0
  have b1 := cellAt hB6 1
  have b2 := cellAt hB6 2
  have c0 := cellAt hC6 0
  have c1 := cellAt hC6 1
  have c2 := cellAt hC6 2
  have c3 := cellAt hC6 3
  have c4 := cellAt hC6 4
  have c5 := cellAt hC6 5
  have cf := freeAt hC6
  simp at b0 b1 b2 c0 c1 c2 c3 c4 c5
  have hsb : ∀ q, (Value.slice sao S scap).ownBlock = some q → q < B := fun q h => by have := hR.s.lt h; omega
  by_cases hf : S ≤ p.at_
  · have hfb : decide ((S : Int) ≤ p.at_) = true := by simp; omega
    have hfi : (S : Int) ≤ p.at_ := by omega
    have hE7 : Ext [] w (W6.setCell ⟨B + 1, 0, none⟩ (.int .i64 0)) := Ext.setN (by omega) hE6 _ _
    have how7 : Own (W6.setCell ⟨B + 1, 0, none⟩ (.int .i64 0)).heap 9 1 (.slice (some ⟨g2, 0, none⟩) Pn cap2) Pn ((X.wishes.set who (recText p.who p.seq p.body)).map Value.string) := hw6.same fun q hq => by
      have hq' : q = g2 := by simpa [Value.ownBlock] using hq.symm
      subst hq'
      exact heap_set_ne _ _ _ n4
    have hD7 := (heap_set_ne W6 ⟨B + 1, 0, none⟩ (.int .i64 0) (by show B + 1 ≠ B + 1 + 1; omega)).trans hD6
    have hQ7 := (heap_set_ne W6 ⟨B + 1, 0, none⟩ (.int .i64 0) (by show B + 1 ≠ B + 1 + 1 + 1; omega)).trans hQ6
    have hR7 : RefV (W6.setCell ⟨B + 1, 0, none⟩ (.int .i64 0)).heap S Pn sao scap (some ⟨g2, 0, none⟩) cap2 pg pcap { X with wishes := X.wishes.set who (recText p.who p.seq p.body) } := ⟨own_ext hR.s hE7 (by simp), how7, own_ext hR.p hE7 (by simp)⟩
    have hs7 := lt_of_heap hQ7
    go_wp2_with (go_at_call 49; (refine (set_any S Pn sao scap (some ⟨g2, 0, none⟩) cap2 pg pcap { X with wishes := X.wishes.set who (recText p.who p.seq p.body) } who { p with next := 0 } _ hR7 hw hl).mono ?_); rintro e w8 ⟨g3, cap3, rfl, hR8, hx8, hg8⟩; have hD8 := hx8.same hD7 (by simp); have hQ8 := hx8.same hQ7 (by simp); have d0 := cellAt hD8 0; have d1 := cellAt hD8 1; have d2 := cellAt hD8 2; have df := freeAt hD8; have q0 := cellAt hQ8 0; have q1 := cellAt hQ8 1; have q2 := cellAt hQ8 2; have qf := freeAt hQ8; simp at d0 d1 d2 q0 q1 q2)
    refine bodyPost_ret (v := .tuple #[.agg #[.slice sao S scap, .slice (some ⟨g2, 0, none⟩) Pn cap2, .slice (some ⟨g3, 0, none⟩) Pn cap3], .agg #[.bool true, .bool true, .int .i64 0]]) (by simp [results, Try.results47, go_sem, d0, d1, d2, q0, q1, q2]) rfl ⟨sao, scap, some ⟨g2, 0, none⟩, cap2, g3, cap3, rfl, ?_, ?_, .inl rfl, .inr ?_, by omega⟩
    · have hws : p.wished S = { p with next := 0 } := by unfold RP.wished; rw [if_pos hf]
      rw [hws]
      refine hR8.ext (F := [B + 1 + 1, B + 1 + 1 + 1]) (Ext.set' (by simp) (Ext.set' (by simp) (Ext.set' (by simp) (Ext.set' (by simp) (Ext.set' (by simp) (Ext.set' (by simp) (Ext.refl _ _) _ _) _ _) _ _) _ _) _ _) _ _) ?_
      intro q hq
      rcases hq with h | h | h
      · have := hsb q h; simp; omega
      · have hq' : q = g2 := by simpa [Value.ownBlock] using h.symm
        simp; omega
      · simp; omega
    · repeat (refine Ext.setN (by omega) ?_ _ _)
      exact hE7.trans0 hx8
    · intro q hq
      have hq' : q = g2 := by simpa [Value.ownBlock] using hq.symm
      omega
  · have hfb : decide ((S : Int) ≤ p.at_) = false := by simp; omega
    have hfi : ¬ (S : Int) ≤ p.at_ := by omega
    have hE7 := hE6
    have how7 := hw6
    have hD7 := hD6
    have hQ7 := hQ6
    have hR7 : RefV W6.heap S Pn sao scap (some ⟨g2, 0, none⟩) cap2 pg pcap { X with wishes := X.wishes.set who (recText p.who p.seq p.body) } := ⟨own_ext hR.s hE7 (by simp), how7, own_ext hR.p hE7 (by simp)⟩
    have hs7 := lt_of_heap hQ7
    go_wp2_with (go_at_call 49; (refine (set_any S Pn sao scap (some ⟨g2, 0, none⟩) cap2 pg pcap { X with wishes := X.wishes.set who (recText p.who p.seq p.body) } who { p with next := 2 } _ hR7 hw hl).mono ?_); rintro e w8 ⟨g3, cap3, rfl, hR8, hx8, hg8⟩; have hD8 := hx8.same hD7 (by simp); have hQ8 := hx8.same hQ7 (by simp); have d0 := cellAt hD8 0; have d1 := cellAt hD8 1; have d2 := cellAt hD8 2; have df := freeAt hD8; have q0 := cellAt hQ8 0; have q1 := cellAt hQ8 1; have q2 := cellAt hQ8 2; have qf := freeAt hQ8; simp at d0 d1 d2 q0 q1 q2)
    refine bodyPost_ret (v := .tuple #[.agg #[.slice sao S scap, .slice (some ⟨g2, 0, none⟩) Pn cap2, .slice (some ⟨g3, 0, none⟩) Pn cap3], .agg #[.bool false, .bool false, .int .i64 0]]) (by simp [results, Try.results47, go_sem, d0, d1, d2, q0, q1, q2]) rfl ⟨sao, scap, some ⟨g2, 0, none⟩, cap2, g3, cap3, rfl, ?_, ?_, .inl rfl, .inr ?_, by omega⟩
    · have hws : p.wished S = { p with next := 2 } := by unfold RP.wished; rw [if_neg hf]
      rw [hws]
      refine hR8.ext (F := [B + 1 + 1, B + 1 + 1 + 1]) (Ext.set' (by simp) (Ext.set' (by simp) (Ext.set' (by simp) (Ext.set' (by simp) (Ext.set' (by simp) (Ext.set' (by simp) (Ext.refl _ _) _ _) _ _) _ _) _ _) _ _) _ _) ?_
      intro q hq
      rcases hq with h | h | h
      · have := hsb q h; simp; omega
      · have hq' : q = g2 := by simpa [Value.ownBlock] using h.symm
        simp; omega
      · simp; omega
    · repeat (refine Ext.setN (by omega) ?_ _ _)
      exact hE7.trans0 hx8
    · intro q hq
      have hq' : q = g2 := by simpa [Value.ownBlock] using hq.symm
      omega
end Go.Proofs.Ytkhihpmadmmeaaa
set_option linter.unusedSimpArgs false
set_option linter.unusedVariables false
set_option maxHeartbeats 2000000
set_option maxRecDepth 100000
namespace Go.Proofs.Ytkhihpmadmmeaaa
open Go.RowKit Go.Hs

/-- A process sees a slot decided. -/
def RP.sees (p : RP) (S : Nat) (t : ByteArray) : EndR × RP :=
  if (t.toList == (recText p.who p.seq p.body).toList) = true then (⟨true, false, p.at_⟩, { p with at_ := p.at_ + 1, next := 0 })
  else if S ≤ p.at_ + 1 then (⟨true, true, 0⟩, { p with at_ := p.at_ + 1, next := 0 }) else (.no, { p with at_ := p.at_ + 1, next := 2 })
theorem refSees_any (S Pn : Nat) (sao : Option Addr) (scap : Nat) (wao : Option Addr) (wcap pg pcap : Nat) (X : RW) (who : Nat) (p : RP) (t : ByteArray) (w : World) (hR : RefV w.heap S Pn sao scap wao wcap pg pcap X) (hw : who < Pn) (hl : Pn ≤ 1000) (hS : S ≤ 1000)
    (hp1 : p.who < 1000000) (hp2 : p.seq < 1000000000000000) (hp3 : p.body.size < 100000) (ht : X.slots[p.at_]? = some t) :
    Calls Try.prog 48 #[.agg #[.slice sao S scap, .slice wao Pn wcap, .slice (some ⟨pg, 0, none⟩) Pn pcap], .int .i64 who, .agg #[.int .i64 p.next, .int .i64 p.at_, .int .i64 p.who, .int .i64 p.seq, .string p.body, .string p.offer]] w fun e w' =>
      RStep w S Pn sao scap wao wcap e w' { X with P := X.P.set who (p.sees S t).2 } (p.sees S t).1 := by
  obtain ⟨sg, rfl, _, hat⟩ := str_at hR.s ht
  obtain ⟨hB, hC, hD, hQ, hE, hsz⟩ := alloc_four w (.cells #[.slice (some ⟨sg, 0, none⟩) S scap, .slice wao Pn wcap, .slice (some ⟨pg, 0, none⟩) Pn pcap] 37) (.cells #[.int .i64 p.next, .int .i64 p.at_, .int .i64 p.who, .int .i64 p.seq, .string p.body, .string p.offer] 62) (.cells #[.slice none 0 0, .slice none 0 0, .slice none 0 0] 37) (.cells #[.bool false, .bool false, .int .i64 0] 65)
  have hw0 : (0 : Int) ≤ who := by omega
  have hwi : (who : Int) < Pn := by omega
  have ha0 : (0 : Int) ≤ p.at_ := by omega
  have ha1 : (p.at_ : Int) < S := by omega
  have ha2 : (p.at_ : Int) ≤ 1000 := by omega
  go_enter Try.func48, Try.ntmps48
  go_upto_region 1 with fail
  have hRW := hR.ext0 hE
  generalize (((w.alloc (.cells #[.slice (some ⟨sg, 0, none⟩) S scap, .slice wao Pn wcap, .slice (some ⟨pg, 0, none⟩) Pn pcap] 37)).alloc (.cells #[.int .i64 p.next, .int .i64 p.at_, .int .i64 p.who, .int .i64 p.seq, .string p.body, .string p.offer] 62)).alloc (.cells #[.slice none 0 0, .slice none 0 0, .slice none 0 0] 37)).alloc (.cells #[.bool false, .bool false, .int .i64 0] 65) = W at *
  generalize hBB : w.heap.size = B at *
  have hcell := str_at' hRW.s ht
  have b0 := cellAt hB 0
  have c0 := cellAt hC 0
  have c1 := cellAt hC 1
  have cf := freeAt hC
  simp at b0 c0 c1
  go_upto_region 4 with fail
  have hC3 : ((W.setCell ⟨B + 1, 1, none⟩ (.int .i64 (↑p.at_ + 1))).setCell ⟨B + 1, 0, none⟩ (.int .i64 2)).heap[B + 1]? = some (.cells #[.int .i64 2, .int .i64 (↑p.at_ + 1), .int .i64 p.who, .int .i64 p.seq, .string p.body, .string p.offer] 62 (0, 0)) := by
    refine (heap_set (heap_set hC 1 _) 0 _).trans ?_
    simp
  have hfar : ∀ q, q ≠ B + 1 → ((W.setCell ⟨B + 1, 1, none⟩ (.int .i64 (↑p.at_ + 1))).setCell ⟨B + 1, 0, none⟩ (.int .i64 2)).heap[q]? = W.heap[q]? := by
    intro q h
    rw [heap_set_ne _ _ _ (Ne.symm h), heap_set_ne _ _ _ (Ne.symm h)]
  have hB3 := (hfar B (by omega)).trans hB
  have hD3 := (hfar (B + 1 + 1) (by omega)).trans hD
  have hQ3 := (hfar (B + 1 + 1 + 1) (by omega)).trans hQ
  have hE3 : Ext [] w ((W.setCell ⟨B + 1, 1, none⟩ (.int .i64 (↑p.at_ + 1))).setCell ⟨B + 1, 0, none⟩ (.int .i64 2)) := by
    repeat (refine Ext.setN (by omega) ?_ _ _)
    exact hE
  clear hfar b0 c0 c1 cf hcell hB hC hD hQ hE hRW
  generalize (W.setCell ⟨B + 1, 1, none⟩ (.int .i64 (↑p.at_ + 1))).setCell ⟨B + 1, 0, none⟩ (.int .i64 2) = W3 at *
  have c2 := cellAt hC3 2
  have c3 := cellAt hC3 3
  have c4 := cellAt hC3 4
  simp at c2 c3 c4
  have hsb : ∀ q, (Value.slice (some ⟨sg, 0, none⟩) S scap).ownBlock = some q → q < B := fun q h => by have := hR.s.lt h; omega
  have hwb : ∀ q, (Value.slice wao Pn wcap).ownBlock = some q → q < B := fun q h => by have := hR.w.lt h; omega
  by_cases he : (t.toList == (recText p.who p.seq p.body).toList) = true
  · have hd : p.sees S t = (⟨true, false, p.at_⟩, { p with at_ := p.at_ + 1, next := 0 }) := by unfold RP.sees; rw [if_pos he]
    have HD := Hs.hid hd; clear hd
    go_upto_region 6 with (go_at_call 56; refine (refText_any p.who p.seq p.body _ hp1 hp2 hp3).mono ?_; rintro e w5 ⟨rfl, hx5⟩; have hB5 := hx5.same hB3 (by simp); have hC5 := hx5.same hC3 (by simp); have hD5 := hx5.same hD3 (by simp); have hQ5 := hx5.same hQ3 (by simp); have hE5 := hE3.trans0 hx5; have b0 := cellAt hB5 0; have b1 := cellAt hB5 1; have b2 := cellAt hB5 2; clear c2 c3 c4; have c0 := cellAt hC5 0; have c1 := cellAt hC5 1; have c2 := cellAt hC5 2; have c3 := cellAt hC5 3; have c4 := cellAt hC5 4; have c5 := cellAt hC5 5; have cf := freeAt hC5; simp at b0 b1 b2 c0 c1 c2 c3 c4 c5)
    have hB7 := (heap_set_ne w5 ⟨B + 1, 0, none⟩ (.int .i64 0) (by show B + 1 ≠ B; omega)).trans hB5
    have hC7 := heap_set hC5 0 (.int .i64 0)
    simp at hC7
    have hD7 := (heap_set_ne w5 ⟨B + 1, 0, none⟩ (.int .i64 0) (by show B + 1 ≠ B + 1 + 1; omega)).trans hD5
    have hQ7 := (heap_set_ne w5 ⟨B + 1, 0, none⟩ (.int .i64 0) (by show B + 1 ≠ B + 1 + 1 + 1; omega)).trans hQ5
    have hE7 : Ext [] w (w5.setCell ⟨B + 1, 0, none⟩ (.int .i64 0)) := Ext.setN (b := B + 1) (by omega) hE5 0 (.int .i64 0)
    generalize w5.setCell ⟨B + 1, 0, none⟩ (.int .i64 0) = W7 at *
    clear b0 b1 b2 c0 c1 c2 c3 c4 c5 cf hE5 hD5 hQ5 hB5 hC5
    have b0 := cellAt hB7 0
    have b1 := cellAt hB7 1
    have b2 := cellAt hB7 2
    have c0 := cellAt hC7 0
    have c1 := cellAt hC7 1
    have c2 := cellAt hC7 2
    have c3 := cellAt hC7 3
    have c4 := cellAt hC7 4
    have c5 := cellAt hC7 5
    simp at b0 b1 b2 c0 c1 c2 c3 c4 c5
    have hsub : IntKind.i64.wrap (↑p.at_ + 1 - 1) = ↑p.at_ := by rw [IntWalk.i64_in _ (by omega)]; omega
    have hwr : IntKind.i64.wrap (p.at_ : Int) = p.at_ := IntWalk.i64_in _ (by omega)
    have hs7 := lt_of_heap hQ7
    have hE5 := hE7
    have n1 : ¬ B + 1 + 1 = B := by omega
    have n2 : ¬ B = B + 1 + 1 := by omega
    have n3 : ¬ B + 1 + 1 + 1 = B := by omega
    have n4 : ¬ B = B + 1 + 1 + 1 := by omega
    have n5 : ¬ B + 1 + 1 = B + 1 := by omega
    have n6 : ¬ B + 1 = B + 1 + 1 := by omega
    have n7 : ¬ B + 1 + 1 + 1 = B + 1 := by omega
    have n8 : ¬ B + 1 = B + 1 + 1 + 1 := by omega
    go_region_held3 (fun w' => w'.cell? ⟨B, 0, none⟩ = some (.slice (some ⟨sg, 0, none⟩) S scap) ∧ w'.cell? ⟨B, 1, none⟩ = some (.slice wao Pn wcap) ∧ w'.cell? ⟨B, 2, none⟩ = some (.slice (some ⟨pg, 0, none⟩) Pn pcap) ∧
        w'.cell? ⟨B + 1, 0, none⟩ = some (.int .i64 0) ∧ w'.cell? ⟨B + 1, 1, none⟩ = some (.int .i64 (↑p.at_ + 1)) ∧ w'.cell? ⟨B + 1, 2, none⟩ = some (.int .i64 p.who) ∧ w'.cell? ⟨B + 1, 3, none⟩ = some (.int .i64 p.seq) ∧ w'.cell? ⟨B + 1, 4, none⟩ = some (.string p.body) ∧ w'.cell? ⟨B + 1, 5, none⟩ = some (.string p.offer))
      (first
        | go_keep
        | exact ⟨b0, b1, b2, c0, c1, c2, c3, c4, c5⟩
        | ((try dsimp only); (repeat' apply And.intro) <;> first | go_keep | (rw [World.cell?_setCell_far _ _ _ _ (by omega), World.cell?_setCell_far _ _ _ _ (by omega), World.cell?_setCell_far _ _ _ _ (by omega)]; assumption)))
      (first
        | (go_at_call 49; (refine (set_any S Pn (some ⟨sg, 0, none⟩) scap wao wcap pg pcap X who { p with at_ := p.at_ + 1, next := 0 } _ ?_ hw hl).mono ?_); (exact hR.ext0 (hE7.drew)); rintro e w8 ⟨g3, cap3, rfl, hR8, hx8, hg8⟩; have hD8 := hx8.same (hD7) (by simp); have hQ8 := hx8.same (hQ7) (by simp); have d0 := cellAt hD8 0; have d1 := cellAt hD8 1; have d2 := cellAt hD8 2; have df := freeAt hD8; have q0 := cellAt hQ8 0; have q1 := cellAt hQ8 1; have q2 := cellAt hQ8 2; have qf := freeAt hQ8; have hB8 := hx8.same hB7 (by simp); have hC8 := hx8.same hC7 (by simp); clear b0 b1 b2 c0 c1 c2 c3 c4 c5; have b0 := cellAt hB8 0; have b1 := cellAt hB8 1; have b2 := cellAt hB8 2; have c0 := cellAt hC8 0; have c1 := cellAt hC8 1; have c2 := cellAt hC8 2; have c3 := cellAt hC8 3; have c4 := cellAt hC8 4; have c5 := cellAt hC8 5; simp at d0 d1 d2 q0 q1 q2 b0 b1 b2 c0 c1 c2 c3 c4 c5))
    all_goals
      go_wp2_with fail
      have hs8 : B + 1 + 1 + 1 < g3 := by have := hs7; first | omega | (simp at hg8; omega)
      refine bodyPost_ret (v := .tuple #[.agg #[.slice (some ⟨sg, 0, none⟩) S scap, .slice wao Pn wcap, .slice (some ⟨g3, 0, none⟩) Pn cap3], .agg #[.bool true, .bool false, .int .i64 p.at_]]) (by simp [results, Try.results48, go_sem, d0, d1, d2, q0, q1, q2, hwr]) rfl ⟨some ⟨sg, 0, none⟩, scap, wao, wcap, g3, cap3, by first | (rw [HD.out]; done) | (rw [HD.out]; rfl), ?_, ?_, .inl rfl, .inl rfl, by have := hE5.size; have := hs8; omega⟩
      · rw [HD.out]
        refine hR8.ext (F := [B + 1 + 1, B + 1 + 1 + 1]) (Ext.set' (by simp) (Ext.set' (by simp) (Ext.set' (by simp) (Ext.set' (by simp) (Ext.set' (by simp) (Ext.set' (by simp) (Ext.refl _ _) _ _) _ _) _ _) _ _) _ _) _ _) ?_
        intro q hq
        rcases hq with h | h | h
        · have := hsb q h; simp; omega
        · have := hwb q h; simp; omega
        · have := hs8; simp; omega
      · repeat (refine Ext.setN (by omega) ?_ _ _)
        exact (hE7.drew).trans0 hx8

  · have he' : (t.toList == (recText p.who p.seq p.body).toList) = false := by simpa using he
    by_cases hf : S ≤ p.at_ + 1
    · have hd : p.sees S t = (⟨true, true, 0⟩, { p with at_ := p.at_ + 1, next := 0 }) := by unfold RP.sees; rw [if_neg he, if_pos hf]
      have HD := Hs.hid hd; clear hd he
      have hfb : decide ((S : Int) ≤ p.at_ + 1) = true := by simp; omega
      have hfi : (S : Int) ≤ p.at_ + 1 := by omega
      go_wp2_with (first | (go_at_call 56; refine (refText_any p.who p.seq p.body _ hp1 hp2 hp3).mono ?_; rintro e w5 ⟨rfl, hx5⟩; have hB5 := hx5.same hB3 (by simp); have hC5 := hx5.same hC3 (by simp); have hD5 := hx5.same hD3 (by simp); have hQ5 := hx5.same hQ3 (by simp); have hE5 := hE3.trans0 hx5; have b0 := cellAt hB5 0; have b1 := cellAt hB5 1; have b2 := cellAt hB5 2; clear c2 c3 c4; have c0 := cellAt hC5 0; have c1 := cellAt hC5 1; have c2 := cellAt hC5 2; have c3 := cellAt hC5 3; have c4 := cellAt hC5 4; have c5 := cellAt hC5 5; have cf := freeAt hC5; simp at b0 b1 b2 c0 c1 c2 c3 c4 c5) | (go_at_call 49; (refine (set_any S Pn (some ⟨sg, 0, none⟩) scap wao wcap pg pcap X who { p with at_ := p.at_ + 1, next := 0 } _ ?_ hw hl).mono ?_); (exact hR.ext0 (Ext.setN (b := B + 1) (by omega) hE5 0 (.int .i64 0))); rintro e w8 ⟨g3, cap3, rfl, hR8, hx8, hg8⟩; have hD8 := hx8.same ((heap_set_ne w5 ⟨B + 1, 0, none⟩ (.int .i64 0) (by show B + 1 ≠ B + 1 + 1; omega)).trans hD5) (by simp); have hQ8 := hx8.same ((heap_set_ne w5 ⟨B + 1, 0, none⟩ (.int .i64 0) (by show B + 1 ≠ B + 1 + 1 + 1; omega)).trans hQ5) (by simp); have d0 := cellAt hD8 0; have d1 := cellAt hD8 1; have d2 := cellAt hD8 2; have df := freeAt hD8; have q0 := cellAt hQ8 0; have q1 := cellAt hQ8 1; have q2 := cellAt hQ8 2; have qf := freeAt hQ8; simp at d0 d1 d2 q0 q1 q2))
      have hs8 : B + 1 + 1 + 1 < g3 := by have := lt_of_heap hQ5; first | omega | (simp at hg8; omega)
      refine bodyPost_ret (v := .tuple #[.agg #[.slice (some ⟨sg, 0, none⟩) S scap, .slice wao Pn wcap, .slice (some ⟨g3, 0, none⟩) Pn cap3], .agg #[.bool true, .bool true, .int .i64 0]]) (by simp [results, Try.results48, go_sem, d0, d1, d2, q0, q1, q2]) rfl ⟨some ⟨sg, 0, none⟩, scap, wao, wcap, g3, cap3, by first | (rw [HD.out]; done) | (rw [HD.out]; rfl), ?_, ?_, .inl rfl, .inl rfl, by have := hE5.size; have := hs8; omega⟩
      · rw [HD.out]
        refine hR8.ext (F := [B + 1 + 1, B + 1 + 1 + 1]) (Ext.set' (by simp) (Ext.set' (by simp) (Ext.set' (by simp) (Ext.set' (by simp) (Ext.set' (by simp) (Ext.set' (by simp) (Ext.refl _ _) _ _) _ _) _ _) _ _) _ _) _ _) ?_
        intro q hq
        rcases hq with h | h | h
        · have := hsb q h; simp; omega
        · have := hwb q h; simp; omega
        · have := hs8; simp; omega
      · repeat (refine Ext.setN (by omega) ?_ _ _)
        exact (Ext.setN (b := B + 1) (by omega) hE5 0 (.int .i64 0)).trans0 hx8

    · have hd : p.sees S t = (.no, { p with at_ := p.at_ + 1, next := 2 }) := by unfold RP.sees; rw [if_neg he, if_neg hf]
      have HD := Hs.hid hd; clear hd he
      have hfb : decide ((S : Int) ≤ p.at_ + 1) = false := by simp; omega
      have hfi : ¬ (S : Int) ≤ p.at_ + 1 := by omega
      go_wp2_with (first | (go_at_call 56; refine (refText_any p.who p.seq p.body _ hp1 hp2 hp3).mono ?_; rintro e w5 ⟨rfl, hx5⟩; have hB5 := hx5.same hB3 (by simp); have hC5 := hx5.same hC3 (by simp); have hD5 := hx5.same hD3 (by simp); have hQ5 := hx5.same hQ3 (by simp); have hE5 := hE3.trans0 hx5; have b0 := cellAt hB5 0; have b1 := cellAt hB5 1; have b2 := cellAt hB5 2; clear c2 c3 c4; have c0 := cellAt hC5 0; have c1 := cellAt hC5 1; have c2 := cellAt hC5 2; have c3 := cellAt hC5 3; have c4 := cellAt hC5 4; have c5 := cellAt hC5 5; have cf := freeAt hC5; simp at b0 b1 b2 c0 c1 c2 c3 c4 c5) | (go_at_call 49; (refine (set_any S Pn (some ⟨sg, 0, none⟩) scap wao wcap pg pcap X who { p with at_ := p.at_ + 1, next := 2 } _ ?_ hw hl).mono ?_); (exact hR.ext0 (hE5)); rintro e w8 ⟨g3, cap3, rfl, hR8, hx8, hg8⟩; have hD8 := hx8.same (hD5) (by simp); have hQ8 := hx8.same (hQ5) (by simp); have d0 := cellAt hD8 0; have d1 := cellAt hD8 1; have d2 := cellAt hD8 2; have df := freeAt hD8; have q0 := cellAt hQ8 0; have q1 := cellAt hQ8 1; have q2 := cellAt hQ8 2; have qf := freeAt hQ8; simp at d0 d1 d2 q0 q1 q2))
      have hs8 : B + 1 + 1 + 1 < g3 := by have := lt_of_heap hQ5; first | omega | (simp at hg8; omega)
      refine bodyPost_ret (v := .tuple #[.agg #[.slice (some ⟨sg, 0, none⟩) S scap, .slice wao Pn wcap, .slice (some ⟨g3, 0, none⟩) Pn cap3], .agg #[.bool false, .bool false, .int .i64 0]]) (by simp [results, Try.results48, go_sem, d0, d1, d2, q0, q1, q2]) rfl ⟨some ⟨sg, 0, none⟩, scap, wao, wcap, g3, cap3, by first | (rw [HD.out]; done) | (rw [HD.out]; rfl), ?_, ?_, .inl rfl, .inl rfl, by have := hE5.size; have := hs8; omega⟩
      · rw [HD.out]
        refine hR8.ext (F := [B + 1 + 1, B + 1 + 1 + 1]) (Ext.set' (by simp) (Ext.set' (by simp) (Ext.set' (by simp) (Ext.set' (by simp) (Ext.set' (by simp) (Ext.set' (by simp) (Ext.refl _ _) _ _) _ _) _ _) _ _) _ _) _ _) ?_
        intro q hq
        rcases hq with h | h | h
        · have := hsb q h; simp; omega
        · have := hwb q h; simp; omega
        · have := hs8; simp; omega
      · repeat (refine Ext.setN (by omega) ?_ _ _)
        exact (hE5).trans0 hx8

end Go.Proofs.Ytkhihpmadmmeaaa
set_option linter.unusedSimpArgs false
set_option linter.unusedVariables false
set_option maxHeartbeats 2000000
set_option maxRecDepth 100000
namespace Go.Proofs.Ytkhihpmadmmeaaa
open Go.RowKit Go.Hs

/-- What it offers. -/
noncomputable def RP.helps (p : RP) (L : List ByteArray) (t : ByteArray) : RP :=
  { p with offer := if (parseR t).2.2.2 = 0 ∧ knownF (L.take p.at_) (parseR t).1 < (parseR t).2.1 then t else recText p.who p.seq p.body, next := 4 }
theorem refHelp_any (S Pn : Nat) (sao : Option Addr) (scap : Nat) (wao : Option Addr) (wcap pg pcap : Nat) (X : RW) (who : Nat) (p : RP) (t : ByteArray) (w : World) (hR : RefV w.heap S Pn sao scap wao wcap pg pcap X) (hw : who < Pn) (hl : Pn ≤ 1000) (hS : S ≤ 1000)
    (hp1 : p.who < 1000000) (hp2 : p.seq < 1000000000000000) (hp3 : p.body.size < 100000) (hat : p.at_ ≤ S) (ht : X.wishes[p.at_ % Pn]? = some t) :
    Calls Try.prog 50 #[.agg #[.slice sao S scap, .slice wao Pn wcap, .slice (some ⟨pg, 0, none⟩) Pn pcap], .int .i64 who, .agg #[.int .i64 p.next, .int .i64 p.at_, .int .i64 p.who, .int .i64 p.seq, .string p.body, .string p.offer]] w fun e w' =>
      ∃ g2 cap2, e = .returned (.agg #[.slice sao S scap, .slice wao Pn wcap, .slice (some ⟨g2, 0, none⟩) Pn cap2]) ∧ RefV w'.heap S Pn sao scap wao wcap g2 cap2 { X with P := X.P.set who (p.helps X.slots t) } ∧ Ext [] w w' ∧ w.heap.size ≤ g2 := by
  obtain ⟨wg, rfl, _, hmod⟩ := str_at hR.w ht
  obtain ⟨hB, hC, hD, hE, hsz⟩ := alloc_three w (.cells #[.slice sao S scap, .slice (some ⟨wg, 0, none⟩) Pn wcap, .slice (some ⟨pg, 0, none⟩) Pn pcap] 37) (.cells #[.int .i64 p.next, .int .i64 p.at_, .int .i64 p.who, .int .i64 p.seq, .string p.body, .string p.offer] 62) (.cells #[.slice none 0 0, .slice none 0 0, .slice none 0 0] 37)
  have hw0 : (0 : Int) ≤ who := by omega
  have hwi : (who : Int) < Pn := by omega
  have ha0 : (0 : Int) ≤ p.at_ := by omega
  have ha2 : (p.at_ : Int) ≤ 1000 := by omega
  have hPz : ¬ (Pn : Int) = 0 := by omega
  have hPn : ¬ Pn = 0 := by omega
  have htm : Int.tmod (p.at_ : Int) (Pn : Int) = ((p.at_ % Pn : Nat) : Int) := by
    rw [Int.tmod_eq_emod_of_nonneg (Int.natCast_nonneg _)]; rfl
  have htw : IntKind.i64.wrap ((p.at_ % Pn : Nat) : Int) = ((p.at_ % Pn : Nat) : Int) := IntWalk.i64_in _ (by omega)
  have hm0 : (0 : Int) ≤ ((p.at_ % Pn : Nat) : Int) := by omega
  have hm1 : ((p.at_ % Pn : Nat) : Int) < Pn := by omega
  generalize hK : p.at_ % Pn = K at *
  go_enter Try.func50, Try.ntmps50
  go_upto_region 1 with fail
  have hRW := hR.ext0 hE
  generalize ((w.alloc (.cells #[.slice sao S scap, .slice (some ⟨wg, 0, none⟩) Pn wcap, .slice (some ⟨pg, 0, none⟩) Pn pcap] 37)).alloc (.cells #[.int .i64 p.next, .int .i64 p.at_, .int .i64 p.who, .int .i64 p.seq, .string p.body, .string p.offer] 62)).alloc (.cells #[.slice none 0 0, .slice none 0 0, .slice none 0 0] 37) = W at *
  generalize hBB : w.heap.size = B at *
  have hcell := str_at' hRW.w ht
  have b0 := cellAt hB 0
  have b1 := cellAt hB 1
  have b2 := cellAt hB 2
  have c1 := cellAt hC 1
  have c2 := cellAt hC 2
  have c3 := cellAt hC 3
  have c4 := cellAt hC 4
  simp at b0 b1 b2 c1 c2 c3 c4
  go_quiet (fail)
  have hcD : (W.drewN nq).heap = W.heap := rfl
  have hE' : Ext [] w (W.drewN nq) := hE.drewN nq
  rw [← hcD] at hB hC hD
  generalize W.drewN nq = W1 at *
  clear hcD b0 b1 b2 c1 c2 c3 c4 hcell htm htw hm0 hm1 hRW hE
  have c2 := cellAt hC 2
  have c3 := cellAt hC 3
  have c4 := cellAt hC 4
  simp at c2 c3 c4
  obtain ⟨r1, r2, r3, r4, hr⟩ : ∃ r1 r2 r3 r4, parseR t = (r1, r2, r3, r4) := ⟨_, _, _, _, rfl⟩
  have hh : p.helps X.slots t = { p with offer := if r4 = 0 ∧ knownF (X.slots.take p.at_) r1 < r2 then t else recText p.who p.seq p.body, next := 4 } := by unfold RP.helps; rw [hr]
  have HH := Hs.hid hh; clear hh
  have HR := Hs.hid hr; clear hr
  go_upto_region 4 with (first
    | (go_at_call 56; refine (refText_any p.who p.seq p.body _ hp1 hp2 hp3).mono ?_; rintro e w5 ⟨rfl, hx5⟩; have hC5 := hx5.same hC (by simp); have k5 := cellAt hC5 5; have kf := freeAt hC5; simp at k5)
    | (go_at_call 57; refine (refParse_any t r1 r2 r4 r3 HR.out _).mono ?_; rintro e w6 ⟨rfl, hx6⟩))
  have hA6 := heap_new w6 (.cells #[.int .i64 r1, .int .i64 r2, .string r3] 60)
  have hB6 := heap_old' _ (.cells #[.int .i64 r1, .int .i64 r2, .string r3] 60) (hx6.same ((heap_set_ne w5 ⟨B + 1, 5, none⟩ (.string (recText p.who p.seq p.body)) (by show B + 1 ≠ B; omega)).trans (hx5.same hB (by simp))) (by simp))
  have hD6 := heap_old' _ (.cells #[.int .i64 r1, .int .i64 r2, .string r3] 60) (hx6.same ((heap_set_ne w5 ⟨B + 1, 5, none⟩ (.string (recText p.who p.seq p.body)) (by show B + 1 ≠ B + 1 + 1; omega)).trans (hx5.same hD (by simp))) (by simp))
  have hC6 := heap_old' _ (.cells #[.int .i64 r1, .int .i64 r2, .string r3] 60) (hx6.same (heap_set hC5 5 (.string (recText p.who p.seq p.body))) (by simp))
  simp at hC6
  have hE6 : Ext [] w (w6.alloc (.cells #[.int .i64 r1, .int .i64 r2, .string r3] 60)) := (((Ext.setN (b := B + 1) (by omega) (hE'.trans0 hx5) 5 (.string (recText p.who p.seq p.body)))).trans0 hx6).alloc _
  clear hx5 hx6 hC5 k5 kf c2 c3 c4 hB hC hD hE'
  generalize w6.alloc (.cells #[.int .i64 r1, .int .i64 r2, .string r3] 60) = W6 at *
  generalize w6.heap.size = A at *
  have hAl := lt_of_heap hA6
  have b0 := cellAt hB6 0
  have b1 := cellAt hB6 1
  have b2 := cellAt hB6 2
  have c0 := cellAt hC6 0
  have c1 := cellAt hC6 1
  have c2 := cellAt hC6 2
  have c3 := cellAt hC6 3
  have c4 := cellAt hC6 4
  have c5 := cellAt hC6 5
  have a0 := cellAt hA6 0
  have a1 := cellAt hA6 1
  have cf := freeAt hC6
  simp at b0 b1 b2 c0 c1 c2 c3 c4 c5 a0 a1
  by_cases h4 : r4 = 0
  · subst h4
    have hRk := hR.ext0 hE6
    go_cut [41] (fun s wx => s = .bool (decide (knownF (X.slots.take p.at_) r1 < r2)) ∧ Ext [] W6 wx)
    case first =>
      go_region_held3 (fun w' => w'.cell? ⟨B, 0, none⟩ = some (.slice sao S scap) ∧ w'.cell? ⟨B, 1, none⟩ = some (.slice (some ⟨wg, 0, none⟩) Pn wcap) ∧ w'.cell? ⟨B, 2, none⟩ = some (.slice (some ⟨pg, 0, none⟩) Pn pcap) ∧
          w'.cell? ⟨B + 1, 1, none⟩ = some (.int .i64 p.at_) ∧ w'.cell? ⟨A, 0, none⟩ = some (.int .i64 r1) ∧ w'.cell? ⟨A, 1, none⟩ = some (.int .i64 r2))
        (first
          | go_keep
          | exact ⟨b0, b1, b2, c1, a0, a1⟩)
        (first
          | (go_at_call 58; (with_reducible refine (known_any S Pn sao scap (some ⟨wg, 0, none⟩) wcap pg pcap X p.at_ r1 _ ?_ hat hS).mono ?_); exact hRk; rintro e w7 ⟨rfl, hx7⟩; have hB7 := hx7.same hB6 (by simp); have hC7 := hx7.same hC6 (by simp); have hA7 := hx7.same hA6 (by simp); clear b0 b1 b2 c0 c1 c2 c3 c4 c5 a0 a1; have b0 := cellAt hB7 0; have b1 := cellAt hB7 1; have b2 := cellAt hB7 2; have c1 := cellAt hC7 1; have a0 := cellAt hA7 0; have a1 := cellAt hA7 1; simp at b0 b1 b2 c1 a0 a1))
      all_goals
        go_wp2_with fail
        go_meet
        exact ⟨rfl, (Ext.refl _ _).drew.trans' hx7⟩
    case rest =>
      obtain ⟨rfl, hx⟩ := hcut
      have hB8 := hx.same hB6 (by simp)
      have hC8 := hx.same hC6 (by simp)
      have hD8 := hx.same hD6 (by simp)
      have hE8 := hE6.trans0 hx
      clear b0 b1 b2 c0 c1 c2 c3 c4 c5 a0 a1 cf hx hRk
      by_cases hk : knownF (X.slots.take p.at_) r1 < r2
      · have hh : p.helps X.slots t = { p with offer := t, next := 4 } := by rw [HH.out, if_pos ⟨rfl, hk⟩]
        have HG := Hs.hid hh; clear hh
        have hkb : decide (knownF (X.slots.take p.at_) r1 < r2) = true := decide_eq_true hk
        rw [hkb]
        clear hk hkb
        generalize wc = WX at *
        have c0 := cellAt hC8 0
        have c5 := cellAt hC8 5
        have cf := freeAt hC8
        simp at c0 c5
        go_upto_region 7 with fail
        have hC9 := heap_set (heap_set (hC8) 5 (.string t)) 0 (.int .i64 4)
        simp at hC9
        have hE9 : Ext [] w (((WX).setCell ⟨B + 1, 5, none⟩ (.string t)).setCell ⟨B + 1, 0, none⟩ (.int .i64 4)) := by
          repeat (refine Ext.setN (by omega) ?_ _ _)
          exact hE8
        have hfar : ∀ q, q ≠ B + 1 → (((WX).setCell ⟨B + 1, 5, none⟩ (.string t)).setCell ⟨B + 1, 0, none⟩ (.int .i64 4)).heap[q]? = WX.heap[q]? := by
          intro q hq
          rw [heap_set_ne _ _ _ (Ne.symm hq), heap_set_ne _ _ _ (Ne.symm hq)]
        have hB9 := (hfar B (by omega)).trans hB8
        have hD9 := (hfar (B + 1 + 1) (by omega)).trans hD8
        have hR9 := hR.ext0 hE9
        generalize ((WX).setCell ⟨B + 1, 5, none⟩ (.string t)).setCell ⟨B + 1, 0, none⟩ (.int .i64 4) = W9 at *
        clear c0 c5 cf hfar
        have b0 := cellAt hB9 0
        have b1 := cellAt hB9 1
        have b2 := cellAt hB9 2
        have c0 := cellAt hC9 0
        have c1 := cellAt hC9 1
        have c2 := cellAt hC9 2
        have c3 := cellAt hC9 3
        have c4 := cellAt hC9 4
        have c5 := cellAt hC9 5
        simp at b0 b1 b2 c0 c1 c2 c3 c4 c5
        have hs9 := hE9.size
        go_wp2_with (go_at_call 49; (refine (set_any S Pn sao scap (some ⟨wg, 0, none⟩) wcap pg pcap X who { p with offer := t, next := 4 } _ hR9 hw hl).mono ?_); rintro e w8 ⟨g2, cap2, rfl, hR8, hx8, hg8⟩; have hDx := hx8.same hD9 (by simp); have d0 := cellAt hDx 0; have d1 := cellAt hDx 1; have d2 := cellAt hDx 2; have df := freeAt hDx; simp at d0 d1 d2)
        refine bodyPost_ret (v := .agg #[.slice sao S scap, .slice (some ⟨wg, 0, none⟩) Pn wcap, .slice (some ⟨g2, 0, none⟩) Pn cap2]) (by simp [results, Try.results50, go_sem, d0, d1, d2]) rfl ⟨g2, cap2, rfl, ?_, ?_, by omega⟩
        · rw [HG.out]
          refine hR8.ext (F := [B + 1 + 1]) (Ext.set' (by simp) (Ext.set' (by simp) (Ext.set' (by simp) (Ext.refl _ _) _ _) _ _) _ _) ?_
          intro q hq
          rcases hq with h | h | h
          · have := hR.s.lt h; simp; omega
          · have := hR.w.lt h; simp; omega
          · have := lt_of_heap hD9; simp; omega
        · repeat (refine Ext.setN (by omega) ?_ _ _)
          exact hE9.trans0 hx8
      · have hh : p.helps X.slots t = { p with offer := recText p.who p.seq p.body, next := 4 } := by rw [HH.out, if_neg (fun h => hk h.2)]
        have HG := Hs.hid hh; clear hh
        have hkb : decide (knownF (X.slots.take p.at_) r1 < r2) = false := decide_eq_false hk
        rw [hkb]
        clear hk hkb
        generalize wc = WX at *
        have c0 := cellAt hC8 0
        have c5 := cellAt hC8 5
        have cf := freeAt hC8
        simp at c0 c5
        go_upto_region 7 with fail
        have hC9 := heap_set (hC8) 0 (.int .i64 4)
        simp at hC9
        have hE9 : Ext [] w ((WX).setCell ⟨B + 1, 0, none⟩ (.int .i64 4)) := by
          repeat (refine Ext.setN (by omega) ?_ _ _)
          exact hE8
        have hfar : ∀ q, q ≠ B + 1 → ((WX).setCell ⟨B + 1, 0, none⟩ (.int .i64 4)).heap[q]? = WX.heap[q]? := by
          intro q hq
          rw [heap_set_ne _ _ _ (Ne.symm hq)]
        have hB9 := (hfar B (by omega)).trans hB8
        have hD9 := (hfar (B + 1 + 1) (by omega)).trans hD8
        have hR9 := hR.ext0 hE9
        generalize (WX).setCell ⟨B + 1, 0, none⟩ (.int .i64 4) = W9 at *
        clear c0 c5 cf hfar
        have b0 := cellAt hB9 0
        have b1 := cellAt hB9 1
        have b2 := cellAt hB9 2
        have c0 := cellAt hC9 0
        have c1 := cellAt hC9 1
        have c2 := cellAt hC9 2
        have c3 := cellAt hC9 3
        have c4 := cellAt hC9 4
        have c5 := cellAt hC9 5
        simp at b0 b1 b2 c0 c1 c2 c3 c4 c5
        have hs9 := hE9.size
        go_wp2_with (go_at_call 49; (refine (set_any S Pn sao scap (some ⟨wg, 0, none⟩) wcap pg pcap X who { p with offer := recText p.who p.seq p.body, next := 4 } _ hR9 hw hl).mono ?_); rintro e w8 ⟨g2, cap2, rfl, hR8, hx8, hg8⟩; have hDx := hx8.same hD9 (by simp); have d0 := cellAt hDx 0; have d1 := cellAt hDx 1; have d2 := cellAt hDx 2; have df := freeAt hDx; simp at d0 d1 d2)
        refine bodyPost_ret (v := .agg #[.slice sao S scap, .slice (some ⟨wg, 0, none⟩) Pn wcap, .slice (some ⟨g2, 0, none⟩) Pn cap2]) (by simp [results, Try.results50, go_sem, d0, d1, d2]) rfl ⟨g2, cap2, rfl, ?_, ?_, by omega⟩
        · rw [HG.out]
          refine hR8.ext (F := [B + 1 + 1]) (Ext.set' (by simp) (Ext.set' (by simp) (Ext.set' (by simp) (Ext.refl _ _) _ _) _ _) _ _) ?_
          intro q hq
          rcases hq with h | h | h
          · have := hR.s.lt h; simp; omega
          · have := hR.w.lt h; simp; omega
          · have := lt_of_heap hD9; simp; omega
        · repeat (refine Ext.setN (by omega) ?_ _ _)
          exact hE9.trans0 hx8
  · have hh : p.helps X.slots t = { p with offer := recText p.who p.seq p.body, next := 4 } := by rw [HH.out, if_neg (fun h => h4 h.1)]
    have HG := Hs.hid hh; clear hh
    have h4b : (r4 == 0) = false := by simpa using h4
    have hcD : ∀ n, (W6.drewN n).heap = W6.heap := fun _ => rfl
    go_quiet (fail)
    have hB8 := hB6
    have hC8 := hC6
    have hD8 := hD6
    have hE8 := hE6.drewN nq
    rw [← hcD nq] at hB8 hC8 hD8
    generalize W6.drewN nq = wx at *
    clear b0 b1 b2 c0 c1 c2 c3 c4 c5 a0 a1 cf hcD
    generalize wx = WX at *
    have c0 := cellAt hC8 0
    have c5 := cellAt hC8 5
    have cf := freeAt hC8
    simp at c0 c5
    go_upto_region 7 with fail
    have hC9 := heap_set (hC8) 0 (.int .i64 4)
    simp at hC9
    have hE9 : Ext [] w ((WX).setCell ⟨B + 1, 0, none⟩ (.int .i64 4)) := by
      repeat (refine Ext.setN (by omega) ?_ _ _)
      exact hE8
    have hfar : ∀ q, q ≠ B + 1 → ((WX).setCell ⟨B + 1, 0, none⟩ (.int .i64 4)).heap[q]? = WX.heap[q]? := by
      intro q hq
      rw [heap_set_ne _ _ _ (Ne.symm hq)]
    have hB9 := (hfar B (by omega)).trans hB8
    have hD9 := (hfar (B + 1 + 1) (by omega)).trans hD8
    have hR9 := hR.ext0 hE9
    generalize (WX).setCell ⟨B + 1, 0, none⟩ (.int .i64 4) = W9 at *
    clear c0 c5 cf hfar
    have b0 := cellAt hB9 0
    have b1 := cellAt hB9 1
    have b2 := cellAt hB9 2
    have c0 := cellAt hC9 0
    have c1 := cellAt hC9 1
    have c2 := cellAt hC9 2
    have c3 := cellAt hC9 3
    have c4 := cellAt hC9 4
    have c5 := cellAt hC9 5
    simp at b0 b1 b2 c0 c1 c2 c3 c4 c5
    have hs9 := hE9.size
    go_wp2_with (go_at_call 49; (refine (set_any S Pn sao scap (some ⟨wg, 0, none⟩) wcap pg pcap X who { p with offer := recText p.who p.seq p.body, next := 4 } _ hR9 hw hl).mono ?_); rintro e w8 ⟨g2, cap2, rfl, hR8, hx8, hg8⟩; have hDx := hx8.same hD9 (by simp); have d0 := cellAt hDx 0; have d1 := cellAt hDx 1; have d2 := cellAt hDx 2; have df := freeAt hDx; simp at d0 d1 d2)
    refine bodyPost_ret (v := .agg #[.slice sao S scap, .slice (some ⟨wg, 0, none⟩) Pn wcap, .slice (some ⟨g2, 0, none⟩) Pn cap2]) (by simp [results, Try.results50, go_sem, d0, d1, d2]) rfl ⟨g2, cap2, rfl, ?_, ?_, by omega⟩
    · rw [HG.out]
      refine hR8.ext (F := [B + 1 + 1]) (Ext.set' (by simp) (Ext.set' (by simp) (Ext.set' (by simp) (Ext.refl _ _) _ _) _ _) _ _) ?_
      intro q hq
      rcases hq with h | h | h
      · have := hR.s.lt h; simp; omega
      · have := hR.w.lt h; simp; omega
      · have := lt_of_heap hD9; simp; omega
    · repeat (refine Ext.setN (by omega) ?_ _ _)
      exact hE9.trans0 hx8
end Go.Proofs.Ytkhihpmadmmeaaa
