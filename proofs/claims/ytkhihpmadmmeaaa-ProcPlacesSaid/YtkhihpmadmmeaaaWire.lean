/-
  wire.Writer, and the text of a record: what the call writes.
-/
import Derived.Test.YtkhihpmadmmeaaaRows
import Derived.Test.YtkhihpmadmmeaaaBase
import Derived.Deep.QuietTactic
import Derived.BigQuiet
import Derived.Deep.RegionWith
import Derived.Deep.DeepCutAuto
import Derived.Deep.RegionHeld3
import Derived.Deep.CutBlock
set_option linter.unusedSimpArgs false
set_option linter.unusedVariables false
set_option maxHeartbeats 1000000
set_option maxRecDepth 100000
namespace Go.Proofs.Ytkhihpmadmmeaaa
open Go.RowKit Go.Hs

def shrN (n y : Nat) : Nat := n / 2 ^ y
theorem shr_nat (n y : Nat) (yk : IntKind) (hn : n < 18446744073709551616) {Y : Int} (hY : Y = (y : Int)) : Op.shift .shr .u64 (n : Int) yk Y = pure (.int .u64 ((shrN n y : Nat) : Int)) := by
  subst hY
  have h0 : ¬ (y : Int) < 0 := by omega
  simp only [Op.shift, h0, if_false]
  congr 2
  have hp : (0 : Int) ≤ 2 ^ min (y : Int).toNat IntKind.u64.bits := Int.pow_nonneg (by decide)
  rw [Int.fdiv_eq_ediv_of_nonneg _ hp]
  unfold shrN
  rw [Int.toNat_natCast]
  by_cases h : y ≤ 64
  · have : min y IntKind.u64.bits = y := by simp [IntKind.bits]; omega
    rw [this]; simp
  · have : min y IntKind.u64.bits = 64 := by simp [IntKind.bits]; omega
    rw [this]
    have h1 : n / 2 ^ y = 0 := Nat.div_eq_of_lt (Nat.lt_of_lt_of_le hn (by
      have : 2 ^ 64 ≤ 2 ^ y := Nat.pow_le_pow_right (by decide) (by omega)
      simpa using this))
    rw [h1]
    exact Int.ediv_eq_zero_of_lt (by omega) (by simpa using (by omega : (n : Int) < 18446744073709551616))
def topK (n : Nat) (k : Nat) : Nat → Nat
  | 0 => k
  | f + 1 => if 0 < shrN n (7 * (k + 1)) ∧ k < 9 then topK n (k + 1) f else k
/-- The byte of seven bits of a number. -/
def sept (n k : Nat) : Nat := shrN n (7 * k) % 128 + if 0 < k then 128 else 0
def septs (n : Nat) : Nat → List Nat
  | 0 => [sept n 0]
  | k + 1 => sept n (k + 1) :: septs n k
/-- A number's bytes. -/
def numB (n : Nat) : List Nat := septs n (topK n 0 9)

def bytesV (l : List Nat) : List Value := l.map fun (c : Nat) => Value.int .u8 c
structure IsW (h : Array Obj) (b : Nat) (v : Value) (l : List Nat) : Prop where
  hb : h[b]? = some (.cells #[v] 77 (0, 0))
  ho : Own h 5 1 v l.length (bytesV l)

theorem topK_le_aux (n : Nat) : ∀ f k, k + f ≤ 9 → topK n k f ≤ 9
  | 0, k, h => by simp [topK]; omega
  | f + 1, k, h => by
    unfold topK
    split
    · exact topK_le_aux n f (k + 1) (by omega)
    · omega
theorem topK_le (n : Nat) : topK n 0 9 ≤ 9 := topK_le_aux n 9 0 (by omega)
/-- The bytes from number K down to j. -/
def septsTo (n j : Nat) : Nat → List Nat
  | 0 => if j = 0 then [sept n 0] else []
  | k + 1 => if j ≤ k + 1 then sept n (k + 1) :: septsTo n j k else []
theorem septsTo_zero (n : Nat) : ∀ K, septsTo n 0 K = septs n K
  | 0 => rfl
  | K + 1 => by simp [septsTo, septs, septsTo_zero n K]
theorem septsTo_top (n : Nat) : ∀ K j, K < j → septsTo n j K = []
  | 0, j, h => by simp [septsTo]; omega
  | K + 1, j, h => by simp [septsTo]; omega
theorem septsTo_step (n : Nat) : ∀ K j, j ≤ K → septsTo n j K = septsTo n (j + 1) K ++ [sept n j]
  | 0, j, h => by have : j = 0 := by omega
                  subst this; simp [septsTo]
  | K + 1, j, h => by
    by_cases h2 : j = K + 1
    · subst h2; simp [septsTo, septsTo_top n K (K + 1) (by omega)]
    · have h3 : j ≤ K := by omega
      simp only [septsTo]
      rw [if_pos h, if_pos (by omega), septsTo_step n K j h3, List.cons_append]
theorem septsTo_len (n j : Nat) : ∀ K, (septsTo n j K).length ≤ K + 1
  | 0 => by simp [septsTo]; split <;> simp
  | K + 1 => by simp only [septsTo]; split <;> simp; have := septsTo_len n j K; omega
def NumAt (w : World) (b : Nat) (v : Value) (l : List Nat) (n K j : Nat) (wr : World) : Prop :=
  ∃ v', IsW wr.heap b v' (l ++ septsTo n j K) ∧ Ext (b :: v.ownBlock.toList) w wr ∧ (∀ g, v'.ownBlock = some g → v.ownBlock = some g ∨ w.heap.size ≤ g)
theorem numAt_start {w : World} {b : Nat} {v : Value} {l : List Nat} {n K : Nat} (h : IsW w.heap b v l) : NumAt w b v l n K (K + 1) w :=
  ⟨v, by rw [septsTo_top n K (K + 1) (by omega)]; simpa using h, Ext.refl _ _, fun g hg => .inl hg⟩

theorem and127 (x : Nat) (h : x < 256) : bits .and .u8 ((x : Nat) : Int) 127 = ((x % 128 : Nat) : Int) := by
  have : ∀ x : Fin 256, bits .and .u8 ((x.1 : Nat) : Int) 127 = ((x.1 % 128 : Nat) : Int) := by decide +kernel
  exact this ⟨x, h⟩
theorem or128 (x : Nat) (h : x < 128) : bits .or .u8 ((x : Nat) : Int) 128 = ((x + 128 : Nat) : Int) := by
  have : ∀ x : Fin 128, bits .or .u8 ((x.1 : Nat) : Int) 128 = ((x.1 + 128 : Nat) : Int) := by decide +kernel
  exact this ⟨x, h⟩
theorem sept_and0 (n : Nat) : bits .and .u8 ((n : Int) % 256) 127 = ((sept n 0 : Nat) : Int) := by
  have := and127 (n % 256) (by omega)
  rw [show ((n : Int) % 256) = ((n % 256 : Nat) : Int) by simp, this]
  congr 1
  simp [sept, shrN]
theorem sept_or (n j : Nat) (h : 0 < j) : bits .or .u8 (bits .and .u8 ((n : Int) / 2 ^ (7 * j) % 256) 127) 128 = ((sept n j : Nat) : Int) := by
  have e : ((n : Int) / 2 ^ (7 * j) % 256) = ((n / 2 ^ (7 * j) % 256 : Nat) : Int) := by simp
  rw [e, and127 _ (by omega), or128 _ (by omega)]
  congr 1
  simp only [sept, shrN, h, if_true]; omega
theorem numAt_step {w wr w2 : World} {b : Nat} {v v1 : Value} {l ll : List Nat} {n K j : Nat} {ao : Option Addr} {cap : Nat} {X : Obj} {c : Int} (hq : l ++ septsTo n (j + 1) K = ll)
    (h1 : IsW wr.heap b v1 ll) (h2 : Ext (b :: v.ownBlock.toList) w wr) (h3 : ∀ g, v1.ownBlock = some g → v.ownBlock = some g ∨ w.heap.size ≤ g) (hj : j ≤ K)
    (hl2 : Own w2.heap 5 1 (.slice ao (ll.length + 1) cap) (ll.length + 1) (bytesV ll ++ [Value.int .u8 c])) (hx2 : Ext v1.ownBlock.toList (wr.alloc X) w2)
    (hf2 : ∀ g, (Value.slice ao (ll.length + 1) cap).ownBlock = some g → v1.ownBlock = some g ∨ (wr.alloc X).heap.size ≤ g) (hbl : b ∉ v1.ownBlock.toList) (hc : c = ((sept n j : Nat) : Int)) :
    NumAt w b v l n K j (w2.setCell ⟨b, 0, none⟩ (.slice ao (ll.length + 1) cap)) := by
  have hb2 := hx2.same (heap_old' _ _ h1.hb) hbl
  have hll : l ++ septsTo n j K = ll ++ [sept n j] := by rw [septsTo_step n K j hj, ← List.append_assoc, hq]
  refine ⟨.slice ao (ll.length + 1) cap, ⟨?_, ?_⟩, ?_, ?_⟩
  · rw [heap_set hb2]; simp
  · rw [hll]
    have : Own w2.heap 5 1 (.slice ao (ll.length + 1) cap) (ll ++ [sept n j]).length (bytesV (ll ++ [sept n j])) := by
      subst hc; simpa [bytesV] using hl2
    exact this.same fun g hg => heap_set_ne _ _ _ (by
      obtain ⟨cur, hcur⟩ := this.block hg
      exact ne_block hb2 hcur (by simp))
  · refine ((h2.alloc X).trans hx2 fun g hg => ?_).setCell (.inl (by simp)) _
    rcases h3 g (by simpa using hg) with h | h
    · left; simp [h]
    · right; exact h
  · intro g hg
    rcases hf2 g hg with h | h
    · exact h3 g h
    · right; have := h2.size; simp at h; omega

theorem infoU8 : (Try.prog.info? 5).map (fun i => (i.zero, i.size, i.bytes)) = some (some (.int .u8 0), 1, 1) := by kernel_rfl

theorem num_any (b : Nat) (v : Value) (l : List Nat) (n : Nat) (w : World) (hI : IsW w.heap b v l) (hn : n < 18446744073709551616) (hl : l.length < 1000000) :
    Calls Try.prog 35 #[.pointer (some ⟨b, 0, none⟩), .int .u64 n] w fun e w' =>
      ∃ v', e = .returned (.pointer (some ⟨b, 0, none⟩)) ∧ IsW w'.heap b v' (l ++ numB n) ∧ Ext (b :: v.ownBlock.toList) w w' ∧ (∀ g, v'.ownBlock = some g → v.ownBlock = some g ∨ w.heap.size ≤ g) := by
  go_enter Try.func35, Try.ntmps35
  go_upto_block 0 with fail
  go_cut [5] (fun k wx => k = .int .i64 ((topK n 0 9 : Nat) : Int) ∧ wx = w)
  case first =>
    go_wp2_with fail
    go_loop [5] (fun k => ∃ j : Nat, j ≤ 9 ∧ k = .int .i64 j ∧ topK n j (9 - j) = topK n 0 9) (fun k => 9 - (intOf k).toNat)
    case atStart => exact ⟨0, by omega, rfl, rfl⟩
    case round =>
      obtain ⟨j, hj, rfl, hk⟩ := hrel
      have hsh := shr_nat n (7 * (j + 1)) .i64 hn (Y := 7 * ((j : Int) + 1)) (by omega)
      by_cases hp : 0 < shrN n (7 * (j + 1))
      · by_cases h9 : j < 9
        · have hk' : topK n (j + 1) (9 - (j + 1)) = topK n 0 9 := by
            rw [← hk, show 9 - j = (9 - (j + 1)) + 1 by omega]
            simp [topK, hp, h9]
          have HK := Hs.hid (And.intro hk' h9); clear hk hk'
          have h9b : decide ((j : Int) < 9) = true := by simp; omega
          clear h9
          go_wp2_with fail
          go_round
          case rel => exact ⟨j + 1, by have := HK.out.2; omega, by go_num, HK.out.1⟩
          case measure => have := HK.out.2; simp [intOf]; omega
        · have hk' : topK n 0 9 = j := by rw [← hk, show 9 - j = 0 by omega]; rfl
          have HK := Hs.hid hk'; clear hk hk'
          have h9b : decide ((j : Int) < 9) = false := by simp; omega
          clear h9
          go_wp2_with fail
          go_meet
          exact ⟨by rw [HK.out], rfl⟩
      · have hk' : topK n 0 9 = j := by
          rw [← hk]
          cases h : 9 - j with
          | zero => rfl
          | succ f => simp [topK, hp]
        have HK := Hs.hid hk'; clear hk hk'
        go_wp2_with fail
        go_meet
        exact ⟨by rw [HK.out], rfl⟩
  case rest =>
    obtain ⟨rfl, rfl⟩ := hcut
    have hK9 := topK_le n
    obtain ⟨K, hKe⟩ : ∃ K, topK n 0 9 = K := ⟨_, rfl⟩
    have HB : Hid (numB n = septsTo n 0 K) := by show numB n = _; rw [septsTo_zero]; unfold numB; rw [hKe]
    rw [hKe] at hK9 ⊢
    clear hKe
    go_wp2_with fail
    go_loopw [5] (fun k wr => (k = .int .i64 (-1) ∧ NumAt wc b v l n K 0 wr) ∨ ∃ j : Nat, j ≤ K ∧ k = .int .i64 j ∧ NumAt wc b v l n K (j + 1) wr) (fun k _ => (intOf k + 1).toNat)
    case atStart => exact .inr ⟨K, Nat.le_refl _, rfl, numAt_start hI⟩
    case round =>
      rcases hrel with ⟨rfl, hN⟩ | ⟨j, hj, rfl, hN⟩
      · go_wp2_with fail
        go_ret
        obtain ⟨v', h1, h2, h3⟩ := hN
        exact ⟨v', rfl, by rw [HB.out]; exact h1, h2, h3⟩
      · obtain ⟨v1, h1, h2, h3⟩ := hN
        have hsh := shr_nat n (7 * j) .i64 hn (Y := 7 * (j : Int)) (by omega)
        have c0 := cellAt h1.hb 0
        simp at c0
        have f0 := freeAt h1.hb 0
        obtain ⟨i0, hi, hz0, hz1, hz2⟩ := info_parts infoU8
        have hll : (l ++ septsTo n (j + 1) K).length ≤ 1000020 := by have := septsTo_len n (j + 1) K; simp; omega
        obtain ⟨ll, hq⟩ : ∃ ll, l ++ septsTo n (j + 1) K = ll := ⟨_, rfl⟩
        rw [hq] at hll h1
        have HQ := Hs.hid hq; clear hq
        have hm1 : ll.length + 1 ≤ maxLen := by unfold maxLen; omega
        have hm2 : (ll.length + 1) * 1 ≤ 140737488355328 := by omega
        have hbl : b ∉ v1.ownBlock.toList := fun hm => by
          obtain ⟨cur, hcur⟩ := h1.ho.block (by simpa using hm)
          exact absurd rfl (ne_block h1.hb hcur (by simp))
        by_cases hj0 : j = 0
        · subst hj0
          go_wp2_with (at_builtin; refine wpList_append rfl (.tmp 37) (.tmp 39) 56 rfl 5 i0 _ 1 1 Try.underlying56 hi hz0 hz1 hz2 rfl (by decide) v1 _ _ rfl (h1.ho.alloc _) ⟨wr.heap.size, 0, none⟩ 1 1 [_] rfl rfl (news_new wr _ _) (by simp [Value.oneCell']) hm1 hm2 ?_; intro ao2 cap2 w2 hl2 hx2 hf2; have hb2 := hx2.same (heap_old' _ _ h1.hb) hbl; have e2 := cellAt hb2 0; have f2' := freeAt hb2 0; simp at e2)
          refine ⟨.inl ⟨rfl, ?_⟩, by simp [intOf]⟩
          exact numAt_step HQ.out h1 h2 h3 (Nat.zero_le _) hl2 hx2 hf2 hbl (by rw [sept_and0])
        · have hjp : (0 : Int) < j := by omega
          go_wp2_with (at_builtin; refine wpList_append rfl (.tmp 37) (.tmp 39) 56 rfl 5 i0 _ 1 1 Try.underlying56 hi hz0 hz1 hz2 rfl (by decide) v1 _ _ rfl (h1.ho.alloc _) ⟨wr.heap.size, 0, none⟩ 1 1 [_] rfl rfl (news_new wr _ _) (by simp [Value.oneCell']) hm1 hm2 ?_; intro ao2 cap2 w2 hl2 hx2 hf2; have hb2 := hx2.same (heap_old' _ _ h1.hb) hbl; have e2 := cellAt hb2 0; have f2' := freeAt hb2 0; simp at e2)
          refine ⟨.inr ⟨j - 1, by omega, by congr 1; omega, ?_⟩, by simp [intOf]⟩
          rw [show j - 1 + 1 = j by omega]
          exact numAt_step HQ.out h1 h2 h3 hj hl2 hx2 hf2 hbl (by rw [sept_or n j (by omega)])
def bytesOf (s : ByteArray) : List Nat := s.data.toList.map UInt8.toNat
theorem bytesV_of (s : ByteArray) : bytesV (bytesOf s) = Lib.strCells s := by simp [bytesV, bytesOf, Lib.strCells]
theorem bytesOf_len (s : ByteArray) : (bytesOf s).length = s.size := by rw [bytesOf, List.length_map, Array.length_toList]; rfl
theorem numB_len (n : Nat) : (numB n).length ≤ 10 := by
  have h : ∀ k, (septs n k).length = k + 1 := by
    intro k
    induction k with
    | zero => rfl
    | succ k ih => show ((sept n (k + 1) :: septs n k).length = _); rw [List.length_cons, ih]
  unfold numB; rw [h]; have := topK_le n; omega

theorem str_any (b : Nat) (v : Value) (l : List Nat) (s : ByteArray) (w : World) (hI : IsW w.heap b v l) (hs : s.size < 1000000) (hl : l.length < 900000) :
    Calls Try.prog 36 #[.pointer (some ⟨b, 0, none⟩), .string s] w fun e w' =>
      ∃ v', e = .returned (.pointer (some ⟨b, 0, none⟩)) ∧ IsW w'.heap b v' (l ++ numB s.size ++ bytesOf s) ∧ Ext (b :: v.ownBlock.toList) w w' ∧ (∀ g, v'.ownBlock = some g → v.ownBlock = some g ∨ w.heap.size ≤ g) := by
  have hsz : (s.size : Int) < 1000000 := by omega
  go_enter Try.func36, Try.ntmps36
  go_wp2_with fail
  refine (num_any b v l s.size _ hI (by omega) (by omega)).mono ?_
  rintro e w1 ⟨v1, rfl, h1, hx1, hf1⟩
  have c0 := cellAt h1.hb 0
  simp at c0
  obtain ⟨i0, hi, hz0, hz1, hz2⟩ := info_parts infoU8
  have hll : (l ++ numB s.size).length ≤ 900010 := by have := numB_len s.size; simp; omega
  obtain ⟨ll, hq⟩ : ∃ ll, l ++ numB s.size = ll := ⟨_, rfl⟩
  rw [hq] at hll h1
  have HQ := Hs.hid hq; clear hq
  have hm1 : ll.length + s.size ≤ maxLen := by unfold maxLen; omega
  have hm2 : ll.length + s.size ≤ 140737488355328 := by omega
  have hbl : b ∉ v1.ownBlock.toList := fun hm => by
    obtain ⟨cur, hcur⟩ := h1.ho.block (by simpa using hm)
    exact absurd rfl (ne_block h1.hb hcur (by simp))
  go_wp2_with (at_builtin; refine wpList_append_str rfl (.tmp 14) (.tmp 15) 56 9 rfl 5 i0 Try.underlying56 Try.underlying9 hi hz0 hz1 hz2 v1 _ _ rfl h1.ho s rfl hm1 hm2 ?_; intro ao2 cap2 w2 hl2 hx2 hf2; have hb2 := hx2.same h1.hb hbl; have e2 := cellAt hb2 0; have f2' := freeAt hb2 0; simp at e2)
  go_ret
  refine ⟨.slice ao2 (ll.length + s.size) cap2, rfl, ⟨?_, ?_⟩, ?_, ?_⟩
  · rw [heap_set hb2]; simp
  · rw [HQ.out]
    have : Own w2.heap 5 1 (.slice ao2 (ll.length + s.size) cap2) (ll ++ bytesOf s).length (bytesV (ll ++ bytesOf s)) := by
      have e : bytesV (ll ++ bytesOf s) = bytesV ll ++ Lib.strCells s := by rw [← bytesV_of]; simp [bytesV]
      rw [e, List.length_append, bytesOf_len]; exact hl2
    exact this.same fun g hg => heap_set_ne _ _ _ (by
      obtain ⟨cur, hcur⟩ := this.block hg
      exact ne_block hb2 hcur (by simp))
  · refine (hx1.trans hx2 fun g hg => ?_).setCell (.inl (by simp)) _
    rcases hf1 g (by simpa using hg) with h | h
    · left; simp [h]
    · right; exact h
  · intro g hg
    rcases hf2 g hg with h | h
    · exact hf1 g h
    · right; have := hx1.size; omega

theorem text_any (b : Nat) (v : Value) (l : List Nat) (w : World) (hI : IsW w.heap b v l) :
    Calls Try.prog 37 #[.pointer (some ⟨b, 0, none⟩)] w fun e w' => e = .returned (.string (strN l)) ∧ w' = w := by
  have c0 := cellAt hI.hb 0
  simp at c0
  have hr := run_bytes_text (P := Try.prog) 56 9 5 Try.underlying56 Try.underlying5 Try.underlying9 v l hI.ho
  go_enter Try.func37, Try.ntmps37
  go_wp2_with fail
  go_ret
  exact ⟨rfl, rfl⟩

theorem wrap_u64 (x : Int) (h0 : 0 ≤ x) (h1 : x < 18446744073709551616) : IntKind.u64.wrap x = x := by
  rw [IntKind.wrap_u64]; omega
theorem nIn {h : Array Obj} {b : Nat} {v : Value} {l : List Nat} {A : Nat} {cs : Array Value} (hA : h[A]? = some (.cells cs 50 (0, 0))) (hI : IsW h b v l) : A ∉ b :: v.ownBlock.toList := by
  intro hm
  rcases List.mem_cons.1 hm with rfl | hm
  · exact absurd rfl (ne_block hA hI.hb (by simp))
  · obtain ⟨cur, hcur⟩ := hI.ho.block (by simpa using hm)
    exact absurd rfl (ne_block hA hcur (by simp))
/-- A record's text. -/
def recText (who seq : Nat) (body : ByteArray) : ByteArray := strN (numB who ++ numB seq ++ (numB body.size ++ bytesOf body))
theorem recText_any (who seq : Nat) (body : ByteArray) (w : World) (h1 : who < 1000000) (h2 : seq < 1000000000000000) (h3 : body.size < 100000) :
    Calls Try.prog 19 #[.agg #[.int .i64 who, .int .i64 seq, .string body]] w fun e w' => e = .returned (.string (recText who seq body)) ∧ Ext [] w w' := by
  have hA := heap_new w (.cells #[.int .i64 ↑who, .int .i64 ↑seq, .string body] 50)
  have hA2 := heap_old' _ (.cells #[.slice none 0 0] 77) hA
  have hB := heap_new (w.alloc (.cells #[.int .i64 ↑who, .int .i64 ↑seq, .string body] 50)) (.cells #[.slice none 0 0] 77)
  have hsz : (w.alloc (.cells #[.int .i64 ↑who, .int .i64 ↑seq, .string body] 50)).heap.size = w.heap.size + 1 := by simp
  rw [hsz] at hB
  have E0 := ((Ext.refl [] w).alloc (.cells #[.int .i64 ↑who, .int .i64 ↑seq, .string body] 50)).alloc (.cells #[.slice none 0 0] 77)
  have hI : IsW ((w.alloc (.cells #[.int .i64 ↑who, .int .i64 ↑seq, .string body] 50)).alloc (.cells #[.slice none 0 0] 77)).heap (w.heap.size + 1) (.slice none 0 0) [] :=
    ⟨hB, rfl, .inl ⟨rfl, rfl⟩⟩
  have hs : w.heap.size < ((w.alloc (.cells #[.int .i64 ↑who, .int .i64 ↑seq, .string body] 50)).alloc (.cells #[.slice none 0 0] 77)).heap.size := by simp; omega
  have hw0 : (0 : Int) ≤ who := by omega
  have hq0 : (0 : Int) ≤ seq := by omega
  go_enter Try.func19, Try.ntmps19
  go_wp2_with fail
  generalize (w.alloc (.cells #[.int .i64 ↑who, .int .i64 ↑seq, .string body] 50)).alloc (.cells #[.slice none 0 0] 77) = W at *
  clear hA hB hsz
  have hAs : w.heap.size < W.heap.size := hs
  generalize hAe : w.heap.size = A at *
  have a0 := cellAt hA2 0
  have a1 := cellAt hA2 1
  have a2 := cellAt hA2 2
  simp at a0 a1 a2
  have HE := Hs.hid hAe; clear hAe
  have hl1 : ([] ++ numB who).length < 1000000 := by have := numB_len who; simp; omega
  have hl2 : ([] ++ numB who ++ numB seq).length < 900000 := by have := numB_len who; have := numB_len seq; simp; omega
  have n1 : ¬ (who : Int) < 0 := by omega
  have n2 : ¬ (seq : Int) < 0 := by omega
  have u1 : IntKind.u64.wrap (who : Int) = who := wrap_u64 _ (by omega) (by omega)
  have u2 : IntKind.u64.wrap (seq : Int) = seq := wrap_u64 _ (by omega) (by omega)
  have u3 : IntKind.u64.wrap (if (who : Int) < 0 then 0 else who) = who := by rw [if_neg n1, u1]
  have u4 : IntKind.u64.wrap (if (seq : Int) < 0 then 0 else seq) = seq := by rw [if_neg n2, u2]
  go_region_held3 (fun w' => w'.cell? ⟨A, 0, none⟩ = some (.int .i64 ↑who) ∧ w'.cell? ⟨A, 1, none⟩ = some (.int .i64 ↑seq) ∧ w'.cell? ⟨A, 2, none⟩ = some (.string body))
    (first
      | go_keep
      | exact ⟨k0, k1, k2⟩)
    (first
      | (go_at_call 36; (with_reducible refine (str_any (A + 1) v2 _ body _ ?_ (by omega) hl2).mono ?_); exact hI2; rintro e w3 ⟨v3, rfl, hI3, hx3, hf3⟩; clear k0 k1 k2; have hA5 := hx3.same hA4 (nIn hA4 hI2); have k0 := cellAt hA5 0; have k1 := cellAt hA5 1; have k2 := cellAt hA5 2; simp at k0 k1 k2)
      | (go_at_call 35; (with_reducible refine (num_any (A + 1) v1 _ seq _ ?_ (by omega) hl1).mono ?_); exact hI1; rintro e w2 ⟨v2, rfl, hI2, hx2, hf2⟩; clear k0 k1 k2; have hA4 := hx2.same hA3 (nIn hA3 hI1); have k0 := cellAt hA4 0; have k1 := cellAt hA4 1; have k2 := cellAt hA4 2; simp at k0 k1 k2)
      | (go_at_call 35; (with_reducible refine (num_any (A + 1) (.slice none 0 0) [] who _ ?_ (by omega) (by simp)).mono ?_); exact hI; rintro e w1 ⟨v1, rfl, hI1, hx1, hf1⟩; have hA3 := hx1.same hA2 (by simp [Value.ownBlock]); have k0 := cellAt hA3 0; have k1 := cellAt hA3 1; have k2 := cellAt hA3 2; simp at k0 k1 k2)
      | (go_at_call 37; (with_reducible refine (text_any (A + 1) v3 _ _ hI3).mono ?_); rintro e w4 ⟨rfl, rfl⟩))
  all_goals
    go_wp2_with fail
    go_ret
    refine ⟨by simp [recText], ?_⟩
    have e1 := E0.drew.trans hx1 fun g hg => .inr (by simp [Value.ownBlock] at hg; subst hg; have := HE.out; omega)
    have e2 := e1.trans hx2 fun g hg => .inr (by
      have := HE.out
      rcases List.mem_cons.1 hg with rfl | hg
      · omega
      · rcases hf1 g (by simpa using hg) with h | h
        · simp [Value.ownBlock] at h
        · have : w.heap.size < W.drew.heap.size := by rw [HE.out]; exact hAs
          omega)
    refine e2.trans hx3 fun g hg => .inr ?_
    have := HE.out
    have hAs' : w.heap.size < W.drew.heap.size := by rw [HE.out]; exact hAs
    rcases List.mem_cons.1 hg with rfl | hg
    · omega
    · rcases hf2 g (by simpa using hg) with h | h
      · rcases hf1 g h with h | h
        · simp [Value.ownBlock] at h
        · omega
      · have := hx1.size; omega
end Go.Proofs.Ytkhihpmadmmeaaa
