/-
  Texts of this claim, put together: RecP, Once, Once2, Helped, Free, HelpedP, OnceW, OnceW2, Did, FreeW, Free2.
-/
import Derived.Deep.RegionHeld3
import Derived.Carry
import Derived.Test.YtkhihpmadmmeaaaMPl5
set_option linter.unusedSimpArgs false
set_option linter.unusedVariables false
namespace Go.Proofs.Ytkhihpmadmmeaaa
open Go.RowKit Go.Hs Go.Proofs.Ytkhihpmadmmeaaa.PSc Go.Proofs.YtkhihpmadmmeaaaW.PrintWords

theorem num_step (s : ByteArray) (n i : Nat) (c : Int) (t : ByteArray) (hs : 1 ≤ s.size) (hc : bt (s.extract 0 1) 0 = c) (ht : s.extract 1 s.size = t) (hbig : n < 144115188075855872) (hi10 : i ≤ 10) (hz : ¬ (i = 0 ∧ c = 128)) (k : Nat) :
    wire_Reader_Num.l0 (k + 3) n i s 0 = if c < 128 then some ((n : Int) * 128 + c % 128, t, 0) else wire_Reader_Num.l0 k ((n : Int) * 128 + c % 128) (wrap64 ((i : Int) + 1)) t 0 := by
  have hsz : ¬ (1 : Int) > (s.size : Int) := by omega
  have hb := bt_range (s.extract 0 1) 0
  have hes : (s.extract 0 1).size = 1 := by simp [ByteArray.size_extract]; omega
  rw [hc] at hb
  have hx : s.extract 0 (1 : Int).toNat = s.extract 0 1 := rfl
  have ht' : s.extract (1 : Int).toNat s.size = t := ht
  have htake : wire_Reader_take.f s 0 1 = some (s.extract 0 1, t, 0) := by
    simp only [wire_Reader_take.f]; rw [if_pos trivial, if_neg hsz, if_pos (by omega), if_pos (by omega), hx, ht']
  have h128 : ((s.extract 0 1).toList == ([128] : List UInt8)) = decide (c = 128) := one_byte hes hc
  have hx1 : (0 : Int) < ((s.extract 0 1).size : Int) := by omega
  have hd1 : decide ((n : Int) / 144115188075855872 > 0) = false := by simp; omega
  have hw1 : IntKind.u64.wrap ((n : Int) * 128) = (n : Int) * 128 := wrapU _ (by omega) (by omega)
  have hw2 : IntKind.u64.wrap (Go.bits .and .u8 c 127) = c % 128 := by rw [and127i c hb.1 hb.2]; exact wrapU _ (by omega) (by omega)
  have hor : Go.bits .or .u64 ((n : Int) * 128) (c % 128) = (n : Int) * 128 + c % 128 := by
    have := or_low n (c % 128).toNat (by omega) (by omega)
    rwa [Int.toNat_of_nonneg (by omega)] at this
  by_cases hi0 : i = 0
  · subst hi0
    have hc128 : ¬ c = 128 := fun h => hz ⟨rfl, h⟩
    simp only [wire_Reader_Num.l0, htake, Option.bind_some, if_true, Int.natCast_zero, h128, hc128, decide_false, wire_Reader_Num.j1, wire_Reader_Num.j2, hd1, Bool.false_eq_true, if_false, hx1, hc, hw1, hw2, hor]
  · have hi0' : ¬ (i : Int) = 0 := by omega
    simp only [wire_Reader_Num.l0, htake, Option.bind_some, if_true, if_neg hi0', wire_Reader_Num.j1, wire_Reader_Num.j2, hd1, Bool.false_eq_true, if_false, hx1, hc, hw1, hw2, hor]

theorem strN_data (l : List Nat) : (strN l).data.toList = l.map UInt8.ofNat := by simp [strN]
theorem ba_ext {a b : ByteArray} (h : a.data.toList = b.data.toList) : a = b := ByteArray.ext (Array.toList_inj.1 h)
theorem ba_size (s : ByteArray) : s.size = s.data.toList.length := rfl
theorem ext_list (s : ByteArray) (i j : Nat) (hj : s.size ≤ j) : (s.extract i j).data.toList = s.data.toList.drop i := by
  rw [ByteArray.data_extract, Array.toList_extract, List.extract_eq_take_drop]
  rw [ba_size] at hj
  rw [List.take_of_length_le (by rw [List.length_drop]; omega)]
theorem cons_size (c : Nat) (l : List Nat) (r : ByteArray) : (strN (c :: l) ++ r).size = 1 + (strN l ++ r).size := by
  rw [ba_size, ba_size, ByteArray.data_append, ByteArray.data_append, Array.toList_append, Array.toList_append, strN_data, strN_data]
  simp only [List.map_cons, List.cons_append, List.length_cons]
  omega
theorem cons_head (c : Nat) (l : List Nat) (r : ByteArray) : (strN (c :: l) ++ r).extract 0 1 = strN [c] := by
  apply ba_ext
  simp [ByteArray.data_extract, ByteArray.data_append, strN]
theorem cons_tail (c : Nat) (l : List Nat) (r : ByteArray) : (strN (c :: l) ++ r).extract 1 (strN (c :: l) ++ r).size = strN l ++ r := by
  apply ba_ext
  rw [ext_list _ _ _ (Nat.le_refl _), ByteArray.data_append, ByteArray.data_append, Array.toList_append, Array.toList_append, strN_data, strN_data]
  simp only [List.map_cons, List.cons_append, List.drop_succ_cons, List.drop_zero]
theorem bt_one (c : Nat) (h : c < 256) : bt (strN [c]) 0 = (c : Int) := by
  have : ∀ x : Fin 256, bt (strN [x.1]) 0 = ((x.1 : Nat) : Int) := by decide +kernel
  exact this ⟨c, h⟩
theorem topK_spec (n : Nat) : ∀ f k, k + f ≤ 9 → k ≤ topK n k f ∧ topK n k f ≤ k + f ∧ (k < topK n k f → 0 < shrN n (7 * topK n k f)) ∧ (topK n k f < k + f → shrN n (7 * (topK n k f + 1)) = 0)
  | 0, k, h => by simp [topK]
  | f + 1, k, h => by
    unfold topK
    split
    · rename_i hc
      obtain ⟨h1, h2, h3, h4⟩ := topK_spec n f (k + 1) (by omega)
      refine ⟨by omega, by omega, fun _ => ?_, fun hl => h4 (by omega)⟩
      by_cases e : topK n (k + 1) f = k + 1
      · rw [e]; exact hc.1
      · exact h3 (by omega)
    · rename_i hc
      refine ⟨Nat.le_refl _, by omega, fun hl => absurd hl (Nat.lt_irrefl _), fun _ => ?_⟩
      have : ¬ 0 < shrN n (7 * (k + 1)) := fun h0 => hc ⟨h0, by omega⟩
      omega
theorem shrN_div (n j : Nat) : shrN n (7 * (j + 1)) = shrN n (7 * j) / 128 := by
  unfold shrN
  rw [show 7 * (j + 1) = 7 * j + 7 by omega, Nat.pow_add, ← Nat.div_div_eq_div_mul]
theorem shrN_le (n y : Nat) : shrN n y ≤ n := Nat.div_le_self _ _
theorem num_septs (n : Nat) (hn : n < 144115188075855872) (rest : ByteArray) : ∀ (j v i : Nat), v = shrN n (7 * (j + 1)) → i + j ≤ 9 → (i = 0 → j = 0 ∨ sept n j ≠ 128) →
    wire_Reader_Num.l0 (3 * (j + 1)) v i (strN (septs n j) ++ rest) 0 = some ((n : Int), rest, 0)
  | 0, v, i, hv, hi, h0 => by
    have hm : sept n 0 = n % 128 := by unfold sept shrN; simp
    have hlt : n % 128 < 128 := Nat.mod_lt _ (by decide)
    have hvv : v = n / 128 := by rw [hv]; unfold shrN; rfl
    have hsp : septs n 0 = [n % 128] := by rw [septs, hm]
    rw [hsp]
    rw [num_step _ v i ((n % 128 : Nat) : Int) rest (by rw [cons_size]; omega) (by rw [cons_head, bt_one _ (by omega)]) (by rw [cons_tail]; apply ba_ext; simp [ByteArray.data_append, strN]) (by omega) (by omega) (by omega) 0]
    rw [if_pos (by omega)]
    congr 2
    omega
  | j + 1, v, i, hv, hi, h0 => by
    have hm : sept n (j + 1) = shrN n (7 * (j + 1)) % 128 + 128 := by unfold sept; rw [if_pos (by omega)]
    have hlt : shrN n (7 * (j + 1)) % 128 < 128 := Nat.mod_lt _ (by decide)
    have hsp : septs n (j + 1) = sept n (j + 1) :: septs n j := rfl
    have hvle := shrN_le n (7 * (j + 1 + 1))
    have hdiv := shrN_div n (j + 1)
    rw [hsp, hm]
    have hc : ¬ ((shrN n (7 * (j + 1)) % 128 + 128 : Nat) : Int) < 128 := by omega
    rw [show 3 * (j + 1 + 1) = 3 * (j + 1) + 3 by omega]
    rw [num_step _ v i ((shrN n (7 * (j + 1)) % 128 + 128 : Nat) : Int) (strN (septs n j) ++ rest) (by rw [cons_size]; omega) (by rw [cons_head, bt_one _ (by omega)]) (cons_tail _ _ _) (by omega) (by omega) (by
      rintro ⟨e, h⟩
      rcases h0 e with h1 | h1
      · omega
      · rw [hm] at h1; omega)]
    rw [if_neg hc]
    have hval : (v : Int) * 128 + ((shrN n (7 * (j + 1)) % 128 + 128 : Nat) : Int) % 128 = ((shrN n (7 * (j + 1)) : Nat) : Int) := by rw [hv]; omega
    have hi1 : wrap64 ((i : Int) + 1) = ((i + 1 : Nat) : Int) := by unfold wrap64; omega
    rw [hval, hi1]
    exact num_septs n hn rest j (shrN n (7 * (j + 1))) (i + 1) rfl (by omega) (fun h => by omega)
theorem num_read (n : Nat) (hn : n < 144115188075855872) (rest : ByteArray) (k : Nat) (hk : 30 ≤ k) : wire_Reader_Num.f k (strN (numB n) ++ rest) 0 = some ((n : Int), rest, 0) := by
  obtain ⟨h1, h2, h3, h4⟩ := topK_spec n 9 0 (by omega)
  have h := num_septs n hn rest (topK n 0 9) 0 0 (by
    by_cases e : topK n 0 9 < 9
    · exact (h4 (by omega)).symm
    · have e9 : topK n 0 9 = 9 := by omega
      rw [e9]
      unfold shrN
      exact (Nat.div_eq_of_lt (by omega)).symm) (by omega) (fun _ => by
    by_cases e : topK n 0 9 = 0
    · exact .inl e
    · right
      have hp := h3 (by omega)
      have hz : shrN n (7 * (topK n 0 9 + 1)) = 0 := by
        by_cases e2 : topK n 0 9 < 9
        · exact h4 (by omega)
        · rw [show topK n 0 9 = 9 by omega]
          unfold shrN
          exact Nat.div_eq_of_lt (by omega)
      rw [shrN_div] at hz
      unfold sept
      rw [if_pos (by omega)]
      omega)
  have hf : wire_Reader_Num.f (3 * (topK n 0 9 + 1)) (strN (numB n) ++ rest) 0 = some ((n : Int), rest, 0) := h
  exact at_rounds (g := fun k => wire_Reader_Num.f k (strN (numB n) ++ rest) 0) (fun k => wire_Reader_Num.mono _ _ k) (by omega) hf
theorem upto_read (n : Nat) (m : Int) (hn : (n : Int) ≤ m) (hm : m < 144115188075855872) (rest : ByteArray) (k : Nat) (hk : 30 ≤ k) : wire_Reader_Upto.f k (strN (numB n) ++ rest) 0 m = some ((n : Int), rest, 0) := by
  have hw : IntKind.u64.wrap (mx m 0) = m := by rw [show mx m 0 = m by unfold mx; omega]; exact wrapU _ (by omega) (by omega)
  simp only [wire_Reader_Upto.f, num_read n (by omega) rest k hk, Option.bind_some, hw]
  rw [if_neg (by omega), show wrap64 (n : Int) = n by unfold wrap64; omega]
theorem parse_rec (w q : Nat) (b : ByteArray) (hw : w ≤ 63) (hq : q ≤ 1099511627776) (hb : b.size ≤ 1024) : parseR (recText w q b) = ((w : Int), (q : Int), b, 0) := by
  have hs : recText w q b = strN (numB w) ++ (strN (numB q) ++ (strN (numB b.size) ++ b)) := by
    apply ba_ext
    simp [recText, strN, ByteArray.data_append, bytesOf]
    have : List.map (UInt8.ofNat ∘ UInt8.toNat) b.data.toList = b.data.toList := by
      conv => rhs; rw [← List.map_id b.data.toList]
      apply List.map_congr_left
      intro x _
      simp
    rw [this]
  have hk : proc_Parse.f 30 (recText w q b) = some ((w : Int), (q : Int), b, 0) := by
    rw [hs]
    have h1 := upto_read w 63 (by omega) (by omega) (strN (numB q) ++ (strN (numB b.size) ++ b)) 30 (by omega)
    have h2 := upto_read q 1099511627776 (by omega) (by omega) (strN (numB b.size) ++ b) 30 (by omega)
    have h3 := upto_read b.size 1024 (by omega) (by omega) b 30 (by omega)
    have e1 : b.extract 0 ((b.size : Nat) : Int).toNat = b := by apply ba_ext; rw [Int.toNat_natCast, ext_list _ _ _ (Nat.le_refl _)]; rfl
    have e2 : b.extract ((b.size : Nat) : Int).toNat b.size = (⟨#[]⟩ : ByteArray) := by apply ba_ext; rw [Int.toNat_natCast, ext_list _ _ _ (Nat.le_refl _), ba_size, List.drop_length]
    have ht : wire_Reader_take.f b 0 (b.size : Int) = some (b, (⟨#[]⟩ : ByteArray), 0) := by
      simp only [wire_Reader_take.f]
      rw [if_pos trivial, if_neg (by omega), if_pos (by omega), if_pos (by omega), e1, e2]
    have he : wire_Reader_End.f (⟨#[]⟩ : ByteArray) 0 = some (0, ⟨#[]⟩, 0) := by
      simp only [wire_Reader_End.f]
      rw [if_pos (ByteArray.toList_eq _)]
    simp only [proc_Parse.f, wire_Read.f, Option.bind_some, h1, h2, wire_Reader_Str.f, h3, ht, he]
    rw [if_pos trivial]
  obtain ⟨⟨k, hk2, _⟩, _⟩ := Classical.choose_spec (parse_some (recText w q b))
  have hk2' : proc_Parse.f k (recText w q b) = some (parseR (recText w q b)) := hk2
  have a1 := at_rounds (g := fun k => proc_Parse.f k (recText w q b)) (fun k => proc_Parse.mono _ k) (show k ≤ k + 30 by omega) hk2'
  have a2 := at_rounds (g := fun k => proc_Parse.f k (recText w q b)) (fun k => proc_Parse.mono _ k) (show 30 ≤ k + 30 by omega) hk
  exact Option.some.inj (a1.symm.trans a2)
theorem rec_inj {w q w' q' : Nat} {b b' : ByteArray} (hw : w ≤ 63) (hq : q ≤ 1099511627776) (hb : b.size ≤ 1024) (hw' : w' ≤ 63) (hq' : q' ≤ 1099511627776) (hb' : b'.size ≤ 1024) (h : recText w q b = recText w' q' b') : w = w' ∧ q = q' ∧ b = b' := by
  have h1 := parse_rec w q b hw hq hb
  rw [h, parse_rec w' q' b' hw' hq' hb'] at h1
  simp only [Prod.mk.injEq] at h1
  exact ⟨by omega, by omega, h1.2.2.1.symm⟩
end Go.Proofs.Ytkhihpmadmmeaaa
set_option linter.unusedSimpArgs false
set_option linter.unusedVariables false
namespace Go.Proofs.Ytkhihpmadmmeaaa
open Go.RowKit Go.Hs

def Sys.sl (s : Sys) : List ByteArray := s.M.cells.drop s.P
/-- A text that is process w's record q, of bytes b; the last one of w is its own. -/
def AuthT (s : Sys) (t : ByteArray) (w q : Nat) (b : ByteArray) : Prop := t = recText w q b ∧ w < s.P ∧ 1 ≤ q ∧ b.size ≤ 1024 ∧ ∃ x, s.L[w]? = some x ∧ q ≤ x.seq ∧ (q = x.seq → b = x.body)
def swStep (c : Int) (st : Nat × ByteArray) (a : Acc) : Nat × ByteArray :=
  if a.cell = c ∧ a.kind ≠ 1 then (if a.kind = 2 then (st.1, a.new) else if st.2.toList = a.old.toList then (st.1 + 1, a.new) else st) else st
def swF (log : List Acc) (c : Int) : Nat × ByteArray := log.foldl (swStep c) (0, noText)
theorem swF_snoc (log : List Acc) (a : Acc) (c : Int) : swF (log ++ [a]) c = swStep c (swF log c) a := by simp [swF]
structure OInv (s : Sys) : Prop where
  wish : ∀ (i : Nat) (t : ByteArray), i < s.P → s.M.cells[i]? = some t → t.toList ≠ [] → ∃ q b, AuthT s t i q b
  slot : ∀ (k : Nat) (t : ByteArray), s.sl[k]? = some t → t.toList ≠ [] → ∃ w q b, AuthT s t w q b ∧ knownF (s.sl.take k) w < q
  pre : ∀ (k : Nat), (s.sl.getD k noText).toList ≠ [] → ∀ j, j < k → (s.sl.getD j noText).toList ≠ []
  offer : ∀ (i : Nat) (x : PSt), s.L[i]? = some x → x.phase = 4 → ∃ w q b, AuthT s x.offer w q b ∧ knownF (s.sl.take x.at_) w < q
  own : ∀ (i : Nat) (x : PSt), s.L[i]? = some x → (x.phase = 1 ∨ x.phase = 2 ∨ x.phase = 3 ∨ x.phase = 4) → knownF (s.sl.take x.at_) i < x.seq
  log : ∀ (k : Nat), k < s.S → swF s.M.log ((s.P : Int) + k) = (if (s.sl.getD k noText).toList = [] then 0 else 1, s.sl.getD k noText)

theorem knownStep_ge (who n : Int) (s : ByteArray) : n ≤ knownStep who n s := by unfold knownStep; split <;> omega
theorem knownF_ge_aux (who : Int) : ∀ (L : List ByteArray) (n : Int), n ≤ L.foldl (knownStep who) n
  | [], n => Int.le_refl _
  | t :: L, n => Int.le_trans (knownStep_ge who n t) (knownF_ge_aux who L _)
theorem knownF_nonneg (L : List ByteArray) (who : Int) : 0 ≤ knownF L who := knownF_ge_aux who L 0
theorem knownF_le_aux (who m : Int) : ∀ (L : List ByteArray) (n : Int), n ≤ m → (∀ t ∈ L, (parseR t).2.2.2 = 0 → (parseR t).1 = who → (parseR t).2.1 ≤ m) → L.foldl (knownStep who) n ≤ m
  | [], n, h, _ => h
  | t :: L, n, h, hl => by
    refine knownF_le_aux who m L _ ?_ (fun u hu => hl u (List.mem_cons_of_mem _ hu))
    unfold knownStep
    split
    · rename_i hc
      have := hl t (List.mem_cons_self ..) hc.1 hc.2
      omega
    · exact h
theorem knownF_le {L : List ByteArray} {who m : Int} (h0 : 0 ≤ m) (h : ∀ t ∈ L, (parseR t).2.2.2 = 0 → (parseR t).1 = who → (parseR t).2.1 ≤ m) : knownF L who ≤ m := knownF_le_aux who m L 0 h0 h
theorem auth_parse {s : Sys} {n : Nat} (hI : SInv s n) (hn : n < 1000000) {t : ByteArray} {w q : Nat} {b : ByteArray} (h : AuthT s t w q b) : parseR t = ((w : Int), (q : Int), b, 0) := by
  obtain ⟨rfl, hw, _, hb, x, hx, hq, _⟩ := h
  have := hI.hP
  have := (hI.core w x hx).seq
  exact parse_rec w q b (by omega) (by omega) hb
theorem auth_step {s : Sys} {n : Nat} (hI : SInv s n) (hn : n < 1000000) {t : ByteArray} {w q : Nat} {b : ByteArray} (h : AuthT s t w q b) (who m : Int) : knownStep who m t = if (w : Int) = who then max m q else m := by
  unfold knownStep
  rw [auth_parse hI hn h]
  simp
theorem auth_ne {s : Sys} {t : ByteArray} {w q : Nat} {b : ByteArray} (h : AuthT s t w q b) : t.toList ≠ [] := by
  rw [h.1]; exact recText_ne _ _ _
theorem parse_ne {t : ByteArray} (h : (parseR t).2.2.2 = 0) : t.toList ≠ [] := fun e => by
  rw [toList_none e] at h; exact parse_none h
theorem sl_take_mem {s : Sys} {k : Nat} {t : ByteArray} (h : t ∈ s.sl.take k) : ∃ j, j < k ∧ s.sl[j]? = some t := by
  obtain ⟨j, hj⟩ := List.getElem?_of_mem h
  rw [List.getElem?_take] at hj
  split at hj
  · exact ⟨j, ‹_›, hj⟩
  · cases hj
/-- All that is known of a process is at most its last number. -/
theorem known_seq {s : Sys} {n : Nat} (hI : SInv s n) (hn : n < 1000000) (hO : OInv s) {i : Nat} {x : PSt} (hx : s.L[i]? = some x) (k : Nat) : knownF (s.sl.take k) i ≤ x.seq := by
  refine knownF_le (by omega) fun t ht h4 h1 => ?_
  obtain ⟨j, _, hj⟩ := sl_take_mem ht
  obtain ⟨w, q, b, ha, _⟩ := hO.slot j t hj (parse_ne h4)
  rw [auth_parse hI hn ha] at h1 ⊢
  simp at h1 ⊢
  obtain ⟨_, _, _, _, z, hz, hq, _⟩ := ha
  have e : w = i := by omega
  subst e
  rw [hx] at hz
  cases hz
  omega
theorem take_grow {P : Nat} {c c' : List ByteArray} (hg : Grow P c c') {k : Nat} (hd : ∀ j, j < k → ((c.drop P).getD j noText).toList ≠ []) : (c'.drop P).take k = (c.drop P).take k := by
  apply List.ext_getElem?
  intro j
  rw [List.getElem?_take, List.getElem?_take]
  split
  · rename_i hj; exact hg.2 j (hd j hj)
  · rfl
theorem getD_noText {L : List ByteArray} {k : Nat} {t : ByteArray} (h : L[k]? = some t) : L.getD k noText = t := by rw [List.getD_eq_getElem?_getD, h]; rfl
theorem some_of_getD {L : List ByteArray} {k : Nat} (h : (L.getD k noText).toList ≠ []) : L[k]? = some (L.getD k noText) := by
  rw [List.getD_eq_getElem?_getD] at h ⊢
  cases hk : L[k]? with
  | none => rw [hk] at h; exact absurd empty_toList h
  | some t => rfl

theorem OInv.upd {s : Sys} {n : Nat} (hI : SInv s n) (hO : OInv s) {i : Nat} {x y : PSt} {M' : MSt} (hx : s.L[i]? = some x) (hg : Grow s.P s.M.cells M'.cells)
    (hauth : ∀ t w q b, AuthT s t w q b → AuthT { s with L := s.L.set i y, M := M' } t w q b)
    (hwish : ∀ (k : Nat) (t : ByteArray), k < s.P → M'.cells[k]? = some t → t.toList ≠ [] → s.M.cells[k]? = some t ∨ ∃ q b, AuthT { s with L := s.L.set i y, M := M' } t k q b)
    (hslot : ∀ (k : Nat) (t : ByteArray), (M'.cells.drop s.P)[k]? = some t → t.toList ≠ [] → s.sl[k]? = some t ∨ ((∀ j, j < k → (s.sl.getD j noText).toList ≠ []) ∧ ∃ w q b, AuthT s t w q b ∧ knownF (s.sl.take k) w < q))
    (hoffer : y.phase = 4 → ∃ w q b, AuthT s y.offer w q b ∧ knownF ((M'.cells.drop s.P).take y.at_) w < q)
    (hown : (y.phase = 1 ∨ y.phase = 2 ∨ y.phase = 3 ∨ y.phase = 4) → knownF ((M'.cells.drop s.P).take y.at_) i < y.seq)
    (hlog : ∀ (k : Nat), k < s.S → swF M'.log ((s.P : Int) + k) = (if ((M'.cells.drop s.P).getD k noText).toList = [] then 0 else 1, (M'.cells.drop s.P).getD k noText)) :
    OInv { s with L := s.L.set i y, M := M' } := by
  have hdec : ∀ k, (s.sl.getD k noText).toList ≠ [] → (M'.cells.drop s.P).getD k noText = s.sl.getD k noText := fun k hk => getD_of (hg.2 k hk)
  refine ⟨fun k t hk ht hne => ?_, fun k t ht hne => ?_, fun k hk j hj => ?_, fun k z hz hph => ?_, fun k z hz hph => ?_, hlog⟩
  · rcases hwish k t hk ht hne with h | h
    · obtain ⟨q, b, ha⟩ := hO.wish k t hk h hne
      exact ⟨q, b, hauth _ _ _ _ ha⟩
    · exact h
  · have ht' : (M'.cells.drop s.P)[k]? = some t := ht
    show ∃ w q b, AuthT _ t w q b ∧ knownF ((M'.cells.drop s.P).take k) w < q
    rcases hslot k t ht' hne with h | ⟨hall, w, q, b, ha, hk⟩
    · obtain ⟨w, q, b, ha, hk⟩ := hO.slot k t h hne
      refine ⟨w, q, b, hauth _ _ _ _ ha, ?_⟩
      rw [take_grow hg (hO.pre k (by rw [getD_noText h]; exact hne))]
      exact hk
    · refine ⟨w, q, b, hauth _ _ _ _ ha, ?_⟩
      rw [take_grow hg hall]
      exact hk
  · have hk' : ((M'.cells.drop s.P).getD k noText).toList ≠ [] := hk
    show ((M'.cells.drop s.P).getD j noText).toList ≠ []
    have hjd : (s.sl.getD j noText).toList ≠ [] := by
      rcases hslot k _ (some_of_getD hk') hk' with h | ⟨hall, _⟩
      · exact hO.pre k (by rw [getD_noText h]; exact hk') j hj
      · exact hall j hj
    rw [hdec j hjd]; exact hjd
  · simp only [List.getElem?_set] at hz
    by_cases e : i = k
    · subst e
      rw [if_pos rfl, if_pos (List.getElem?_eq_some_iff.1 hx).1] at hz
      cases hz
      obtain ⟨w, q, b, ha, hk⟩ := hoffer hph
      exact ⟨w, q, b, hauth _ _ _ _ ha, hk⟩
    · rw [if_neg e] at hz
      obtain ⟨w, q, b, ha, hk⟩ := hO.offer k z hz hph
      refine ⟨w, q, b, hauth _ _ _ _ ha, ?_⟩
      show knownF ((M'.cells.drop s.P).take z.at_) w < q
      rw [take_grow hg (hI.core k z hz).dec]
      exact hk
  · simp only [List.getElem?_set] at hz
    by_cases e : i = k
    · subst e
      rw [if_pos rfl, if_pos (List.getElem?_eq_some_iff.1 hx).1] at hz
      cases hz
      exact hown hph
    · rw [if_neg e] at hz
      show knownF ((M'.cells.drop s.P).take z.at_) k < z.seq
      rw [take_grow hg (hI.core k z hz).dec]
      exact hO.own k z hz hph
theorem auth_same {s : Sys} {i : Nat} {x y : PSt} {M' : MSt} (hx : s.L[i]? = some x) (h1 : y.seq = x.seq) (h2 : y.body = x.body) (t : ByteArray) (w q : Nat) (b : ByteArray) (h : AuthT s t w q b) : AuthT { s with L := s.L.set i y, M := M' } t w q b := by
  obtain ⟨ht, hw, hq, hb, z, hz, hzq, hzb⟩ := h
  refine ⟨ht, hw, hq, hb, ?_⟩
  simp only [List.getElem?_set]
  by_cases e : i = w
  · subst e
    rw [if_pos rfl, if_pos (List.getElem?_eq_some_iff.1 hx).1]
    rw [hx] at hz; cases hz
    exact ⟨y, rfl, by rw [h1]; exact hzq, by rw [h1, h2]; exact hzb⟩
  · rw [if_neg e]
    exact ⟨z, hz, hzq, hzb⟩
theorem sw_read {log : List Acc} {c d : Int} : swF (log ++ [PSt.rd d]) c = swF log c := by
  rw [swF_snoc]; unfold swStep PSt.rd
  rw [if_neg (by simp)]
theorem act_log' (M : MSt) (a : Acc) : (M.act a).log = M.log ++ [a] := rfl
/-- A step that only reads. -/
theorem OInv.read {s : Sys} {n : Nat} (hI : SInv s n) (hO : OInv s) {i : Nat} {x y : PSt} {c : Int} (hx : s.L[i]? = some x) (h1 : y.seq = x.seq) (h2 : y.body = x.body)
    (hoffer : y.phase = 4 → ∃ w q b, AuthT s y.offer w q b ∧ knownF (s.sl.take y.at_) w < q)
    (hown : (y.phase = 1 ∨ y.phase = 2 ∨ y.phase = 3 ∨ y.phase = 4) → knownF (s.sl.take y.at_) i < y.seq) :
    OInv { s with L := s.L.set i y, M := s.M.act (PSt.rd c) } := by
  have hc : (s.M.act (PSt.rd c)).cells = s.M.cells := act_rd _ _
  refine hO.upd hI hx (by rw [hc]; exact Grow.refl _ _) (auth_same hx h1 h2) ?_ ?_ ?_ ?_ ?_
  · intro k t hk ht _; rw [hc] at ht; exact .inl ht
  · intro k t ht _; rw [hc] at ht; exact .inl ht
  · rw [hc]; exact hoffer
  · rw [hc]; exact hown
  · intro k hk; rw [hc, act_log', sw_read]; exact hO.log k hk
/-- What the process sees decided isn't its own, or it ends. -/
theorem after_own {s : Sys} {n : Nat} (hI : SInv s n) (hn : n < 1000000) {i : Nat} {x : PSt} (hx : s.L[i]? = some x) (hm : x.mwho = i) {sl : List ByteArray} {t : ByteArray} (ht : sl[x.at_]? = some t)
    (hown : knownF (sl.take x.at_) i < x.seq) (hauth : ∃ w q b, AuthT s t w q b) : ((x.after t).2.phase = 1 ∨ (x.after t).2.phase = 2 ∨ (x.after t).2.phase = 3 ∨ (x.after t).2.phase = 4) → knownF (sl.take (x.after t).2.at_) i < (x.after t).2.seq := by
  unfold PSt.after
  split
  · intro h; rcases h with h | h | h | h <;> cases h
  · rename_i hne
    split
    · intro h; rcases h with h | h | h | h <;> cases h
    · intro _
      show knownF (sl.take (x.at_ + 1)) i < x.seq
      rw [List.take_add_one, ht]
      show knownF (sl.take x.at_ ++ [t]) i < x.seq
      obtain ⟨w, q, b, ha⟩ := hauth
      rw [knownF_snoc, auth_step hI hn ha]
      split
      · rename_i e
        obtain ⟨htt, _, _, _, z, hz, hq, hqb⟩ := ha
        have e' : w = i := by omega
        subst e'
        rw [hx] at hz; cases hz
        have : q ≠ x.seq := fun e2 => hne (by rw [htt, e2, hqb e2]; simp [PSt.mine, hm])
        omega
      · exact hown
theorem mine_auth {s : Sys} {n : Nat} (hI : SInv s n) (hO : OInv s) {i : Nat} {x : PSt} (hx : s.L[i]? = some x) (hm : x.mwho = i) (hph : x.phase = 1 ∨ x.phase = 2 ∨ x.phase = 3 ∨ x.phase = 4) : AuthT s x.mine i x.seq x.body := by
  have h1 := hO.own i x hx hph
  have h2 := knownF_nonneg (s.sl.take x.at_) i
  refine ⟨by simp [PSt.mine, hm], ?_, by omega, (hI.core i x hx).body, x, hx, Nat.le_refl _, fun _ => rfl⟩
  rw [← hI.hL]; exact (List.getElem?_eq_some_iff.1 hx).1
theorem oinv_step {s : Sys} {n i : Nat} {x : PSt} (hI : SInv s n) (hn : n < 1000000) (hO : OInv s) (hx : s.L[i]? = some x) : OInv (s.step i x).1 := by
  have hc := hI.core i x hx
  have hp := hI.ph i x hx
  have hi : i < s.P := by rw [← hI.hL]; exact (List.getElem?_eq_some_iff.1 hx).1
  have hSl : s.sl.length = s.S := by unfold Sys.sl; rw [List.length_drop, hI.cells]; omega
  have hdecs : ∀ k, k < x.at_ → (s.sl.getD k noText).toList ≠ [] := hc.dec
  unfold Sys.step
  rcases hp.ph with e | e | e | e | e | e
  · rw [step_eq0 _ e]
    refine hO.upd hI hx (Grow.refl _ _) (auth_same hx rfl rfl) (fun k t _ ht _ => .inl ht) (fun k t ht _ => .inl ht) (fun h => by rw [e] at h; cases h) (fun h => by rw [e] at h; rcases h with h | h | h | h <;> cases h) hO.log
  · rw [step_eq1 _ e]
    have hm : x.mwho = i := by rcases hp.mwho with g | ⟨_, g | g⟩; exact g; all_goals (rw [e] at g; cases g)
    have hown := hO.own i x hx (.inl e)
    have hcell : (s.M.act x.wishA).cells = s.M.cells.set i x.mine := by rw [act_wish, hc.who]
    have hdrop : (s.M.act x.wishA).cells.drop s.P = s.sl := by rw [hcell, List.drop_set, if_pos hi]; rfl
    refine hO.upd hI hx (by rw [hcell]; exact Grow.wish hi _ _) (auth_same hx rfl rfl) ?_ ?_ ?_ ?_ ?_
    · intro k t hk ht _
      rw [hcell, List.getElem?_set] at ht
      split at ht
      · rename_i e2
        subst e2
        split at ht
        · cases ht
          exact .inr ⟨x.seq, x.body, auth_same (y := x.ph (if x.S ≤ x.at_ then 0 else 2)) (M' := s.M.act x.wishA) hx rfl rfl _ _ _ _ (mine_auth hI hO hx hm (.inl e))⟩
        · cases ht
      · exact .inl ht
    · intro k t ht _; rw [hdrop] at ht; exact .inl ht
    · intro h
      by_cases g : x.S ≤ x.at_
      · have h' : (x.ph (if x.S ≤ x.at_ then 0 else 2)).phase = 4 := h
        rw [if_pos g] at h'; cases h'
      · have h' : (x.ph (if x.S ≤ x.at_ then 0 else 2)).phase = 4 := h
        rw [if_neg g] at h'; cases h'
    · intro _; rw [hdrop]; exact hown
    · intro k hk
      rw [hdrop, act_log', swF_snoc, hO.log k hk]
      unfold swStep PSt.wishA
      rw [if_neg (by rintro ⟨h, _⟩; simp only [] at h; rw [hc.who] at h; omega)]
  · rw [step_eq2 _ e]
    have hm : x.mwho = i := by rcases hp.mwho with g | ⟨_, g | g⟩; exact g; all_goals (rw [e] at g; cases g)
    have hlt := hp.lt (.inl e)
    have hown := hO.own i x hx (.inr (.inl e))
    have hlook : (x.look s.M).2 = if (s.sl.getD x.at_ ⟨#[]⟩).toList = [] then x.ph 3 else (x.after (s.sl.getD x.at_ ⟨#[]⟩)).2 := by
      unfold PSt.look
      rw [hc.hP, slot_at]
      unfold Sys.sl
      split <;> rfl
    rw [hlook]
    by_cases g : (s.sl.getD x.at_ ⟨#[]⟩).toList = []
    · rw [if_pos g]
      exact hO.read hI hx rfl rfl (fun h => by cases h) (fun _ => hown)
    · rw [if_neg g]
      have hsome : s.sl[x.at_]? = some (s.sl.getD x.at_ ⟨#[]⟩) := getD_some (by rw [hSl]; exact hlt)
      obtain ⟨w, q, b, ha, _⟩ := hO.slot _ _ hsome g
      have haf := after_own hI hn hx hm hsome hown ⟨w, q, b, ha⟩
      refine hO.read hI hx ?_ ?_ ?_ haf
      · unfold PSt.after; split; rfl; split <;> rfl
      · unfold PSt.after; split; rfl; split <;> rfl
      · intro h; unfold PSt.after at h; split at h; cases h; split at h <;> cases h
  · rw [step_eq3 _ e]
    have hm : x.mwho = i := by rcases hp.mwho with g | ⟨_, g | g⟩; exact g; all_goals (rw [e] at g; cases g)
    have hown := hO.own i x hx (.inr (.inr (.inl e)))
    refine hO.read hI hx rfl rfl (fun _ => ?_) (fun _ => hown)
    show ∃ w q b, AuthT s (x.pick (s.M.at x.helpC)) w q b ∧ knownF (s.sl.take x.at_) w < q
    have hmod : x.at_ % x.P < s.P := by rw [hc.hP]; exact Nat.mod_lt _ hI.hP.1
    have hwc : s.M.at x.helpC = s.M.cells.getD (x.at_ % x.P) ⟨#[]⟩ := by unfold PSt.helpC MSt.at; rw [Int.toNat_natCast]; rfl
    rw [hwc]
    unfold PSt.pick
    split
    · rename_i h
      have hsome : s.M.cells[x.at_ % x.P]? = some (s.M.cells.getD (x.at_ % x.P) ⟨#[]⟩) := getD_some (by rw [hI.cells]; omega)
      obtain ⟨q, b, ha⟩ := hO.wish _ _ hmod hsome (parse_ne h.1)
      have hp2 := auth_parse hI hn ha
      refine ⟨_, q, b, ha, ?_⟩
      have h2 := h.2
      rw [hp2, hc.seen] at h2
      exact h2
    · exact ⟨i, x.seq, x.body, mine_auth hI hO hx hm (.inr (.inr (.inl e))), hown⟩
  · rw [step_eq4 _ e]
    have hm : x.mwho = i := by rcases hp.mwho with g | ⟨_, g | g⟩; exact g; all_goals (rw [e] at g; cases g)
    have hlt := hp.lt (.inr (.inr e))
    have hown := hO.own i x hx (.inr (.inr (.inr e)))
    obtain ⟨ow, oq, ob, hoa, hok⟩ := hO.offer i x hx e
    have hon := auth_ne hoa
    rw [hc.hP, slot_at]
    show OInv { s with L := s.L.set i (x.after (if (s.sl.getD x.at_ ⟨#[]⟩).toList = [] then x.offer else s.sl.getD x.at_ ⟨#[]⟩)).2, M := s.M.act x.swapA }
    have hcell : (s.M.act x.swapA).cells = if (s.sl.getD x.at_ ⟨#[]⟩).toList = [] then s.M.cells.set (s.P + x.at_) x.offer else s.M.cells := by rw [act_swap, hc.hP, slot_at]; rfl
    have haft : ∀ t, (x.after t).2.seq = x.seq ∧ (x.after t).2.body = x.body ∧ (x.after t).2.phase ≠ 4 := by
      intro t; unfold PSt.after
      split
      · exact ⟨rfl, rfl, by intro h; cases h⟩
      · split <;> exact ⟨rfl, rfl, by intro h; cases h⟩
    have hsw : ∀ k, k < s.S → swF (s.M.act x.swapA).log ((s.P : Int) + k) = if k = x.at_ ∧ (s.sl.getD k noText).toList = [] then (1, x.offer) else swF s.M.log ((s.P : Int) + k) := by
      intro k hk
      rw [act_log', swF_snoc, hO.log k hk]
      unfold swStep PSt.swapA
      simp only []
      rw [hc.hP, empty_toList]
      by_cases ek : k = x.at_
      · subst ek
        generalize s.sl.getD x.at_ noText = D
        by_cases g : D.toList = []
        · simp [g]
        · simp [g]
      · rw [if_neg (show ¬ (((s.P : Int) + x.at_) = (s.P : Int) + k ∧ (3 : Int) ≠ 1) by rintro ⟨h, _⟩; omega), if_neg (show ¬ (k = x.at_ ∧ (s.sl.getD k noText).toList = []) from fun h => ek h.1)]
    by_cases g : (s.sl.getD x.at_ ⟨#[]⟩).toList = []
    · rw [if_pos g]
      rw [if_pos g] at hcell
      have hdrop : (s.M.act x.swapA).cells.drop s.P = s.sl.set x.at_ x.offer := by rw [hcell, List.drop_set, if_neg (by omega), show s.P + x.at_ - s.P = x.at_ by omega]; rfl
      have hgrow : Grow s.P s.M.cells (s.M.act x.swapA).cells := by rw [hcell]; exact Grow.slot _ _ g
      have htk : ((s.M.act x.swapA).cells.drop s.P).take x.at_ = s.sl.take x.at_ := take_grow hgrow hdecs
      have hat : ((s.M.act x.swapA).cells.drop s.P)[x.at_]? = some x.offer := by rw [hdrop, List.getElem?_set_self (by rw [hSl]; exact hlt)]
      have haf := after_own hI hn hx hm hat (by rw [htk]; exact hown) ⟨ow, oq, ob, hoa⟩
      refine hO.upd hI hx hgrow (auth_same hx (haft _).1 (haft _).2.1) ?_ ?_ (fun h => absurd h (haft _).2.2) haf ?_
      · intro k t hk ht _
        rw [hcell, List.getElem?_set_ne (by omega)] at ht
        exact .inl ht
      · intro k t ht _
        rw [hdrop, List.getElem?_set] at ht
        split at ht
        · rename_i ek
          subst ek
          split at ht
          · cases ht
            exact .inr ⟨hdecs, ow, oq, ob, hoa, hok⟩
          · cases ht
        · exact .inl ht
      · intro k hk
        rw [hsw k hk, hdrop]
        by_cases ek : k = x.at_
        · subst ek
          have hgd : (s.sl.set x.at_ x.offer).getD x.at_ noText = x.offer := by rw [List.getD_eq_getElem?_getD, List.getElem?_set_self (by rw [hSl]; exact hlt)]; rfl
          rw [if_pos ⟨rfl, g⟩, hgd, if_neg hon]
        · have hgd : (s.sl.set x.at_ x.offer).getD k noText = s.sl.getD k noText := by rw [List.getD_eq_getElem?_getD, List.getElem?_set_ne (fun h => ek h.symm), List.getD_eq_getElem?_getD]
          rw [if_neg (fun h => ek h.1), hgd]
          exact hO.log k hk
    · rw [if_neg g]
      rw [if_neg g] at hcell
      have hsome : s.sl[x.at_]? = some (s.sl.getD x.at_ ⟨#[]⟩) := getD_some (by rw [hSl]; exact hlt)
      obtain ⟨w, q, b, ha, _⟩ := hO.slot _ _ hsome g
      have haf := after_own hI hn hx hm hsome hown ⟨w, q, b, ha⟩
      have hdrop : (s.M.act x.swapA).cells.drop s.P = s.sl := by rw [hcell]; rfl
      refine hO.upd hI hx (by rw [hcell]; exact Grow.refl _ _) (auth_same hx (haft _).1 (haft _).2.1) ?_ ?_ (fun h => absurd h (haft _).2.2) (by rw [hdrop]; exact haf) ?_
      · intro k t hk ht _; rw [hcell] at ht; exact .inl ht
      · intro k t ht _; rw [hdrop] at ht; exact .inl ht
      · intro k hk
        rw [hsw k hk, hdrop, if_neg (by rintro ⟨rfl, h⟩; exact g h)]
        exact hO.log k hk
  · rw [step_eq5 _ e]
    have hno : ∀ y : PSt, (y.phase = 0 ∨ y.phase = 5) → ¬ y.phase = 4 ∧ ¬ (y.phase = 1 ∨ y.phase = 2 ∨ y.phase = 3 ∨ y.phase = 4) := by
      intro y h; constructor <;> omega
    have hh : ((x.head s.M).2.1.phase = 0 ∨ (x.head s.M).2.1.phase = 5) ∧ (x.head s.M).2.1.seq = x.seq ∧ (x.head s.M).2.1.body = x.body ∧ ∃ c, (x.head s.M).2.2 = PSt.rd c := by
      unfold PSt.head
      split
      · exact ⟨.inl rfl, rfl, rfl, _, rfl⟩
      · split
        · exact ⟨.inl rfl, rfl, rfl, _, rfl⟩
        · exact ⟨.inr rfl, rfl, rfl, _, rfl⟩
    obtain ⟨h1, h2, h3, c, h4⟩ := hh
    rw [h4]
    obtain ⟨n1, n2⟩ := hno _ h1
    exact hO.read hI hx h2 h3 (fun h => absurd h n1) (fun h => absurd h n2)
end Go.Proofs.Ytkhihpmadmmeaaa
set_option linter.unusedSimpArgs false
set_option linter.unusedVariables false
namespace Go.Proofs.Ytkhihpmadmmeaaa
open Go.RowKit Go.Hs

theorem oinv_does {s : Sys} {n : Nat} (hI : SInv s n) (hn : n < 1000000) (hO : OInv s) (kind : Int) (i : Nat) (raw : ByteArray) : OInv (s.does kind i raw).1 := by
  unfold Sys.does
  cases hx : s.L[i]? with
  | none => exact hO
  | some x =>
    simp only []
    split
    · exact oinv_step hI hn hO hx
    · split
      · by_cases hph : x.phase = 0
        · have hd : (x.doBegin (cutB raw 20)).2 = { x with phase := 1, mwho := x.who, seq := x.seq + 1, body := cutB raw 20 } := by
            unfold PSt.doBegin
            rw [if_pos hph, if_pos (by have := cutB_size raw 20; omega)]
          rw [hd]
          refine hO.upd (M' := s.M) hI hx (Grow.refl _ _) ?_ (fun k t _ ht _ => .inl ht) (fun k t ht _ => .inl ht) (fun h => by cases h) (fun _ => ?_) hO.log
          · rintro t w q b ⟨ht, hw, hq, hb, z, hz, hzq, hzb⟩
            refine ⟨ht, hw, hq, hb, ?_⟩
            simp only [List.getElem?_set]
            by_cases e : i = w
            · subst e
              rw [if_pos rfl, if_pos (List.getElem?_eq_some_iff.1 hx).1]
              rw [hx] at hz; cases hz
              exact ⟨_, rfl, by show q ≤ x.seq + 1; omega, fun e => by have e' : q = x.seq + 1 := e; omega⟩
            · rw [if_neg e]
              exact ⟨z, hz, hzq, hzb⟩
          · have := known_seq hI hn hO hx x.at_
            show knownF (s.sl.take x.at_) i < ((x.seq + 1 : Nat) : Int)
            omega
        · have hd : (x.doBegin (cutB raw 20)).2 = x := by unfold PSt.doBegin; rw [if_neg hph]
          rw [hd, set_self hx]
          exact hO
      · split
        · by_cases hph : x.phase = 0
          · have hd : x.doHead.2 = { x with phase := 5 } := by unfold PSt.doHead; rw [if_pos hph]
            rw [hd]
            exact hO.upd (M' := s.M) hI hx (Grow.refl _ _) (auth_same hx rfl rfl) (fun k t _ ht _ => .inl ht) (fun k t ht _ => .inl ht) (fun h => by cases h) (fun h => by rcases h with h | h | h | h <;> cases h) hO.log
          · have hd : x.doHead.2 = x := by unfold PSt.doHead; rw [if_neg hph]
            rw [hd, set_self hx]
            exact hO
        · exact hO
theorem rep_none {n k : Nat} {t : ByteArray} (h : (List.replicate n noText)[k]? = some t) : t = noText := by
  obtain ⟨h1, h2⟩ := List.getElem?_eq_some_iff.1 h
  rw [← h2]; simp
theorem oinv_new (P S : Nat) : OInv (Sys.new P S) := by
  have hsl : (Sys.new P S).sl = List.replicate S noText := by simp [Sys.sl, Sys.new, MSt.new]
  have hget : ∀ k, (Sys.new P S).sl.getD k noText = noText := by
    intro k
    rw [hsl, List.getD_eq_getElem?_getD]
    cases h : (List.replicate S noText)[k]? with
    | none => rfl
    | some t => rw [rep_none h]; rfl
  refine ⟨fun i t _ ht hne => ?_, fun k t ht hne => ?_, fun k hk => ?_, fun i x hx hph => ?_, fun i x hx hph => ?_, fun k hk => ?_⟩
  · have : t = noText := rep_none (n := P + S) ht
    rw [this] at hne; exact absurd empty_toList hne
  · rw [hsl] at ht
    rw [rep_none ht] at hne; exact absurd empty_toList hne
  · rw [hget] at hk; exact absurd empty_toList hk
  · obtain ⟨_, rfl⟩ := new_get hx; cases hph
  · obtain ⟨_, rfl⟩ := new_get hx; rcases hph with h | h | h | h <;> cases h
  · rw [hget, if_pos empty_toList]; rfl

/-! ### what is told at an end -/
structure EndOk (s s' : Sys) (i : Nat) (x : PSt) (E : EndR) : Prop where
  head : x.phase = 5 → E.done = true → E.full = false ∧ 0 ≤ E.slot ∧ E.slot ≤ s.S ∧ (E.slot < s.S → (s'.sl.getD E.slot.toNat noText).toList = [])
  full : x.phase ≠ 5 → E.done = true → E.full = true → 0 < s.S → (s'.sl.getD (s.S - 1) noText).toList ≠ []
  done : x.phase ≠ 5 → E.done = true → E.full = false → 0 ≤ E.slot ∧ E.slot < s.S ∧ s'.sl.getD E.slot.toNat noText = recText i x.seq x.body
theorem end_no {s s' : Sys} {i : Nat} {x : PSt} : EndOk s s' i x .no := ⟨(by intro _ h; cases h), (by intro _ h; cases h), (by intro _ h; cases h)⟩
theorem after_end {s s' : Sys} {i : Nat} {x : PSt} {t : ByteArray} (hne5 : x.phase ≠ 5) (hm : x.mwho = i) (hxS : x.S = s.S) (hlt : x.at_ < s.S) (ht : s'.sl[x.at_]? = some t) (hne : t.toList ≠ []) : EndOk s s' i x (x.after t).1 := by
  unfold PSt.after
  split
  · rename_i hmine
    refine ⟨fun h => absurd h hne5, (fun _ _ h => by cases h), fun _ _ _ => ?_⟩
    refine ⟨by show (0 : Int) ≤ (x.at_ : Int); omega, by show (x.at_ : Int) < s.S; omega, ?_⟩
    show s'.sl.getD ((x.at_ : Int)).toNat noText = _
    rw [Int.toNat_natCast, getD_noText ht]
    have h1 : t.toList = x.mine.toList := by simpa using hmine
    rw [ByteArray.toList_eq, ByteArray.toList_eq] at h1
    have : t = x.mine := ba_ext h1
    rw [this]; simp [PSt.mine, hm]
  · split
    · rename_i h1
      refine ⟨fun h => absurd h hne5, fun _ _ _ h0 => ?_, fun _ _ h => by cases h⟩
      have : s.S - 1 = x.at_ := by omega
      rw [this, getD_noText ht]; exact hne
    · exact end_no
theorem end_step {s : Sys} {n i : Nat} {x : PSt} (hI : SInv s n) (hn : n < 1000000) (hO : OInv s) (hx : s.L[i]? = some x) : EndOk s (s.step i x).1 i x (s.step i x).2 := by
  have hc := hI.core i x hx
  have hp := hI.ph i x hx
  have hi : i < s.P := by rw [← hI.hL]; exact (List.getElem?_eq_some_iff.1 hx).1
  have hSl : s.sl.length = s.S := by unfold Sys.sl; rw [List.length_drop, hI.cells]; omega
  have hcS := hc.hS
  unfold Sys.step
  rcases hp.ph with e | e | e | e | e | e
  · rw [step_eq0 _ e]; exact end_no
  · rw [step_eq1 _ e]
    have hdrop : (s.M.act x.wishA).cells.drop s.P = s.sl := by rw [act_wish, hc.who, List.drop_set, if_pos hi]; rfl
    show EndOk s _ i x (if x.S ≤ x.at_ then ⟨true, true, 0⟩ else .no)
    split
    · rename_i g
      refine ⟨(fun h => by rw [e] at h; cases h), fun _ _ _ h0 => ?_, (fun _ _ h => by cases h)⟩
      show (((s.M.act x.wishA).cells.drop s.P).getD (s.S - 1) noText).toList ≠ []
      rw [hdrop]
      exact hc.dec (s.S - 1) (by omega)
    · exact end_no
  · rw [step_eq2 _ e]
    have hm : x.mwho = i := by rcases hp.mwho with g | ⟨_, g | g⟩; exact g; all_goals (rw [e] at g; cases g)
    have hlt := hp.lt (.inl e)
    have hdrop : (s.M.act (PSt.rd (x.P + x.at_))).cells.drop s.P = s.sl := by rw [act_rd]; rfl
    show EndOk s _ i x (x.look s.M).1
    unfold PSt.look
    rw [hc.hP, slot_at]
    by_cases g : ((s.M.cells.drop s.P).getD x.at_ ⟨#[]⟩).toList = []
    · rw [if_pos g]; exact end_no
    · rw [if_neg g]
      have hsome : s.sl[x.at_]? = some (s.sl.getD x.at_ ⟨#[]⟩) := getD_some (by rw [hSl]; exact hlt)
      refine after_end (by rw [e]; decide) hm hcS hlt ?_ g
      show ((s.M.act (PSt.rd ((s.P : Int) + x.at_))).cells.drop s.P)[x.at_]? = _
      rw [act_rd]; exact hsome
  · rw [step_eq3 _ e]; exact end_no
  · rw [step_eq4 _ e]
    have hm : x.mwho = i := by rcases hp.mwho with g | ⟨_, g | g⟩; exact g; all_goals (rw [e] at g; cases g)
    have hlt := hp.lt (.inr (.inr e))
    obtain ⟨ow, oq, ob, hoa, hok⟩ := hO.offer i x hx e
    have hon := auth_ne hoa
    rw [hc.hP, slot_at]
    have hcell : (s.M.act x.swapA).cells = if (s.sl.getD x.at_ ⟨#[]⟩).toList = [] then s.M.cells.set (s.P + x.at_) x.offer else s.M.cells := by rw [act_swap, hc.hP, slot_at]; rfl
    show EndOk s { s with L := _, M := s.M.act x.swapA } i x (x.after (if (s.sl.getD x.at_ ⟨#[]⟩).toList = [] then x.offer else s.sl.getD x.at_ ⟨#[]⟩)).1
    by_cases g : (s.sl.getD x.at_ ⟨#[]⟩).toList = []
    · rw [if_pos g]
      rw [if_pos g] at hcell
      refine after_end (by rw [e]; decide) hm hcS hlt ?_ hon
      show ((s.M.act x.swapA).cells.drop s.P)[x.at_]? = _
      have hdrop : (s.M.act x.swapA).cells.drop s.P = s.sl.set x.at_ x.offer := by rw [hcell, List.drop_set, if_neg (by omega), show s.P + x.at_ - s.P = x.at_ by omega]; rfl
      rw [hdrop, List.getElem?_set_self (by rw [hSl]; exact hlt)]
    · rw [if_neg g]
      rw [if_neg g] at hcell
      refine after_end (by rw [e]; decide) hm hcS hlt ?_ g
      show ((s.M.act x.swapA).cells.drop s.P)[x.at_]? = _
      rw [hcell]
      exact getD_some (by show x.at_ < s.sl.length; rw [hSl]; exact hlt)
  · rw [step_eq5 _ e]
    have hat := hc.at_
    have hcell : (s.M.act (x.head s.M).2.2).cells = s.M.cells := by unfold PSt.head; split; exact act_rd _ _; split <;> exact act_rd _ _
    show EndOk s { s with L := _, M := s.M.act (x.head s.M).2.2 } i x (x.head s.M).1
    have hs' : ({ s with L := s.L.set i (x.head s.M).2.1, M := s.M.act (x.head s.M).2.2 } : Sys).sl = s.sl := by show (s.M.act (x.head s.M).2.2).cells.drop s.P = _; rw [hcell]; rfl
    refine ⟨fun _ hd => ?_, fun h => absurd e h, fun h => absurd e h⟩
    rw [hs']
    unfold PSt.head at hd ⊢
    rw [hc.hP, slot_at] at hd ⊢
    by_cases g1 : x.S ≤ x.at_
    · rw [if_pos g1]
      refine ⟨rfl, by show (0 : Int) ≤ (x.at_ : Int); omega, by show (x.at_ : Int) ≤ s.S; omega, fun h => ?_⟩
      have h' : (x.at_ : Int) < s.S := h
      omega
    · rw [if_neg g1] at hd ⊢
      by_cases g2 : ((s.M.cells.drop s.P).getD x.at_ ⟨#[]⟩).toList = []
      · rw [if_pos g2]
        refine ⟨rfl, by show (0 : Int) ≤ (x.at_ : Int); omega, by show (x.at_ : Int) ≤ s.S; omega, fun _ => ?_⟩
        show (s.sl.getD ((x.at_ : Int)).toNat noText).toList = []
        rw [Int.toNat_natCast]; exact g2
      · rw [if_neg g2] at hd; cases hd
/-- .. of any act. -/
theorem end_does {s : Sys} {n i : Nat} {x : PSt} (hI : SInv s n) (hn : n < 1000000) (hO : OInv s) (hx : s.L[i]? = some x) (kind : Int) (raw : ByteArray) : EndOk s (s.does kind i raw).1 i x (s.does kind i raw).2 := by
  unfold Sys.does
  rw [hx]
  simp only []
  split
  · exact end_step hI hn hO hx
  · split
    · exact end_no
    · split <;> exact end_no
end Go.Proofs.Ytkhihpmadmmeaaa
set_option linter.unusedSimpArgs false
set_option linter.unusedVariables false
namespace Go.Proofs.Ytkhihpmadmmeaaa
open Go.RowKit Go.Hs

/-- Behind the writing of process who's wish (record q, bytes st), when the first kk slots were decided. -/
structure HInv (s : Sys) (who q kk : Nat) (st : ByteArray) : Prop where
  px : ∃ x, s.L[who]? = some x ∧ x.seq = q ∧ x.body = st
  wish : s.M.cells[who]? = some (recText who q st)
  old : knownF (s.sl.take kk) who < q
  dec : ∀ k, k < kk → (s.sl.getD k noText).toList ≠ []
  offer : ∀ (i : Nat) (x : PSt), s.L[i]? = some x → i ≠ who → x.phase = 4 → kk + 1 ≤ x.at_ → x.at_ % s.P = who → x.offer = recText who q st ∨ ∃ j, kk ≤ j ∧ j < x.at_ ∧ s.sl[j]? = some (recText who q st)
  slot : ∀ (k : Nat) (t : ByteArray), kk + 1 ≤ k → k % s.P = who → s.sl[k]? = some t → t.toList ≠ [] → ∃ j, kk ≤ j ∧ j ≤ k ∧ s.sl[j]? = some (recText who q st)
theorem known_mem {L : List ByteArray} {who m : Int} (hm : 0 < m) (h : m ≤ knownF L who) : ∃ (j : Nat) (t : ByteArray), L[j]? = some t ∧ (parseR t).2.2.2 = 0 ∧ (parseR t).1 = who ∧ m ≤ (parseR t).2.1 := by
  apply Classical.byContradiction
  intro hno
  have : knownF L who ≤ m - 1 := by
    refine knownF_le (by omega) fun t ht h4 h1 => ?_
    apply Classical.byContradiction
    intro hgt
    obtain ⟨j, hj⟩ := List.getElem?_of_mem ht
    exact hno ⟨j, t, hj, h4, h1, by omega⟩
  omega
theorem HInv.found {s : Sys} {n who q kk : Nat} {st : ByteArray} (h : HInv s who q kk st) (hI : SInv s n) (hn : n < 1000000) (hO : OInv s) {a : Nat} (hk : (q : Int) ≤ knownF (s.sl.take a) who) (hdec : ∀ k, k < a → (s.sl.getD k noText).toList ≠ []) : ∃ j, kk ≤ j ∧ j < a ∧ s.sl[j]? = some (recText who q st) := by
  obtain ⟨x, hx, hxq, hxb⟩ := h.px
  have hq0 : (0 : Int) < q := by have := h.old; have := knownF_nonneg (s.sl.take kk) who; omega
  obtain ⟨j, t, hj, h4, h1, h2⟩ := known_mem hq0 hk
  rw [List.getElem?_take] at hj
  split at hj
  · rename_i hja
    obtain ⟨w, q', b, ha, _⟩ := hO.slot j t hj (parse_ne h4)
    have hp := auth_parse hI hn ha
    rw [hp] at h1 h2
    simp only [] at h1 h2
    have e : w = who := by omega
    subst e
    obtain ⟨rfl, _, _, _, z, hz, hzq, hzb⟩ := ha
    rw [hx] at hz; cases hz
    have eq : q' = q := by omega
    subst eq
    have eb : b = st := (hzb hxq.symm).trans hxb
    subst eb
    refine ⟨j, ?_, hja, hj⟩
    apply Classical.byContradiction
    intro hlt
    have hmem : recText w q' b ∈ s.sl.take kk := List.mem_of_getElem? (i := j) (by rw [List.getElem?_take, if_pos (by omega)]; exact hj)
    have hge : ∀ (L : List ByteArray) (m : Int), recText w q' b ∈ L → (q' : Int) ≤ L.foldl (knownStep w) m := by
      intro L
      induction L with
      | nil => intro m hm; cases hm
      | cons u L ih =>
        intro m hm
        rcases List.mem_cons.1 hm with e | e
        · subst e
          refine Int.le_trans ?_ (knownF_ge_aux _ L _)
          unfold knownStep
          rw [hp]
          simp only [and_self, if_true]
          omega
        · exact ih _ e
    have := hge _ 0 hmem
    have h3 := h.old
    unfold knownF at h3
    omega
  · cases hj
theorem sl_grow {s : Sys} {L' : List PSt} {M' : MSt} (hg : Grow s.P s.M.cells M'.cells) {j : Nat} {t : ByteArray} (h : s.sl[j]? = some t) (hne : t.toList ≠ []) : ({ s with L := L', M := M' } : Sys).sl[j]? = some t := by
  show (M'.cells.drop s.P)[j]? = some t
  rw [hg.2 j (by show (s.sl.getD j noText).toList ≠ []; rw [getD_noText h]; exact hne)]
  exact h
theorem HInv.upd {s : Sys} {n who q kk : Nat} {st : ByteArray} (h : HInv s who q kk st) (hI : SInv s n) {i : Nat} {x y : PSt} {M' : MSt} (hx : s.L[i]? = some x) (hi : i ≠ who) (hg : Grow s.P s.M.cells M'.cells)
    (hw : M'.cells[who]? = s.M.cells[who]?)
    (hoffer : y.phase = 4 → kk + 1 ≤ y.at_ → y.at_ % s.P = who → y.offer = recText who q st ∨ ∃ j, kk ≤ j ∧ j < y.at_ ∧ s.sl[j]? = some (recText who q st))
    (hslot : ∀ (k : Nat) (t : ByteArray), (M'.cells.drop s.P)[k]? = some t → t.toList ≠ [] → s.sl[k]? = some t ∨ (kk + 1 ≤ k → k % s.P = who → t = recText who q st ∨ ∃ j, kk ≤ j ∧ j < k ∧ s.sl[j]? = some (recText who q st))) :
    HInv { s with L := s.L.set i y, M := M' } who q kk st := by
  have hne := recText_ne who q st
  refine ⟨?_, hw.trans h.wish, ?_, fun k hk => ?_, fun k z hz hkw hph h1 h2 => ?_, fun k t h1 h2 ht hte => ?_⟩
  · obtain ⟨z, hz, h1, h2⟩ := h.px
    exact ⟨z, by simp only [List.getElem?_set]; rw [if_neg hi]; exact hz, h1, h2⟩
  · show knownF ((M'.cells.drop s.P).take kk) who < q
    rw [take_grow hg h.dec]; exact h.old
  · show ((M'.cells.drop s.P).getD k noText).toList ≠ []
    rw [getD_of (hg.2 k (h.dec k hk))]; exact h.dec k hk
  · simp only [List.getElem?_set] at hz
    have hlift : (∃ j, kk ≤ j ∧ j < z.at_ ∧ s.sl[j]? = some (recText who q st)) → ∃ j, kk ≤ j ∧ j < z.at_ ∧ ({ s with L := s.L.set i y, M := M' } : Sys).sl[j]? = some (recText who q st) := by
      rintro ⟨j, g1, g2, g3⟩
      exact ⟨j, g1, g2, sl_grow hg g3 hne⟩
    by_cases e : i = k
    · subst e
      rw [if_pos rfl, if_pos (List.getElem?_eq_some_iff.1 hx).1] at hz
      cases hz
      exact (hoffer hph h1 h2).imp id hlift
    · rw [if_neg e] at hz
      exact (h.offer k z hz hkw hph h1 h2).imp id hlift
  · have ht' : (M'.cells.drop s.P)[k]? = some t := ht
    rcases hslot k t ht' hte with g | g
    · obtain ⟨j, g1, g2, g3⟩ := h.slot k t h1 h2 g hte
      exact ⟨j, g1, g2, sl_grow hg g3 hne⟩
    · rcases g h1 h2 with g | ⟨j, g1, g2, g3⟩
      · exact ⟨k, by omega, Nat.le_refl _, by rw [← g]; exact ht⟩
      · exact ⟨j, g1, by omega, sl_grow hg g3 hne⟩
theorem HInv.read {s : Sys} {n who q kk : Nat} {st : ByteArray} (h : HInv s who q kk st) (hI : SInv s n) {i : Nat} {x y : PSt} {c : Int} (hx : s.L[i]? = some x) (hi : i ≠ who)
    (hoffer : y.phase = 4 → kk + 1 ≤ y.at_ → y.at_ % s.P = who → y.offer = recText who q st ∨ ∃ j, kk ≤ j ∧ j < y.at_ ∧ s.sl[j]? = some (recText who q st)) :
    HInv { s with L := s.L.set i y, M := s.M.act (PSt.rd c) } who q kk st := by
  have hc : (s.M.act (PSt.rd c)).cells = s.M.cells := act_rd _ _
  refine h.upd hI hx hi (by rw [hc]; exact Grow.refl _ _) (by rw [hc]) hoffer ?_
  intro k t ht _; rw [hc] at ht; exact .inl ht
theorem hinv_step {s : Sys} {n i who q kk : Nat} {st : ByteArray} {x : PSt} (hI : SInv s n) (hn : n < 1000000) (hO : OInv s) (h : HInv s who q kk st) (hx : s.L[i]? = some x) (hi : i ≠ who) : HInv (s.step i x).1 who q kk st := by
  have hc := hI.core i x hx
  have hp := hI.ph i x hx
  have hil : i < s.P := by rw [← hI.hL]; exact (List.getElem?_eq_some_iff.1 hx).1
  have hwl : who < s.P := by obtain ⟨z, hz, _⟩ := h.px; rw [← hI.hL]; exact (List.getElem?_eq_some_iff.1 hz).1
  have hSl : s.sl.length = s.S := by unfold Sys.sl; rw [List.length_drop, hI.cells]; omega
  unfold Sys.step
  rcases hp.ph with e | e | e | e | e | e
  · rw [step_eq0 _ e]
    exact h.upd hI hx hi (Grow.refl _ _) rfl (fun g => by rw [e] at g; cases g) (fun k t ht _ => .inl ht)
  · rw [step_eq1 _ e]
    have hcell : (s.M.act x.wishA).cells = s.M.cells.set i x.mine := by rw [act_wish, hc.who]
    have hdrop : (s.M.act x.wishA).cells.drop s.P = s.sl := by rw [hcell, List.drop_set, if_pos hil]; rfl
    refine h.upd hI hx hi (by rw [hcell]; exact Grow.wish hil _ _) (by rw [hcell, List.getElem?_set_ne hi]) ?_ ?_
    · intro g
      have g' : (x.ph (if x.S ≤ x.at_ then 0 else 2)).phase = 4 := g
      by_cases c : x.S ≤ x.at_
      · rw [if_pos c] at g'; cases g'
      · rw [if_neg c] at g'; cases g'
    · intro k t ht _; rw [hdrop] at ht; exact .inl ht
  · rw [step_eq2 _ e]
    refine h.read hI hx hi (fun g => ?_)
    have g' : (x.look s.M).2.phase = 4 := g
    unfold PSt.look PSt.after at g'
    split at g'
    · cases g'
    · split at g'
      · cases g'
      · split at g' <;> cases g'
  · rw [step_eq3 _ e]
    refine h.read hI hx hi (fun _ h1 h2 => ?_)
    show x.pick (s.M.at x.helpC) = _ ∨ ∃ j, kk ≤ j ∧ j < x.at_ ∧ _
    have h2' : x.at_ % x.P = who := by rw [hc.hP]; exact h2
    have hwc : s.M.at x.helpC = recText who q st := by
      unfold PSt.helpC MSt.at
      rw [Int.toNat_natCast, h2', List.getD_eq_getElem?_getD, h.wish]; rfl
    rw [hwc]
    obtain ⟨z, hz, hzq, hzb⟩ := h.px
    have hPp := hI.hP
    have hsq := (hI.core who z hz).seq
    have hbb := (hI.core who z hz).body
    have hpr := parse_rec who q st (by omega) (by omega) (by rw [← hzb]; exact hbb)
    unfold PSt.pick
    rw [hpr]
    simp only [true_and]
    split
    · exact .inl rfl
    · rename_i hge
      right
      rw [hc.seen] at hge
      exact h.found hI hn hO (a := x.at_) (by show (q : Int) ≤ knownF ((s.M.cells.drop s.P).take x.at_) who; omega) hc.dec
  · rw [step_eq4 _ e]
    have hlt := hp.lt (.inr (.inr e))
    have haft : ∀ t, (x.after t).2.phase ≠ 4 := by
      intro t; unfold PSt.after
      split
      · intro h; cases h
      · split <;> (intro h; cases h)
    have hcell : (s.M.act x.swapA).cells = if (s.sl.getD x.at_ ⟨#[]⟩).toList = [] then s.M.cells.set (s.P + x.at_) x.offer else s.M.cells := by rw [act_swap, hc.hP, slot_at]; rfl
    by_cases g : (s.sl.getD x.at_ ⟨#[]⟩).toList = []
    · rw [if_pos g] at hcell
      have hdrop : (s.M.act x.swapA).cells.drop s.P = s.sl.set x.at_ x.offer := by rw [hcell, List.drop_set, if_neg (by omega), show s.P + x.at_ - s.P = x.at_ by omega]; rfl
      refine h.upd hI hx hi (by rw [hcell]; exact Grow.slot _ _ g) (by rw [hcell, List.getElem?_set_ne (by omega)]) (fun c => absurd c (haft _)) ?_
      intro k t ht _
      rw [hdrop, List.getElem?_set] at ht
      split at ht
      · rename_i ek
        subst ek
        split at ht
        · cases ht
          exact .inr (fun h1 h2 => h.offer i x hx hi e h1 h2)
        · cases ht
      · exact .inl ht
    · rw [if_neg g] at hcell
      refine h.upd hI hx hi (by rw [hcell]; exact Grow.refl _ _) (by rw [hcell]) (fun c => absurd c (haft _)) ?_
      intro k t ht _
      rw [hcell] at ht; exact .inl ht
  · rw [step_eq5 _ e]
    have hh : ((x.head s.M).2.1.phase = 0 ∨ (x.head s.M).2.1.phase = 5) ∧ ∃ c, (x.head s.M).2.2 = PSt.rd c := by
      unfold PSt.head
      split
      · exact ⟨.inl rfl, _, rfl⟩
      · split
        · exact ⟨.inl rfl, _, rfl⟩
        · exact ⟨.inr rfl, _, rfl⟩
    obtain ⟨h1, c, h4⟩ := hh
    rw [h4]
    exact h.read hI hx hi (fun g => by rcases h1 with h1 | h1 <;> (rw [h1] at g; cases g))
theorem hinv_does {s : Sys} {n i who q kk : Nat} {st : ByteArray} (hI : SInv s n) (hn : n < 1000000) (hO : OInv s) (h : HInv s who q kk st) (hi : i ≠ who) (kind : Int) (raw : ByteArray) : HInv (s.does kind i raw).1 who q kk st := by
  unfold Sys.does
  cases hx : s.L[i]? with
  | none => exact h
  | some x =>
    simp only []
    split
    · exact hinv_step hI hn hO h hx hi
    · split
      · by_cases hph : x.phase = 0
        · have hd : (x.doBegin (cutB raw 20)).2 = { x with phase := 1, mwho := x.who, seq := x.seq + 1, body := cutB raw 20 } := by
            unfold PSt.doBegin
            rw [if_pos hph, if_pos (by have := cutB_size raw 20; omega)]
          rw [hd]
          exact h.upd (M' := s.M) hI hx hi (Grow.refl _ _) rfl (fun g => by cases g) (fun k t ht _ => .inl ht)
        · have hd : (x.doBegin (cutB raw 20)).2 = x := by unfold PSt.doBegin; rw [if_neg hph]
          rw [hd, set_self hx]
          exact h
      · split
        · by_cases hph : x.phase = 0
          · have hd : x.doHead.2 = { x with phase := 5 } := by unfold PSt.doHead; rw [if_pos hph]
            rw [hd]
            exact h.upd (M' := s.M) hI hx hi (Grow.refl _ _) rfl (fun g => by cases g) (fun k t ht _ => .inl ht)
          · have hd : x.doHead.2 = x := by unfold PSt.doHead; rw [if_neg hph]
            rw [hd, set_self hx]
            exact h
        · exact h
/-- The wish is written. -/
theorem hinv_new {s : Sys} {n who kk : Nat} {x : PSt} {raw raw2 : ByteArray} (hI : SInv s n) (hn : n < 1000000) (hO : OInv s) (hx : s.L[who]? = some x) (hph : x.phase = 0)
    (hdec : ∀ k, k < kk → (s.sl.getD k noText).toList ≠ []) (hend : kk < s.S → (s.sl.getD kk noText).toList = []) :
    HInv (((s.does 2 who raw).1).does 1 who raw2).1 who (x.seq + 1) kk (cutB raw 20) := by
  have hc := hI.core who x hx
  have hwl : who < s.P := by rw [← hI.hL]; exact (List.getElem?_eq_some_iff.1 hx).1
  have hlen := (List.getElem?_eq_some_iff.1 hx).1
  have hSl : s.sl.length = s.S := by unfold Sys.sl; rw [List.length_drop, hI.cells]; omega
  obtain ⟨y, hy⟩ : ∃ y : PSt, y = { x with phase := 1, mwho := x.who, seq := x.seq + 1, body := cutB raw 20 } := ⟨_, rfl⟩
  have h2 : (s.does 2 who raw).1 = { s with L := s.L.set who y } := by
    unfold Sys.does
    rw [hx]
    simp only []
    rw [if_neg (by decide), if_pos trivial]
    have hd : (x.doBegin (cutB raw 20)).2 = y := by
      rw [hy]
      unfold PSt.doBegin
      rw [if_pos hph, if_pos (by have := cutB_size raw 20; omega)]
    rw [hd]
  have hy1 : y.phase = 1 := by rw [hy]
  have hmine : y.mine = recText who (x.seq + 1) (cutB raw 20) := by rw [hy]; simp only [PSt.mine]; rw [hc.who]
  have hywho : y.who = who := by rw [hy]; exact hc.who
  have hget : ({ s with L := s.L.set who y } : Sys).L[who]? = some y := by show (s.L.set who y)[who]? = _; rw [List.getElem?_set_self hlen]
  have h3 : ((s.does 2 who raw).1.does 1 who raw2).1 = { s with L := (s.L.set who y).set who (y.ph (if y.S ≤ y.at_ then 0 else 2)), M := s.M.act y.wishA } := by
    rw [h2]
    unfold Sys.does
    rw [hget]
    simp only []
    rw [if_pos trivial]
    unfold Sys.step
    rw [step_eq1 _ hy1]
  rw [h3]
  have hcell : (s.M.act y.wishA).cells = s.M.cells.set who y.mine := by rw [act_wish, hywho]
  have hdrop : (s.M.act y.wishA).cells.drop s.P = s.sl := by rw [hcell, List.drop_set, if_pos hwl]; rfl
  have hno : ∀ k, kk < k → k < s.S → (s.sl.getD k noText).toList ≠ [] → False := fun k h1 h2 h3 => hO.pre k h3 kk h1 (hend (by omega))
  refine ⟨⟨y.ph (if y.S ≤ y.at_ then 0 else 2), ?_, ?_, ?_⟩, ?_, ?_, ?_, ?_, ?_⟩
  · show ((s.L.set who y).set who _)[who]? = _
    rw [List.getElem?_set_self (by simpa using hlen)]
  · show y.seq = _; rw [hy]
  · show y.body = _; rw [hy]
  · show (s.M.act y.wishA).cells[who]? = _
    rw [hcell, List.getElem?_set_self (by rw [hI.cells]; omega), hmine]
  · show knownF (((s.M.act y.wishA).cells.drop s.P).take kk) who < ((x.seq + 1 : Nat) : Int)
    rw [hdrop]
    have := known_seq hI hn hO hx kk
    omega
  · intro k hk
    show (((s.M.act y.wishA).cells.drop s.P).getD k noText).toList ≠ []
    rw [hdrop]; exact hdec k hk
  · intro i z hz hi hp4 h1 h2
    have hz' : ((s.L.set who y).set who (y.ph (if y.S ≤ y.at_ then 0 else 2)))[i]? = some z := hz
    rw [List.getElem?_set_ne (fun e => hi e.symm), List.getElem?_set_ne (fun e => hi e.symm)] at hz'
    have hzlt := (hI.ph i z hz').lt (.inr (.inr hp4))
    exact absurd (hend (by omega)) ((hI.core i z hz').dec kk (by omega))
  · intro k t h1 h2 ht hte
    have ht' : ((s.M.act y.wishA).cells.drop s.P)[k]? = some t := ht
    rw [hdrop] at ht'
    have hkS : k < s.S := by rw [← hSl]; exact (List.getElem?_eq_some_iff.1 ht').1
    exact (hno k (by omega) hkS (by rw [getD_noText ht']; exact hte)).elim
end Go.Proofs.Ytkhihpmadmmeaaa
set_option linter.unusedSimpArgs false
set_option linter.unusedVariables false
namespace Go.Proofs.Ytkhihpmadmmeaaa
open Go.RowKit Go.Hs

def PSt.rem (x : PSt) : Nat :=
  if x.phase = 1 then 1 + 3 * (x.S - x.at_) else if x.phase = 2 then 3 * (x.S - x.at_) else if x.phase = 3 then 3 * (x.S - x.at_) - 1 else if x.phase = 4 then 3 * (x.S - x.at_) - 2 else if x.phase = 5 then (x.S - x.at_) + 1 else 0
theorem rem1 {x : PSt} (h : x.phase = 1) : x.rem = 1 + 3 * (x.S - x.at_) := by unfold PSt.rem; rw [if_pos h]
theorem rem2 {x : PSt} (h : x.phase = 2) : x.rem = 3 * (x.S - x.at_) := by unfold PSt.rem; rw [if_neg (by rw [h]; decide), if_pos h]
theorem rem3 {x : PSt} (h : x.phase = 3) : x.rem = 3 * (x.S - x.at_) - 1 := by unfold PSt.rem; rw [if_neg (by rw [h]; decide), if_neg (by rw [h]; decide), if_pos h]
theorem rem4 {x : PSt} (h : x.phase = 4) : x.rem = 3 * (x.S - x.at_) - 2 := by unfold PSt.rem; rw [if_neg (by rw [h]; decide), if_neg (by rw [h]; decide), if_neg (by rw [h]; decide), if_pos h]
theorem rem5 {x : PSt} (h : x.phase = 5) : x.rem = (x.S - x.at_) + 1 := by unfold PSt.rem; rw [if_neg (by rw [h]; decide), if_neg (by rw [h]; decide), if_neg (by rw [h]; decide), if_neg (by rw [h]; decide), if_pos h]
theorem rem0 {x : PSt} (h : x.phase = 0) : x.rem = 0 := by unfold PSt.rem; rw [if_neg (by rw [h]; decide), if_neg (by rw [h]; decide), if_neg (by rw [h]; decide), if_neg (by rw [h]; decide), if_neg (by rw [h]; decide)]
/-- Behind a slot that it sees decided. -/
theorem after_rem (x : PSt) (t : ByteArray) (hlt : x.at_ < x.S) : (x.after t).2.rem + 3 ≤ 3 * (x.S - x.at_) ∧ ((x.after t).1.done = true ↔ (x.after t).2.phase = 0) := by
  unfold PSt.after
  split
  · refine ⟨?_, by constructor <;> intro _ <;> rfl⟩
    rw [rem0 rfl]; omega
  · split
    · refine ⟨?_, by constructor <;> intro _ <;> rfl⟩
      rw [rem0 rfl]; omega
    · refine ⟨?_, ⟨(fun h => by cases h), (fun h => by cases h)⟩⟩
      rw [rem2 (x := x.decide t) rfl]
      show 3 * (x.S - (x.at_ + 1)) + 3 ≤ _
      omega
theorem rem_step {s : Sys} {n i : Nat} {x : PSt} (hI : SInv s n) (hx : s.L[i]? = some x) (hph : x.phase ≠ 0) : (x.step s.M).2.1.rem + 1 ≤ x.rem ∧ ((x.step s.M).1.done = true ↔ (x.step s.M).2.1.phase = 0) := by
  have hc := hI.core i x hx
  have hp := hI.ph i x hx
  have hcS := hc.hS
  rcases hp.ph with e | e | e | e | e | e
  · exact absurd e hph
  · rw [step_eq1 _ e, rem1 e]
    by_cases g : x.S ≤ x.at_
    · rw [if_pos g, if_pos g]
      refine ⟨?_, by constructor <;> intro _ <;> rfl⟩
      rw [rem0 (x := x.ph 0) rfl]; omega
    · rw [if_neg g, if_neg g]
      refine ⟨?_, ⟨(fun h => by cases h), (fun h => by cases h)⟩⟩
      rw [rem2 (x := x.ph 2) rfl]
      show 3 * (x.S - x.at_) + 1 ≤ _
      omega
  · rw [step_eq2 _ e, rem2 e]
    have hlt := hp.lt (.inl e)
    have ha := after_rem x (s.M.at (x.P + x.at_)) (by omega)
    show (x.look s.M).2.rem + 1 ≤ _ ∧ ((x.look s.M).1.done = true ↔ (x.look s.M).2.phase = 0)
    unfold PSt.look
    split
    · refine ⟨?_, ⟨(fun h => by cases h), (fun h => by cases h)⟩⟩
      rw [rem3 (x := x.ph 3) rfl]
      show 3 * (x.S - x.at_) - 1 + 1 ≤ _
      omega
    · exact ⟨by omega, ha.2⟩
  · rw [step_eq3 _ e, rem3 e]
    have hlt := hp.lt (.inr (.inl e))
    refine ⟨?_, ⟨(fun h => by cases h), (fun h => by cases h)⟩⟩
    rw [rem4 (x := { x with offer := x.pick (s.M.at x.helpC), phase := 4 }) rfl]
    show 3 * (x.S - x.at_) - 2 + 1 ≤ _
    omega
  · rw [step_eq4 _ e, rem4 e]
    have hlt := hp.lt (.inr (.inr e))
    have ha := after_rem x (if (s.M.at (x.P + x.at_)).toList = [] then x.offer else s.M.at (x.P + x.at_)) (by omega)
    exact ⟨by show (x.after _).2.rem + 1 ≤ _; omega, ha.2⟩
  · rw [step_eq5 _ e, rem5 e]
    show (x.head s.M).2.1.rem + 1 ≤ _ ∧ ((x.head s.M).1.done = true ↔ (x.head s.M).2.1.phase = 0)
    unfold PSt.head
    split
    · refine ⟨?_, by constructor <;> intro _ <;> rfl⟩
      rw [rem0 (x := x.ph 0) rfl]; omega
    · split
      · refine ⟨?_, by constructor <;> intro _ <;> rfl⟩
        rw [rem0 (x := x.ph 0) rfl]; omega
      · refine ⟨?_, ⟨(fun h => by cases h), (fun h => by cases h)⟩⟩
        rw [rem5 (x := (x.decide (s.M.at (x.P + x.at_))).ph 5) rfl]
        show x.S - (x.at_ + 1) + 1 + 1 ≤ _
        omega
theorem rem_pos {s : Sys} {n i : Nat} {x : PSt} (hI : SInv s n) (hx : s.L[i]? = some x) (hph : x.phase ≠ 0) : 1 ≤ x.rem := by
  have := (rem_step hI hx hph).1
  omega
theorem rem_le {s : Sys} {n i : Nat} {x : PSt} (hI : SInv s n) (hx : s.L[i]? = some x) : x.rem ≤ 1 + 3 * s.S := by
  have hc := hI.core i x hx
  have hcS := hc.hS
  unfold PSt.rem
  split
  · omega
  · split
    · omega
    · split
      · omega
      · split
        · omega
        · split <;> omega
/-- An act of process i: what becomes of its own steps, o of them ahead of it; d: is its end told? -/
theorem free_does {s : Sys} {n i : Nat} {x : PSt} (hI : SInv s n) (hx : s.L[i]? = some x) (kind : Int) (raw : ByteArray) {o : Nat} (ho : x.phase ≠ 0 → o + x.rem ≤ 2 + 3 * s.S) :
    ∃ x', (s.does kind i raw).1.L = s.L.set i x' ∧ (if x.phase = 0 then 0 else if kind = 1 then o + 1 else o) + x'.rem ≤ 2 + 3 * s.S ∧ ((s.does kind i raw).2.done = true ↔ (x.phase ≠ 0 ∧ x'.phase = 0)) := by
  have hr := rem_le hI hx
  have hcS := (hI.core i x hx).hS
  unfold Sys.does
  rw [hx]
  simp only []
  by_cases h1 : kind = 1
  · rw [if_pos h1]
    by_cases hp : x.phase = 0
    · refine ⟨x, ?_, ?_, ?_⟩
      · unfold Sys.step; rw [step_eq0 _ hp]
      · rw [if_pos hp, rem0 hp]; omega
      · unfold Sys.step; rw [step_eq0 _ hp]
        exact ⟨(fun h => by cases h), fun h => absurd hp h.1⟩
    · obtain ⟨g1, g2⟩ := rem_step hI hx hp
      have := ho hp
      refine ⟨(x.step s.M).2.1, rfl, ?_, ?_⟩
      · rw [if_neg hp, if_pos h1]; omega
      · exact ⟨fun h => ⟨hp, g2.1 h⟩, fun h => g2.2 h.2⟩
  · rw [if_neg h1]
    by_cases h2 : kind = 2
    · rw [if_pos h2]
      by_cases hp : x.phase = 0
      · refine ⟨(x.doBegin (cutB raw 20)).2, rfl, ?_, ⟨(fun h => by cases h), fun h => absurd hp h.1⟩⟩
        rw [if_pos hp]
        have hd : (x.doBegin (cutB raw 20)).2 = { x with phase := 1, mwho := x.who, seq := x.seq + 1, body := cutB raw 20 } := by
          unfold PSt.doBegin
          rw [if_pos hp, if_pos (by have := cutB_size raw 20; omega)]
        rw [hd, rem1 rfl]
        show 0 + (1 + 3 * (x.S - x.at_)) ≤ _
        omega
      · have hd : (x.doBegin (cutB raw 20)).2 = x := by unfold PSt.doBegin; rw [if_neg hp]
        refine ⟨x, by rw [hd], ?_, ⟨(fun h => by cases h), fun h => absurd h.2 h.1⟩⟩
        rw [if_neg hp, if_neg h1]; exact ho hp
    · rw [if_neg h2]
      by_cases h3 : kind = 3
      · rw [if_pos h3]
        by_cases hp : x.phase = 0
        · refine ⟨x.doHead.2, rfl, ?_, ⟨(fun h => by cases h), fun h => absurd hp h.1⟩⟩
          rw [if_pos hp]
          have hd : x.doHead.2 = { x with phase := 5 } := by unfold PSt.doHead; rw [if_pos hp]
          rw [hd, rem5 rfl]
          show 0 + (x.S - x.at_ + 1) ≤ _
          omega
        · have hd : x.doHead.2 = x := by unfold PSt.doHead; rw [if_neg hp]
          refine ⟨x, by rw [hd], ?_, ⟨(fun h => by cases h), fun h => absurd h.2 h.1⟩⟩
          rw [if_neg hp, if_neg h1]; exact ho hp
      · rw [if_neg h3]
        refine ⟨x, (set_self hx).symm, ?_, ⟨(fun h => by cases h), fun h => absurd h.2 h.1⟩⟩
        by_cases hp : x.phase = 0
        · rw [if_pos hp, rem0 hp]; omega
        · rw [if_neg hp, if_neg h1]; exact ho hp
end Go.Proofs.Ytkhihpmadmmeaaa
set_option linter.unusedSimpArgs false
set_option linter.unusedVariables false
namespace Go.Proofs.Ytkhihpmadmmeaaa
open Go.RowKit Go.Hs

theorem idle_stays {s : Sys} {i : Nat} {x : PSt} (hx : s.L[i]? = some x) (hp : x.phase = 0) (raw : ByteArray) : ∃ x', (s.does 1 i raw).1.L[i]? = some x' ∧ x'.phase = 0 := by
  unfold Sys.does
  rw [hx]
  simp only []
  rw [if_pos trivial]
  unfold Sys.step
  rw [step_eq0 _ hp]
  exact ⟨x, by show (s.L.set i x)[i]? = _; rw [List.getElem?_set_self (List.getElem?_eq_some_iff.1 hx).1], hp⟩
theorem helped_round {s : Sys} {n i t : Nat} (hI : SInv s n) (h : ∃ x, s.L[i]? = some x ∧ (x.phase ≠ 0 → t + x.rem ≤ 2 + 3 * s.S)) (raw : ByteArray) :
    ∃ x', (s.does 1 i raw).1.L[i]? = some x' ∧ (x'.phase ≠ 0 → t + 1 + x'.rem ≤ 2 + 3 * s.S) := by
  obtain ⟨x, hx, h⟩ := h
  by_cases hp : x.phase = 0
  · obtain ⟨x', h1, h2⟩ := idle_stays hx hp raw
    exact ⟨x', h1, fun e => absurd h2 e⟩
  · obtain ⟨x', h1, h2, _⟩ := free_does hI hx 1 raw h
    rw [if_neg hp, if_pos rfl] at h2
    exact ⟨x', by rw [h1, List.getElem?_set_self (List.getElem?_eq_some_iff.1 hx).1], fun _ => h2⟩
theorem helped_done {s : Sys} {n i t : Nat} (hI : SInv s n) (h : ∃ x, s.L[i]? = some x ∧ (x.phase ≠ 0 → t + x.rem ≤ 2 + 3 * s.S)) (ht : 3 + 3 * s.S ≤ t) : ∃ x, s.L[i]? = some x ∧ x.phase = 0 := by
  obtain ⟨x, hx, h⟩ := h
  refine ⟨x, hx, Classical.byContradiction fun hp => ?_⟩
  have h1 := h hp
  have h2 := rem_pos hI hx hp
  omega
/-- The number, and how far it is. -/
theorem next_mod {P i kk : Nat} (hi : i < P) : ∃ J, kk + 1 ≤ J ∧ J ≤ kk + P ∧ J % P = i ∧ ∀ j, kk + 1 ≤ j → j < J → j % P ≠ i := by
  have hex : ∃ J, kk + 1 ≤ J ∧ J ≤ kk + P ∧ J % P = i := by
    have ha : (kk + 1) % P < P := Nat.mod_lt _ (by omega)
    by_cases h : (kk + 1) % P ≤ i
    · refine ⟨kk + 1 + (i - (kk + 1) % P), by omega, by omega, ?_⟩
      rw [← Nat.mod_add_mod, show (kk + 1) % P + (i - (kk + 1) % P) = i by omega, Nat.mod_eq_of_lt hi]
    · refine ⟨kk + 1 + (i + P - (kk + 1) % P), by omega, by omega, ?_⟩
      rw [← Nat.mod_add_mod, show (kk + 1) % P + (i + P - (kk + 1) % P) = i + P by omega, Nat.add_mod_right, Nat.mod_eq_of_lt hi]
  have key : ∀ d, (∃ J, kk + 1 ≤ J ∧ J ≤ kk + P ∧ J % P = i ∧ J = kk + 1 + d) → ∃ J, kk + 1 ≤ J ∧ J ≤ kk + P ∧ J % P = i ∧ ∀ j, kk + 1 ≤ j → j < J → j % P ≠ i := by
    intro d
    induction d using Nat.strongRecOn with
    | _ d ih =>
      rintro ⟨J, h1, h2, h3, h4⟩
      by_cases hc : ∃ j, kk + 1 ≤ j ∧ j < J ∧ j % P = i
      · obtain ⟨j, g1, g2, g3⟩ := hc
        exact ih (j - (kk + 1)) (by omega) ⟨j, g1, by omega, g3, by omega⟩
      · exact ⟨J, h1, h2, h3, fun j g1 g2 g3 => hc ⟨j, g1, g2, g3⟩⟩
  obtain ⟨J, h1, h2, h3⟩ := hex
  exact key (J - (kk + 1)) ⟨J, h1, h2, h3, by omega⟩
/-- What stalls: the wish is written. -/
def stalled : ByteArray := ⟨#[115, 116, 97, 108, 108, 101, 100]⟩
theorem stalled_cut : cutB stalled 20 = stalled := by decide +kernel
theorem StAt.next {w wr : World} {V : Nat} {y : Lay} {r : RLay} {lv : Value} {s : Sys} {n : Nat} (h : StAt w wr V y r lv s n) : StAt w wr V y r lv s (n + 1) := ⟨h.pa, h.xa, h.inv.mono (by omega), h.bx, h.ext, h.lo⟩
end Go.Proofs.Ytkhihpmadmmeaaa
set_option linter.unusedSimpArgs false
set_option linter.unusedVariables false
set_option maxHeartbeats 4000000
set_option maxRecDepth 100000
namespace Go.Proofs.Ytkhihpmadmmeaaa
open Go.RowKit Go.Hs

theorem aflat_get (L : List Acc) (k : Nat) (h : k < L.length) (i : Nat) (hi : i < 4) : (L.flatMap Acc.cells)[k * 4 + i]? = (L[k].cells)[i]? := by
  induction L generalizing k with
  | nil => simp at h
  | cons x L ih =>
    rw [List.flatMap_cons]
    have hl : x.cells.length = 4 := rfl
    cases k with
    | zero => rw [List.getElem?_append_left (by rw [hl]; omega)]; simp
    | succ k =>
      rw [List.getElem?_append_right (by rw [hl]; omega), hl, show (k + 1) * 4 + i - 4 = k * 4 + i by omega, ih k (by simpa using h)]
      simp
theorem log_at {w : World} {mb mc mm : Nat} {lv : Value} {M : MSt} (hM : IsMem w.heap mb mc mm lv M) {k : Nat} {a : Acc} (ha : M.log[k]? = some a) :
    ∃ g cap, lv = .slice (some ⟨g, 0, none⟩) M.log.length cap ∧ w.cell? ⟨g, k * 4, none⟩ = some (.int .i64 a.kind) ∧ w.cell? ⟨g, k * 4 + 1, none⟩ = some (.int .i64 a.cell) ∧ w.cell? ⟨g, k * 4 + 2, none⟩ = some (.string a.old) ∧ w.cell? ⟨g, k * 4 + 3, none⟩ = some (.string a.new) ∧ g < w.heap.size := by
  obtain ⟨hk, rfl⟩ := List.getElem?_eq_some_iff.1 ha
  obtain ⟨g, cap, cur, hv, hg, _⟩ := own_some hM.hl (by omega)
  have hat : ∀ i, i < 4 → ∀ u, (M.log[k].cells)[i]? = some u → w.cell? ⟨g, k * 4 + i, none⟩ = some u := by
    intro i hi u hu
    have := Own.cells (w := w) rfl hM.hl (g := g) (by rw [hv]; rfl) (k * 4 + i) u (by rw [aflat_get _ _ hk _ hi]; exact hu)
    rw [add_off'] at this
    exact this
  exact ⟨g, cap, hv, hat 0 (by omega) _ rfl, hat 1 (by omega) _ rfl, hat 2 (by omega) _ rfl, hat 3 (by omega) _ rfl, lt_of_heap hg⟩
theorem swF_le (c : Int) (L : List Acc) (j : Nat) : (swF (L.take j) c).1 ≤ j := by
  induction j with
  | zero => simp [swF]
  | succ j ih =>
    rw [List.take_add_one]
    cases h : L[j]? with
    | none =>
      show (swF (L.take j ++ []) c).1 ≤ j + 1
      rw [List.append_nil]; omega
    | some a =>
      show (swF (L.take j ++ [a]) c).1 ≤ j + 1
      rw [swF_snoc]
      unfold swStep
      split
      · split
        · show (swF (L.take j) c).1 ≤ j + 1; omega
        · split
          · show (swF (L.take j) c).1 + 1 ≤ j + 1; omega
          · omega
      · omega
theorem swaps_any (mb mc mm : Nat) (lv : Value) (M : MSt) (c : Int) (w : World) (hM : IsMem w.heap mb mc mm lv M) (hn : M.log.length < 1000000) :
    Calls Try.prog 46 #[.pointer (some ⟨mb, 0, none⟩), .int .i64 c] w fun e w' => e = .returned (.int .i64 (swF M.log c).1) ∧ Ext [] w w' := by
  have c2 := cellAt hM.hb 2
  simp at c2
  obtain ⟨ao, cap, rfl⟩ := Own.form (w := w) hM.hl
  have hni : (M.log.length : Int) < 1000000 := by omega
  go_enter Try.func46, Try.ntmps46
  go_upto_region 4 with fail
  clear c2
  go_loopw [14, 5, 6] (fun i kk hh wr => ∃ j : Nat, j ≤ M.log.length ∧ i = .int .i64 j ∧ kk = .int .i64 ((swF (M.log.take j) c).1 : Nat) ∧ hh = .string (swF (M.log.take j) c).2 ∧ Ext [] w wr) (fun i _ _ _ => M.log.length - (intOf i).toNat)
  case atStart => exact ⟨0, Nat.zero_le _, rfl, by simp [swF], by simp [swF], Ext.refl _ _⟩
  case round =>
    obtain ⟨j, hj, rfl, rfl, rfl, hx⟩ := hrel
    by_cases hlt : j < M.log.length
    · obtain ⟨g, cap', hv, k0, k1, k2, k3, hgl⟩ := log_at (hM.ext0 hx) (List.getElem?_eq_getElem hlt)
      simp only [Value.slice.injEq] at hv
      obtain ⟨rfl, _, rfl⟩ := hv
      have hsw : swF (M.log.take (j + 1)) c = swStep c (swF (M.log.take j) c) M.log[j] := by
        rw [List.take_add_one, List.getElem?_eq_getElem hlt]
        exact swF_snoc _ _ _
      have hle : (swF (M.log.take j) c).1 ≤ j := swF_le c _ j
      generalize M.log[j] = a at *
      generalize swF (M.log.take j) c = st at *
      obtain ⟨sk, sh⟩ := st
      simp only [] at hle
      have hji : (j : Int) < 1000000 := by omega
      have hski : (sk : Int) < 1000000 := by omega
      have HK := Hs.hid (And.intro hlt hsw)
      have hjl : (j : Int) < M.log.length := by omega
      clear hlt hsw hj hle
      by_cases h1 : a.cell = c
      · have b1 : (a.cell != c) = false := by simp [h1]
        by_cases h2 : a.kind = 1
        · have b2 : (a.kind == 1) = true := by simp [h2]
          have hst : swStep c (sk, sh) a = (sk, sh) := by unfold swStep; rw [if_neg (by rintro ⟨_, h⟩; exact h h2)]
          clear h1 h2
          have HR := Hs.hid (HK.out.2.trans hst)
          clear hst
          go_wp2_with fail
          go_round
          case rel => exact ⟨j + 1, HK.out.1, by go_num, (by first | (rw [HR.out]; done) | (rw [HR.out]; go_num)), (by rw [HR.out]), (hx.alloc _)⟩
          case measure => have := HK.out.1; simp [intOf]; omega
        · have b2 : (a.kind == 1) = false := by simp [h2]
          by_cases h3 : a.kind = 2
          · have b3 : (a.kind == 2) = true := by simp [h3]
            have hst : swStep c (sk, sh) a = (sk, a.new) := by unfold swStep; rw [if_pos ⟨h1, h2⟩, if_pos h3]
            clear h1 h2 h3
            have HR := Hs.hid (HK.out.2.trans hst)
            clear hst
            go_wp2_with fail
            go_round
            case rel => exact ⟨j + 1, HK.out.1, by go_num, (by first | (rw [HR.out]; done) | (rw [HR.out]; go_num)), (by rw [HR.out]), (hx.alloc _)⟩
            case measure => have := HK.out.1; simp [intOf]; omega
          · have b3 : (a.kind == 2) = false := by simp [h3]
            by_cases h4 : sh.toList = a.old.toList
            · have b4 : (sh.toList == a.old.toList) = true := by simp [h4]
              have hst : swStep c (sk, sh) a = (sk + 1, a.new) := by unfold swStep; rw [if_pos ⟨h1, h2⟩, if_neg h3, if_pos h4]
              clear h1 h2 h3 h4
              have HR := Hs.hid (HK.out.2.trans hst)
              clear hst
              go_wp2_with fail
              go_round
              case rel => exact ⟨j + 1, HK.out.1, by go_num, (by first | (rw [HR.out]; done) | (rw [HR.out]; go_num)), (by rw [HR.out]), (hx.alloc _)⟩
              case measure => have := HK.out.1; simp [intOf]; omega
            · have b4 : (sh.toList == a.old.toList) = false := by simp [h4]
              have hst : swStep c (sk, sh) a = (sk, sh) := by unfold swStep; rw [if_pos ⟨h1, h2⟩, if_neg h3, if_neg h4]
              clear h1 h2 h3 h4
              have HR := Hs.hid (HK.out.2.trans hst)
              clear hst
              go_wp2_with fail
              go_round
              case rel => exact ⟨j + 1, HK.out.1, by go_num, (by first | (rw [HR.out]; done) | (rw [HR.out]; go_num)), (by rw [HR.out]), (hx.alloc _)⟩
              case measure => have := HK.out.1; simp [intOf]; omega
      · have b1 : (a.cell != c) = true := by simp [h1]
        have hst : swStep c (sk, sh) a = (sk, sh) := by unfold swStep; rw [if_neg (by rintro ⟨h, _⟩; exact h1 h)]
        clear h1
        have HR := Hs.hid (HK.out.2.trans hst)
        clear hst
        go_wp2_with fail
        go_round
        case rel => exact ⟨j + 1, HK.out.1, by go_num, (by first | (rw [HR.out]; done) | (rw [HR.out]; go_num)), (by rw [HR.out]), (hx.alloc _)⟩
        case measure => have := HK.out.1; simp [intOf]; omega
    · have hd : decide (j < M.log.length) = false := by simpa using hlt
      obtain rfl : j = M.log.length := by omega
      clear hj hlt
      rw [List.take_length]
      go_wp2_with fail
      go_ret
      exact ⟨rfl, hx⟩
end Go.Proofs.Ytkhihpmadmmeaaa
set_option linter.unusedSimpArgs false
set_option linter.unusedVariables false
set_option maxHeartbeats 4000000
set_option maxRecDepth 100000
namespace Go.Proofs.Ytkhihpmadmmeaaa
open Go.RowKit Go.Hs

theorem PAt.lt {B : Nat} {h : Array Obj} {y : Lay} {lv : Value} {s : Sys} (hP : PAt B h y lv s) (hp : 1 ≤ s.P) : ∀ g ∈ y.fixed ++ lv.ownBlock.toList ++ [y.lg], g < h.size := by
  have hl1 : y.bs.length = s.L.length := by have := hP.lb.1; rw [hP.len]; simpa using this
  have hl2 : y.ms.length = s.L.length := by rw [hP.len]; exact hP.lms
  have hex : ∀ i < s.L.length, ∃ b m x, y.bs[i]? = some b ∧ y.ms[i]? = some m ∧ IsProc h b m x := by
    intro i hi
    obtain ⟨b, m, q1, q2, q3⟩ := hP.pr i _ (List.getElem?_eq_getElem hi)
    exact ⟨b, m, _, q1, q2, q3⟩
  obtain ⟨cnt, hcnt⟩ := hP.me.hm
  intro g hg
  simp [Lay.fixed] at hg
  rcases hg with hg | hg | rfl | rfl | rfl | hg | rfl
  · obtain ⟨i, hi⟩ := List.getElem?_of_mem hg
    obtain ⟨b, m, x, q1, q2, q3⟩ := hex i (by have := (List.getElem?_eq_some_iff.1 hi).1; omega)
    rw [hi] at q1; cases q1
    exact lt_of_heap q3.hb
  · obtain ⟨i, hi⟩ := List.getElem?_of_mem hg
    obtain ⟨b, m, x, q1, q2, q3⟩ := hex i (by have := (List.getElem?_eq_some_iff.1 hi).1; omega)
    rw [hi] at q2; cases q2
    exact q3.hm.lt
  · exact lt_of_heap hP.me.hb
  · exact lt_of_heap hP.me.hc
  · exact hcnt.lt
  · exact hP.me.hl.lt hg
  · exact hP.lb.lt rfl
theorem PAt.extF {B : Nat} {w w' : World} {y : Lay} {lv : Value} {s : Sys} (hP : PAt B w.heap y lv s) {F : List Nat} (hx : Ext F w w') (hF : ∀ g ∈ F, g ∉ y.fixed ++ lv.ownBlock.toList ++ [y.lg]) : PAt B w'.heap y lv s := by
  have hF' : ∀ g ∈ y.fixed ++ lv.ownBlock.toList ++ [y.lg], g ∉ F := fun g hg h => hF g h hg
  refine ⟨hP.me.ext hx (fun g hg => hF' g ?_), own_ext hP.lb hx (fun g hg => hF' g ?_), fun i x hi => ?_, hP.len, hP.lms, hP.nb, hP.nm, hP.lo⟩
  · simp [foot] at hg
    simp [Lay.fixed]
    rcases hg with h | h | h | h <;> simp [h]
  · simp [Value.ownBlock] at hg
    simp [hg]
  · obtain ⟨b, m, h1, h2, h3⟩ := hP.pr i x hi
    have m1 := List.mem_of_getElem? h1
    have m2 := List.mem_of_getElem? h2
    exact ⟨b, m, h1, h2, h3.ext hx (hF' b (by simp [Lay.fixed, m1])) (hF' m (by simp [Lay.fixed, m2]))⟩
theorem lookEq {w : World} {q : Nat} {l : List (Int × Int)} (hm : MapAt (Value.int .i64) (Value.int .i64) w.heap q l) {r v : Int} (hv : (mlook l r).getD 0 = v) :
    (Instr.lookup 27 (.map (some q)) (.int .i64 r) false).run Try.prog w = .ok (.int .i64 v) w := by
  have := run_lookup (P := Try.prog) (w := w) (d := (0 : Int)) keyInt Try.underlying27 (zeroInt w) hm r false
  rw [hv] at this
  exact this
/-- What 'once' has of the world, behind the first k slots. -/
structure OncAt (B : Nat) (w wr : World) (A q : Nat) (y : Lay) (r : RLay) (lv : Value) (s : Sys) (k : Nat) (l : List (Int × Int)) (ob : Bool) : Prop where
  pa : PAt B wr.heap y lv s
  bx : wr.heap[A]? = some (.cells #[.int .i64 s.P, .int .i64 s.S, .pointer (some ⟨y.mb, 0, none⟩), .slice (some ⟨y.lg, 0, none⟩) s.P y.lcap, .slice r.sao s.S r.scap, .slice r.wao s.P r.wcap, .slice (some ⟨r.pg, 0, none⟩) s.P r.pcap] 39 (0, 0))
  mp : MapAt (Value.int .i64) (Value.int .i64) wr.heap q l
  kn : ∀ p, (mlook l p).getD 0 = knownF (s.sl.take k) p
  op : ob = true → ∃ j, j < k ∧ (s.sl.getD j noText).toList = []
  ext : Ext [] w wr
  far : w.heap.size ≤ q ∧ q ∉ y.fixed ++ lv.ownBlock.toList ++ [y.lg]
theorem OncAt.ext0 {B : Nat} {w wr w' : World} {A q : Nat} {y : Lay} {r : RLay} {lv : Value} {s : Sys} {k : Nat} {l : List (Int × Int)} {ob : Bool} (h : OncAt B w wr A q y r lv s k l ob) (hx : Ext [] wr w') : OncAt B w w' A q y r lv s k l ob :=
  ⟨h.pa.ext0 hx, hx.same h.bx (by simp), h.mp.ext hx (by simp), h.kn, h.op, h.ext.trans0 hx, h.far⟩
theorem OncAt.put {B : Nat} {w wr w' : World} {A q : Nat} {y : Lay} {r : RLay} {lv : Value} {s : Sys} {k : Nat} {l l' : List (Int × Int)} {ob : Bool} (h : OncAt B w wr A q y r lv s k l ob) (hm : MapAt (Value.int .i64) (Value.int .i64) w'.heap q l') (hx : Ext [q] wr w')
    (hk : ∀ p, (mlook l' p).getD 0 = knownF (s.sl.take (k + 1)) p) : OncAt B w w' A q y r lv s (k + 1) l' ob :=
  ⟨h.pa.extF hx (fun g hg => by simp at hg; subst hg; exact h.far.2), hx.same h.bx (by simpa using h.mp.ne h.bx), hm, hk, fun ho => by obtain ⟨j, hj, he⟩ := h.op ho; exact ⟨j, by omega, he⟩, h.ext.trans hx (fun g hg => .inr (by simp at hg; subst hg; exact h.far.1)), h.far⟩
theorem known_empty {L : List ByteArray} {k : Nat} {t : ByteArray} (ht : L[k]? = some t) (he : t.toList = []) (p : Int) : knownF (L.take (k + 1)) p = knownF (L.take k) p := by
  rw [List.take_add_one, ht]
  show knownF (L.take k ++ [t]) p = _
  rw [knownF_snoc]
  unfold knownStep
  rw [if_neg (fun h => absurd he (parse_ne h.1))]
theorem known_auth {s : Sys} {n : Nat} (hI : SInv s n) (hn : n < 1000000) {k : Nat} {t : ByteArray} {w q : Nat} {b : ByteArray} (ht : s.sl[k]? = some t) (ha : AuthT s t w q b) (hlt : knownF (s.sl.take k) w < q) (p : Int) : knownF (s.sl.take (k + 1)) p = if (w : Int) = p then (q : Int) else knownF (s.sl.take k) p := by
  rw [List.take_add_one, ht]
  show knownF (s.sl.take k ++ [t]) p = _
  rw [knownF_snoc, auth_step hI hn ha]
  split
  · rename_i e; subst e; omega
  · rfl
theorem once_any (B : Nat) (y : Lay) (r : RLay) (lv : Value) (s : Sys) (n : Nat) (w : World) (hP : PAt B w.heap y lv s) (hI : SInv s n) (hn : n < 100000) (hO : OInv s) :
    Calls Try.prog 29 #[.agg #[.int .i64 s.P, .int .i64 s.S, .pointer (some ⟨y.mb, 0, none⟩), .slice (some ⟨y.lg, 0, none⟩) s.P y.lcap, .slice r.sao s.S r.scap, .slice r.wao s.P r.wcap, .slice (some ⟨r.pg, 0, none⟩) s.P r.pcap]] w fun e w' => e = .returned (.bool true) ∧ Ext [] w w' := by
  have hmk := fun w => run_makeMap (P := Try.prog) 27 w
  have hPp := hI.hP
  have hSs := hI.hS
  have hlt := hP.lt hPp.1
  have h0 : OncAt B w ((w.alloc (.cells #[.int .i64 s.P, .int .i64 s.S, .pointer (some ⟨y.mb, 0, none⟩), .slice (some ⟨y.lg, 0, none⟩) s.P y.lcap, .slice r.sao s.S r.scap, .slice r.wao s.P r.wcap, .slice (some ⟨r.pg, 0, none⟩) s.P r.pcap] 39)).alloc (.map #[] 0)) w.heap.size (w.heap.size + 1) y r lv s 0 [] false := by
    obtain ⟨hA, hq, hE, _⟩ := alloc_two w (.cells #[.int .i64 s.P, .int .i64 s.S, .pointer (some ⟨y.mb, 0, none⟩), .slice (some ⟨y.lg, 0, none⟩) s.P y.lcap, .slice r.sao s.S r.scap, .slice r.wao s.P r.wcap, .slice (some ⟨r.pg, 0, none⟩) s.P r.pcap] 39) (.map #[] 0)
    refine ⟨hP.ext0 hE, hA, ⟨#[], 0, hq, by simp, by simp, by simp, by simp⟩, fun p => by simp [known_nil], (fun h => by cases h), hE, by omega, fun hm => ?_⟩
    have := hlt _ hm
    omega
  have HI := Hs.hid hI
  have HO := Hs.hid hO
  have HN := Hs.hid hn
  have g1 : (1 : Int) ≤ s.P := by omega
  have g2 : (s.P : Int) ≤ 5 := by omega
  have g3 : (s.S : Int) ≤ 20 := by omega
  have g4 : (0 : Int) ≤ s.S := by omega
  clear hP hI hn hO hlt hPp hSs
  go_enter Try.func29, Try.ntmps29
  go_upto_region 2 with fail
  generalize (w.alloc (.cells #[.int .i64 s.P, .int .i64 s.S, .pointer (some ⟨y.mb, 0, none⟩), .slice (some ⟨y.lg, 0, none⟩) s.P y.lcap, .slice r.sao s.S r.scap, .slice r.wao s.P r.wcap, .slice (some ⟨r.pg, 0, none⟩) s.P r.pcap] 39)).alloc (.map #[] 0) = W at *
  clear hmk
  generalize w.heap.size + 1 = q at *
  generalize hAA : w.heap.size = A at *
  have HAA := Hs.hid hAA
  clear hAA
  obtain ⟨a0, a1, a2, a3, a4, a5, a6⟩ := bcells h0.bx
  go_upto_region 4 with fail
  clear a0 a1 a2 a3 a4 a5 a6
  go_loopw [13, 4] (fun i o wr => ∃ k l ob, k ≤ s.S ∧ i = .int .i64 (k : Nat) ∧ o = .bool ob ∧ OncAt B w wr A q y r lv s k l ob) (fun i _ _ => s.S - (intOf i).toNat)
  case atStart => exact ⟨0, [], false, Nat.zero_le _, rfl, rfl, h0⟩
  case round =>
    clear h0
    obtain ⟨k, l, ob, hk, rfl, rfl, h⟩ := hrel
    by_cases hlt : k < s.S
    · have hki : (k : Int) < s.S := by omega
      have hki20 : (k : Int) < 20 := by omega
      have hki0 : (0 : Int) ≤ k := by omega
      have hsl : s.sl.length = s.S := by unfold Sys.sl; rw [List.length_drop, HI.out.cells]; omega
      obtain ⟨t, hgt⟩ : ∃ t, s.sl.getD k ⟨#[]⟩ = t := ⟨_, rfl⟩
      have hsome : s.sl[k]? = some (s.sl.getD k ⟨#[]⟩) := getD_some (by rw [hsl]; exact hlt)
      have hat : s.M.at ((s.P : Int) + k) = s.sl.getD k ⟨#[]⟩ := slot_at s.M s.P k
      have hlog : swF s.M.log ((s.P : Int) + k) = (if (s.sl.getD k ⟨#[]⟩).toList = [] then 0 else 1, s.sl.getD k ⟨#[]⟩) := HO.out.log k hlt
      rw [hgt] at hsome hat hlog
      have HGT := Hs.hid hgt
      clear hgt
      obtain ⟨r1, r2, r3, r4, hpr⟩ : ∃ r1 r2 r3 r4, parseR (t) = (r1, r2, r3, r4) := ⟨_, _, _, _, rfl⟩
      have HK := Hs.hid (And.intro hlt hsome)
      have HAT := Hs.hid hat
      have HS := Hs.hid (show (0 : Int) ≤ s.P ∧ (s.P : Int) ≤ 100000 ∧ (0 : Int) ≤ k ∧ (k : Int) ≤ 100000 by omega)
      have HK0 := Hs.hid (show (0 : Int) ≤ s.P + k by omega)
      have HPR := Hs.hid hpr
      have HLOG := Hs.hid hlog
      clear hk hlt hat hsl hsome hpr hlog
      obtain ⟨a0, a1, a2, a3, a4, a5, a6⟩ := bcells h.bx
      go_upto_region 6 with fail
      go_cut [6] (fun s6 wx => s6 = .string (t) ∧ OncAt B w wx A q y r lv s k l ob)
      case first =>
        go_region_held3 (fun w' => w'.cell? ⟨A, 0, none⟩ = some (.int .i64 ↑s.P) ∧ w'.cell? ⟨A, 1, none⟩ = some (.int .i64 ↑s.S) ∧ w'.cell? ⟨A, 2, none⟩ = some (.pointer (some ⟨y.mb, 0, none⟩)))
          (first
            | exact ⟨a0, a1, a2⟩
            | go_keep)
          (first
            | (go_at_call 12; (with_reducible refine (slot_any s.P s.S k _ HS.out.1 HS.out.2.1 HS.out.2.2.1 HS.out.2.2.2).mono ?_); rintro e w1 ⟨rfl, hx1⟩; have h := h.ext0 (show Ext [] wr w1 from (by first | exact hx1 | exact ((Ext.refl [] _).drew).trans0 hx1)); clear a0 a1 a2 a3 a4 a5 a6; obtain ⟨a0, a1, a2, a3, a4, a5, a6⟩ := bcells h.bx)
            | (go_at_call 17; (refine (memLook_any y.mb y.mc y.mm lv s.M (s.P + k) HK0.out _ h.pa.me).mono ?_); rintro e w8 ⟨rfl, rfl⟩; rw [HAT.out]))
        all_goals go_wp2_with fail
        all_goals go_meet
        all_goals exact ⟨rfl, h⟩
      case rest =>
        clear h a0 a1 a2 a3 a4 a5 a6
        obtain ⟨rfl, h⟩ := hcut
        by_cases he : (t).toList = []
        · have hse : (t).toList.isEmpty = true := by rw [he]; rfl
          have HE := Hs.hid he
          clear he
          go_wp2_with (go_at_call 42; refine (parse_any _ r1 r2 r4 r3 HPR.out _).mono ?_; rintro e w9 ⟨rfl, hx9⟩)
          have h1 := (h.ext0 hx9).ext0 ((Ext.refl [] w9).alloc (.cells #[.int .i64 r1, .int .i64 r2, .string r3] 50))
          have h2 : OncAt B w (w9.alloc (.cells #[.int .i64 r1, .int .i64 r2, .string r3] 50)) A q y r lv s (k + 1) l true :=
            ⟨h1.pa, h1.bx, h1.mp, (fun p => by rw [known_empty HK.out.2 HE.out]; exact h1.kn p), fun _ => ⟨k, Nat.lt_succ_self k, (congrArg ByteArray.toList HGT.out).trans HE.out⟩, h1.ext, h1.far⟩
          go_round
          case rel => exact ⟨k + 1, l, true, HK.out.1, by go_num, rfl, h2⟩
          case measure => have := HK.out.1; simp [intOf]; omega
        · have hse : (t).toList.isEmpty = false := by simpa using he
          obtain ⟨w0, q0, b0, ha, hkq⟩ := HO.out.slot k _ HK.out.2 he
          have hpp := HPR.out
          rw [auth_parse HI.out (by have := HN.out; omega) ha] at hpp
          simp only [Prod.mk.injEq] at hpp
          obtain ⟨rfl, rfl, rfl, rfl⟩ := hpp
          have hob : ob = false := by
            cases ob with
            | false => rfl
            | true =>
              obtain ⟨j, hj, hje⟩ := h.op rfl
              exact absurd hje (HO.out.pre k (fun h => he ((congrArg ByteArray.toList HGT.out).symm.trans h)) j hj)
          subst hob
          have hkv : (mlook l (w0 : Int)).getD 0 = knownF (s.sl.take k) w0 := h.kn w0
          have hkn := known_auth HI.out (by have := HN.out; omega) HK.out.2 ha hkq
          have hsw : (((swF s.M.log ((s.P : Int) + k)).1 : Nat) : Int) = 1 := by rw [HLOG.out, if_neg he]; rfl
          have hle : decide ((q0 : Int) ≤ knownF (s.sl.take k) w0) = false := by simp; omega
          have HKN := Hs.hid (And.intro hkn hkv)
          have HSW := Hs.hid hsw
          have HPR2 := Hs.hid HPR.out
          clear he ha hkq hkn hsw
          generalize knownF (s.sl.take k) (w0 : Int) = v at hle hkv
          have HKV := Hs.hid hkv
          clear hkv
          go_upto_region 10 with (go_at_call 42; refine (parse_any _ (w0 : Int) (q0 : Int) 0 b0 HPR2.out _).mono ?_; rintro e w9 ⟨rfl, hx9⟩)
          have h1 := (h.ext0 hx9).ext0 ((Ext.refl [] w9).alloc (.cells #[.int .i64 w0, .int .i64 q0, .string b0] 50))
          have hR := heap_new w9 (.cells #[.int .i64 w0, .int .i64 q0, .string b0] 50)
          clear h hx9
          generalize w9.alloc (.cells #[.int .i64 w0, .int .i64 q0, .string b0] 50) = W9 at *
          generalize w9.heap.size = R at *
          obtain ⟨a0, a1, a2, a3, a4, a5, a6⟩ := bcells h1.bx
          have e0 : W9.cell? ⟨R, 0, none⟩ = some (.int .i64 w0) := cellAt hR 0
          have e1 : W9.cell? ⟨R, 1, none⟩ = some (.int .i64 q0) := cellAt hR 1
          have hlk := lookEq h1.mp HKV.out
          go_cut [53] (fun s53 wx => s53 = .bool false ∧ OncAt B w wx A q y r lv s k l false ∧ wx.heap[R]? = some (.cells #[.int .i64 w0, .int .i64 q0, .string b0] 50 (0, 0)))
          case first =>
            go_region_held3 (fun w' => w'.cell? ⟨A, 0, none⟩ = some (.int .i64 ↑s.P) ∧ w'.cell? ⟨A, 1, none⟩ = some (.int .i64 ↑s.S) ∧ w'.cell? ⟨A, 2, none⟩ = some (.pointer (some ⟨y.mb, 0, none⟩)) ∧ w'.cell? ⟨R, 0, none⟩ = some (.int .i64 w0) ∧ w'.cell? ⟨R, 1, none⟩ = some (.int .i64 q0) ∧
                (Instr.lookup 27 (.map (some q)) (.int .i64 w0) false).run Try.prog w' = .ok (.int .i64 v) w')
              (first
                | exact ⟨a0, a1, a2, e0, e1, hlk⟩
                | exact ⟨a0, a1, a2, e0, e1, lookEq (w := World.drew _) h1.mp HKV.out⟩
                | go_keep)
              (first
                | (go_at_call 12; (with_reducible refine (slot_any s.P s.S k _ HS.out.1 HS.out.2.1 HS.out.2.2.1 HS.out.2.2.2).mono ?_); rintro e w1 ⟨rfl, hx1⟩; have hx1' : Ext [] W9 w1 := (by first | exact hx1 | exact ((Ext.refl [] _).drew).trans0 hx1); have h1 := h1.ext0 hx1'; have hR := hx1'.same hR (by simp); clear a0 a1 a2 a3 a4 a5 a6 e0 e1 hlk; obtain ⟨a0, a1, a2, a3, a4, a5, a6⟩ := bcells h1.bx; have e0 : w1.cell? ⟨R, 0, none⟩ = some (.int .i64 w0) := cellAt hR 0; have e1 : w1.cell? ⟨R, 1, none⟩ = some (.int .i64 q0) := cellAt hR 1; have hlk := lookEq h1.mp HKV.out)
                | (go_at_call 46; (refine (swaps_any y.mb y.mc y.mm lv s.M (s.P + k) _ h1.pa.me (by have := HI.out.log; have := HN.out; omega)).mono ?_); rintro e w8 ⟨rfl, hx8⟩; rw [HSW.out]; have h1 := h1.ext0 hx8; have hR := hx8.same hR (by simp); clear a0 a1 a2 a3 a4 a5 a6 e0 e1 hlk; obtain ⟨a0, a1, a2, a3, a4, a5, a6⟩ := bcells h1.bx; have e0 : w8.cell? ⟨R, 0, none⟩ = some (.int .i64 w0) := cellAt hR 0; have e1 : w8.cell? ⟨R, 1, none⟩ = some (.int .i64 q0) := cellAt hR 1; have hlk := lookEq h1.mp HKV.out))
            all_goals go_wp2_with fail
            all_goals go_meet
            all_goals exact ⟨rfl, h1, hR⟩
          case rest =>
            clear h1 hR a0 a1 a2 a3 a4 a5 a6 e0 e1 hlk
            obtain ⟨rfl, h1, hR⟩ := hcut
            rename_i wz _
            have e0 := cellAt hR 0
            have e1 := cellAt hR 1
            simp at e0 e1
            have hput : ∀ p, (mlook (mput l (w0 : Int) (q0 : Int)) p).getD 0 = knownF (s.sl.take (k + 1)) p := by
              intro p
              rw [mlook_put, HKN.out.1 p]
              by_cases e : p = (w0 : Int)
              · subst e; rw [if_pos rfl, if_pos rfl]; rfl
              · rw [if_neg e, if_neg (fun h => e h.symm)]; exact h1.kn p
            have HP := Hs.hid hput
            clear hput
            go_wp2_with (at_mapUpdate; refine wpList_mapUpdate (l := l) rfl rfl _ _ _ rfl keyInt Try.underlying27 rfl h1.mp (w0 : Int) rfl (q0 : Int) rfl ?_; intro w10 hm10 hx10)
            have h2 := h1.put hm10 hx10 HP.out
            go_round
            case rel => exact ⟨k + 1, _, false, HK.out.1, by go_num, rfl, h2⟩
            case measure => have := HK.out.1; simp [intOf]; omega
    · have hd : ¬ (k : Int) < s.S := by omega
      have hE := h.ext
      clear hk hlt h
      go_wp2_with fail
      go_ret
      exact ⟨rfl, hE⟩
end Go.Proofs.Ytkhihpmadmmeaaa
set_option linter.unusedSimpArgs false
set_option linter.unusedVariables false
set_option maxHeartbeats 4000000
namespace Go.Proofs.Ytkhihpmadmmeaaa
open Go.RowKit Go.Hs

theorem fixed_far' {B : Nat} {h : Array Obj} {y : Lay} {lv : Value} {s : Sys} (hP : PAt B h y lv s) (hp : 1 ≤ s.P) {g : Nat} (hg : h.size ≤ g ∨ ∃ cs t f, h[g]? = some (.cells cs t f) ∧ t ≠ 75 ∧ t ≠ 73 ∧ t ≠ 85 ∧ t ≠ 9 ∧ t ≠ 48) : g ∉ y.fixed ++ lv.ownBlock.toList ++ [y.lg] := by
  intro hm
  rcases hg with hg | ⟨cs, t, f, hg, h1, h2, h3, h4, h5⟩
  · have := hP.lt hp g hm; omega
  · rcases List.mem_append.1 hm with q | q
    · exact fixed_far hP hg h1 h2 h3 h4 q
    · simp at q; subst q
      obtain ⟨cur, hc⟩ := hP.lb.block (g := y.lg) rfl
      rw [hg] at hc
      simp at hc
      exact h5 hc.2.1
theorem XAt.extF {B : Nat} {w w' : World} {y : Lay} {r : RLay} {P S : Nat} {X : RW} (hX : XAt B w.heap y r P S X) {F : List Nat} (hx : Ext F w w')
    (hF : ∀ g ∈ F, w.heap.size ≤ g ∨ ∃ cs t f, w.heap[g]? = some (.cells cs t f) ∧ t ≠ 9 ∧ t ≠ 62) : XAt B w'.heap y r P S X := by
  have key : ∀ {g : Nat} {cs : Array Value} {t : TypeId} {f : Nat × Nat}, w.heap[g]? = some (.cells cs t f) → (t = 9 ∨ t = 62) → g ∉ F := by
    intro g cs t f h1 h2 hm
    rcases hF g hm with h3 | ⟨cs', t', f', h3, h4⟩
    · have := lt_of_heap h1; omega
    · rw [h1] at h3
      simp at h3
      obtain ⟨_, rfl, _⟩ := h3
      rcases h2 with h | h
      · exact h4.1 h
      · exact h4.2 h
  refine ⟨hX.rf.ext hx fun g hg => ?_, hX.ns, hX.nw, hX.np⟩
  rcases hg with hg | hg | rfl
  · obtain ⟨cur, hc⟩ := hX.rf.s.block hg
    exact key hc (by simp)
  · obtain ⟨cur, hc⟩ := hX.rf.w.block hg
    exact key hc (by simp)
  · obtain ⟨cur, hc⟩ := hX.rf.p.block (g := r.pg) rfl
    exact key hc (by simp)
theorem StAt.lt {w wr : World} {V : Nat} {y : Lay} {r : RLay} {lv : Value} {s : Sys} {n : Nat} (h : StAt w wr V y r lv s n) : V < wr.heap.size := lt_of_heap h.bx
/-- Behind the call: what lies above the State's own blocks reads as it did. -/
theorem DidAt.kept {w wr wx w' : World} {V : Nat} {y : Lay} {r r' : RLay} {lv lv' : Value} {s s' : Sys} {n m : Nat} (hS : StAt w wr V y r lv s m) (h : DidAt w wx w' V y r r' lv lv' s s' n) : ∀ (g : Nat) (o : Obj), wr.heap.size ≤ g → wx.heap[g]? = some o → w'.heap[g]? = some o := by
  intro g o hg ho
  refine h.frame.same ho fun hm => ?_
  have := hS.pa.lt hS.inv.hP.1 g (List.mem_append_left _ hm)
  omega
theorem DidAt.rules {w wr wx w' : World} {V : Nat} {y : Lay} {r r' : RLay} {lv lv' : Value} {s s' : Sys} {n m : Nat} (hS : StAt w wr V y r lv s m) (h : DidAt w wx w' V y r r' lv lv' s s' n) :
    (∀ b o, wr.heap.size ≤ b → b < wx.heap.size → w'.cell? ⟨b, o, none⟩ = wx.cell? ⟨b, o, none⟩) ∧ (∀ b o, wr.heap.size ≤ b → b < wx.heap.size → w'.frozen? ⟨b, o, none⟩ = wx.frozen? ⟨b, o, none⟩) := by
  have hk := h.kept hS
  constructor
  · intro b o h1 h2
    have := hk b _ h1 (Array.getElem?_eq_getElem h2)
    unfold World.cell?
    simp [this, h2]
  · intro b o h1 h2
    have := hk b _ h1 (Array.getElem?_eq_getElem h2)
    unfold World.frozen?
    simp [this, h2]
/-- What stands behind the region: the State in its old variable, the new one in T, the end in E. -/
structure MidAt (w wr wF : World) (V T E : Nat) (y : Lay) (r r' : RLay) (lv' : Value) (s s' : Sys) (n : Nat) (d f : Bool) (sl : Int) : Prop where
  pa : PAt w.heap.size wF.heap y lv' s'
  xa : XAt w.heap.size wF.heap y r' s'.P s'.S s'.ref
  inv : SInv s' (n + 1)
  bx : wF.heap[V]? = some (.cells #[.int .i64 s.P, .int .i64 s.S, .pointer (some ⟨y.mb, 0, none⟩), .slice (some ⟨y.lg, 0, none⟩) s.P y.lcap, .slice r.sao s.S r.scap, .slice r.wao s.P r.wcap, .slice (some ⟨r.pg, 0, none⟩) s.P r.pcap] 39 (0, 0))
  bt : wF.heap[T]? = some (.cells #[.int .i64 s'.P, .int .i64 s'.S, .pointer (some ⟨y.mb, 0, none⟩), .slice (some ⟨y.lg, 0, none⟩) s'.P y.lcap, .slice r'.sao s'.S r'.scap, .slice r'.wao s'.P r'.wcap, .slice (some ⟨r'.pg, 0, none⟩) s'.P r'.pcap] 39 (0, 0))
  be : wF.heap[E]? = some (.cells #[.bool d, .bool f, .int .i64 sl] 42 (0, 0))
  ext : Ext [] w wF
  lo : w.heap.size ≤ V
  far : ∀ (g : Nat) (cs : Array Value) (t : TypeId) (fr : Nat × Nat), t ≠ 75 → t ≠ 73 → t ≠ 85 → t ≠ 9 → wr.heap[g]? = some (.cells cs t fr) → wF.heap[g]? = some (.cells cs t fr)
  mfar : ∀ (g : Nat) (o : Obj), g ∉ y.fixed → (∃ es c, o = .map es c) → wr.heap[g]? = some o → wF.heap[g]? = some o
theorem midAt_of {w wr wx w2 wF : World} {V T E : Nat} {y : Lay} {r r' : RLay} {lv lv' : Value} {s s' : Sys} {n : Nat} {d f : Bool} {sl : Int} (hS : StAt w wr V y r lv s n) (hwx : Ext [] wr wx) (hD : DidAt w wx w2 V y r r' lv lv' s s' n) (hx : Ext [T, E] w2 wF)
    (hT : w2.heap.size ≤ T ∨ ∃ cs fr, w2.heap[T]? = some (.cells cs 39 fr)) (hE : w2.heap.size ≤ E ∨ ∃ cs fr, w2.heap[E]? = some (.cells cs 42 fr)) (hlo : wr.heap.size ≤ T ∧ wr.heap.size ≤ E)
    (bt : wF.heap[T]? = some (.cells #[.int .i64 s'.P, .int .i64 s'.S, .pointer (some ⟨y.mb, 0, none⟩), .slice (some ⟨y.lg, 0, none⟩) s'.P y.lcap, .slice r'.sao s'.S r'.scap, .slice r'.wao s'.P r'.wcap, .slice (some ⟨r'.pg, 0, none⟩) s'.P r'.pcap] 39 (0, 0)))
    (be : wF.heap[E]? = some (.cells #[.bool d, .bool f, .int .i64 sl] 42 (0, 0))) : MidAt w wr wF V T E y r r' lv' s s' n d f sl := by
  have hV := hS.lt
  have hw := hS.ext.size
  have hF : ∀ g ∈ [T, E], w2.heap.size ≤ g ∨ ∃ cs t f, w2.heap[g]? = some (.cells cs t f) ∧ t ≠ 75 ∧ t ≠ 73 ∧ t ≠ 85 ∧ t ≠ 9 ∧ t ≠ 48 := by
    intro g hg
    simp at hg
    rcases hg with rfl | rfl
    · exact hT.imp id fun ⟨cs, fr, h⟩ => ⟨cs, _, fr, h, by decide, by decide, by decide, by decide, by decide⟩
    · exact hE.imp id fun ⟨cs, fr, h⟩ => ⟨cs, _, fr, h, by decide, by decide, by decide, by decide, by decide⟩
  have hF2 : ∀ g ∈ [T, E], w2.heap.size ≤ g ∨ ∃ cs t f, w2.heap[g]? = some (.cells cs t f) ∧ t ≠ 9 ∧ t ≠ 62 := by
    intro g hg
    simp at hg
    rcases hg with rfl | rfl
    · exact hT.imp id fun ⟨cs, fr, h⟩ => ⟨cs, _, fr, h, by decide, by decide⟩
    · exact hE.imp id fun ⟨cs, fr, h⟩ => ⟨cs, _, fr, h, by decide, by decide⟩
  refine ⟨hD.pa.extF hx (fun g hg => fixed_far' hD.pa hD.inv.hP.1 (hF g hg)), hD.xa.extF hx hF2, hD.inv, hx.same hD.bx (by simp; omega), bt, be, hD.ext.trans hx (fun g hg => .inr (by simp at hg; omega)), hS.lo, ?_, ?_⟩
  · intro g cs t fr h1 h2 h3 h4 hg
    have hgl := lt_of_heap hg
    exact hx.same (hD.frame.same (hwx.same hg (by simp)) (fixed_far (hS.pa.ext0 hwx) (hwx.same hg (by simp)) h1 h2 h3 h4)) (by simp; omega)
  · intro g o hgf ho hg
    have hgl := lt_of_heap hg
    refine hx.same (hD.frame.same (hwx.same hg (by simp)) fun hm => ?_) (by simp; omega)
    rcases List.mem_append.1 hm with q | q
    · exact hgf q
    · obtain ⟨cur, hc⟩ := (hS.pa.ext0 hwx).me.hl.block (by simpa using q)
      obtain ⟨es, c, rfl⟩ := ho
      rw [hwx.same hg (by simp)] at hc
      cases hc
theorem actKeep {w X : World} {V k len cap : Nat} {a : Addr} {L : List ActR} {x : ActR} {y : Lay} {r : RLay} {s : Sys} (hL : ActsAt w (some a) len cap L) (hx : L[k]? = some x)
    (hb : X.heap[V]? = some (.cells #[.int .i64 s.P, .int .i64 s.S, .pointer (some ⟨y.mb, 0, none⟩), .slice (some ⟨y.lg, 0, none⟩) s.P y.lcap, .slice r.sao s.S r.scap, .slice r.wao s.P r.wcap, .slice (some ⟨r.pg, 0, none⟩) s.P r.pcap] 39 (0, 0))) (he : Ext [] w X) :
    X.cell? ⟨V, 0, none⟩ = some (.int .i64 s.P) ∧ X.cell? ⟨V, 1, none⟩ = some (.int .i64 s.S) ∧ X.cell? ⟨V, 2, none⟩ = some (.pointer (some ⟨y.mb, 0, none⟩)) ∧ X.cell? ⟨V, 3, none⟩ = some (.slice (some ⟨y.lg, 0, none⟩) s.P y.lcap) ∧ X.cell? ⟨V, 4, none⟩ = some (.slice r.sao s.S r.scap) ∧
    X.cell? ⟨V, 5, none⟩ = some (.slice r.wao s.P r.wcap) ∧ X.cell? ⟨V, 6, none⟩ = some (.slice (some ⟨r.pg, 0, none⟩) s.P r.pcap) ∧ X.cell? (a.add (k * 3)) = some (.int .i64 x.kind) ∧ X.cell? ⟨(a.add (k * 3)).block, (a.add (k * 3)).off + 1, none⟩ = some (.int .i64 x.who) ∧ X.cell? ⟨(a.add (k * 3)).block, (a.add (k * 3)).off + 2, none⟩ = some (.string x.raw) := by
  obtain ⟨v0, v1, v2, v3, v4, v5, v6⟩ := bcells hb
  obtain ⟨_, c0, c1, c2⟩ := (hL.ext0 he).cells hx
  exact ⟨v0, v1, v2, v3, v4, v5, v6, c0, c1, c2⟩
theorem dcells {w : World} {T : Nat} (h : w.heap[T]? = some (.cells zeroState 39 (0, 0))) : w.cell? ⟨T, 0, none⟩ = some (.int .i64 0) ∧ w.cell? ⟨T, 1, none⟩ = some (.int .i64 0) ∧ w.cell? ⟨T, 2, none⟩ = some (.pointer none) ∧
    w.cell? ⟨T, 3, none⟩ = some (.slice none 0 0) ∧ w.cell? ⟨T, 4, none⟩ = some (.slice none 0 0) ∧ w.cell? ⟨T, 5, none⟩ = some (.slice none 0 0) ∧ w.cell? ⟨T, 6, none⟩ = some (.slice none 0 0) ∧ (∀ o, w.frozen? ⟨T, o, none⟩ = false) := zcells h
theorem heap_new_at {w : World} {o : Obj} {n : Nat} (h : w.heap.size = n) : (w.alloc o).heap[n]? = some o := by subst h; exact heap_new _ _
theorem set_size (w : World) (a : Addr) (v : Value) : (w.setCell a v).heap.size = w.heap.size := by simp [World.setCell]
theorem set3 {w : World} {E : Nat} (h : w.heap[E]? = some (.cells #[.bool false, .bool false, .int .i64 0] 42 (0, 0))) (v0 v1 v2 : Value) :
    (((w.setCell ⟨E, 0, none⟩ v0).setCell ⟨E, 1, none⟩ v1).setCell ⟨E, 2, none⟩ v2).heap[E]? = some (.cells #[v0, v1, v2] 42 (0, 0)) := by
  refine Eq.trans (heap_set (heap_set (heap_set h 0 _) 1 _) 2 _) ?_
  simp
theorem set7 {w : World} {T : Nat} (h : w.heap[T]? = some (.cells zeroState 39 (0, 0))) (v0 v1 v2 v3 v4 v5 v6 : Value) :
    (((((((w.setCell ⟨T, 0, none⟩ v0).setCell ⟨T, 1, none⟩ v1).setCell ⟨T, 2, none⟩ v2).setCell ⟨T, 3, none⟩ v3).setCell ⟨T, 4, none⟩ v4).setCell ⟨T, 5, none⟩ v5).setCell ⟨T, 6, none⟩ v6).heap[T]? = some (.cells #[v0, v1, v2, v3, v4, v5, v6] 39 (0, 0)) := by
  refine Eq.trans (heap_set (heap_set (heap_set (heap_set (heap_set (heap_set (heap_set h 0 _) 1 _) 2 _) 3 _) 4 _) 5 _) 6 _) ?_
  simp
/-- The world at the call. -/
abbrev ofDid {w wx w2 : World} {V : Nat} {y : Lay} {r r' : RLay} {lv lv' : Value} {s s' : Sys} {n : Nat} (_ : DidAt w wx w2 V y r r' lv lv' s s' n) : World := wx
theorem mid1 {w wr wx w2 : World} {V : Nat} {y : Lay} {r r' : RLay} {lv lv' : Value} {s s' : Sys} {n : Nat} {d f : Bool} {sl : Int} (hS : StAt w wr V y r lv s n) (hwx : Ext [] wr wx) (hD : DidAt w wx w2 V y r r' lv lv' s s' n) :
    MidAt w wr ((w2.alloc (.cells #[.int .i64 s'.P, .int .i64 s'.S, .pointer (some ⟨y.mb, 0, none⟩), .slice (some ⟨y.lg, 0, none⟩) s'.P y.lcap, .slice r'.sao s'.S r'.scap, .slice r'.wao s'.P r'.wcap, .slice (some ⟨r'.pg, 0, none⟩) s'.P r'.pcap] 39)).alloc (.cells #[.bool d, .bool f, .int .i64 sl] 42)) V w2.heap.size (w2.heap.size + 1) y r r' lv' s s' n d f sl := by
  have h1 := hwx.size
  have h2 := hD.frame.size
  exact midAt_of hS hwx hD (by repeat (first | (with_reducible exact Ext.refl _ _) | (with_reducible refine Ext.set' (List.mem_cons_self) ?_ _ _) | (with_reducible refine Ext.set' (List.mem_cons_of_mem _ (List.mem_cons_self)) ?_ _ _) | (with_reducible refine Ext.alloc ?_ _))) (.inl (Nat.le_refl _)) (.inl (by omega)) (by omega) (alloc_two w2 _ _).1 (alloc_two w2 _ _).2.1
theorem mid2 {w wr wx w2 : World} {V : Nat} {y : Lay} {r r' : RLay} {lv lv' : Value} {s s' : Sys} {n : Nat} {d f : Bool} {sl : Int} (hS : StAt w wr V y r lv s n) (hwx : Ext [] wr wx) (hD : DidAt w wx w2 V y r r' lv lv' s s' n) :
    MidAt w wr ((w2.alloc (.cells #[.bool d, .bool f, .int .i64 sl] 42)).alloc (.cells #[.int .i64 s'.P, .int .i64 s'.S, .pointer (some ⟨y.mb, 0, none⟩), .slice (some ⟨y.lg, 0, none⟩) s'.P y.lcap, .slice r'.sao s'.S r'.scap, .slice r'.wao s'.P r'.wcap, .slice (some ⟨r'.pg, 0, none⟩) s'.P r'.pcap] 39)) V (w2.heap.size + 1) w2.heap.size y r r' lv' s s' n d f sl := by
  have h1 := hwx.size
  have h2 := hD.frame.size
  exact midAt_of hS hwx hD (by repeat (first | (with_reducible exact Ext.refl _ _) | (with_reducible refine Ext.set' (List.mem_cons_self) ?_ _ _) | (with_reducible refine Ext.set' (List.mem_cons_of_mem _ (List.mem_cons_self)) ?_ _ _) | (with_reducible refine Ext.alloc ?_ _))) (.inl (by omega)) (.inl (Nat.le_refl _)) (by omega) (alloc_two w2 _ _).2.1 (alloc_two w2 _ _).1
theorem mid3 {w wr wx w2 : World} {V T : Nat} {y : Lay} {r r' : RLay} {lv lv' : Value} {s s' : Sys} {n : Nat} {d f : Bool} {sl : Int} (hS : StAt w wr V y r lv s n) (hwx : Ext [] wr wx) (hD : DidAt w wx w2 V y r r' lv lv' s s' n) (hT : w2.heap[T]? = some (.cells zeroState 39 (0, 0))) (hlo : wr.heap.size ≤ T) :
    MidAt w wr ((((((((w2.setCell ⟨T, 0, none⟩ (.int .i64 s'.P)).setCell ⟨T, 1, none⟩ (.int .i64 s'.S)).setCell ⟨T, 2, none⟩ (.pointer (some ⟨y.mb, 0, none⟩))).setCell ⟨T, 3, none⟩ (.slice (some ⟨y.lg, 0, none⟩) s'.P y.lcap)).setCell ⟨T, 4, none⟩ (.slice r'.sao s'.S r'.scap)).setCell ⟨T, 5, none⟩ (.slice r'.wao s'.P r'.wcap)).setCell ⟨T, 6, none⟩ (.slice (some ⟨r'.pg, 0, none⟩) s'.P r'.pcap)).alloc (.cells #[.bool d, .bool f, .int .i64 sl] 42)) V T w2.heap.size y r r' lv' s s' n d f sl := by
  have h1 := hwx.size
  have h2 := hD.frame.size
  exact midAt_of hS hwx hD (by repeat (first | (with_reducible exact Ext.refl _ _) | (with_reducible refine Ext.set' (List.mem_cons_self) ?_ _ _) | (with_reducible refine Ext.set' (List.mem_cons_of_mem _ (List.mem_cons_self)) ?_ _ _) | (with_reducible refine Ext.alloc ?_ _))) (.inr ⟨_, _, hT⟩) (.inl (Nat.le_refl _)) (by omega) (heap_old' _ _ (set7 hT _ _ _ _ _ _ _)) (heap_new_at (by simp only [set_size]))
theorem mid4 {w wr wx w2 : World} {V T E : Nat} {y : Lay} {r r' : RLay} {lv lv' : Value} {s s' : Sys} {n : Nat} {d f : Bool} {sl : Int} (hS : StAt w wr V y r lv s n) (hwx : Ext [] wr wx) (hD : DidAt w wx w2 V y r r' lv lv' s s' n) (hT : w2.heap[T]? = some (.cells zeroState 39 (0, 0))) (hE : w2.heap[E]? = some (.cells #[.bool false, .bool false, .int .i64 0] 42 (0, 0))) (hlo : wr.heap.size ≤ T ∧ wr.heap.size ≤ E) :
    MidAt w wr ((((((((((w2.setCell ⟨T, 0, none⟩ (.int .i64 s'.P)).setCell ⟨T, 1, none⟩ (.int .i64 s'.S)).setCell ⟨T, 2, none⟩ (.pointer (some ⟨y.mb, 0, none⟩))).setCell ⟨T, 3, none⟩ (.slice (some ⟨y.lg, 0, none⟩) s'.P y.lcap)).setCell ⟨T, 4, none⟩ (.slice r'.sao s'.S r'.scap)).setCell ⟨T, 5, none⟩ (.slice r'.wao s'.P r'.wcap)).setCell ⟨T, 6, none⟩ (.slice (some ⟨r'.pg, 0, none⟩) s'.P r'.pcap)).setCell ⟨E, 0, none⟩ (.bool d)).setCell ⟨E, 1, none⟩ (.bool f)).setCell ⟨E, 2, none⟩ (.int .i64 sl)) V T E y r r' lv' s s' n d f sl := by
  have hne : T ≠ E := ne_block hT hE (by simp)
  have hx7 : Ext [T] w2 (((((((w2.setCell ⟨T, 0, none⟩ (.int .i64 s'.P)).setCell ⟨T, 1, none⟩ (.int .i64 s'.S)).setCell ⟨T, 2, none⟩ (.pointer (some ⟨y.mb, 0, none⟩))).setCell ⟨T, 3, none⟩ (.slice (some ⟨y.lg, 0, none⟩) s'.P y.lcap)).setCell ⟨T, 4, none⟩ (.slice r'.sao s'.S r'.scap)).setCell ⟨T, 5, none⟩ (.slice r'.wao s'.P r'.wcap)).setCell ⟨T, 6, none⟩ (.slice (some ⟨r'.pg, 0, none⟩) s'.P r'.pcap)) := by
    repeat (first | (with_reducible exact Ext.refl _ _) | (with_reducible refine Ext.set' (List.mem_cons_self) ?_ _ _))
  have hE7 := hx7.same hE (by simpa using hne.symm)
  have hT7 := set7 hT (.int .i64 s'.P) (.int .i64 s'.S) (.pointer (some ⟨y.mb, 0, none⟩)) (.slice (some ⟨y.lg, 0, none⟩) s'.P y.lcap) (.slice r'.sao s'.S r'.scap) (.slice r'.wao s'.P r'.wcap) (.slice (some ⟨r'.pg, 0, none⟩) s'.P r'.pcap)
  generalize (((((((w2.setCell ⟨T, 0, none⟩ (.int .i64 s'.P)).setCell ⟨T, 1, none⟩ (.int .i64 s'.S)).setCell ⟨T, 2, none⟩ (.pointer (some ⟨y.mb, 0, none⟩))).setCell ⟨T, 3, none⟩ (.slice (some ⟨y.lg, 0, none⟩) s'.P y.lcap)).setCell ⟨T, 4, none⟩ (.slice r'.sao s'.S r'.scap)).setCell ⟨T, 5, none⟩ (.slice r'.wao s'.P r'.wcap)).setCell ⟨T, 6, none⟩ (.slice (some ⟨r'.pg, 0, none⟩) s'.P r'.pcap)) = W7 at *
  have hx3 : Ext [E] W7 (((W7.setCell ⟨E, 0, none⟩ (.bool d)).setCell ⟨E, 1, none⟩ (.bool f)).setCell ⟨E, 2, none⟩ (.int .i64 sl)) := by
    repeat (first | (with_reducible exact Ext.refl _ _) | (with_reducible refine Ext.set' (List.mem_cons_self) ?_ _ _))
  exact midAt_of hS hwx hD ((hx7.mono (by simp)).trans hx3 (by simp)) (.inr ⟨_, _, hT⟩) (.inr ⟨_, _, hE⟩) hlo (hx3.same hT7 (by simpa using hne)) (set3 hE7 _ _ _)
theorem mid5 {w wr wx w2 : World} {V E : Nat} {y : Lay} {r r' : RLay} {lv lv' : Value} {s s' : Sys} {n : Nat} {d f : Bool} {sl : Int} (hS : StAt w wr V y r lv s n) (hwx : Ext [] wr wx) (hD : DidAt w wx w2 V y r r' lv lv' s s' n) (hE : w2.heap[E]? = some (.cells #[.bool false, .bool false, .int .i64 0] 42 (0, 0))) (hlo : wr.heap.size ≤ E) :
    MidAt w wr ((((w2.setCell ⟨E, 0, none⟩ (.bool d)).setCell ⟨E, 1, none⟩ (.bool f)).setCell ⟨E, 2, none⟩ (.int .i64 sl)).alloc (.cells #[.int .i64 s'.P, .int .i64 s'.S, .pointer (some ⟨y.mb, 0, none⟩), .slice (some ⟨y.lg, 0, none⟩) s'.P y.lcap, .slice r'.sao s'.S r'.scap, .slice r'.wao s'.P r'.wcap, .slice (some ⟨r'.pg, 0, none⟩) s'.P r'.pcap] 39)) V w2.heap.size E y r r' lv' s s' n d f sl := by
  have h1 := hwx.size
  have h2 := hD.frame.size
  exact midAt_of hS hwx hD (by repeat (first | (with_reducible exact Ext.refl _ _) | (with_reducible refine Ext.set' (List.mem_cons_self) ?_ _ _) | (with_reducible refine Ext.set' (List.mem_cons_of_mem _ (List.mem_cons_self)) ?_ _ _) | (with_reducible refine Ext.alloc ?_ _))) (.inl (Nat.le_refl _)) (.inr ⟨_, _, hE⟩) (by omega) (heap_new_at (by simp only [set_size])) (heap_old' _ _ (set3 hE _ _ _))
theorem ecells {w : World} {E : Nat} {d f : Bool} {sl : Int} (h : w.heap[E]? = some (.cells #[.bool d, .bool f, .int .i64 sl] 42 (0, 0))) : w.cell? ⟨E, 0, none⟩ = some (.bool d) ∧ w.cell? ⟨E, 1, none⟩ = some (.bool f) ∧ w.cell? ⟨E, 2, none⟩ = some (.int .i64 sl) := ⟨cellAt h 0, cellAt h 1, cellAt h 2⟩
theorem mcells {w : World} {R : Nat} {a b : Int} {c : ByteArray} (h : w.heap[R]? = some (.cells #[.int .i64 a, .int .i64 b, .string c] 60 (0, 0))) : w.cell? ⟨R, 0, none⟩ = some (.int .i64 a) ∧ w.cell? ⟨R, 1, none⟩ = some (.int .i64 b) ∧ w.cell? ⟨R, 2, none⟩ = some (.string c) := ⟨cellAt h 0, cellAt h 1, cellAt h 2⟩
/-- .. and behind 's = t'. -/
theorem MidAt.store {w wr wF : World} {V T E : Nat} {y : Lay} {r r' : RLay} {lv' : Value} {s s' : Sys} {n : Nat} {d f : Bool} {sl : Int} (h : MidAt w wr wF V T E y r r' lv' s s' n d f sl) :
    StAt w (((((((wF.setCell ⟨V, 0, none⟩ (.int .i64 s'.P)).setCell ⟨V, 1, none⟩ (.int .i64 s'.S)).setCell ⟨V, 2, none⟩ (.pointer (some ⟨y.mb, 0, none⟩))).setCell ⟨V, 3, none⟩ (.slice (some ⟨y.lg, 0, none⟩) s'.P y.lcap)).setCell ⟨V, 4, none⟩ (.slice r'.sao s'.S r'.scap)).setCell ⟨V, 5, none⟩ (.slice r'.wao s'.P r'.wcap)).setCell ⟨V, 6, none⟩ (.slice (some ⟨r'.pg, 0, none⟩) s'.P r'.pcap)) V y r' lv' s' (n + 1) ∧
    Ext [V] wF (((((((wF.setCell ⟨V, 0, none⟩ (.int .i64 s'.P)).setCell ⟨V, 1, none⟩ (.int .i64 s'.S)).setCell ⟨V, 2, none⟩ (.pointer (some ⟨y.mb, 0, none⟩))).setCell ⟨V, 3, none⟩ (.slice (some ⟨y.lg, 0, none⟩) s'.P y.lcap)).setCell ⟨V, 4, none⟩ (.slice r'.sao s'.S r'.scap)).setCell ⟨V, 5, none⟩ (.slice r'.wao s'.P r'.wcap)).setCell ⟨V, 6, none⟩ (.slice (some ⟨r'.pg, 0, none⟩) s'.P r'.pcap)) := by
  have hx : Ext [V] wF (((((((wF.setCell ⟨V, 0, none⟩ (.int .i64 s'.P)).setCell ⟨V, 1, none⟩ (.int .i64 s'.S)).setCell ⟨V, 2, none⟩ (.pointer (some ⟨y.mb, 0, none⟩))).setCell ⟨V, 3, none⟩ (.slice (some ⟨y.lg, 0, none⟩) s'.P y.lcap)).setCell ⟨V, 4, none⟩ (.slice r'.sao s'.S r'.scap)).setCell ⟨V, 5, none⟩ (.slice r'.wao s'.P r'.wcap)).setCell ⟨V, 6, none⟩ (.slice (some ⟨r'.pg, 0, none⟩) s'.P r'.pcap)) := by
    repeat (first | (with_reducible exact Ext.refl _ _) | (with_reducible refine Ext.set' (List.mem_singleton.2 rfl) ?_ _ _))
  refine ⟨⟨h.pa.extT hx ?_, h.xa.extT hx ?_, h.inv, ?_, h.ext.trans hx (fun g hg => .inr (by simp at hg; have := h.lo; omega)), h.lo⟩, hx⟩
  · intro g hg
    simp at hg; subst hg
    exact ⟨_, _, _, h.bx, by decide, by decide, by decide, by decide, by decide⟩
  · intro g hg
    simp at hg; subst hg
    exact ⟨_, _, _, h.bx, by decide, by decide⟩
  · exact (heap_set (heap_set (heap_set (heap_set (heap_set (heap_set (heap_set h.bx 0 _) 1 _) 2 _) 3 _) 4 _) 5 _) 6 _)
end Go.Proofs.Ytkhihpmadmmeaaa
set_option linter.unusedSimpArgs false
set_option linter.unusedVariables false
set_option maxHeartbeats 2000000
set_option maxRecDepth 100000
namespace Go.Proofs.Ytkhihpmadmmeaaa
open Go.RowKit Go.Hs

/-- How many steps of its own each process has done behind what it began. -/
def FreeO (s : Sys) (own : List (Int × Int)) : Prop := ∀ (i : Nat) (x : PSt), s.L[i]? = some x → ∃ o : Nat, (mlook own (i : Int)).getD 0 = (o : Int) ∧ (x.phase ≠ 0 → o + x.rem ≤ 2 + 3 * s.S)
theorem freeO_new (P S : Nat) : FreeO (Sys.new P S) [] := by
  intro i x hx
  refine ⟨0, rfl, fun h => ?_⟩
  simp only [Sys.new, List.getElem?_map] at hx
  obtain ⟨j, _, hj⟩ := Option.map_eq_some_iff.1 hx
  subst hj
  exact absurd rfl h
def ownNext (own : List (Int × Int)) (i : Nat) (x : PSt) (kind : Int) : List (Int × Int) :=
  if x.phase = 0 then mput own i 0 else if kind = 1 then mput own i ((mlook own (i : Int)).getD 0 + 1) else own
theorem freeO_does {s : Sys} {n i : Nat} {x : PSt} {own : List (Int × Int)} (hI : SInv s n) (hF : FreeO s own) (hx : s.L[i]? = some x) (kind : Int) (raw : ByteArray) :
    ∃ x' o', (s.does kind i raw).1.L[i]? = some x' ∧ (mlook (ownNext own i x kind) (i : Int)).getD 0 = ((o' : Nat) : Int) ∧ o' ≤ 2 + 3 * s.S ∧ (s.does kind i raw).2.done = (!(x.phase == 0) && (x'.phase == 0)) ∧ FreeO (s.does kind i raw).1 (ownNext own i x kind) := by
  obtain ⟨o, ho, hle⟩ := hF i x hx
  obtain ⟨x', h1, h2, h3⟩ := free_does hI hx kind raw hle
  have hS := (does_P s kind i raw).2
  have hi := (List.getElem?_eq_some_iff.1 hx).1
  have hlk : (mlook (ownNext own i x kind) (i : Int)).getD 0 = ((if x.phase = 0 then 0 else if kind = 1 then o + 1 else o : Nat) : Int) := by
    unfold ownNext
    split
    · rw [mlook_put, if_pos rfl]; rfl
    · split
      · rw [mlook_put, if_pos rfl, ho]; simp
      · exact ho
  refine ⟨x', _, by rw [h1, List.getElem?_set_self hi], hlk, by omega, ?_, ?_⟩
  · rw [Bool.eq_iff_iff, h3]
    simp
  · intro j z hz
    rw [hS]
    rw [h1, List.getElem?_set] at hz
    by_cases e : i = j
    · subst e
      rw [if_pos rfl, if_pos hi] at hz
      cases hz
      exact ⟨_, hlk, fun _ => h2⟩
    · rw [if_neg e] at hz
      obtain ⟨q, hq, hq2⟩ := hF j z hz
      refine ⟨q, ?_, hq2⟩
      rw [← hq]
      have hne : ¬ (j : Int) = (i : Int) := fun h => e (by omega)
      unfold ownNext
      split
      · rw [mlook_put, if_neg hne]
      · split
        · rw [mlook_put, if_neg hne]
        · rfl
theorem does_step_eq {s : Sys} {i : Nat} {x : PSt} (hx : s.L[i]? = some x) (raw : ByteArray) : s.does 1 i raw = s.step i x := by
  unfold Sys.does
  rw [hx]
  simp only []
  rw [if_pos trivial]
/-- A memory and its processes, without the document's. -/
structure LtAt (w wr : World) (V : Nat) (y : Lay) (r : RLay) (lv : Value) (s : Sys) (n : Nat) : Prop where
  pa : PAt w.heap.size wr.heap y lv s
  inv : SInv s n
  o : OInv s
  bx : wr.heap[V]? = some (.cells #[.int .i64 s.P, .int .i64 s.S, .pointer (some ⟨y.mb, 0, none⟩), .slice (some ⟨y.lg, 0, none⟩) s.P y.lcap, .slice r.sao s.S r.scap, .slice r.wao s.P r.wcap, .slice (some ⟨r.pg, 0, none⟩) s.P r.pcap] 39 (0, 0))
  ext : Ext [] w wr
theorem LtAt.ext0 {w wr w' : World} {V : Nat} {y : Lay} {r : RLay} {lv : Value} {s : Sys} {n : Nat} (h : LtAt w wr V y r lv s n) (hx : Ext [] wr w') : LtAt w w' V y r lv s n :=
  ⟨h.pa.ext0 hx, h.inv, h.o, hx.same h.bx (by simp), h.ext.trans0 hx⟩
theorem LtAt.up {w wr : World} {V : Nat} {y : Lay} {r : RLay} {lv : Value} {s : Sys} {n n' : Nat} (h : LtAt w wr V y r lv s n) (hn : n ≤ n') : LtAt w wr V y r lv s n' :=
  ⟨h.pa, h.inv.mono hn, h.o, h.bx, h.ext⟩
theorem step_lt (w wr : World) (V : Nat) (y : Lay) (r : RLay) (lv : Value) (s : Sys) (n i b : Nat) (x : PSt) (h : LtAt w wr V y r lv s n) (hn : n < 100000) (hx : s.L[i]? = some x) (hb : y.bs[i]? = some b) :
    Calls Try.prog 24 #[.pointer (some ⟨b, 0, none⟩), .pointer (some ⟨y.mb, 0, none⟩)] wr fun e w' =>
      ∃ lv' s' d f sl, e = .returned (.agg #[.bool d, .bool f, .int .i64 sl]) ∧ Hid (s' = (s.step i x).1) ∧ LtAt w w' V y r lv' s' (n + 1) := by
  obtain ⟨b', m, hb', hm, hIp⟩ := h.pa.pr i x hx
  rw [hb] at hb'; cases hb'
  have hlen := h.inv.hL
  have hil : i < s.P := by rw [← hlen]; exact (List.getElem?_eq_some_iff.1 hx).1
  have hcore := h.inv.core i x hx
  have hphs := h.inv.ph i x hx
  have hok := okOf h.inv hn hil hcore hphs
  refine (step_any b m x y.mb y.mc y.mm lv s.M wr (h.pa.pm hb hm hIp) hok (by rw [hcore.who, hcore.hP]; exact hil) (by rw [hcore.hP, hcore.hS]; exact h.inv.cells) (by have := h.inv.log; omega) hphs.ph (fun g => by rw [hcore.hS]; exact hphs.lt (by rcases g with g | g; exact .inl g; exact .inr (.inr g)))).mono ?_
  rintro e w' ⟨lv', rfl, hPM, hx'⟩
  refine ⟨lv', _, _, _, _, rfl, Hs.hid rfl, ?_⟩
  have hmv := h.pa.moved hx hb hm hIp hPM hx' (fun g hg => hg)
  refine ⟨hmv, inv_step h.inv hx, oinv_step h.inv (by omega) h.o hx, ?_, ?_⟩
  · exact hx'.same h.bx (h.pa.far hb hm hIp h.bx (by decide) (by decide) (by decide) (fun e => absurd e (by decide)))
  · exact h.ext.trans hx' (fun g hg => .inr (h.pa.foot_lo g (foot_fixed hb hm g hg)))
/-- The law's own map is put into. -/
theorem StAt.map {w wr w' : World} {V : Nat} {y : Lay} {r : RLay} {lv : Value} {s : Sys} {n : Nat} (h : StAt w wr V y r lv s n) {mo : Nat} {own : List (Int × Int)} (hm : MapAt (Value.int .i64) (Value.int .i64) wr.heap mo own) (hx : Ext [mo] wr w') (hmo : mo ∉ y.fixed ∧ w.heap.size ≤ mo) : StAt w w' V y r lv s n := by
  have key : ∀ {g : Nat} {cs : Array Value} {t : TypeId} {f : Nat × Nat}, wr.heap[g]? = some (.cells cs t f) → g ∉ [mo] := fun hg => by simpa using hm.ne hg
  refine ⟨h.pa.extF hx (fun g hg hq => ?_), ⟨h.xa.rf.ext hx fun g hg => ?_, h.xa.ns, h.xa.nw, h.xa.np⟩, h.inv, hx.same h.bx (key h.bx), h.ext.trans hx (fun g hg => .inr (by simp at hg; subst hg; exact hmo.2)), h.lo⟩
  · simp only [List.mem_singleton] at hg
    subst hg
    rcases List.mem_append.1 hq with q | q
    · rcases List.mem_append.1 q with q | q
      · exact hmo.1 q
      · obtain ⟨cur, hc⟩ := h.pa.me.hl.block (by simpa using q)
        exact key hc (by simp)
    · simp at q; subst q
      obtain ⟨cur, hc⟩ := h.pa.lb.block (g := y.lg) rfl
      exact key hc (by simp)
  · rcases hg with hg | hg | rfl
    · obtain ⟨cur, hc⟩ := h.xa.rf.s.block hg
      exact key hc
    · obtain ⟨cur, hc⟩ := h.xa.rf.w.block hg
      exact key hc
    · obtain ⟨cur, hc⟩ := h.xa.rf.p.block (g := r.pg) rfl
      exact key hc
end Go.Proofs.Ytkhihpmadmmeaaa
set_option linter.unusedSimpArgs false
set_option linter.unusedVariables false
set_option maxHeartbeats 8000000
set_option maxRecDepth 100000
namespace Go.Proofs.Ytkhihpmadmmeaaa
open Go.RowKit Go.Hs

theorem free_law_any (procs slots : Int) (ao : Option Addr) (len cap : Nat) (L : List ActR) (w : World) (hL : ActsAt w ao len cap L) :
    Calls Try.prog 8 #[.int .i64 procs, .int .i64 slots, .slice ao len cap] w fun e w' => e = .returned (.bool true) ∧ Ext [] w w' := by
  have hlm := hL.2.1
  simp only [maxLen] at hlm
  have hlmi : (len : Int) ≤ 9223372036854775807 := by omega
  have HMK := Hs.hid (fun w => run_makeMap (P := Try.prog) 27 w)
  go_enter Try.func8, Try.ntmps8
  go_upto_region 4 with (first
    | (go_at_call 9; refine (awake_any _).mono ?_; rintro e w0 ⟨rfl, hx0⟩)
    | (go_at_call 15; refine (begin_lit procs slots _).mono ?_; rintro e w1 ⟨y, r, lv, s, rfl, hs, hP1, hX1, hI1, hx1⟩))
  have hE1 := (hx0.trans0 hx1).alloc (.cells #[.int .i64 s.P, .int .i64 s.S, .pointer (some ⟨y.mb, 0, none⟩), .slice (some ⟨y.lg, 0, none⟩) s.P y.lcap, .slice r.sao s.S r.scap, .slice r.wao s.P r.wcap, .slice (some ⟨r.pg, 0, none⟩) s.P r.pcap] 39)
  have hS : StAt w (w1.alloc (.cells #[.int .i64 s.P, .int .i64 s.S, .pointer (some ⟨y.mb, 0, none⟩), .slice (some ⟨y.lg, 0, none⟩) s.P y.lcap, .slice r.sao s.S r.scap, .slice r.wao s.P r.wcap, .slice (some ⟨r.pg, 0, none⟩) s.P r.pcap] 39)) w1.heap.size y r lv s 0 := by
    have ha : Ext [] w1 (w1.alloc (.cells #[.int .i64 s.P, .int .i64 s.S, .pointer (some ⟨y.mb, 0, none⟩), .slice (some ⟨y.lg, 0, none⟩) s.P y.lcap, .slice r.sao s.S r.scap, .slice r.wao s.P r.wcap, .slice (some ⟨r.pg, 0, none⟩) s.P r.pcap] 39)) := (Ext.refl _ _).alloc _
    have hz0 := hx0.size
    have hz1 := hx1.size
    refine ⟨(hP1.lower hz0).ext0 ha, (hX1.lower hz0).ext0 ha, hI1, heap_new _ _, hE1, by omega⟩
  have hO : Hid (OInv s) := Hs.hid (by rw [hs.out]; exact oinv_new _ _)
  have hF : Hid (FreeO s []) := Hs.hid (by rw [hs.out]; exact freeO_new _ _)
  have HL := Hs.hid hL
  clear hP1 hX1 hI1 hx1 hE1 hs hx0 hL
  generalize w1.alloc (.cells #[.int .i64 s.P, .int .i64 s.S, .pointer (some ⟨y.mb, 0, none⟩), .slice (some ⟨y.lg, 0, none⟩) s.P y.lcap, .slice r.sao s.S r.scap, .slice r.wao s.P r.wcap, .slice (some ⟨r.pg, 0, none⟩) s.P r.pcap] 39) = W at *
  generalize w1.heap.size = V at *
  have hm0 : MapAt (Value.int .i64) (Value.int .i64) (W.alloc (.map #[] 0)).heap W.heap.size ([] : List (Int × Int)) := mapAt_new _ _ W
  have hmf : Hid (W.heap.size ∉ y.fixed ∧ w.heap.size ≤ W.heap.size) := Hs.hid ⟨fun hm => by have := hS.pa.lt hS.inv.hP.1 W.heap.size (by simp [hm]); omega, hS.ext.size⟩
  have hS := hS.ext0 ((Ext.refl [] W).alloc (.map #[] 0))
  have hmk := HMK.out
  go_upto_region 5 with fail
  clear hmk
  generalize W.alloc (.map #[] 0) = W1 at *
  generalize W.heap.size = mo at *
  go_upto_block 0 with fail
  go_cut [] (fun wx => ∃ r lv s n, LtAt w wx V y r lv s n ∧ Hid (n ≤ 200))
  case first =>
   go_wp2_with fail
   go_loopw [9] (fun i wr => ∃ k r lv s own, k ≤ len ∧ k ≤ 200 ∧ i = .int .i64 (k : Nat) ∧ StAt w wr V y r lv s k ∧ Hid (OInv s) ∧ Hid (FreeO s own) ∧ MapAt (Value.int .i64) (Value.int .i64) wr.heap mo own) (fun i _ => len - (intOf i).toNat)
   case atStart => exact ⟨0, r, lv, s, [], Nat.zero_le _, Nat.zero_le _, rfl, hS, hO, hF, hm0⟩
   case round =>
    clear hS hO hF hm0
    obtain ⟨k, r, lv, s, own, hk, hk2, rfl, hS, hO, hF, hm⟩ := hrel
    have hki : (k : Int) ≤ 200 := by omega
    have hki0 : (0 : Int) ≤ k := by omega
    by_cases hlt : k < len ∧ k < 200
    · obtain ⟨hlt1, hlt2⟩ := hlt
      have hl1 : (k : Int) < len := by omega
      have hl2 : (k : Int) < 200 := by omega
      obtain ⟨a, x, rfl, hx⟩ := HL.out.some hlt1
      obtain ⟨_, c0, c1, c2⟩ := (HL.out.ext0 hS.ext).cells hx
      have HX := Hs.hid hx
      have HK := Hs.hid (And.intro hlt1 hlt2)
      clear hx hlt1 hlt2 hk hk2
      obtain ⟨v0, v1, v2, v3, v4, v5, v6⟩ := bcells hS.bx
      have hPp := hS.inv.hP
      have g1 : (1 : Int) ≤ s.P := by omega
      obtain ⟨c, hc1, hc2, hc3, hc4⟩ := whoOf_eq x.who s.P
      obtain ⟨i, hi⟩ : ∃ i, whoOf x.who s.P = i := ⟨_, rfl⟩
      rw [hi] at hc3 hc4
      have hil : i < s.P := by rw [← hi]; exact whoOf_lt _ hPp.1
      obtain ⟨px, hpx⟩ := hS.inv.some hil
      have hii : (i : Int) < s.P := by omega
      have hii0 : (0 : Int) ≤ i := by omega
      have HI := Hs.hid (And.intro hi (And.intro hil (And.intro hpx hPp)))
      clear hi hil hpx hPp
      go_upto_region 8 with fail
      go_cut [10] (fun s9 wx => s9 = .int .i64 i ∧ ∃ nd, wx = wr.drewN nd)
      case first =>
        go_quiet (fail)
        all_goals go_wp2_with fail
        all_goals go_meet
        all_goals exact ⟨rfl, _, rfl⟩
      case rest =>
        obtain ⟨rfl, nd, rfl⟩ := hcut
        have hS := hS.ext0 ((Ext.refl [] wr).drewN nd)
        have hm := hm.ext ((Ext.refl [] wr).drewN nd) (by simp)
        clear v0 v1 v2 v3 v4 v5 v6 c0 c1 c2 hc1 hc3 hc4
        generalize wr.drewN nd = wr at *
        obtain ⟨v0, v1, v2, v3, v4, v5, v6⟩ := bcells hS.bx
        obtain ⟨b, pm, hb, hpm, hIp⟩ := hS.pa.pr i px HI.out.2.2.1
        have l0 := Own.cells (w := wr) rfl hS.pa.lb (g := y.lg) rfl i (.pointer (some ⟨b, 0, none⟩)) (by simp [hb])
        rw [add_off'] at l0
        have HB := Hs.hid hb
        clear hb hpm
        go_upto_region 10 with (go_at_call 23; (refine (idle_any b pm px _ hIp).mono ?_); rintro e w8 ⟨rfl, rfl⟩)
        clear hIp l0
        obtain ⟨hab, c0, c1, c2⟩ := (HL.out.ext0 hS.ext).cells HX.out
        have hab2 : (a.add (k * 3)).block < w8.heap.size := by rw [add_block]; exact hab
        go_cut [12, 13, 14] (fun s12 s13 s14 wx => ∃ r' lv' s' d f sl T E, s12 = .pointer (some ⟨T, 0, none⟩) ∧ s13 = .pointer (some ⟨E, 0, none⟩) ∧ s14 = .bool true ∧ Hid (s.does x.kind (whoOf x.who s.P) x.raw = (s', ⟨d, f, sl⟩)) ∧ MidAt w w8 wx V T E y r r' lv' s s' k d f sl)
        case first =>
          have hlV := hS.lt
          have HKN := Hs.hid (show k < 100000 by omega)
          have hn1 : w8.heap.size ≠ V := by omega
          have hn2 : w8.heap.size + 1 ≠ V := by omega
          have hw9 := hS.ext.size
          go_region_held3 (fun w' => w'.cell? ⟨V, 0, none⟩ = some (.int .i64 ↑s.P) ∧ w'.cell? ⟨V, 1, none⟩ = some (.int .i64 ↑s.S) ∧ w'.cell? ⟨V, 2, none⟩ = some (.pointer (some ⟨y.mb, 0, none⟩)) ∧ w'.cell? ⟨V, 3, none⟩ = some (.slice (some ⟨y.lg, 0, none⟩) s.P y.lcap) ∧ w'.cell? ⟨V, 4, none⟩ = some (.slice r.sao s.S r.scap) ∧ w'.cell? ⟨V, 5, none⟩ = some (.slice r.wao s.P r.wcap) ∧ w'.cell? ⟨V, 6, none⟩ = some (.slice (some ⟨r.pg, 0, none⟩) s.P r.pcap) ∧
              w'.cell? (a.add (k * 3)) = some (.int .i64 x.kind) ∧ w'.cell? ⟨(a.add (k * 3)).block, (a.add (k * 3)).off + 1, none⟩ = some (.int .i64 x.who) ∧ w'.cell? ⟨(a.add (k * 3)).block, (a.add (k * 3)).off + 2, none⟩ = some (.string x.raw))
            (first
              | (refine actKeep HL.out HX.out ?_ ?_
                 · repeat (first | (with_reducible exact hD.bx) | (with_reducible exact hS.bx) | (with_reducible refine heap_drew ?_) | (with_reducible refine heap_old' _ _ ?_) | (refine (heap_set_ne _ _ _ (by first | exact hn1 | exact hn2 | exact hn3 | exact hn4)).trans ?_))
                 · repeat (first | (with_reducible exact hD.ext) | (with_reducible exact hS.ext) | (with_reducible refine Ext.drew ?_) | (with_reducible refine Ext.alloc ?_ _) | (with_reducible refine Ext.setN hl1' ?_ _ _) | (with_reducible refine Ext.setN hl2' ?_ _ _) | (with_reducible refine Ext.setN hl3' ?_ _ _) | (with_reducible refine Ext.setN hl4' ?_ _ _)))
              | go_keep)
            (first
              | (go_at_call 16; (refine (does_lit w _ V y r lv s k x.kind x.who x.raw (hS.ext0 (by repeat (first | (with_reducible exact Ext.refl _ _) | (with_reducible refine Ext.drew ?_) | (with_reducible refine Ext.alloc ?_ _)))) HKN.out).mono ?_); rintro e w2 ⟨r', lv', s', d, f, sl, rfl, hdoes, hD⟩; obtain ⟨rc, rf⟩ := hD.rules hS; have hz1 := hD.frame.size; (try simp only [drew_size, alloc_size] at hz1); (try (have hz2 : w8.heap.size < w2.heap.size := by omega)); (try (have hz3 : w8.heap.size + 1 < w2.heap.size := by omega)); have HZ1 := Hs.hid hz1; have hn3 : w2.heap.size ≠ V := (by omega); have hn4 : w2.heap.size + 1 ≠ V := (by omega); have hl1' : w.heap.size ≤ w8.heap.size := hw9; have hl2' : w.heap.size ≤ w8.heap.size + 1 := (by omega); have hl3' : w.heap.size ≤ w2.heap.size := (by omega); have hl4' : w.heap.size ≤ w2.heap.size + 1 := (by omega); clear hz1; have HBL := Hs.hid (hD.kept hS); (try (have hTa : w2.heap[w8.heap.size]? = some (.cells zeroState 39 (0, 0)) := HBL.out _ _ (Nat.le_refl _) (by first | (with_reducible exact heap_new _ _) | (with_reducible exact heap_drew (heap_new _ _)) | (with_reducible exact (alloc_two _ _ _).1) | (with_reducible exact heap_drew (alloc_two _ _ _).1)))); (try (have hEa : w2.heap[w8.heap.size]? = some (.cells #[.bool false, .bool false, .int .i64 0] 42 (0, 0)) := HBL.out _ _ (Nat.le_refl _) (by first | (with_reducible exact heap_new _ _) | (with_reducible exact heap_drew (heap_new _ _)) | (with_reducible exact (alloc_two _ _ _).1) | (with_reducible exact heap_drew (alloc_two _ _ _).1)))); (try (have hTb : w2.heap[w8.heap.size + 1]? = some (.cells zeroState 39 (0, 0)) := HBL.out _ _ (Nat.le_succ _) (by first | (with_reducible exact (alloc_two _ _ _).2.1) | (with_reducible exact heap_drew (alloc_two _ _ _).2.1)))); (try (have hEb : w2.heap[w8.heap.size + 1]? = some (.cells #[.bool false, .bool false, .int .i64 0] 42 (0, 0)) := HBL.out _ _ (Nat.le_succ _) (by first | (with_reducible exact (alloc_two _ _ _).2.1) | (with_reducible exact heap_drew (alloc_two _ _ _).2.1)))); have hwx : Ext [] w8 (ofDid hD) := (by unfold ofDid; repeat (first | (with_reducible exact Ext.refl _ _) | (with_reducible refine Ext.drew ?_) | (with_reducible refine Ext.alloc ?_ _)))))
          all_goals go_wp2_with fail
          all_goals go_meet
          all_goals
            first
              | (with_reducible exact ⟨r', lv', s', d, f, sl, _, _, rfl, rfl, rfl, hdoes, mid1 hS hwx hD⟩)
              | (with_reducible exact ⟨r', lv', s', d, f, sl, _, _, rfl, rfl, rfl, hdoes, mid2 hS hwx hD⟩)
              | (with_reducible exact ⟨r', lv', s', d, f, sl, _, _, rfl, rfl, rfl, hdoes, mid3 hS hwx hD hTa (Nat.le_refl _)⟩)
              | (with_reducible exact ⟨r', lv', s', d, f, sl, _, _, rfl, rfl, rfl, hdoes, mid4 hS hwx hD hTa hEb ⟨Nat.le_refl _, Nat.le_succ _⟩⟩)
              | (with_reducible exact ⟨r', lv', s', d, f, sl, _, _, rfl, rfl, rfl, hdoes, mid4 hS hwx hD hTb hEa ⟨Nat.le_succ _, Nat.le_refl _⟩⟩)
              | (with_reducible exact ⟨r', lv', s', d, f, sl, _, _, rfl, rfl, rfl, hdoes, mid5 hS hwx hD hEa (Nat.le_refl _)⟩)
        case rest =>
          clear v0 v1 v2 v3 v4 v5 v6 c0 c1 c2
          obtain ⟨r', lv', s', d, f, sl, T, E, rfl, rfl, rfl, hdoes, hM⟩ := hcut
          have hm2 : MapAt (Value.int .i64) (Value.int .i64) wc.heap mo own := by
            obtain ⟨es, ck, h1, h2⟩ := hm
            exact ⟨es, ck, hM.mfar mo _ hmf.out.1 ⟨es, ck, rfl⟩ h1, h2⟩
          have hd' := hdoes.out
          rw [HI.out.1] at hd'
          have HO' : Hid (OInv s') := Hs.hid (by have := oinv_does hS.inv (by have := HK.out; omega) hO.out x.kind i x.raw; rw [hd'] at this; exact this)
          obtain ⟨px', o', hf⟩ := freeO_does hS.inv hF.out HI.out.2.2.1 x.kind x.raw
          have hPS : s'.P = s.P ∧ s'.S = s.S := by have := does_P s x.kind i x.raw; rw [hd'] at this; exact this
          rw [hd'] at hf
          have HFF := Hs.hid hf
          have HPS := Hs.hid hPS
          clear hd' hS hdoes hm hf hPS
          obtain ⟨t0, t1, t2, t3, t4, t5, t6⟩ := bcells hM.bt
          obtain ⟨v0, v1, v2, v3, v4, v5, v6⟩ := bcells hM.bx
          have vf := freeAt hM.bx
          go_upto_region 12 with fail
          obtain ⟨hS1, hxV⟩ := hM.store
          have hE1 := hxV.same hM.be (by simpa using ne_block hM.be hM.bx (by simp))
          have hm1 := hm2.ext hxV (by simp; exact fun e => hm2.ne hM.bx e.symm)
          clear hM t0 t1 t2 t3 t4 t5 t6 v0 v1 v2 v3 v4 v5 v6 vf hxV hm2
          generalize (((((((wc.setCell ⟨V, 0, none⟩ (.int .i64 s'.P)).setCell ⟨V, 1, none⟩ (.int .i64 s'.S)).setCell ⟨V, 2, none⟩ (.pointer (some ⟨y.mb, 0, none⟩))).setCell ⟨V, 3, none⟩ (.slice (some ⟨y.lg, 0, none⟩) s'.P y.lcap)).setCell ⟨V, 4, none⟩ (.slice r'.sao s'.S r'.scap)).setCell ⟨V, 5, none⟩ (.slice r'.wao s'.P r'.wcap)).setCell ⟨V, 6, none⟩ (.slice (some ⟨r'.pg, 0, none⟩) s'.P r'.pcap)) = W12 at *
          obtain ⟨_, c0, c1, c2⟩ := (HL.out.ext0 hS1.ext).cells HX.out
          obtain ⟨oo, hoo, hoo2⟩ := hF.out i px HI.out.2.2.1
          have HOO := Hs.hid (show px.phase ≠ 0 → oo ≤ 62 from fun h => by have h1 := hoo2 h; have h2 := hS1.inv.hS; have h3 := HPS.out.2; omega)
          clear hoo2
          have hn0 : (0 : Int) ≤ oo := by omega
          by_cases hp : px.phase = 0
          · have b0 : (px.phase == 0) = true := by simp [hp]
            have HON : Hid (ownNext own i px x.kind = mput own (i : Int) 0) := Hs.hid (by unfold ownNext; rw [if_pos hp])
            clear hp HOO hoo hn0
            have hkb : (x.kind == 1) = true ∨ (x.kind == 1) = false := by cases (x.kind == 1) <;> simp
            rcases hkb with hkb | hkb
            all_goals
              go_upto_region 18 with (at_mapUpdate; refine wpList_mapUpdate (l := own) (venc := Value.int .i64) rfl rfl _ _ _ rfl keyInt Try.underlying27 rfl hm1 (i : Int) rfl (0) rfl ?_; intro w5 hm5 hx5; have hS5 := hS1.map hm1 hx5 hmf.out; have hE5 := hx5.same hE1 (by simpa using hm1.ne hE1); clear c0 c1 c2; obtain ⟨_, c0, c1, c2⟩ := (HL.out.ext0 hS5.ext).cells HX.out)
              rw [← HON.out] at hm5
              clear c0 c1 c2
              obtain ⟨v0, v1, v2, v3, v4, v5, v6⟩ := bcells hS5.bx
              obtain ⟨b', pm', hb', hpm', hIp'⟩ := hS5.pa.pr i px' HFF.out.1
              have hl0 := Own.cells (w := w5) rfl hS5.pa.lb (g := y.lg) rfl i (.pointer (some ⟨b', 0, none⟩)) (by simp [hb'])
              rw [add_off'] at hl0
              have HB' := Hs.hid hb'
              have hii' : (i : Int) < s'.P := by have := HPS.out.1; omega
              have hS0 : (0 : Int) ≤ s'.S := by omega
              have hS20 : (s'.S : Int) ≤ 20 := by have := hS5.inv.hS; omega
              have hle : decide (2 + 3 * (s'.S : Int) < (o' : Int)) = false := by have := HFF.out.2.2.1; have := HPS.out.2; simp; omega
              have hlk := run_lookup (P := Try.prog) (w := w5.drew) (t := 27) keyInt Try.underlying27 (d := (0 : Int)) (zeroInt _) hm5 (i : Int) false
              simp only [Bool.false_eq_true, if_false] at hlk
              rw [HFF.out.2.1] at hlk
              have hd : d = false := by have h := HFF.out.2.2.2.1; rw [b0] at h; exact h
              subst hd
              obtain ⟨e0, e1, e2⟩ := ecells hE5
              clear hb' hpm'
              go_upto_region 18 with fail
              go_cut [11, 99] (fun s11 s99 wx => s11 = .bool (px.phase == 0) ∧ s99 = .bool false ∧ StAt w wx V y r' lv' s' (k + 1) ∧ MapAt (Value.int .i64) (Value.int .i64) wx.heap mo (ownNext own i px x.kind))
              case first =>
                refine wp_region_noPanic ?_
                refine wp_region_held_drew (S := (fun w' => w'.cell? ⟨V, 0, none⟩ = some (.int .i64 ↑s'.P) ∧ w'.cell? ⟨V, 1, none⟩ = some (.int .i64 ↑s'.S) ∧ w'.cell? ⟨V, 2, none⟩ = some (.pointer (some ⟨y.mb, 0, none⟩)) ∧ w'.cell? ⟨V, 3, none⟩ = some (.slice (some ⟨y.lg, 0, none⟩) s'.P y.lcap) ∧ w'.cell? ⟨E, 0, none⟩ = some (.bool false) ∧ w'.cell? ⟨y.lg, i, none⟩ = some (.pointer (some ⟨b', 0, none⟩)) ∧ (Instr.lookup 27 (.map (some mo)) (.int .i64 i) false).run Try.prog w' = .ok (.int .i64 o') w')) (by kernel_rfl) ?_ (fun hHeld => ?_)
                · ((try dsimp only); first | exact ⟨v0, v1, v2, v3, e0, hl0, hlk⟩ | go_keep)
                refine wpAnyH_take (i := 0) (v := ?_) rfl (by kernel_rfl) (by kernel_rfl) (by kernel_rfl) (fun _ _ _ h => h) (Or.inl ⟨by rfl, ?_⟩) (by assumption) ?_
                rotate_left
                · (intro w hSw; (try dsimp only at hSw); first | (go_simp; done) | (go_simp; with_reducible rfl))
                try simp only [Act.put, List.getElem_toArray, List.getElem_cons_succ, List.getElem_cons_zero, List.setIfInBounds_toArray, List.set_cons_zero, List.set_cons_succ]
                refine wpAnyH_take (i := 1) (v := ?_) rfl (by kernel_rfl) (by kernel_rfl) (by kernel_rfl) (fun _ _ _ h => h) (Or.inl ⟨by rfl, ?_⟩) (by assumption) ?_
                rotate_left
                · (intro w hSw; (try dsimp only at hSw); first | (go_simp; done) | (go_simp; with_reducible rfl))
                try simp only [Act.put, List.getElem_toArray, List.getElem_cons_succ, List.getElem_cons_zero, List.setIfInBounds_toArray, List.set_cons_zero, List.set_cons_succ]
                refine wpAnyH_take (i := 2) (v := ?_) rfl (by kernel_rfl) (by kernel_rfl) (by kernel_rfl) (fun _ _ _ h => h) (Or.inl ⟨by rfl, ?_⟩) (by assumption) ?_
                rotate_left
                · (intro w hSw; (try dsimp only at hSw); first | (go_simp; done) | (go_simp; with_reducible rfl))
                try simp only [Act.put, List.getElem_toArray, List.getElem_cons_succ, List.getElem_cons_zero, List.setIfInBounds_toArray, List.set_cons_zero, List.set_cons_succ]
                refine wpAnyH_take (i := 3) (v := ?_) rfl (by kernel_rfl) (by kernel_rfl) (by kernel_rfl) (fun _ _ _ h => h) (Or.inl ⟨by rfl, ?_⟩) (by assumption) ?_
                rotate_left
                · (intro w hSw; (try dsimp only at hSw); first | (go_simp; done) | (go_simp; with_reducible rfl))
                try simp only [Act.put, List.getElem_toArray, List.getElem_cons_succ, List.getElem_cons_zero, List.setIfInBounds_toArray, List.set_cons_zero, List.set_cons_succ]
                refine wpAnyH_take (i := 4) (v := ?_) rfl (by kernel_rfl) (by kernel_rfl) (by kernel_rfl) (fun _ _ _ h => h) (Or.inl ⟨by rfl, ?_⟩) (by assumption) ?_
                rotate_left
                · (intro w hSw; (try dsimp only at hSw); first | (go_simp; done) | (go_simp; with_reducible rfl))
                try simp only [Act.put, List.getElem_toArray, List.getElem_cons_succ, List.getElem_cons_zero, List.setIfInBounds_toArray, List.set_cons_zero, List.set_cons_succ]
                refine wpAnyH_ready (rs := [5]) (by kernel_rfl) (by simp) ?_
                refine AllReadyH.cons rfl (fun K hK => ?_) AllReadyH.nil
                go_simp
                (go_at_call 14; (refine (bound_any s'.P s'.S _ hS0 (by omega)).mono ?_); rintro e w9 ⟨rfl, hx9⟩; have hxx : Ext [] w5 w9 := (by first | exact hx9 | exact ((Ext.refl [] _).drew).trans0 hx9); have hS5 := hS5.ext0 hxx; have hE5 := hxx.same hE5 (by simp); have hm5 := hm5.ext hxx (by simp); have hIp' := hIp'.ext hxx (by simp) (by simp); have hlk := run_lookup (P := Try.prog) (w := w9) (t := 27) keyInt Try.underlying27 (d := (0 : Int)) (zeroInt _) hm5 (i : Int) false; simp only [Bool.false_eq_true, if_false] at hlk; rw [HFF.out.2.1] at hlk; clear v0 v1 v2 v3 v4 v5 v6 e0 e1 e2 hl0; obtain ⟨v0, v1, v2, v3, v4, v5, v6⟩ := bcells hS5.bx; obtain ⟨e0, e1, e2⟩ := ecells hE5; have hl0 := Own.cells (w := w9) rfl hS5.pa.lb (g := y.lg) rfl i (.pointer (some ⟨b', 0, none⟩)) (by simp [HB'.out]); rw [add_off'] at hl0)
                go_wp2_with fail
                refine hK.out _ _ ?_ (fun hHeld => ?_)
                · ((try dsimp only); exact ⟨v0, v1, v2, v3, e0, hl0, hlk⟩)
                clear hK K
                try simp only [Act.put, List.getElem_toArray, List.getElem_cons_succ, List.getElem_cons_zero, List.setIfInBounds_toArray, List.set_cons_zero, List.set_cons_succ]
                refine wpAnyH_take (i := 6) (v := ?_) rfl (by kernel_rfl) (by kernel_rfl) (by kernel_rfl) (fun _ _ _ h => h) (Or.inl ⟨by rfl, ?_⟩) (by assumption) ?_
                rotate_left
                · (intro w hSw; (try dsimp only at hSw); first | (go_simp; done) | (go_simp; with_reducible rfl))
                try simp only [Act.put, List.getElem_toArray, List.getElem_cons_succ, List.getElem_cons_zero, List.setIfInBounds_toArray, List.set_cons_zero, List.set_cons_succ]
                refine wpAnyH_take (i := 7) (v := ?_) rfl (by kernel_rfl) (by kernel_rfl) (by kernel_rfl) (fun _ _ _ h => h) (Or.inl ⟨by rfl, ?_⟩) (by assumption) ?_
                rotate_left
                · (intro w hSw; (try dsimp only at hSw); first | (go_simp; done) | (go_simp; with_reducible rfl))
                try simp only [Act.put, List.getElem_toArray, List.getElem_cons_succ, List.getElem_cons_zero, List.setIfInBounds_toArray, List.set_cons_zero, List.set_cons_succ]
                refine wpAnyH_take (i := 8) (v := ?_) rfl (by kernel_rfl) (by kernel_rfl) (by kernel_rfl) (fun _ _ _ h => h) (Or.inl ⟨by rfl, ?_⟩) (by assumption) ?_
                rotate_left
                · (intro w hSw; (try dsimp only at hSw); first | (go_simp; done) | (go_simp; with_reducible rfl))
                try simp only [Act.put, List.getElem_toArray, List.getElem_cons_succ, List.getElem_cons_zero, List.setIfInBounds_toArray, List.set_cons_zero, List.set_cons_succ]
                refine wpAnyH_take (i := 9) (v := ?_) rfl (by kernel_rfl) (by kernel_rfl) (by kernel_rfl) (fun _ _ _ h => h) (Or.inl ⟨by rfl, ?_⟩) (by assumption) ?_
                rotate_left
                · (intro w hSw; (try dsimp only at hSw); first | (go_simp; done) | (go_simp; with_reducible rfl))
                try simp only [Act.put, List.getElem_toArray, List.getElem_cons_succ, List.getElem_cons_zero, List.setIfInBounds_toArray, List.set_cons_zero, List.set_cons_succ]
                refine wpAnyH_take (i := 10) (v := ?_) rfl (by kernel_rfl) (by kernel_rfl) (by kernel_rfl) (fun _ _ _ h => h) (Or.inl ⟨by rfl, ?_⟩) (by assumption) ?_
                rotate_left
                · (intro w hSw; (try dsimp only at hSw); first | (go_simp; done) | (go_simp; with_reducible rfl))
                try simp only [Act.put, List.getElem_toArray, List.getElem_cons_succ, List.getElem_cons_zero, List.setIfInBounds_toArray, List.set_cons_zero, List.set_cons_succ]
                refine wpAnyH_take (i := 11) (v := ?_) rfl (by kernel_rfl) (by kernel_rfl) (by kernel_rfl) (fun _ _ _ h => h) (Or.inl ⟨by rfl, ?_⟩) (by assumption) ?_
                rotate_left
                · (intro w hSw; (try dsimp only at hSw); first | (go_simp; done) | (go_simp; with_reducible rfl))
                try simp only [Act.put, List.getElem_toArray, List.getElem_cons_succ, List.getElem_cons_zero, List.setIfInBounds_toArray, List.set_cons_zero, List.set_cons_succ]
                refine wpAnyH_take (i := 12) (v := ?_) rfl (by kernel_rfl) (by kernel_rfl) (by kernel_rfl) (fun _ _ _ h => h) (Or.inl ⟨by rfl, ?_⟩) (by assumption) ?_
                rotate_left
                · (intro w hSw; (try dsimp only at hSw); first | (go_simp; done) | (go_simp; with_reducible rfl))
                try simp only [Act.put, List.getElem_toArray, List.getElem_cons_succ, List.getElem_cons_zero, List.setIfInBounds_toArray, List.set_cons_zero, List.set_cons_succ]
                refine wpAnyH_take (i := 13) (v := undef) rfl (by kernel_rfl) (by kernel_rfl) (by kernel_rfl) (fun _ _ _ h => h) (Or.inr ⟨by rfl, rfl⟩) (by assumption) ?_
                try simp only [Act.put, List.getElem_toArray, List.getElem_cons_succ, List.getElem_cons_zero, List.setIfInBounds_toArray, List.set_cons_zero, List.set_cons_succ]
                refine wpAnyH_take (i := 14) (v := undef) rfl (by kernel_rfl) (by kernel_rfl) (by kernel_rfl) (fun _ _ _ h => h) (Or.inr ⟨by rfl, rfl⟩) (by assumption) ?_
                try simp only [Act.put, List.getElem_toArray, List.getElem_cons_succ, List.getElem_cons_zero, List.setIfInBounds_toArray, List.set_cons_zero, List.set_cons_succ]
                refine wpAnyH_take (i := 15) (v := undef) rfl (by kernel_rfl) (by kernel_rfl) (by kernel_rfl) (fun _ _ _ h => h) (Or.inr ⟨by rfl, rfl⟩) (by assumption) ?_
                try simp only [Act.put, List.getElem_toArray, List.getElem_cons_succ, List.getElem_cons_zero, List.setIfInBounds_toArray, List.set_cons_zero, List.set_cons_succ]
                refine wpAnyH_take (i := 16) (v := undef) rfl (by kernel_rfl) (by kernel_rfl) (by kernel_rfl) (fun _ _ _ h => h) (Or.inr ⟨by rfl, rfl⟩) (by assumption) ?_
                try simp only [Act.put, List.getElem_toArray, List.getElem_cons_succ, List.getElem_cons_zero, List.setIfInBounds_toArray, List.set_cons_zero, List.set_cons_succ]
                refine wpAnyH_take (i := 17) (v := undef) rfl (by kernel_rfl) (by kernel_rfl) (by kernel_rfl) (fun _ _ _ h => h) (Or.inr ⟨by rfl, rfl⟩) (by assumption) ?_
                try simp only [Act.put, List.getElem_toArray, List.getElem_cons_succ, List.getElem_cons_zero, List.setIfInBounds_toArray, List.set_cons_zero, List.set_cons_succ]
                refine wpAnyH_take (i := 18) (v := undef) rfl (by kernel_rfl) (by kernel_rfl) (by kernel_rfl) (fun _ _ _ h => h) (Or.inr ⟨by rfl, rfl⟩) (by assumption) ?_
                try simp only [Act.put, List.getElem_toArray, List.getElem_cons_succ, List.getElem_cons_zero, List.setIfInBounds_toArray, List.set_cons_zero, List.set_cons_succ]
                refine wpAnyH_take (i := 19) (v := ?_) rfl (by kernel_rfl) (by kernel_rfl) (by kernel_rfl) (fun _ _ _ h => h) (Or.inl ⟨by rfl, ?_⟩) (by assumption) ?_
                rotate_left
                · (intro w hSw; (try dsimp only at hSw); first | (go_simp; done) | (go_simp; with_reducible rfl))
                try simp only [Act.put, List.getElem_toArray, List.getElem_cons_succ, List.getElem_cons_zero, List.setIfInBounds_toArray, List.set_cons_zero, List.set_cons_succ]
                refine wpAnyH_take (i := 20) (v := ?_) rfl (by kernel_rfl) (by kernel_rfl) (by kernel_rfl) (fun _ _ _ h => h) (Or.inl ⟨by rfl, ?_⟩) (by assumption) ?_
                rotate_left
                · (intro w hSw; (try dsimp only at hSw); first | (go_simp; done) | (go_simp; with_reducible rfl))
                try simp only [Act.put, List.getElem_toArray, List.getElem_cons_succ, List.getElem_cons_zero, List.setIfInBounds_toArray, List.set_cons_zero, List.set_cons_succ]
                refine wpAnyH_take (i := 21) (v := ?_) rfl (by kernel_rfl) (by kernel_rfl) (by kernel_rfl) (fun _ _ _ h => h) (Or.inl ⟨by rfl, ?_⟩) (by assumption) ?_
                rotate_left
                · (intro w hSw; (try dsimp only at hSw); first | (go_simp; done) | (go_simp; with_reducible rfl))
                try simp only [Act.put, List.getElem_toArray, List.getElem_cons_succ, List.getElem_cons_zero, List.setIfInBounds_toArray, List.set_cons_zero, List.set_cons_succ]
                refine wpAnyH_done (by kernel_rfl) ?_ _
                refine NoPanic.normal ?_
                go_wp2_with fail
                go_meet
                exact ⟨(by first | rfl | rw [b0]), rfl, (by first | (with_reducible exact hS5) | (with_reducible exact hS5.ext0 (Ext.drew (Ext.refl [] _)))), (by first | (with_reducible exact hm5) | (with_reducible exact hm5.ext (Ext.drew (Ext.refl [] _)) (by simp)))⟩
              case rest =>
                obtain ⟨rfl, rfl, hS6, hm6⟩ := hcut
                clear v0 v1 v2 v3 v4 v5 v6 e0 e1 e2 hl0 hlk hle hE5 hIp' hm5 hS5
                go_wp2_with fail
                go_round
                case rel => exact ⟨k + 1, r', lv', s', _, HK.out.1, HK.out.2, by go_num, hS6, HO', Hs.hid HFF.out.2.2.2.2, hm6⟩
                case measure => have := HK.out.1; simp [intOf]; omega
          · have b0 : (px.phase == 0) = false := by simp [hp]
            by_cases hk1 : x.kind = 1
            · have hkb : (x.kind == 1) = true := by simp [hk1]
              have HON : Hid (ownNext own i px x.kind = mput own (i : Int) (oo + 1)) := Hs.hid (by unfold ownNext; rw [if_neg hp, if_pos hk1, hoo])
              have hn1 : (oo : Int) ≤ 62 := by have := HOO.out hp; omega
              clear hk1 hp
              go_upto_region 18 with (first
                | (at_lookup; refine wpList_lookup (l := own) rfl _ _ _ rfl keyInt Try.underlying27 (d := (0 : Int)) (zeroInt _) rfl hm1 (i : Int) rfl ?_)
                | (at_mapUpdate; refine wpList_mapUpdate (l := own) (venc := Value.int .i64) rfl rfl _ _ _ rfl keyInt Try.underlying27 rfl hm1 (i : Int) rfl ((oo : Int) + 1) rfl ?_; intro w5 hm5 hx5; have hS5 := hS1.map hm1 hx5 hmf.out; have hE5 := hx5.same hE1 (by simpa using hm1.ne hE1); clear c0 c1 c2; obtain ⟨_, c0, c1, c2⟩ := (HL.out.ext0 hS5.ext).cells HX.out))
              clear hoo hn0 hn1
              rw [← HON.out] at hm5
              clear c0 c1 c2
              obtain ⟨v0, v1, v2, v3, v4, v5, v6⟩ := bcells hS5.bx
              obtain ⟨b', pm', hb', hpm', hIp'⟩ := hS5.pa.pr i px' HFF.out.1
              have hl0 := Own.cells (w := w5) rfl hS5.pa.lb (g := y.lg) rfl i (.pointer (some ⟨b', 0, none⟩)) (by simp [hb'])
              rw [add_off'] at hl0
              have HB' := Hs.hid hb'
              have hii' : (i : Int) < s'.P := by have := HPS.out.1; omega
              have hS0 : (0 : Int) ≤ s'.S := by omega
              have hS20 : (s'.S : Int) ≤ 20 := by have := hS5.inv.hS; omega
              have hle : decide (2 + 3 * (s'.S : Int) < (o' : Int)) = false := by have := HFF.out.2.2.1; have := HPS.out.2; simp; omega
              have hlk := run_lookup (P := Try.prog) (w := w5.drew) (t := 27) keyInt Try.underlying27 (d := (0 : Int)) (zeroInt _) hm5 (i : Int) false
              simp only [Bool.false_eq_true, if_false] at hlk
              rw [HFF.out.2.1] at hlk
              have hd : d = (px'.phase == 0) := by have h := HFF.out.2.2.2.1; rw [b0] at h; exact h
              subst hd
              obtain ⟨e0, e1, e2⟩ := ecells hE5
              clear hb' hpm'
              go_upto_region 18 with fail
              go_cut [11, 99] (fun s11 s99 wx => s11 = .bool (px.phase == 0) ∧ s99 = .bool false ∧ StAt w wx V y r' lv' s' (k + 1) ∧ MapAt (Value.int .i64) (Value.int .i64) wx.heap mo (ownNext own i px x.kind))
              case first =>
                refine wp_region_noPanic ?_
                refine wp_region_held_drew (S := (fun w' => w'.cell? ⟨V, 0, none⟩ = some (.int .i64 ↑s'.P) ∧ w'.cell? ⟨V, 1, none⟩ = some (.int .i64 ↑s'.S) ∧ w'.cell? ⟨V, 2, none⟩ = some (.pointer (some ⟨y.mb, 0, none⟩)) ∧ w'.cell? ⟨V, 3, none⟩ = some (.slice (some ⟨y.lg, 0, none⟩) s'.P y.lcap) ∧ w'.cell? ⟨E, 0, none⟩ = some (.bool (px'.phase == 0)) ∧ w'.cell? ⟨y.lg, i, none⟩ = some (.pointer (some ⟨b', 0, none⟩)) ∧ (Instr.lookup 27 (.map (some mo)) (.int .i64 i) false).run Try.prog w' = .ok (.int .i64 o') w')) (by kernel_rfl) ?_ (fun hHeld => ?_)
                · ((try dsimp only); first | exact ⟨v0, v1, v2, v3, e0, hl0, hlk⟩ | go_keep)
                refine wpAnyH_take (i := 0) (v := ?_) rfl (by kernel_rfl) (by kernel_rfl) (by kernel_rfl) (fun _ _ _ h => h) (Or.inl ⟨by rfl, ?_⟩) (by assumption) ?_
                rotate_left
                · (intro w hSw; (try dsimp only at hSw); first | (go_simp; done) | (go_simp; with_reducible rfl))
                try simp only [Act.put, List.getElem_toArray, List.getElem_cons_succ, List.getElem_cons_zero, List.setIfInBounds_toArray, List.set_cons_zero, List.set_cons_succ]
                refine wpAnyH_take (i := 1) (v := ?_) rfl (by kernel_rfl) (by kernel_rfl) (by kernel_rfl) (fun _ _ _ h => h) (Or.inl ⟨by rfl, ?_⟩) (by assumption) ?_
                rotate_left
                · (intro w hSw; (try dsimp only at hSw); first | (go_simp; done) | (go_simp; with_reducible rfl))
                try simp only [Act.put, List.getElem_toArray, List.getElem_cons_succ, List.getElem_cons_zero, List.setIfInBounds_toArray, List.set_cons_zero, List.set_cons_succ]
                refine wpAnyH_take (i := 2) (v := ?_) rfl (by kernel_rfl) (by kernel_rfl) (by kernel_rfl) (fun _ _ _ h => h) (Or.inl ⟨by rfl, ?_⟩) (by assumption) ?_
                rotate_left
                · (intro w hSw; (try dsimp only at hSw); first | (go_simp; done) | (go_simp; with_reducible rfl))
                try simp only [Act.put, List.getElem_toArray, List.getElem_cons_succ, List.getElem_cons_zero, List.setIfInBounds_toArray, List.set_cons_zero, List.set_cons_succ]
                refine wpAnyH_take (i := 3) (v := ?_) rfl (by kernel_rfl) (by kernel_rfl) (by kernel_rfl) (fun _ _ _ h => h) (Or.inl ⟨by rfl, ?_⟩) (by assumption) ?_
                rotate_left
                · (intro w hSw; (try dsimp only at hSw); first | (go_simp; done) | (go_simp; with_reducible rfl))
                try simp only [Act.put, List.getElem_toArray, List.getElem_cons_succ, List.getElem_cons_zero, List.setIfInBounds_toArray, List.set_cons_zero, List.set_cons_succ]
                refine wpAnyH_take (i := 4) (v := ?_) rfl (by kernel_rfl) (by kernel_rfl) (by kernel_rfl) (fun _ _ _ h => h) (Or.inl ⟨by rfl, ?_⟩) (by assumption) ?_
                rotate_left
                · (intro w hSw; (try dsimp only at hSw); first | (go_simp; done) | (go_simp; with_reducible rfl))
                try simp only [Act.put, List.getElem_toArray, List.getElem_cons_succ, List.getElem_cons_zero, List.setIfInBounds_toArray, List.set_cons_zero, List.set_cons_succ]
                refine wpAnyH_ready (rs := [5]) (by kernel_rfl) (by simp) ?_
                refine AllReadyH.cons rfl (fun K hK => ?_) AllReadyH.nil
                go_simp
                (go_at_call 14; (refine (bound_any s'.P s'.S _ hS0 (by omega)).mono ?_); rintro e w9 ⟨rfl, hx9⟩; have hxx : Ext [] w5 w9 := (by first | exact hx9 | exact ((Ext.refl [] _).drew).trans0 hx9); have hS5 := hS5.ext0 hxx; have hE5 := hxx.same hE5 (by simp); have hm5 := hm5.ext hxx (by simp); have hIp' := hIp'.ext hxx (by simp) (by simp); have hlk := run_lookup (P := Try.prog) (w := w9) (t := 27) keyInt Try.underlying27 (d := (0 : Int)) (zeroInt _) hm5 (i : Int) false; simp only [Bool.false_eq_true, if_false] at hlk; rw [HFF.out.2.1] at hlk; clear v0 v1 v2 v3 v4 v5 v6 e0 e1 e2 hl0; obtain ⟨v0, v1, v2, v3, v4, v5, v6⟩ := bcells hS5.bx; obtain ⟨e0, e1, e2⟩ := ecells hE5; have hl0 := Own.cells (w := w9) rfl hS5.pa.lb (g := y.lg) rfl i (.pointer (some ⟨b', 0, none⟩)) (by simp [HB'.out]); rw [add_off'] at hl0)
                go_wp2_with fail
                refine hK.out _ _ ?_ (fun hHeld => ?_)
                · ((try dsimp only); exact ⟨v0, v1, v2, v3, e0, hl0, hlk⟩)
                clear hK K
                try simp only [Act.put, List.getElem_toArray, List.getElem_cons_succ, List.getElem_cons_zero, List.setIfInBounds_toArray, List.set_cons_zero, List.set_cons_succ]
                refine wpAnyH_take (i := 6) (v := ?_) rfl (by kernel_rfl) (by kernel_rfl) (by kernel_rfl) (fun _ _ _ h => h) (Or.inl ⟨by rfl, ?_⟩) (by assumption) ?_
                rotate_left
                · (intro w hSw; (try dsimp only at hSw); first | (go_simp; done) | (go_simp; with_reducible rfl))
                try simp only [Act.put, List.getElem_toArray, List.getElem_cons_succ, List.getElem_cons_zero, List.setIfInBounds_toArray, List.set_cons_zero, List.set_cons_succ]
                refine wpAnyH_take (i := 7) (v := ?_) rfl (by kernel_rfl) (by kernel_rfl) (by kernel_rfl) (fun _ _ _ h => h) (Or.inl ⟨by rfl, ?_⟩) (by assumption) ?_
                rotate_left
                · (intro w hSw; (try dsimp only at hSw); first | (go_simp; done) | (go_simp; with_reducible rfl))
                try simp only [Act.put, List.getElem_toArray, List.getElem_cons_succ, List.getElem_cons_zero, List.setIfInBounds_toArray, List.set_cons_zero, List.set_cons_succ]
                refine wpAnyH_take (i := 8) (v := ?_) rfl (by kernel_rfl) (by kernel_rfl) (by kernel_rfl) (fun _ _ _ h => h) (Or.inl ⟨by rfl, ?_⟩) (by assumption) ?_
                rotate_left
                · (intro w hSw; (try dsimp only at hSw); first | (go_simp; done) | (go_simp; with_reducible rfl))
                try simp only [Act.put, List.getElem_toArray, List.getElem_cons_succ, List.getElem_cons_zero, List.setIfInBounds_toArray, List.set_cons_zero, List.set_cons_succ]
                refine wpAnyH_take (i := 9) (v := ?_) rfl (by kernel_rfl) (by kernel_rfl) (by kernel_rfl) (fun _ _ _ h => h) (Or.inl ⟨by rfl, ?_⟩) (by assumption) ?_
                rotate_left
                · (intro w hSw; (try dsimp only at hSw); first | (go_simp; done) | (go_simp; with_reducible rfl))
                try simp only [Act.put, List.getElem_toArray, List.getElem_cons_succ, List.getElem_cons_zero, List.setIfInBounds_toArray, List.set_cons_zero, List.set_cons_succ]
                refine wpAnyH_take (i := 10) (v := ?_) rfl (by kernel_rfl) (by kernel_rfl) (by kernel_rfl) (fun _ _ _ h => h) (Or.inl ⟨by rfl, ?_⟩) (by assumption) ?_
                rotate_left
                · (intro w hSw; (try dsimp only at hSw); first | (go_simp; done) | (go_simp; with_reducible rfl))
                try simp only [Act.put, List.getElem_toArray, List.getElem_cons_succ, List.getElem_cons_zero, List.setIfInBounds_toArray, List.set_cons_zero, List.set_cons_succ]
                refine wpAnyH_take (i := 11) (v := ?_) rfl (by kernel_rfl) (by kernel_rfl) (by kernel_rfl) (fun _ _ _ h => h) (Or.inl ⟨by rfl, ?_⟩) (by assumption) ?_
                rotate_left
                · (intro w hSw; (try dsimp only at hSw); first | (go_simp; done) | (go_simp; with_reducible rfl))
                try simp only [Act.put, List.getElem_toArray, List.getElem_cons_succ, List.getElem_cons_zero, List.setIfInBounds_toArray, List.set_cons_zero, List.set_cons_succ]
                refine wpAnyH_take (i := 12) (v := ?_) rfl (by kernel_rfl) (by kernel_rfl) (by kernel_rfl) (fun _ _ _ h => h) (Or.inl ⟨by rfl, ?_⟩) (by assumption) ?_
                rotate_left
                · (intro w hSw; (try dsimp only at hSw); first | (go_simp; done) | (go_simp; with_reducible rfl))
                try simp only [Act.put, List.getElem_toArray, List.getElem_cons_succ, List.getElem_cons_zero, List.setIfInBounds_toArray, List.set_cons_zero, List.set_cons_succ]
                refine wpAnyH_take (i := 13) (v := ?_) rfl (by kernel_rfl) (by kernel_rfl) (by kernel_rfl) (fun _ _ _ h => h) (Or.inl ⟨by rfl, ?_⟩) (by assumption) ?_
                rotate_left
                · (intro w hSw; (try dsimp only at hSw); first | (go_simp; done) | (go_simp; with_reducible rfl))
                try simp only [Act.put, List.getElem_toArray, List.getElem_cons_succ, List.getElem_cons_zero, List.setIfInBounds_toArray, List.set_cons_zero, List.set_cons_succ]
                refine wpAnyH_take (i := 14) (v := ?_) rfl (by kernel_rfl) (by kernel_rfl) (by kernel_rfl) (fun _ _ _ h => h) (Or.inl ⟨by rfl, ?_⟩) (by assumption) ?_
                rotate_left
                · (intro w hSw; (try dsimp only at hSw); first | (go_simp; done) | (go_simp; with_reducible rfl))
                try simp only [Act.put, List.getElem_toArray, List.getElem_cons_succ, List.getElem_cons_zero, List.setIfInBounds_toArray, List.set_cons_zero, List.set_cons_succ]
                refine wpAnyH_take (i := 15) (v := ?_) rfl (by kernel_rfl) (by kernel_rfl) (by kernel_rfl) (fun _ _ _ h => h) (Or.inl ⟨by rfl, ?_⟩) (by assumption) ?_
                rotate_left
                · (intro w hSw; (try dsimp only at hSw); first | (go_simp; done) | (go_simp; with_reducible rfl))
                try simp only [Act.put, List.getElem_toArray, List.getElem_cons_succ, List.getElem_cons_zero, List.setIfInBounds_toArray, List.set_cons_zero, List.set_cons_succ]
                refine wpAnyH_take (i := 16) (v := ?_) rfl (by kernel_rfl) (by kernel_rfl) (by kernel_rfl) (fun _ _ _ h => h) (Or.inl ⟨by rfl, ?_⟩) (by assumption) ?_
                rotate_left
                · (intro w hSw; (try dsimp only at hSw); first | (go_simp; done) | (go_simp; with_reducible rfl))
                try simp only [Act.put, List.getElem_toArray, List.getElem_cons_succ, List.getElem_cons_zero, List.setIfInBounds_toArray, List.set_cons_zero, List.set_cons_succ]
                refine wpAnyH_take (i := 17) (v := ?_) rfl (by kernel_rfl) (by kernel_rfl) (by kernel_rfl) (fun _ _ _ h => h) (Or.inl ⟨by rfl, ?_⟩) (by assumption) ?_
                rotate_left
                · (intro w hSw; (try dsimp only at hSw); first | (go_simp; done) | (go_simp; with_reducible rfl))
                try simp only [Act.put, List.getElem_toArray, List.getElem_cons_succ, List.getElem_cons_zero, List.setIfInBounds_toArray, List.set_cons_zero, List.set_cons_succ]
                refine wpAnyH_ready (rs := [18]) (by kernel_rfl) (by simp) ?_
                refine AllReadyH.cons rfl (fun K hK => ?_) AllReadyH.nil
                go_simp
                (go_at_call 23; (refine (idle_any b' pm' px' _ hIp').mono ?_); rintro e w19 ⟨rfl, rfl⟩)
                go_wp2_with fail
                refine hK.out _ _ ?_ (fun hHeld => ?_)
                · ((try dsimp only); exact ⟨v0, v1, v2, v3, e0, hl0, hlk⟩)
                clear hK K
                try simp only [Act.put, List.getElem_toArray, List.getElem_cons_succ, List.getElem_cons_zero, List.setIfInBounds_toArray, List.set_cons_zero, List.set_cons_succ]
                refine wpAnyH_take (i := 19) (v := ?_) rfl (by kernel_rfl) (by kernel_rfl) (by kernel_rfl) (fun _ _ _ h => h) (Or.inl ⟨by rfl, ?_⟩) (by assumption) ?_
                rotate_left
                · (intro w hSw; (try dsimp only at hSw); first | (go_simp; done) | (go_simp; with_reducible rfl))
                try simp only [Act.put, List.getElem_toArray, List.getElem_cons_succ, List.getElem_cons_zero, List.setIfInBounds_toArray, List.set_cons_zero, List.set_cons_succ]
                refine wpAnyH_take (i := 20) (v := ?_) rfl (by kernel_rfl) (by kernel_rfl) (by kernel_rfl) (fun _ _ _ h => h) (Or.inl ⟨by rfl, ?_⟩) (by assumption) ?_
                rotate_left
                · (intro w hSw; (try dsimp only at hSw); first | (go_simp; done) | (go_simp; with_reducible rfl))
                try simp only [Act.put, List.getElem_toArray, List.getElem_cons_succ, List.getElem_cons_zero, List.setIfInBounds_toArray, List.set_cons_zero, List.set_cons_succ]
                refine wpAnyH_take (i := 21) (v := ?_) rfl (by kernel_rfl) (by kernel_rfl) (by kernel_rfl) (fun _ _ _ h => h) (Or.inl ⟨by rfl, ?_⟩) (by assumption) ?_
                rotate_left
                · (intro w hSw; (try dsimp only at hSw); first | (go_simp; done) | (go_simp; with_reducible rfl))
                try simp only [Act.put, List.getElem_toArray, List.getElem_cons_succ, List.getElem_cons_zero, List.setIfInBounds_toArray, List.set_cons_zero, List.set_cons_succ]
                refine wpAnyH_done (by kernel_rfl) ?_ _
                refine NoPanic.normal ?_
                go_wp2_with fail
                go_meet
                exact ⟨(by first | rfl | rw [b0]), rfl, (by first | (with_reducible exact hS5) | (with_reducible exact hS5.ext0 (Ext.drew (Ext.refl [] _)))), (by first | (with_reducible exact hm5) | (with_reducible exact hm5.ext (Ext.drew (Ext.refl [] _)) (by simp)))⟩
              case rest =>
                obtain ⟨rfl, rfl, hS6, hm6⟩ := hcut
                clear v0 v1 v2 v3 v4 v5 v6 e0 e1 e2 hl0 hlk hle hE5 hIp' hm5 hS5
                go_wp2_with fail
                go_round
                case rel => exact ⟨k + 1, r', lv', s', _, HK.out.1, HK.out.2, by go_num, hS6, HO', Hs.hid HFF.out.2.2.2.2, hm6⟩
                case measure => have := HK.out.1; simp [intOf]; omega
            · have hkb : (x.kind == 1) = false := by simp [hk1]
              have HON : Hid (ownNext own i px x.kind = own) := Hs.hid (by unfold ownNext; rw [if_neg hp, if_neg hk1])
              clear hk1 hp hoo hn0
              go_upto_region 18 with fail
              have hS5 := hS1
              have hE5 := hE1
              have hm5 := hm1
              rw [← HON.out] at hm5
              clear c0 c1 c2
              obtain ⟨v0, v1, v2, v3, v4, v5, v6⟩ := bcells hS5.bx
              obtain ⟨b', pm', hb', hpm', hIp'⟩ := hS5.pa.pr i px' HFF.out.1
              have hl0 := Own.cells (w := W12) rfl hS5.pa.lb (g := y.lg) rfl i (.pointer (some ⟨b', 0, none⟩)) (by simp [hb'])
              rw [add_off'] at hl0
              have HB' := Hs.hid hb'
              have hii' : (i : Int) < s'.P := by have := HPS.out.1; omega
              have hS0 : (0 : Int) ≤ s'.S := by omega
              have hS20 : (s'.S : Int) ≤ 20 := by have := hS5.inv.hS; omega
              have hle : decide (2 + 3 * (s'.S : Int) < (o' : Int)) = false := by have := HFF.out.2.2.1; have := HPS.out.2; simp; omega
              have hlk := run_lookup (P := Try.prog) (w := W12.drew) (t := 27) keyInt Try.underlying27 (d := (0 : Int)) (zeroInt _) hm5 (i : Int) false
              simp only [Bool.false_eq_true, if_false] at hlk
              rw [HFF.out.2.1] at hlk
              have hd : d = (px'.phase == 0) := by have h := HFF.out.2.2.2.1; rw [b0] at h; exact h
              subst hd
              obtain ⟨e0, e1, e2⟩ := ecells hE5
              clear hb' hpm'
              go_upto_region 18 with fail
              go_cut [11, 99] (fun s11 s99 wx => s11 = .bool (px.phase == 0) ∧ s99 = .bool false ∧ StAt w wx V y r' lv' s' (k + 1) ∧ MapAt (Value.int .i64) (Value.int .i64) wx.heap mo (ownNext own i px x.kind))
              case first =>
                refine wp_region_noPanic ?_
                refine wp_region_held_drew (S := (fun w' => w'.cell? ⟨V, 0, none⟩ = some (.int .i64 ↑s'.P) ∧ w'.cell? ⟨V, 1, none⟩ = some (.int .i64 ↑s'.S) ∧ w'.cell? ⟨V, 2, none⟩ = some (.pointer (some ⟨y.mb, 0, none⟩)) ∧ w'.cell? ⟨V, 3, none⟩ = some (.slice (some ⟨y.lg, 0, none⟩) s'.P y.lcap) ∧ w'.cell? ⟨E, 0, none⟩ = some (.bool (px'.phase == 0)) ∧ w'.cell? ⟨y.lg, i, none⟩ = some (.pointer (some ⟨b', 0, none⟩)) ∧ (Instr.lookup 27 (.map (some mo)) (.int .i64 i) false).run Try.prog w' = .ok (.int .i64 o') w')) (by kernel_rfl) ?_ (fun hHeld => ?_)
                · ((try dsimp only); first | exact ⟨v0, v1, v2, v3, e0, hl0, hlk⟩ | go_keep)
                refine wpAnyH_take (i := 0) (v := ?_) rfl (by kernel_rfl) (by kernel_rfl) (by kernel_rfl) (fun _ _ _ h => h) (Or.inl ⟨by rfl, ?_⟩) (by assumption) ?_
                rotate_left
                · (intro w hSw; (try dsimp only at hSw); first | (go_simp; done) | (go_simp; with_reducible rfl))
                try simp only [Act.put, List.getElem_toArray, List.getElem_cons_succ, List.getElem_cons_zero, List.setIfInBounds_toArray, List.set_cons_zero, List.set_cons_succ]
                refine wpAnyH_take (i := 1) (v := ?_) rfl (by kernel_rfl) (by kernel_rfl) (by kernel_rfl) (fun _ _ _ h => h) (Or.inl ⟨by rfl, ?_⟩) (by assumption) ?_
                rotate_left
                · (intro w hSw; (try dsimp only at hSw); first | (go_simp; done) | (go_simp; with_reducible rfl))
                try simp only [Act.put, List.getElem_toArray, List.getElem_cons_succ, List.getElem_cons_zero, List.setIfInBounds_toArray, List.set_cons_zero, List.set_cons_succ]
                refine wpAnyH_take (i := 2) (v := ?_) rfl (by kernel_rfl) (by kernel_rfl) (by kernel_rfl) (fun _ _ _ h => h) (Or.inl ⟨by rfl, ?_⟩) (by assumption) ?_
                rotate_left
                · (intro w hSw; (try dsimp only at hSw); first | (go_simp; done) | (go_simp; with_reducible rfl))
                try simp only [Act.put, List.getElem_toArray, List.getElem_cons_succ, List.getElem_cons_zero, List.setIfInBounds_toArray, List.set_cons_zero, List.set_cons_succ]
                refine wpAnyH_take (i := 3) (v := ?_) rfl (by kernel_rfl) (by kernel_rfl) (by kernel_rfl) (fun _ _ _ h => h) (Or.inl ⟨by rfl, ?_⟩) (by assumption) ?_
                rotate_left
                · (intro w hSw; (try dsimp only at hSw); first | (go_simp; done) | (go_simp; with_reducible rfl))
                try simp only [Act.put, List.getElem_toArray, List.getElem_cons_succ, List.getElem_cons_zero, List.setIfInBounds_toArray, List.set_cons_zero, List.set_cons_succ]
                refine wpAnyH_take (i := 4) (v := ?_) rfl (by kernel_rfl) (by kernel_rfl) (by kernel_rfl) (fun _ _ _ h => h) (Or.inl ⟨by rfl, ?_⟩) (by assumption) ?_
                rotate_left
                · (intro w hSw; (try dsimp only at hSw); first | (go_simp; done) | (go_simp; with_reducible rfl))
                try simp only [Act.put, List.getElem_toArray, List.getElem_cons_succ, List.getElem_cons_zero, List.setIfInBounds_toArray, List.set_cons_zero, List.set_cons_succ]
                refine wpAnyH_ready (rs := [5]) (by kernel_rfl) (by simp) ?_
                refine AllReadyH.cons rfl (fun K hK => ?_) AllReadyH.nil
                go_simp
                (go_at_call 14; (refine (bound_any s'.P s'.S _ hS0 (by omega)).mono ?_); rintro e w9 ⟨rfl, hx9⟩; have hxx : Ext [] W12 w9 := (by first | exact hx9 | exact ((Ext.refl [] _).drew).trans0 hx9); have hS5 := hS5.ext0 hxx; have hE5 := hxx.same hE5 (by simp); have hm5 := hm5.ext hxx (by simp); have hIp' := hIp'.ext hxx (by simp) (by simp); have hlk := run_lookup (P := Try.prog) (w := w9) (t := 27) keyInt Try.underlying27 (d := (0 : Int)) (zeroInt _) hm5 (i : Int) false; simp only [Bool.false_eq_true, if_false] at hlk; rw [HFF.out.2.1] at hlk; clear v0 v1 v2 v3 v4 v5 v6 e0 e1 e2 hl0; obtain ⟨v0, v1, v2, v3, v4, v5, v6⟩ := bcells hS5.bx; obtain ⟨e0, e1, e2⟩ := ecells hE5; have hl0 := Own.cells (w := w9) rfl hS5.pa.lb (g := y.lg) rfl i (.pointer (some ⟨b', 0, none⟩)) (by simp [HB'.out]); rw [add_off'] at hl0)
                go_wp2_with fail
                refine hK.out _ _ ?_ (fun hHeld => ?_)
                · ((try dsimp only); exact ⟨v0, v1, v2, v3, e0, hl0, hlk⟩)
                clear hK K
                try simp only [Act.put, List.getElem_toArray, List.getElem_cons_succ, List.getElem_cons_zero, List.setIfInBounds_toArray, List.set_cons_zero, List.set_cons_succ]
                refine wpAnyH_take (i := 6) (v := ?_) rfl (by kernel_rfl) (by kernel_rfl) (by kernel_rfl) (fun _ _ _ h => h) (Or.inl ⟨by rfl, ?_⟩) (by assumption) ?_
                rotate_left
                · (intro w hSw; (try dsimp only at hSw); first | (go_simp; done) | (go_simp; with_reducible rfl))
                try simp only [Act.put, List.getElem_toArray, List.getElem_cons_succ, List.getElem_cons_zero, List.setIfInBounds_toArray, List.set_cons_zero, List.set_cons_succ]
                refine wpAnyH_take (i := 7) (v := ?_) rfl (by kernel_rfl) (by kernel_rfl) (by kernel_rfl) (fun _ _ _ h => h) (Or.inl ⟨by rfl, ?_⟩) (by assumption) ?_
                rotate_left
                · (intro w hSw; (try dsimp only at hSw); first | (go_simp; done) | (go_simp; with_reducible rfl))
                try simp only [Act.put, List.getElem_toArray, List.getElem_cons_succ, List.getElem_cons_zero, List.setIfInBounds_toArray, List.set_cons_zero, List.set_cons_succ]
                refine wpAnyH_take (i := 8) (v := ?_) rfl (by kernel_rfl) (by kernel_rfl) (by kernel_rfl) (fun _ _ _ h => h) (Or.inl ⟨by rfl, ?_⟩) (by assumption) ?_
                rotate_left
                · (intro w hSw; (try dsimp only at hSw); first | (go_simp; done) | (go_simp; with_reducible rfl))
                try simp only [Act.put, List.getElem_toArray, List.getElem_cons_succ, List.getElem_cons_zero, List.setIfInBounds_toArray, List.set_cons_zero, List.set_cons_succ]
                refine wpAnyH_take (i := 9) (v := ?_) rfl (by kernel_rfl) (by kernel_rfl) (by kernel_rfl) (fun _ _ _ h => h) (Or.inl ⟨by rfl, ?_⟩) (by assumption) ?_
                rotate_left
                · (intro w hSw; (try dsimp only at hSw); first | (go_simp; done) | (go_simp; with_reducible rfl))
                try simp only [Act.put, List.getElem_toArray, List.getElem_cons_succ, List.getElem_cons_zero, List.setIfInBounds_toArray, List.set_cons_zero, List.set_cons_succ]
                refine wpAnyH_take (i := 10) (v := ?_) rfl (by kernel_rfl) (by kernel_rfl) (by kernel_rfl) (fun _ _ _ h => h) (Or.inl ⟨by rfl, ?_⟩) (by assumption) ?_
                rotate_left
                · (intro w hSw; (try dsimp only at hSw); first | (go_simp; done) | (go_simp; with_reducible rfl))
                try simp only [Act.put, List.getElem_toArray, List.getElem_cons_succ, List.getElem_cons_zero, List.setIfInBounds_toArray, List.set_cons_zero, List.set_cons_succ]
                refine wpAnyH_take (i := 11) (v := ?_) rfl (by kernel_rfl) (by kernel_rfl) (by kernel_rfl) (fun _ _ _ h => h) (Or.inl ⟨by rfl, ?_⟩) (by assumption) ?_
                rotate_left
                · (intro w hSw; (try dsimp only at hSw); first | (go_simp; done) | (go_simp; with_reducible rfl))
                try simp only [Act.put, List.getElem_toArray, List.getElem_cons_succ, List.getElem_cons_zero, List.setIfInBounds_toArray, List.set_cons_zero, List.set_cons_succ]
                refine wpAnyH_take (i := 12) (v := ?_) rfl (by kernel_rfl) (by kernel_rfl) (by kernel_rfl) (fun _ _ _ h => h) (Or.inl ⟨by rfl, ?_⟩) (by assumption) ?_
                rotate_left
                · (intro w hSw; (try dsimp only at hSw); first | (go_simp; done) | (go_simp; with_reducible rfl))
                try simp only [Act.put, List.getElem_toArray, List.getElem_cons_succ, List.getElem_cons_zero, List.setIfInBounds_toArray, List.set_cons_zero, List.set_cons_succ]
                refine wpAnyH_take (i := 13) (v := ?_) rfl (by kernel_rfl) (by kernel_rfl) (by kernel_rfl) (fun _ _ _ h => h) (Or.inl ⟨by rfl, ?_⟩) (by assumption) ?_
                rotate_left
                · (intro w hSw; (try dsimp only at hSw); first | (go_simp; done) | (go_simp; with_reducible rfl))
                try simp only [Act.put, List.getElem_toArray, List.getElem_cons_succ, List.getElem_cons_zero, List.setIfInBounds_toArray, List.set_cons_zero, List.set_cons_succ]
                refine wpAnyH_take (i := 14) (v := ?_) rfl (by kernel_rfl) (by kernel_rfl) (by kernel_rfl) (fun _ _ _ h => h) (Or.inl ⟨by rfl, ?_⟩) (by assumption) ?_
                rotate_left
                · (intro w hSw; (try dsimp only at hSw); first | (go_simp; done) | (go_simp; with_reducible rfl))
                try simp only [Act.put, List.getElem_toArray, List.getElem_cons_succ, List.getElem_cons_zero, List.setIfInBounds_toArray, List.set_cons_zero, List.set_cons_succ]
                refine wpAnyH_take (i := 15) (v := ?_) rfl (by kernel_rfl) (by kernel_rfl) (by kernel_rfl) (fun _ _ _ h => h) (Or.inl ⟨by rfl, ?_⟩) (by assumption) ?_
                rotate_left
                · (intro w hSw; (try dsimp only at hSw); first | (go_simp; done) | (go_simp; with_reducible rfl))
                try simp only [Act.put, List.getElem_toArray, List.getElem_cons_succ, List.getElem_cons_zero, List.setIfInBounds_toArray, List.set_cons_zero, List.set_cons_succ]
                refine wpAnyH_take (i := 16) (v := ?_) rfl (by kernel_rfl) (by kernel_rfl) (by kernel_rfl) (fun _ _ _ h => h) (Or.inl ⟨by rfl, ?_⟩) (by assumption) ?_
                rotate_left
                · (intro w hSw; (try dsimp only at hSw); first | (go_simp; done) | (go_simp; with_reducible rfl))
                try simp only [Act.put, List.getElem_toArray, List.getElem_cons_succ, List.getElem_cons_zero, List.setIfInBounds_toArray, List.set_cons_zero, List.set_cons_succ]
                refine wpAnyH_take (i := 17) (v := ?_) rfl (by kernel_rfl) (by kernel_rfl) (by kernel_rfl) (fun _ _ _ h => h) (Or.inl ⟨by rfl, ?_⟩) (by assumption) ?_
                rotate_left
                · (intro w hSw; (try dsimp only at hSw); first | (go_simp; done) | (go_simp; with_reducible rfl))
                try simp only [Act.put, List.getElem_toArray, List.getElem_cons_succ, List.getElem_cons_zero, List.setIfInBounds_toArray, List.set_cons_zero, List.set_cons_succ]
                refine wpAnyH_ready (rs := [18]) (by kernel_rfl) (by simp) ?_
                refine AllReadyH.cons rfl (fun K hK => ?_) AllReadyH.nil
                go_simp
                (go_at_call 23; (refine (idle_any b' pm' px' _ hIp').mono ?_); rintro e w19 ⟨rfl, rfl⟩)
                go_wp2_with fail
                refine hK.out _ _ ?_ (fun hHeld => ?_)
                · ((try dsimp only); exact ⟨v0, v1, v2, v3, e0, hl0, hlk⟩)
                clear hK K
                try simp only [Act.put, List.getElem_toArray, List.getElem_cons_succ, List.getElem_cons_zero, List.setIfInBounds_toArray, List.set_cons_zero, List.set_cons_succ]
                refine wpAnyH_take (i := 19) (v := ?_) rfl (by kernel_rfl) (by kernel_rfl) (by kernel_rfl) (fun _ _ _ h => h) (Or.inl ⟨by rfl, ?_⟩) (by assumption) ?_
                rotate_left
                · (intro w hSw; (try dsimp only at hSw); first | (go_simp; done) | (go_simp; with_reducible rfl))
                try simp only [Act.put, List.getElem_toArray, List.getElem_cons_succ, List.getElem_cons_zero, List.setIfInBounds_toArray, List.set_cons_zero, List.set_cons_succ]
                refine wpAnyH_take (i := 20) (v := ?_) rfl (by kernel_rfl) (by kernel_rfl) (by kernel_rfl) (fun _ _ _ h => h) (Or.inl ⟨by rfl, ?_⟩) (by assumption) ?_
                rotate_left
                · (intro w hSw; (try dsimp only at hSw); first | (go_simp; done) | (go_simp; with_reducible rfl))
                try simp only [Act.put, List.getElem_toArray, List.getElem_cons_succ, List.getElem_cons_zero, List.setIfInBounds_toArray, List.set_cons_zero, List.set_cons_succ]
                refine wpAnyH_take (i := 21) (v := ?_) rfl (by kernel_rfl) (by kernel_rfl) (by kernel_rfl) (fun _ _ _ h => h) (Or.inl ⟨by rfl, ?_⟩) (by assumption) ?_
                rotate_left
                · (intro w hSw; (try dsimp only at hSw); first | (go_simp; done) | (go_simp; with_reducible rfl))
                try simp only [Act.put, List.getElem_toArray, List.getElem_cons_succ, List.getElem_cons_zero, List.setIfInBounds_toArray, List.set_cons_zero, List.set_cons_succ]
                refine wpAnyH_done (by kernel_rfl) ?_ _
                refine NoPanic.normal ?_
                go_wp2_with fail
                go_meet
                exact ⟨(by first | rfl | rw [b0]), rfl, (by first | (with_reducible exact hS5) | (with_reducible exact hS5.ext0 (Ext.drew (Ext.refl [] _)))), (by first | (with_reducible exact hm5) | (with_reducible exact hm5.ext (Ext.drew (Ext.refl [] _)) (by simp)))⟩
              case rest =>
                obtain ⟨rfl, rfl, hS6, hm6⟩ := hcut
                clear v0 v1 v2 v3 v4 v5 v6 e0 e1 e2 hl0 hlk hle hE5 hIp' hm5 hS5
                go_wp2_with fail
                go_round
                case rel => exact ⟨k + 1, r', lv', s', _, HK.out.1, HK.out.2, by go_num, hS6, HO', Hs.hid HFF.out.2.2.2.2, hm6⟩
                case measure => have := HK.out.1; simp [intOf]; omega
    · have hdec : k < len → ¬ k < 200 := by intro h1 h2; exact hlt ⟨h1, h2⟩
      have hex : (decide (k < len) = false) ∨ (decide (k < len) = true ∧ decide ((k : Int) < 200) = false) := by
        by_cases h1 : k < len
        · right; have := hdec h1; simp; omega
        · left; simp; omega
      have HLT : LtAt w wr V y r lv s k := ⟨hS.pa, hS.inv, hO.out, hS.bx, hS.ext⟩
      have HN := Hs.hid hk2
      clear hlt hdec hk hk2 hki hki0 hS hO hF hm
      rcases hex with hex | ⟨hex, hex2⟩
      all_goals
        go_wp2_with fail
        go_meet
        exact ⟨r, lv, s, k, HLT, HN⟩
  case rest =>
    clear hS hO hF hm0
    obtain ⟨r, lv, s, n, hS, hN⟩ := hcut
    have hS := hS.up hN.out
    obtain ⟨v0, v1, v2, v3, v4, v5, v6⟩ := bcells hS.bx
    obtain ⟨Pn, hPn⟩ : ∃ Pn, s.P = Pn := ⟨_, rfl⟩
    obtain ⟨Sn, hSn⟩ : ∃ Sn, s.S = Sn := ⟨_, rfl⟩
    have hP5 := hS.inv.hP
    have hS20 := hS.inv.hS
    have HPS : Hid (s.P = Pn ∧ s.S = Sn) := Hs.hid ⟨hPn, hSn⟩
    have HB := Hs.hid (show 1 ≤ Pn ∧ Pn ≤ 5 ∧ Sn ≤ 20 by omega)
    rw [hPn] at v0
    clear hPn hSn hP5 hS20
    go_wp2_with fail
    clear v0 v1 v2 v3 v4 v5 v6
    go_loopw [103] (fun ii wr => ∃ i lv s', i ≤ Pn ∧ ii = .int .i64 (i : Nat) ∧ LtAt w wr V y r lv s' (200 + 100 * i) ∧ Hid (s'.P = Pn ∧ s'.S = Sn)) (fun ii _ => Pn - (intOf ii).toNat)
    case atStart => exact ⟨0, lv, s, Nat.zero_le _, rfl, hS, HPS⟩
    case round =>
      clear hS HPS
      obtain ⟨i, lv, s, hi, rfl, hS, HPS⟩ := hrel
      have hi0 : (0 : Int) ≤ i := by omega
      have hi5 : (i : Int) ≤ 5 := by have := HB.out; omega
      by_cases hlt : i < Pn
      · have hii : (i : Int) < Pn := by omega
        have hiis : (i : Int) < s.P := by have := HPS.out.1; omega
        have hlb : decide ((i : Int) < Pn) = true := by simp; omega
        obtain ⟨x, hx⟩ := hS.inv.some (show i < s.P by have := HPS.out.1; omega)
        obtain ⟨b, m, hb, hm, hIp⟩ := hS.pa.pr i x hx
        have HX : Hid (∃ x, s.L[i]? = some x ∧ (x.phase ≠ 0 → 0 + x.rem ≤ 2 + 3 * s.S)) := Hs.hid ⟨x, hx, fun _ => by have := rem_le hS.inv hx; omega⟩
        have HBB := Hs.hid hb
        have HI := Hs.hid (And.intro hi hlt)
        have hS0 : (0 : Int) ≤ s.S := by omega
        have hS20 : (s.S : Int) ≤ 20 := by have := HB.out; have := HPS.out.2; omega
        clear hx hb hm hIp hlt hi
        obtain ⟨v0, v1, v2, v3, v4, v5, v6⟩ := bcells hS.bx
        go_wp2_with (go_at_call 14; (refine (bound_any s.P s.S _ hS0 (by omega)).mono ?_); rintro e w9 ⟨rfl, hx9⟩)
        have hS := hS.ext0 hx9
        clear hx9 v0 v1 v2 v3 v4 v5 v6
        go_loopw [110] (fun tt wr => ∃ t lv s', t ≤ 3 + 3 * Sn ∧ tt = .int .i64 (t : Nat) ∧ LtAt w wr V y r lv s' (200 + 100 * i + t) ∧ Hid (s'.P = Pn ∧ s'.S = Sn) ∧ Hid (∃ x, s'.L[i]? = some x ∧ (x.phase ≠ 0 → t + x.rem ≤ 2 + 3 * s'.S))) (fun tt _ => 3 + 3 * Sn - (intOf tt).toNat)
        case atStart => exact ⟨0, lv, s, Nat.zero_le _, rfl, hS, HPS, HX⟩
        case round =>
          clear hS HX
          obtain ⟨t, lv2, s2, ht, rfl, hS, HPS2, HX⟩ := hrel
          have ht0 : (0 : Int) ≤ t := by omega
          have ht1 : (t : Int) ≤ 100 := by have := HB.out; omega
          have HS2 := Hs.hid (show s.S = s2.S ∧ s2.S = Sn ∧ s2.P = Pn from ⟨HPS.out.2.trans HPS2.out.2.symm, HPS2.out.2, HPS2.out.1⟩)
          have hiis2 : (i : Int) < s2.P := by have := HPS2.out.1; omega
          by_cases hlt : t < 3 + 3 * Sn
          · have hl1 : (t : Int) < 2 + 3 * (s.S : Int) + 1 := by have := HS2.out; omega
            have hl2 : decide ((t : Int) < 2 + 3 * (s.S : Int) + 1) = true := by simp; omega
            obtain ⟨x, hx, hxr⟩ := HX.out
            have l0 := Own.cells (w := wr) rfl hS.pa.lb (g := y.lg) rfl i (.pointer (some ⟨b, 0, none⟩)) (by simp [HBB.out])
            rw [add_off'] at l0
            have HT := Hs.hid (And.intro hlt (show 200 + 100 * i + t < 100000 by have := HB.out; have := HI.out; omega))
            have HXX := Hs.hid hx
            have hst := helped_round hS.inv HX.out ⟨#[]⟩
            rw [does_step_eq hx] at hst
            have HST := Hs.hid hst
            clear hst hx hxr hlt ht
            obtain ⟨v0, v1, v2, v3, v4, v5, v6⟩ := bcells hS.bx
            go_upto_region 25 with fail
            go_region_held3 (fun w' => w'.cell? ⟨V, 2, none⟩ = some (.pointer (some ⟨y.mb, 0, none⟩)) ∧ w'.cell? ⟨V, 3, none⟩ = some (.slice (some ⟨y.lg, 0, none⟩) s2.P y.lcap) ∧ w'.cell? ⟨y.lg, i, none⟩ = some (.pointer (some ⟨b, 0, none⟩)))
              (first
                | exact ⟨v2, v3, l0⟩
                | exact ⟨u2, u3, m0⟩
                | go_keep)
              (first
                | (go_at_call 24; (refine (step_lt w _ V y r lv2 s2 (200 + 100 * i + t) i b x (hS.ext0 (Ext.drew (Ext.refl [] _))) HT.out.2 HXX.out HBB.out).mono ?_); rintro e w4 ⟨lv4, s4, d, f, sl, rfl, hs4, hS4⟩; obtain ⟨u0, u1, u2, u3, u4, u5, u6⟩ := bcells hS4.bx; have m0 := Own.cells (w := w4) rfl hS4.pa.lb (g := y.lg) rfl i (.pointer (some ⟨b, 0, none⟩)) (by simp [HBB.out]); rw [add_off'] at m0; have hPS4 : s4.P = s2.P ∧ s4.S = s2.S := (by constructor <;> (rw [hs4.out]; try rfl)); rw [hPS4.1] at u3))
            have HPS4 : Hid (s4.P = Pn ∧ s4.S = Sn) := Hs.hid ⟨hPS4.1.trans HPS2.out.1, hPS4.2.trans HPS2.out.2⟩
            have HX4 : Hid (∃ x, s4.L[i]? = some x ∧ (x.phase ≠ 0 → t + 1 + x.rem ≤ 2 + 3 * s4.S)) := Hs.hid (by have := HST.out; rw [← hs4.out] at this; rw [hPS4.2]; exact this)
            clear hPS4 hs4
            go_wp2_with fail
            go_round
            case rel => exact ⟨t + 1, lv4, s4, HT.out.1, by go_num, hS4.ext0 (by repeat (first | (with_reducible exact Ext.refl _ _) | (with_reducible refine Ext.drew ?_) | (with_reducible refine Ext.alloc ?_ _))), HPS4, HX4⟩
            case measure => have := HT.out.1; simp [intOf]; omega
          · have hl1 : ¬ (t : Int) < 2 + 3 * (s.S : Int) + 1 := by have := HS2.out; omega
            have hl2 : decide ((t : Int) < 2 + 3 * (s.S : Int) + 1) = false := by simp; omega
            obtain ⟨x, hx, hxp⟩ := helped_done hS.inv HX.out (by have := HS2.out; omega)
            obtain ⟨b2, m, hb, hm, hIp⟩ := hS.pa.pr i x hx
            have hbb : (x.phase == 0) = true := by simp [hxp]
            have l0 := Own.cells (w := wr) rfl hS.pa.lb (g := y.lg) rfl i (.pointer (some ⟨b2, 0, none⟩)) (by simp [hb])
            rw [add_off'] at l0
            have hS := hS.up (show 200 + 100 * i + t ≤ 200 + 100 * (i + 1) by have := HB.out; omega)
            clear hx hb hm hxp hlt ht
            obtain ⟨v0, v1, v2, v3, v4, v5, v6⟩ := bcells hS.bx
            go_wp2_with (go_at_call 23; (refine (idle_any b2 m x _ hIp).mono ?_); rintro e w8 ⟨rfl, rfl⟩)
            go_round
            case rel => exact ⟨i + 1, lv2, s2, HI.out.2, by go_num, hS, HPS2⟩
            case measure => have := HI.out.2; simp [intOf]; omega
      · have hlb : decide ((i : Int) < Pn) = false := by simp; omega
        have hlb2 : ¬ (i : Int) < Pn := by omega
        have HN := Hs.hid (show 200 + 100 * i < 100000 by have := HB.out; omega)
        clear hlt hi hi5
        obtain ⟨v0, v1, v2, v3, v4, v5, v6⟩ := bcells hS.bx
        go_wp2_with (go_at_call 29; (refine (once_any w.heap.size y r lv s (200 + 100 * i) _ hS.pa hS.inv HN.out hS.o).mono ?_); rintro e w13 ⟨rfl, hx13⟩)
        go_ret
        exact ⟨rfl, hS.ext.trans0 hx13⟩
end Go.Proofs.Ytkhihpmadmmeaaa
