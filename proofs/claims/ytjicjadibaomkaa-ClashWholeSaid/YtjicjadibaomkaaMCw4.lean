/-
  Texts of this claim, put together: SumsV, SumsO, Leaves, TreeU, Clash3, CWhole, OpenS.
-/
import Derived.Great.BuildSlice
import Derived.SliceStrings
import Derived.Test.YtjicjadibaomkaaChecked
import Derived.ChangeSlices
import Derived.Deep.Slices
import Derived.Deep.Fields
import Derived.ChangeSame
import Derived.Carry
import Derived.ProofKit
import Derived.OpenShut
import Derived.Test.YtjicjadibaomkaaMCw3
set_option linter.unusedSimpArgs false
set_option linter.unusedVariables false
set_option maxHeartbeats 1000000
set_option maxRecDepth 100000
namespace Go.Proofs.Ytjicjadibaomkaa
open Go.RowKit Go.Hs Go.Dg

/-- The cells of sums, by their texts. -/
def sumsV (xs : List S32) : List Value := xs.flatMap fun x => x.V.toList
theorem sumsV_len (xs : List S32) : (sumsV xs).length = xs.length * 32 := by
  unfold sumsV
  induction xs with
  | nil => rfl
  | cons x xs ih =>
    rw [List.flatMap_cons, List.length_append, ih, Array.length_toList, x.size, List.length_cons]; omega
theorem sumsV_app (xs ys : List S32) : sumsV (xs ++ ys) = sumsV xs ++ sumsV ys := by simp [sumsV]
theorem sumsV_one (xs : List S32) : ∀ u ∈ sumsV xs, u.oneCell' = true := by
  intro u hu
  simp only [sumsV, List.mem_flatMap] at hu
  obtain ⟨x, _, hx⟩ := hu
  exact (Array.all_eq_true'.1 (x.one)) u (Array.mem_toList_iff.1 hx)
theorem infoSumY : (Try.prog.info? 35).map (fun i => (i.zero, i.size, i.bytes)) = some (some (.agg #[.int .u8 0, .int .u8 0, .int .u8 0, .int .u8 0, .int .u8 0, .int .u8 0, .int .u8 0, .int .u8 0, .int .u8 0, .int .u8 0, .int .u8 0, .int .u8 0, .int .u8 0, .int .u8 0, .int .u8 0, .int .u8 0, .int .u8 0, .int .u8 0, .int .u8 0, .int .u8 0, .int .u8 0, .int .u8 0, .int .u8 0, .int .u8 0, .int .u8 0, .int .u8 0, .int .u8 0, .int .u8 0, .int .u8 0, .int .u8 0, .int .u8 0, .int .u8 0]), 32, 32) := by kernel_rfl
theorem fill_sumsV : ∀ (xs : List S32) (k : Nat) (pre : List Value) (b : Array Value), pre.length = k * 32 → b.size = (k + xs.length) * 32 → b.toList.take (k * 32) = pre →
    Instr.fill (fun i => some (i * 32, 32)) b ((xs.zipIdx k).map fun p => (p.2, Value.agg (p.1.V))) = some (pre ++ sumsV xs).toArray
  | [], k, pre, b, hp, hb, ht => by
    simp only [List.zipIdx_nil, List.map_nil, Instr.fill, sumsV, List.flatMap_nil, List.append_nil]
    have : b.toList = pre := by rw [← ht, List.take_of_length_le (by simp at hb ⊢; omega)]
    rw [← this]
  | x :: xs, k, pre, b, hp, hb, ht => by
    simp only [List.zipIdx_cons, List.map_cons, Instr.fill]
    have hc : (Value.agg x.V).cells = x.V := rfl
    simp only [List.length_cons] at hb
    rw [hc, if_neg (by simp [x.size]; omega)]
    have hf : x.V.zipIdx.foldl (fun cs (p : Value × Nat) => cs.setIfInBounds (k * 32 + p.2) p.1) b = (x.V.toList.zipIdx 0).foldl (fun a (p : Value × Nat) => a.setIfInBounds (k * 32 + p.2) p.1) b := by
      rw [← Array.foldl_toList, Array.toList_zipIdx]
    have hf' : x.V.zipIdx.foldl (fun cs (x : Value × Nat) => match x with | (c, j) => cs.setIfInBounds (k * 32 + j) c) b = (x.V.toList.zipIdx 0).foldl (fun a (p : Value × Nat) => a.setIfInBounds (k * 32 + p.2) p.1) b := hf
    rw [hf']
    obtain ⟨h1, h2⟩ := fold_at (k * 32) x.V.toList 0 b
    have hlen : x.V.toList.length = 32 := by rw [Array.length_toList, x.size]
    generalize (x.V.toList.zipIdx 0).foldl (fun a (p : Value × Nat) => a.setIfInBounds (k * 32 + p.2) p.1) b = b2 at h1 h2 ⊢
    have hb2 : b2.size = (k + 1 + xs.length) * 32 := by omega
    have hp2 : (pre ++ x.V.toList).length = (k + 1) * 32 := by rw [List.length_append, hp, hlen]; omega
    have ht2 : b2.toList.take ((k + 1) * 32) = pre ++ x.V.toList := by
      apply List.ext_getElem?
      intro i
      rw [List.getElem?_take]
      have h4 := h2 i
      rw [← Array.getElem?_toList] at h4
      by_cases hi : i < (k + 1) * 32
      · rw [if_pos hi, h4]
        by_cases hi2 : i < k * 32
        · rw [if_neg (by omega), List.getElem?_append_left (by omega), ← ht, List.getElem?_take, if_pos hi2, Array.getElem?_toList]
        · rw [if_pos ⟨by omega, by omega, by omega⟩, List.getElem?_append_right (by omega), hp]; congr 1
      · rw [if_neg hi, List.getElem?_eq_none]
        rw [List.length_append, hp, hlen]; omega
    have h3 := fill_sumsV xs (k + 1) (pre ++ x.V.toList) b2 hp2 hb2 ht2
    rw [h3]
    simp [sumsV]
theorem fill_sumV (x : S32) (b : Array Value) (hb : b.size = 32) : Instr.fill (fun i => some (i * 32, 32)) b [(0, Value.agg x.V)] = some x.V := by
  have := fill_sumsV [x] 0 [] b rfl (by simpa using hb) rfl
  simpa [sumsV] using this
/-- A slice of one sum, made where it is written. -/
theorem wpList_sumV {ops : Array Oper} {rest : List Oper} {o : Oper} {a : Act} {w : World} {Q : Exit → Act → World → Prop} (hg : o.guard = none) (y : Operand) (ho : o.op = .buildSlice 28 1 #[(0, y)])
    (x : S32) (hy : a.eval y = .agg x.V)
    (h : wpList Try.prog ops Q rest (a.put o.dst (.slice (some ⟨w.heap.size, 0, none⟩) 1 1)) (w.alloc (.cells x.V 35))) : wpList Try.prog ops Q (o :: rest) a w := by
  obtain ⟨i0, hi, hz0, hz1, hz2⟩ := info_parts infoSumY
  refine wpList_buildSlice hg 28 35 1 _ ho x.V i0 _ Try.underlying28 hi hz0 (by rw [hz1]; decide) (by rw [hz1]; decide) ?_ h
  rw [hz1]
  have : (#[(0, y)].map fun (p : Nat × Operand) => (p.1, a.eval p.2)).toList = [(0, Value.agg x.V)] := by simp [hy]
  show Instr.fill _ _ (#[(0, y)].map fun (p : Nat × Operand) => (p.1, a.eval p.2)).toList = _
  rw [this]
  exact fill_sumV x _ (by simp)
/-- A slice of sums that the call owns. -/
def OwnV (h : Array Obj) (v : Value) (xs : List S32) : Prop := Own h 35 32 v xs.length (sumsV xs)
theorem OwnV.nil (h : Array Obj) : OwnV h (.slice none 0 0) [] := ⟨rfl, .inl ⟨rfl, rfl⟩⟩
theorem OwnV.form {w : World} {v : Value} {xs : List S32} (o : OwnV w.heap v xs) : ∃ ao cap, v = .slice ao xs.length cap := Own.form o
theorem OwnV.ext {w w' : World} {F : List Nat} {v : Value} {xs : List S32} (o : OwnV w.heap v xs) (x : Ext F w w') (hF : ∀ g, v.ownBlock = some g → g ∉ F) : OwnV w'.heap v xs :=
  Own.same o fun g hg => x.block g (Own.lt o hg) (hF g hg)
/-- One more, behind: the one sum's slice lies in block B. -/
theorem wpList_append_sumV {ops : Array Oper} {rest : List Oper} {o : Oper} {a : Act} {w : World} {Q : Exit → Act → World → Prop}
    (hg : o.guard = none) (s y : Operand) (hop : o.op = Op.call { callee := Callee.builtin Builtin.append, args := #[s, y], argTypes := #[28, 28] })
    (v : Value) (xs : List S32) (hs : a.eval s = v) (hown : OwnV w.heap v xs) (B m : Nat) (ys : List S32) (fr : Nat × Nat) (hm : m = ys.length) (hy : a.eval y = .slice (some ⟨B, 0, none⟩) m m) (hB : w.heap[B]? = some (.cells (sumsV ys).toArray 35 fr))
    (hlen : xs.length + m ≤ 1000)
    (hK : ∀ ao cap w', OwnV w'.heap (.slice ao (xs.length + m) cap) (xs ++ ys) → Ext v.ownBlock.toList w w' → (∀ g, (Value.slice ao (xs.length + m) cap).ownBlock = some g → v.ownBlock = some g ∨ w.heap.size ≤ g) →
      wpList Try.prog ops Q rest (a.put o.dst (.slice ao (xs.length + m) cap)) w') : wpList Try.prog ops Q (o :: rest) a w := by
  obtain ⟨i0, hi, hz0, hz1, hz2⟩ := info_parts infoSumY
  subst hm
  refine wpList_append hg s y 28 hop 35 i0 _ 32 32 Try.underlying28 hi hz0 hz1 hz2 (by kernel_rfl) (by decide) v xs.length (sumsV xs) hs hown ⟨B, 0, none⟩ ys.length ys.length (sumsV ys) hy (sumsV_len ys) (fun j u hj => ?_) (sumsV_one ys) (by unfold maxLen; omega) (by omega) fun ao cap w' h1 h2 h3 => hK ao cap w' ?_ h2 h3
  · rw [add_off', cellAt hB j]; simpa using hj
  · unfold OwnV; rw [sumsV_app, List.length_append]; exact h1
end Go.Proofs.Ytjicjadibaomkaa
set_option linter.unusedSimpArgs false
set_option linter.unusedVariables false
set_option maxHeartbeats 1000000
set_option maxRecDepth 100000
namespace Go.Proofs.Ytjicjadibaomkaa
open Go.RowKit Go.Hs Go.Dg

/-- The call's own slice of sums, as an argument. -/
theorem sums_own {h : Array Obj} {ao : Option Addr} {cap : Nat} {xs : List S32} (o : OwnV h (.slice ao xs.length cap) xs) : Sums32 h ao cap xs := by
  rcases o.2 with ⟨h1, h0⟩ | ⟨g, cap', cur, h1, _, hg, hnc, hn, hs, ht⟩
  · simp at h1
    exact ⟨by omega, by omega, .inl (List.eq_nil_of_length_eq_zero h0)⟩
  · simp at h1
    obtain ⟨rfl, rfl⟩ := h1
    refine ⟨hnc, by unfold maxLen at hn; omega, .inr ⟨g, 0, cur, _, _, rfl, hg, fun k x hk j v hj => ?_⟩⟩
    have hjl := (List.getElem?_eq_some_iff.1 hj).1
    rw [Array.length_toList, x.size] at hjl
    have hkl := (List.getElem?_eq_some_iff.1 hk).1
    have hsv : ∀ (xs : List S32) (k : Nat), xs[k]? = some x → (sumsV xs)[k * 32 + j]? = some v := by
      intro xs
      induction xs with
      | nil => intro k h; simp at h
      | cons y ys ih =>
        intro k h
        have hl : y.V.toList.length = 32 := by rw [Array.length_toList, y.size]
        unfold sumsV
        rw [List.flatMap_cons]
        cases k with
        | zero =>
          simp at h; subst h
          rw [List.getElem?_append_left (by omega)]
          simpa using hj
        | succ k =>
          rw [List.getElem?_append_right (by omega), hl, show (k + 1) * 32 + j - 32 = k * 32 + j by omega]
          exact ih k (by simpa using h)
    have := hsv xs k hk
    rw [← ht, List.getElem?_take] at this
    split at this
    · rw [Nat.zero_add, ← Array.getElem?_toList]; exact this
    · cases this
end Go.Proofs.Ytjicjadibaomkaa
set_option linter.unusedSimpArgs false
set_option linter.unusedVariables false
set_option maxHeartbeats 2000000
set_option maxRecDepth 100000
namespace Go.Proofs.Ytjicjadibaomkaa
open Go.RowKit Go.Hs Go.Dg

theorem encode_size (r : Int) : (Utf8.encode r).size ≤ 4 := by
  unfold Utf8.encode
  simp only []
  generalize (if Utf8.valid r = true then r.toNat else Utf8.runeError) = c
  split
  · show 1 ≤ 4; omega
  · split
    · show 2 ≤ 4; omega
    · split
      · show 3 ≤ 4; omega
      · show 4 ≤ 4; omega
theorem OwnT.strs {h : Array Obj} {v : Value} {ls : List ByteArray} (o : OwnT h v ls) : Strs h v ls := by
  rcases o.2 with ⟨rfl, h0⟩ | ⟨g, cap, cur, rfl, _, hg, hn, hm, hs, ht⟩
  · exact .inl ⟨List.eq_nil_of_length_eq_zero h0, _, _, rfl⟩
  · refine .inr ⟨g, 0, cap, cur, _, _, rfl, hg, fun k s hk => ?_⟩
    have hkl := (List.getElem?_eq_some_iff.1 hk).1
    have : (cur.toList.take (ls.length * 1))[k]? = some (.string s) := by rw [ht, List.getElem?_map, hk]; rfl
    rw [List.getElem?_take, if_pos (by omega)] at this
    simpa using this
theorem leaves_any (ao : Option Addr) (len cap : Nat) (n : Int) (w : World) (ha : StrArg w ao len) : Calls Try.prog 6 #[.slice ao len cap, .int .i64 n] w fun e w' =>
    ∃ v ls, e = .returned v ∧ OwnT w'.heap v ls ∧ Hid (ls.length ≤ 40 ∧ ∀ s ∈ ls, s.size ≤ 20) ∧ (∀ g, v.ownBlock = some g → w.heap.size ≤ g) ∧ Ext [] w w' := by
  obtain ⟨i0, hi, hz0, hz1, hz2⟩ := info_parts infoStr
  have hlen := ha.1
  have HA := Hs.hid ha
  clear ha
  obtain ⟨B, hB, hB40⟩ : ∃ B : Nat, min (max n 0) 40 = (B : Int) ∧ B ≤ 40 := ⟨(min (max n 0) 40).toNat, by omega, by omega⟩
  have hB2 : (B : Int) ≤ 40 := by omega
  go_enter Try.func6, Try.ntmps6
  go_wp2_with fail
  have hO := heap_new w (.cells #[] 9)
  have hx0 := (Ext.refl [] w).alloc (.cells #[] 9)
  generalize w.alloc (.cells #[] 9) = W at hO hx0 ⊢
  obtain ⟨g0, hg0⟩ : ∃ g, w.heap.size = g := ⟨_, rfl⟩
  rw [hg0] at hO ⊢
  have HG := Hs.hid (show w.heap.size ≤ g0 from Nat.le_of_eq hg0)
  clear hg0
  go_loopw [5, 6] (fun out iv wr => ∃ (k : Nat) (ls : List ByteArray) (ao2 : Option Addr) (cap2 : Nat), iv = .int .i64 k ∧ out = .slice ao2 k cap2 ∧ OwnT wr.heap (.slice ao2 k cap2) ls ∧ Hid (ls.length = k ∧ (∀ s ∈ ls, s.size ≤ 20) ∧ ∀ g, (Value.slice ao2 k cap2).ownBlock = some g → w.heap.size ≤ g) ∧ k ≤ B ∧ Ext [] w wr) (fun _ iv _ => B - (intOf iv).toNat)
  case atStart => exact ⟨0, [], _, _, rfl, rfl, ⟨rfl, .inr ⟨g0, 0, #[], rfl, Nat.zero_le _, hO, Nat.le_refl _, by decide, rfl, rfl⟩⟩, Hs.hid ⟨rfl, by simp, fun g hg => by have := HG.out; simp [Value.ownBlock] at hg; omega⟩, by omega, hx0⟩
  case round =>
    clear hO hx0
    obtain ⟨k, ls, ao2, cap2, rfl, rfl, hO, HL, hkB, hE⟩ := hrel
    by_cases hlt : k < B
    · have hlt2 : (k : Int) < B := by omega
      go_upto_region 6 with fail
      have hes := encode_size (97 + (k : Int) % 26)
      generalize Utf8.encode (97 + (k : Int) % 26) = s0 at hes ⊢
      have app : ∀ (s1 : ByteArray) (wz : World), s1.size ≤ 20 → OwnT wz.heap (.slice ao2 k cap2) ls → Own wz.heap 9 1 (.slice ao2 k cap2) k (ls.map Value.string) := fun s1 wz _ h => by
        have := HL.out.1; unfold OwnT at h; rw [this] at h; exact h
      have HAPP := Hs.hid app
      clear app
      have HI := Hs.hid (And.intro hi (And.intro hz0 (And.intro hz1 hz2)))
      clear hi hz0 hz1 hz2
      by_cases hl0 : len = 0
      · have hl1 : (len : Int) ≤ 0 := by omega
        have HL0 := Hs.hid hl0
        have HSS := Hs.hid (show s0.size ≤ 20 by omega)
        clear hl0
        go_wp2_with (first
          | (at_builtin; refine wpList_append rfl (.tmp 34) (.tmp 36) 22 rfl 9 i0 _ 1 16 Try.underlying22 HI.out.1 HI.out.2.1 HI.out.2.2.1 HI.out.2.2.2 rfl (by decide) (.slice ao2 k cap2) k (ls.map Value.string) rfl (HAPP.out s0 _ HSS.out (hO.ext' ((Ext.refl [] wr).alloc _) (by simp))) ⟨wr.heap.size, 0, none⟩ 1 1 [.string s0] rfl rfl (news_new wr [.string s0] 9) (by simp [Value.oneCell']) (by unfold maxLen; omega) (by omega) ?_; intro ao3 cap3 w3 hO3 hx3 hg3))
        go_round
        case rel =>
          refine ⟨k + 1, ls ++ [s0], ao3, cap3, by go_num, rfl, OwnT.more HL.out.1 hO3, Hs.hid ⟨by rw [List.length_append, HL.out.1]; rfl, ?_, ?_⟩, by omega, ?_⟩
          · intro q hq
            rcases List.mem_append.1 hq with h | h
            · exact HL.out.2.1 q h
            · simp at h; subst h; exact HSS.out
          · intro g hg
            rcases hg3 g hg with h | h
            · exact HL.out.2.2 g h
            · have h2 := (hE.alloc (.cells #[.string s0] 9)).size
              exact Nat.le_trans h2 h
          · exact (hE.alloc _).trans hx3 (fun g hg => .inr (HL.out.2.2 g (by simpa using hg)))
        case measure => simp [intOf]; omega
      · have hl1 : (0 : Int) < len := by omega
        obtain ⟨q, hq, hql⟩ : ∃ q : Nat, k % len = q ∧ q < len := ⟨_, rfl, Nat.mod_lt _ (by omega)⟩
        obtain ⟨a, x, rfl, _, hcell, hxs⟩ := (HA.out.ext hE).2 q hql
        have hm0 : (k : Int) % (len : Int) = (q : Int) := by exact_mod_cast congrArg (Nat.cast (R := Int)) hq
        have hm1 : Int.tmod (k : Int) (len : Int) = (q : Int) := by rw [Int.tmod_eq_emod_of_nonneg (by omega)]; exact hm0
        have hm2 : (q : Int) < len := by omega
        have hn0 : ¬ len = 0 := hl0
        have HXS := Hs.hid hxs
        clear hxs hq hl0
        go_upto_region 8 with (go_at_call 16; refine (cut_any x 10 (by decide) _ HXS.out).mono ?_; rintro e w1 ⟨tt, rfl, htt, hw1⟩; subst w1; have hnl : ¬ 9223372036854775807 < s0.size + tt.size := by omega)
        have hsz : (s0 ++ tt).size ≤ 20 := by rw [ByteArray.size_append]; omega
        generalize s0 ++ tt = s1 at hsz ⊢
        have HSS := Hs.hid hsz
        clear hsz hnl
        go_wp2_with (first
          | (at_builtin; refine wpList_append rfl (.tmp 34) (.tmp 36) 22 rfl 9 i0 _ 1 16 Try.underlying22 HI.out.1 HI.out.2.1 HI.out.2.2.1 HI.out.2.2.2 rfl (by decide) (.slice ao2 k cap2) k (ls.map Value.string) rfl (HAPP.out s1 _ HSS.out (hO.ext' ((Ext.refl [] wr).alloc _) (by simp))) ⟨wr.heap.size, 0, none⟩ 1 1 [.string s1] rfl rfl (news_new wr [.string s1] 9) (by simp [Value.oneCell']) (by unfold maxLen; omega) (by omega) ?_; intro ao3 cap3 w3 hO3 hx3 hg3))
        go_round
        case rel =>
          refine ⟨k + 1, ls ++ [s1], ao3, cap3, by go_num, rfl, OwnT.more HL.out.1 hO3, Hs.hid ⟨by rw [List.length_append, HL.out.1]; rfl, ?_, ?_⟩, by omega, ?_⟩
          · intro q hq
            rcases List.mem_append.1 hq with h | h
            · exact HL.out.2.1 q h
            · simp at h; subst h; exact HSS.out
          · intro g hg
            rcases hg3 g hg with h | h
            · exact HL.out.2.2 g h
            · have h2 := (hE.alloc (.cells #[.string s1] 9)).size
              exact Nat.le_trans h2 h
          · exact (hE.alloc _).trans hx3 (fun g hg => .inr (HL.out.2.2 g (by simpa using hg)))
        case measure => simp [intOf]; omega
    · go_wp2
      go_ret
      exact ⟨_, ls, rfl, hO, Hs.hid ⟨by have := HL.out.1; omega, HL.out.2.1⟩, HL.out.2.2, hE⟩
end Go.Proofs.Ytjicjadibaomkaa
set_option linter.unusedSimpArgs false
set_option linter.unusedVariables false
set_option maxHeartbeats 2000000
set_option maxRecDepth 100000
namespace Go.Proofs.Ytjicjadibaomkaa
open Go.RowKit Go.Hs Go.Dg

theorem and255' (n : Int) : Go.bits .and .i64 n 255 = n % 256 := by
  have h127 : (BitVec.ofInt 64 255).toNat = 2 ^ 8 - 1 := by decide
  have key : (BitVec.ofInt 64 n &&& BitVec.ofInt 64 255).toNat = (n % ((2 ^ 64 : Nat) : Int)).toNat % 2 ^ 8 := by
    rw [BitVec.toNat_and, BitVec.toNat_ofInt, h127, Nat.and_two_pow_sub_one_eq_mod]
  show IntKind.i64.wrap ((BitVec.ofInt 64 n &&& BitVec.ofInt 64 255).toNat : Nat) = n % 256
  rw [key, IntKind.wrap_i64]
  omega
theorem pick_num (n : Int) (N : Nat) (h : 0 < N) : ∃ c q : Nat, Go.bits .and .i64 n 255 = (c : Int) ∧ c < 256 ∧ Int.tmod (c : Int) (N : Int) = (q : Int) ∧ (c : Int) % (N : Int) = (q : Int) ∧ q < N := by
  refine ⟨(n % 256).toNat, (n % 256).toNat % N, by rw [and255']; omega, by omega, ?_, ?_, Nat.mod_lt _ h⟩
  · rw [Int.tmod_eq_emod_of_nonneg (by omega)]; rfl
  · rfl
theorem OwnT.form {w : World} {v : Value} {ls : List ByteArray} (o : OwnT w.heap v ls) : ∃ ao cap, v = .slice ao ls.length cap := Own.form o
theorem OwnT.ext0 {w w' : World} {v : Value} {ls : List ByteArray} (o : OwnT w.heap v ls) (x : Ext [] w w') : OwnT w'.heap v ls := o.ext' x (by simp)
theorem OwnT.far {w w' : World} {T M floor : Nat} {L ls : List ByteArray} {v : Value} (o : OwnT w.heap v ls) (t : Tr w.heap T M L floor) (x : Ext [T, M] w w') : OwnT w'.heap v ls := by
  obtain ⟨l, t, _⟩ := t
  refine o.ext' x fun g hg hm => ?_
  obtain ⟨cur, hc⟩ := Own.block o hg
  simp only [List.mem_cons, List.not_mem_nil, or_false] at hm
  rcases hm with rfl | rfl
  · exact absurd hc (by rw [t.cells]; simp)
  · exact absurd rfl (t.map.ne hc)
theorem OwnT.capLe {h : Array Obj} {ao : Option Addr} {n cap : Nat} {ls : List ByteArray} (o : OwnT h (.slice ao n cap) ls) : n ≤ cap := by
  rcases o.2 with ⟨h1, h0⟩ | ⟨g, cap', cur, h1, _, hg, hn, hm, hs, ht⟩
  · simp only [Value.slice.injEq] at h1; omega
  · simp only [Value.slice.injEq] at h1; omega
theorem OwnT.leafAt {h : Array Obj} {ao : Option Addr} {n cap : Nat} {ls : List ByteArray} (o : OwnT h (.slice ao n cap) ls) (hn : 0 < n) : ∃ g, ao = some ⟨g, 0, none⟩ ∧ LeafAt h g 0 ls ∧ cap ≤ maxLen := by
  rcases o.2 with ⟨h1, h0⟩ | ⟨g, cap', cur, h1, _, hg, hn, hm, hs, ht⟩
  · simp only [Value.slice.injEq] at h1; omega
  · simp only [Value.slice.injEq] at h1
    obtain ⟨rfl, _, rfl⟩ := h1
    refine ⟨g, rfl, ⟨cur, _, _, hg, fun k s hk => ?_⟩, hm⟩
    have hkl := (List.getElem?_eq_some_iff.1 hk).1
    have h2 : (cur.toList.take (ls.length * 1))[k]? = some (.string s) := by rw [ht, List.getElem?_map, hk]; rfl
    rw [List.getElem?_take, if_pos (by omega)] at h2
    simpa using h2
end Go.Proofs.Ytjicjadibaomkaa
set_option linter.unusedSimpArgs false
set_option linter.unusedVariables false
set_option maxHeartbeats 4000000
set_option maxRecDepth 100000
namespace Go.Proofs.Ytjicjadibaomkaa
open Go.RowKit Go.Hs Go.Dg

theorem isPair_ab : isPair ⟨#[97]⟩ ⟨#[98]⟩ = false := by
  unfold isPair
  have h : decide (digN ⟨#[97]⟩ = digN ⟨#[98]⟩) = false := by decide +kernel
  rw [h, Bool.and_false]
theorem isPair_nil : isPair ⟨#[]⟩ ⟨#[]⟩ = false := by unfold isPair; simp
theorem is_ab (w : World) : Calls Try.prog 15 #[.agg #[.string ⟨#[97]⟩, .string ⟨#[98]⟩]] w fun e w' => e = .returned (.bool false) ∧ Ext [] w w' := by
  have := pairIs_any ⟨#[97]⟩ ⟨#[98]⟩ (by decide) (by decide) w
  rw [isPair_ab] at this
  exact this
theorem is_nil (w : World) : Calls Try.prog 15 #[.agg #[.string ⟨#[]⟩, .string ⟨#[]⟩]] w fun e w' => e = .returned (.bool false) ∧ Ext [] w w' := by
  have := pairIs_any ⟨#[]⟩ ⟨#[]⟩ (by decide) (by decide) w
  rw [isPair_nil] at this
  exact this
theorem leaf_one (c : UInt8) (w : World) : Calls Try.prog 23 #[.string ⟨#[c]⟩] w fun e w' => e = .returned (.agg (digV ⟨#[0, c]⟩)) ∧ Ext [] w w' := by
  refine (leaf_any ⟨#[c]⟩ (by show 1 ≤ _; decide) w).mono fun e w' ⟨cs, h1, h2, h3⟩ => ⟨?_, h3⟩
  rw [h1, h2.out]
  rfl
theorem awake11_any (w : World) : Calls Try.prog 5 #[] w fun e w' => e = .returned (.bool true) ∧ Ext [] w w' := by
  have hs1 := strN_digN ⟨#[0, 97]⟩
  have hs2 := strN_digN ⟨#[0, 98]⟩
  go_enter Try.func5, Try.ntmps5
  go_upto_region 1 with fail
  go_cut [1] (fun s1 wx => ∃ B, s1 = .pointer (some ⟨B, 0, none⟩) ∧ wx.heap[B]? = some (.cells (digV ⟨#[0, 98]⟩) 35 (0, 0)) ∧ Ext [] w wx)
  case first =>
    go_wp2_with (first
      | (go_at_call 23; refine (leaf_one 98 _).mono ?_; rintro e w1 ⟨rfl, hx1⟩)
      | (refine wpList_store_row rfl 35 (.tmp 1) (.tmp 5) rfl w1.heap.size (digV ⟨#[0, 98]⟩) rfl rfl _ _ (heap_new _ _) (by rw [digV_size]; exact infoSum) (by rw [digV_size]; rfl) (digV_one _) ?_))
    simp only [Act.put]
    go_meet
    exact ⟨_, rfl, setRow_heap _ _ _ _ _ _ (heap_new _ _), (hx1.alloc _).trans (setRow_ext _ _) (fun g hg => .inr (by simp at hg; subst hg; exact hx1.size))⟩
  case rest =>
   obtain ⟨B1, rfl, hB, hx⟩ := hcut
   go_upto_region 2 with fail
   go_cut [2, 3] (fun s2 s3 wx => ∃ g c, s2 = .slice (some ⟨g, 0, none⟩) 2 c ∧ s3 = .bool true ∧ Own wx.heap 9 1 (.slice (some ⟨g, 0, none⟩) 2 c) 2 [.string (⟨#[1]⟩ ++ strN (digN ⟨#[0, 97]⟩) ++ strN (digN ⟨#[0, 98]⟩)), .string ⟨#[0, 97]⟩] ∧ Ext [] wc wx)
   case first =>
     go_wp2_with (first
       | (refine wpList_load_row rfl 35 (.tmp 1) rfl B1 rfl _ (digV ⟨#[0, 98]⟩) (0, 0) _ hB Try.underlying35 rfl (by rw [digV_size]; exact infoSum) ?_)
       | (go_at_call 10; refine (way_two ⟨#[0, 98]⟩ _ _ (0, 0) _ (heap_new _ _)).mono ?_; rintro e w5 ⟨g, c, rfl, hg, hx5⟩))
     go_meet
     exact ⟨g, c, rfl, rfl, hg, ((Ext.refl [] wc).alloc _).trans0 hx5⟩
   case rest =>
     obtain ⟨g, c, rfl, rfl, hg, hx2⟩ := hcut
     have hB2 := hx2.same hB (by simp)
     have hx := hx.trans0 hx2
     clear hB hx2
     go_upto_region 3 with fail
     go_cut [4] (fun s1 wx => ∃ B, s1 = .pointer (some ⟨B, 0, none⟩) ∧ wx.heap[B]? = some (.cells (digV ⟨#[0, 97]⟩) 35 (0, 0)) ∧ Ext [] wc wx)
     case first =>
       go_wp2_with (first
         | (go_at_call 23; refine (leaf_one 97 _).mono ?_; rintro e w1 ⟨rfl, hx1⟩)
         | (refine wpList_store_row rfl 35 (.tmp 4) (.tmp 12) rfl w1.heap.size (digV ⟨#[0, 97]⟩) rfl rfl _ _ (heap_new _ _) (by rw [digV_size]; exact infoSum) (by rw [digV_size]; rfl) (digV_one _) ?_))
       simp only [Act.put]
       go_meet
       exact ⟨_, rfl, setRow_heap _ _ _ _ _ _ (heap_new _ _), (hx1.alloc _).trans (setRow_ext _ _) (fun g hg => .inr (by simp at hg; subst hg; exact hx1.size))⟩
     case rest =>
       obtain ⟨A4, rfl, hA, hx3⟩ := hcut
       have hg := hg.same (h' := wc.heap) (fun q hq => hx3.block q (hg.lt hq) (by simp))
       have hB := hx3.same hB2 (by simp)
       have hx := hx.trans0 hx3
       have hgl : g < wc.heap.size := hg.lt rfl
       have g0 := Own.cells (w := wc) rfl hg (g := g) rfl 0 _ rfl
       have g1 := Own.cells (w := wc) rfl hg (g := g) rfl 1 _ rfl
       rw [add_off'] at g0 g1
       clear hB2 hx3 hg
       go_upto_region 4 with fail
       refine wp_region_noPanic ?_
       refine wp_region_held_drew (S := (fun w' => w'.cell? ⟨g, 0, none⟩ = some (.string (⟨#[1]⟩ ++ strN (digN ⟨#[0, 97]⟩) ++ strN (digN ⟨#[0, 98]⟩))) ∧ w'.cell? ⟨g, 1, none⟩ = some (.string ⟨#[0, 97]⟩) ∧ w'.heap[A4]? = some (.cells (digV ⟨#[0, 97]⟩) 35 (0, 0)) ∧ w'.heap[B1]? = some (.cells (digV ⟨#[0, 98]⟩) 35 (0, 0)))) (by kernel_rfl) ?_ (fun hHeld => ?_)
       · ((try dsimp only); exact ⟨g0, g1, hA, hB⟩)
       refine wpAnyH_take (i := 0) (v := ?_) rfl (by kernel_rfl) (by kernel_rfl) (by kernel_rfl) (fun _ _ _ h => h) (Or.inl ⟨by rfl, ?_⟩) (by assumption) ?_
       rotate_left
       · (intro w hSw; (try dsimp only at hSw); first | (go_simp; done) | (go_simp; with_reducible rfl))
       try simp only [Act.put, List.getElem_toArray, List.getElem_cons_succ, List.getElem_cons_zero, List.setIfInBounds_toArray, List.set_cons_zero, List.set_cons_succ]
       refine wpAnyH_take (i := 1) (v := ?_) rfl (by kernel_rfl) (by kernel_rfl) (by kernel_rfl) (fun _ _ _ h => h) (Or.inl ⟨by rfl, ?_⟩) (by assumption) ?_
       rotate_left
       · (intro w hSw; (try dsimp only at hSw); first | (go_simp; done) | (go_simp; with_reducible rfl))
       try simp only [Act.put, List.getElem_toArray, List.getElem_cons_succ, List.getElem_cons_zero, List.setIfInBounds_toArray, List.set_cons_zero, List.set_cons_succ]
       refine wpAnyH_take (i := 2) (v := ?_) rfl (by kernel_rfl) (by kernel_rfl) (by kernel_rfl) (fun _ _ _ h => h) (Or.inl ⟨by rfl, ?_⟩) (by assumption) ?_
       rotate_left
       · (intro w hSw; (try dsimp only at hSw); first | (go_simp; done) | (go_simp; with_reducible rfl))
       try simp only [Act.put, List.getElem_toArray, List.getElem_cons_succ, List.getElem_cons_zero, List.setIfInBounds_toArray, List.set_cons_zero, List.set_cons_succ]
       refine wpAnyH_take (i := 3) (v := ?_) rfl (by kernel_rfl) (by kernel_rfl) (by kernel_rfl) (fun _ _ _ h => h) (Or.inl ⟨by rfl, ?_⟩) (by assumption) ?_
       rotate_left
       · (intro w hSw; (try dsimp only at hSw); first | (go_simp; done) | (go_simp; with_reducible rfl))
       try simp only [Act.put, List.getElem_toArray, List.getElem_cons_succ, List.getElem_cons_zero, List.setIfInBounds_toArray, List.set_cons_zero, List.set_cons_succ]
       refine wpAnyH_take (i := 4) (v := ?_) rfl (by kernel_rfl) (by kernel_rfl) (by kernel_rfl) (fun _ _ _ h => h) (Or.inl ⟨by rfl, ?_⟩) (by assumption) ?_
       rotate_left
       · (intro w hSw; (try dsimp only at hSw); first | (go_simp; done) | (go_simp; with_reducible rfl))
       try simp only [Act.put, List.getElem_toArray, List.getElem_cons_succ, List.getElem_cons_zero, List.setIfInBounds_toArray, List.set_cons_zero, List.set_cons_succ]
       refine wpAnyH_take (i := 5) (v := ?_) rfl (by kernel_rfl) (by kernel_rfl) (by kernel_rfl) (fun _ _ _ h => h) (Or.inl ⟨by rfl, ?_⟩) (by assumption) ?_
       rotate_left
       · (intro w hSw; (try dsimp only at hSw); first | (go_simp; done) | (go_simp; with_reducible rfl))
       try simp only [Act.put, List.getElem_toArray, List.getElem_cons_succ, List.getElem_cons_zero, List.setIfInBounds_toArray, List.set_cons_zero, List.set_cons_succ]
       refine wpAnyH_take (i := 6) (v := ?_) rfl (by kernel_rfl) (by kernel_rfl) (by kernel_rfl) (fun _ _ _ h => h) (Or.inl ⟨by rfl, ?_⟩) (by assumption) ?_
       rotate_left
       · (intro w hSw; (try dsimp only at hSw); first | (go_simp; done) | (go_simp; with_reducible rfl))
       try simp only [Act.put, List.getElem_toArray, List.getElem_cons_succ, List.getElem_cons_zero, List.setIfInBounds_toArray, List.set_cons_zero, List.set_cons_succ]
       refine wpAnyH_take (i := 7) (v := ?_) rfl (by kernel_rfl) (by kernel_rfl) (by kernel_rfl) (fun _ _ _ h => h) (Or.inl ⟨by rfl, ?_⟩) (by assumption) ?_
       rotate_left
       · (intro w hSw; (try dsimp only at hSw); first | (go_simp; done) | (go_simp; with_reducible rfl))
       try simp only [Act.put, List.getElem_toArray, List.getElem_cons_succ, List.getElem_cons_zero, List.setIfInBounds_toArray, List.set_cons_zero, List.set_cons_succ]
       refine wpAnyH_take (i := 8) (v := ?_) rfl (by kernel_rfl) (by kernel_rfl) (by kernel_rfl) (fun _ _ _ h => h) (Or.inl ⟨by rfl, ?_⟩) (by assumption) ?_
       rotate_left
       · (intro w hSw; (try dsimp only at hSw); first | (go_simp; done) | (go_simp; with_reducible rfl))
       try simp only [Act.put, List.getElem_toArray, List.getElem_cons_succ, List.getElem_cons_zero, List.setIfInBounds_toArray, List.set_cons_zero, List.set_cons_succ]
       refine wpAnyH_take (i := 9) (v := ?_) rfl (by kernel_rfl) (by kernel_rfl) (by kernel_rfl) (fun _ _ _ h => h) (Or.inl ⟨by rfl, ?_⟩) (by assumption) ?_
       rotate_left
       · (intro w hSw; (try dsimp only at hSw); first | (go_simp; done) | (go_simp; with_reducible rfl))
       try simp only [Act.put, List.getElem_toArray, List.getElem_cons_succ, List.getElem_cons_zero, List.setIfInBounds_toArray, List.set_cons_zero, List.set_cons_succ]
       refine wpAnyH_take (i := 10) (v := ?_) rfl (by kernel_rfl) (by kernel_rfl) (by kernel_rfl) (fun _ _ _ h => h) (Or.inl ⟨by rfl, ?_⟩) (by assumption) ?_
       rotate_left
       · (intro w hSw; (try dsimp only at hSw); first | (go_simp; done) | (go_simp; with_reducible rfl))
       try simp only [Act.put, List.getElem_toArray, List.getElem_cons_succ, List.getElem_cons_zero, List.setIfInBounds_toArray, List.set_cons_zero, List.set_cons_succ]
       refine wpAnyH_take (i := 11) (v := ?_) rfl (by kernel_rfl) (by kernel_rfl) (by kernel_rfl) (fun _ _ _ h => h) (Or.inl ⟨by rfl, ?_⟩) (by assumption) ?_
       rotate_left
       · (intro w hSw; (try dsimp only at hSw); first | (go_simp; done) | (go_simp; with_reducible rfl))
       try simp only [Act.put, List.getElem_toArray, List.getElem_cons_succ, List.getElem_cons_zero, List.setIfInBounds_toArray, List.set_cons_zero, List.set_cons_succ]
       refine wpAnyH_take (i := 12) (v := ?_) rfl (by kernel_rfl) (by kernel_rfl) (by kernel_rfl) (fun _ _ _ h => h) (Or.inl ⟨by rfl, ?_⟩) (by assumption) ?_
       rotate_left
       · (intro w hSw; (try dsimp only at hSw); first | (go_simp; done) | (go_simp; with_reducible rfl))
       try simp only [Act.put, List.getElem_toArray, List.getElem_cons_succ, List.getElem_cons_zero, List.setIfInBounds_toArray, List.set_cons_zero, List.set_cons_succ]
       refine wpAnyH_take (i := 13) (v := ?_) rfl (by kernel_rfl) (by kernel_rfl) (by kernel_rfl) (fun _ _ _ h => h) (Or.inl ⟨by rfl, ?_⟩) (by assumption) ?_
       rotate_left
       · (intro w hSw; (try dsimp only at hSw); first | (go_simp; done) | (go_simp; with_reducible rfl))
       try simp only [Act.put, List.getElem_toArray, List.getElem_cons_succ, List.getElem_cons_zero, List.setIfInBounds_toArray, List.set_cons_zero, List.set_cons_succ]
       refine wpAnyH_take (i := 14) (v := ?_) rfl (by kernel_rfl) (by kernel_rfl) (by kernel_rfl) (fun _ _ _ h => h) (Or.inl ⟨by rfl, ?_⟩) (by assumption) ?_
       rotate_left
       · (intro w hSw; (try dsimp only at hSw); first | (go_simp; done) | (go_simp; with_reducible rfl))
       try simp only [Act.put, List.getElem_toArray, List.getElem_cons_succ, List.getElem_cons_zero, List.setIfInBounds_toArray, List.set_cons_zero, List.set_cons_succ]
       refine wpAnyH_take (i := 15) (v := ?_) rfl (by kernel_rfl) (by kernel_rfl) (by kernel_rfl) (fun _ _ _ h => h) (Or.inl ⟨by rfl, ?_⟩) (by assumption) ?_
       rotate_left
       · (intro w hSw; (try dsimp only at hSw); first | (go_simp; done) | (go_simp; with_reducible rfl))
       try simp only [Act.put, List.getElem_toArray, List.getElem_cons_succ, List.getElem_cons_zero, List.setIfInBounds_toArray, List.set_cons_zero, List.set_cons_succ]
       refine wpAnyH_take (i := 16) (v := ?_) rfl (by kernel_rfl) (by kernel_rfl) (by kernel_rfl) (fun _ _ _ h => h) (Or.inl ⟨by rfl, ?_⟩) (by assumption) ?_
       rotate_left
       · (intro w hSw; (try dsimp only at hSw); first | (go_simp; done) | (go_simp; with_reducible rfl))
       try simp only [Act.put, List.getElem_toArray, List.getElem_cons_succ, List.getElem_cons_zero, List.setIfInBounds_toArray, List.set_cons_zero, List.set_cons_succ]
       refine wpAnyH_take (i := 17) (v := ?_) rfl (by kernel_rfl) (by kernel_rfl) (by kernel_rfl) (fun _ _ _ h => h) (Or.inl ⟨by rfl, ?_⟩) (by assumption) ?_
       rotate_left
       · (intro w hSw; (try dsimp only at hSw); have hq := conv_dig hSw.2.2.1; first | (go_simp; done) | (go_simp; with_reducible rfl))
       try simp only [Act.put, List.getElem_toArray, List.getElem_cons_succ, List.getElem_cons_zero, List.setIfInBounds_toArray, List.set_cons_zero, List.set_cons_succ]
       refine wpAnyH_take (i := 18) (v := ?_) rfl (by kernel_rfl) (by kernel_rfl) (by kernel_rfl) (fun _ _ _ h => h) (Or.inl ⟨by rfl, ?_⟩) (by assumption) ?_
       rotate_left
       · (intro w hSw; (try dsimp only at hSw); first | (go_simp; done) | (go_simp; with_reducible rfl))
       try simp only [Act.put, List.getElem_toArray, List.getElem_cons_succ, List.getElem_cons_zero, List.setIfInBounds_toArray, List.set_cons_zero, List.set_cons_succ]
       refine wpAnyH_take (i := 19) (v := ?_) rfl (by kernel_rfl) (by kernel_rfl) (by kernel_rfl) (fun _ _ _ h => h) (Or.inl ⟨by rfl, ?_⟩) (by assumption) ?_
       rotate_left
       · (intro w hSw; (try dsimp only at hSw); first | (go_simp; done) | (go_simp; with_reducible rfl))
       try simp only [Act.put, List.getElem_toArray, List.getElem_cons_succ, List.getElem_cons_zero, List.setIfInBounds_toArray, List.set_cons_zero, List.set_cons_succ]
       refine wpAnyH_take (i := 20) (v := ?_) rfl (by kernel_rfl) (by kernel_rfl) (by kernel_rfl) (fun _ _ _ h => h) (Or.inl ⟨by rfl, ?_⟩) (by assumption) ?_
       rotate_left
       · (intro w hSw; (try dsimp only at hSw); have hq := conv_dig hSw.2.2.2; first | (go_simp; done) | (go_simp; with_reducible rfl))
       try simp only [Act.put, List.getElem_toArray, List.getElem_cons_succ, List.getElem_cons_zero, List.setIfInBounds_toArray, List.set_cons_zero, List.set_cons_succ]
       refine wpAnyH_take (i := 21) (v := ?_) rfl (by kernel_rfl) (by kernel_rfl) (by kernel_rfl) (fun _ _ _ h => h) (Or.inl ⟨by rfl, ?_⟩) (by assumption) ?_
       rotate_left
       · (intro w hSw; (try dsimp only at hSw); first | (go_simp; done) | (go_simp; with_reducible rfl))
       try simp only [Act.put, List.getElem_toArray, List.getElem_cons_succ, List.getElem_cons_zero, List.setIfInBounds_toArray, List.set_cons_zero, List.set_cons_succ]
       refine wpAnyH_take (i := 22) (v := ?_) rfl (by kernel_rfl) (by kernel_rfl) (by kernel_rfl) (fun _ _ _ h => h) (Or.inl ⟨by rfl, ?_⟩) (by assumption) ?_
       rotate_left
       · (intro w hSw; (try dsimp only at hSw); first | (go_simp; done) | (go_simp; with_reducible rfl))
       try simp only [Act.put, List.getElem_toArray, List.getElem_cons_succ, List.getElem_cons_zero, List.setIfInBounds_toArray, List.set_cons_zero, List.set_cons_succ]
       refine wpAnyH_take (i := 23) (v := ?_) rfl (by kernel_rfl) (by kernel_rfl) (by kernel_rfl) (fun _ _ _ h => h) (Or.inl ⟨by rfl, ?_⟩) (by assumption) ?_
       rotate_left
       · (intro w hSw; (try dsimp only at hSw); first | (go_simp; done) | (go_simp; with_reducible rfl))
       try simp only [Act.put, List.getElem_toArray, List.getElem_cons_succ, List.getElem_cons_zero, List.setIfInBounds_toArray, List.set_cons_zero, List.set_cons_succ]
       refine wpAnyH_take (i := 24) (v := ?_) rfl (by kernel_rfl) (by kernel_rfl) (by kernel_rfl) (fun _ _ _ h => h) (Or.inl ⟨by rfl, ?_⟩) (by assumption) ?_
       rotate_left
       · (intro w hSw; (try dsimp only at hSw); first | (go_simp; done) | (go_simp; with_reducible rfl))
       try simp only [Act.put, List.getElem_toArray, List.getElem_cons_succ, List.getElem_cons_zero, List.setIfInBounds_toArray, List.set_cons_zero, List.set_cons_succ]
       refine wpAnyH_take (i := 25) (v := ?_) rfl (by kernel_rfl) (by kernel_rfl) (by kernel_rfl) (fun _ _ _ h => h) (Or.inl ⟨by rfl, ?_⟩) (by assumption) ?_
       rotate_left
       · (intro w hSw; (try dsimp only at hSw); first | (go_simp; done) | (go_simp; with_reducible rfl))
       try simp only [Act.put, List.getElem_toArray, List.getElem_cons_succ, List.getElem_cons_zero, List.setIfInBounds_toArray, List.set_cons_zero, List.set_cons_succ]
       refine wpAnyH_ready (rs := [26]) (by kernel_rfl) (by simp) ?_
       refine AllReadyH.cons rfl (fun K hK => ?_) AllReadyH.nil
       go_simp
       (go_at_call 15; refine (is_ab _).mono ?_; rintro e w8 ⟨rfl, hx8⟩)
       go_wp2_with fail
       refine hK.out _ _ ?_ (fun hHeld => ?_)
       · ((try dsimp only); exact ⟨(hx8.below.cell (p := ⟨g, 0, none⟩) hgl).trans hHeld.1, (hx8.below.cell (p := ⟨g, 1, none⟩) hgl).trans hHeld.2.1, hx8.same hHeld.2.2.1 (by simp), hx8.same hHeld.2.2.2 (by simp)⟩)
       clear hK K
       try simp only [Act.put, List.getElem_toArray, List.getElem_cons_succ, List.getElem_cons_zero, List.setIfInBounds_toArray, List.set_cons_zero, List.set_cons_succ]
       refine wpAnyH_take (i := 27) (v := ?_) rfl (by kernel_rfl) (by kernel_rfl) (by kernel_rfl) (fun _ _ _ h => h) (Or.inl ⟨by rfl, ?_⟩) (by assumption) ?_
       rotate_left
       · (intro w hSw; (try dsimp only at hSw); first | (go_simp; done) | (go_simp; with_reducible rfl))
       try simp only [Act.put, List.getElem_toArray, List.getElem_cons_succ, List.getElem_cons_zero, List.setIfInBounds_toArray, List.set_cons_zero, List.set_cons_succ]
       refine wpAnyH_take (i := 28) (v := ?_) rfl (by kernel_rfl) (by kernel_rfl) (by kernel_rfl) (fun _ _ _ h => h) (Or.inl ⟨by rfl, ?_⟩) (by assumption) ?_
       rotate_left
       · (intro w hSw; (try dsimp only at hSw); first | (go_simp; done) | (go_simp; with_reducible rfl))
       try simp only [Act.put, List.getElem_toArray, List.getElem_cons_succ, List.getElem_cons_zero, List.setIfInBounds_toArray, List.set_cons_zero, List.set_cons_succ]
       refine wpAnyH_take (i := 29) (v := ?_) rfl (by kernel_rfl) (by kernel_rfl) (by kernel_rfl) (fun _ _ _ h => h) (Or.inl ⟨by rfl, ?_⟩) (by assumption) ?_
       rotate_left
       · (intro w hSw; (try dsimp only at hSw); first | (go_simp; done) | (go_simp; with_reducible rfl))
       try simp only [Act.put, List.getElem_toArray, List.getElem_cons_succ, List.getElem_cons_zero, List.setIfInBounds_toArray, List.set_cons_zero, List.set_cons_succ]
       refine wpAnyH_take (i := 30) (v := ?_) rfl (by kernel_rfl) (by kernel_rfl) (by kernel_rfl) (fun _ _ _ h => h) (Or.inl ⟨by rfl, ?_⟩) (by assumption) ?_
       rotate_left
       · (intro w hSw; (try dsimp only at hSw); first | (go_simp; done) | (go_simp; with_reducible rfl))
       try simp only [Act.put, List.getElem_toArray, List.getElem_cons_succ, List.getElem_cons_zero, List.setIfInBounds_toArray, List.set_cons_zero, List.set_cons_succ]
       refine wpAnyH_ready (rs := [31]) (by kernel_rfl) (by simp) ?_
       refine AllReadyH.cons rfl (fun K hK => ?_) AllReadyH.nil
       go_simp
       (go_at_call 15; refine (is_nil _).mono ?_; rintro e w9 ⟨rfl, hx9⟩)
       go_wp2_with fail
       refine hK.out _ _ ?_ (fun hHeld => ?_)
       · ((try dsimp only); exact ⟨(hx9.below.cell (p := ⟨g, 0, none⟩) (Nat.lt_of_lt_of_le hgl hx8.size)).trans hHeld.1, (hx9.below.cell (p := ⟨g, 1, none⟩) (Nat.lt_of_lt_of_le hgl hx8.size)).trans hHeld.2.1, hx9.same hHeld.2.2.1 (by simp), hx9.same hHeld.2.2.2 (by simp)⟩)
       clear hK K
       try simp only [Act.put, List.getElem_toArray, List.getElem_cons_succ, List.getElem_cons_zero, List.setIfInBounds_toArray, List.set_cons_zero, List.set_cons_succ]
       refine wpAnyH_take (i := 32) (v := ?_) rfl (by kernel_rfl) (by kernel_rfl) (by kernel_rfl) (fun _ _ _ h => h) (Or.inl ⟨by rfl, ?_⟩) (by assumption) ?_
       rotate_left
       · (intro w hSw; (try dsimp only at hSw); first | (go_simp; done) | (go_simp; with_reducible rfl))
       try simp only [Act.put, List.getElem_toArray, List.getElem_cons_succ, List.getElem_cons_zero, List.setIfInBounds_toArray, List.set_cons_zero, List.set_cons_succ]
       refine wpAnyH_take (i := 33) (v := ?_) rfl (by kernel_rfl) (by kernel_rfl) (by kernel_rfl) (fun _ _ _ h => h) (Or.inl ⟨by rfl, ?_⟩) (by assumption) ?_
       rotate_left
       · (intro w hSw; (try dsimp only at hSw); first | (go_simp; done) | (go_simp; with_reducible rfl))
       try simp only [Act.put, List.getElem_toArray, List.getElem_cons_succ, List.getElem_cons_zero, List.setIfInBounds_toArray, List.set_cons_zero, List.set_cons_succ]
       refine wpAnyH_take (i := 34) (v := ?_) rfl (by kernel_rfl) (by kernel_rfl) (by kernel_rfl) (fun _ _ _ h => h) (Or.inl ⟨by rfl, ?_⟩) (by assumption) ?_
       rotate_left
       · (intro w hSw; (try dsimp only at hSw); first | (go_simp; done) | (go_simp; with_reducible rfl))
       try simp only [Act.put, List.getElem_toArray, List.getElem_cons_succ, List.getElem_cons_zero, List.setIfInBounds_toArray, List.set_cons_zero, List.set_cons_succ]
       refine wpAnyH_done (by kernel_rfl) ?_ _
       refine NoPanic.normal ?_
       go_wp2
       go_ret
       exact ⟨rfl, ((hx.drew).trans0 hx8).trans0 hx9⟩
end Go.Proofs.Ytjicjadibaomkaa
set_option linter.unusedSimpArgs false
set_option linter.unusedVariables false
set_option maxHeartbeats 4000000
set_option maxRecDepth 100000
namespace Go.Proofs.Ytjicjadibaomkaa
open Go.RowKit Go.Hs Go.Dg

theorem exec_neV {a : Act} {o : Oper} (x y : Operand) (t : TypeId) (ho : o.op = Op.binOp .neq 35 x y t) (p q : S32) (hx : a.eval x = .agg p.V) (hy : a.eval y = .agg q.V) (w : World) :
    (execOp a.eval o).run Try.prog w = .ok (.value (.bool (!decide (p = q)))) w := by
  unfold execOp
  simp only [ho, hx, hy, Sem.run_bind, run_guard_sum _ _ _ _ _ _ (.inr rfl), Result.andThen_ok, binOp, run_eq_V, Sem.run_pure]
theorem exec_neSame {a : Act} {o : Oper} (x y : Operand) (t : TypeId) (ho : o.op = Op.binOp .neq 35 x y t) (p : S32) (hx : a.eval x = .agg p.V) (hy : a.eval y = .agg p.V) (w : World) :
    (execOp a.eval o).run Try.prog w = .ok (.value (.bool false)) w := by
  rw [exec_neV x y t ho p p hx hy w]; simp
theorem isPair_same (a : ByteArray) : isPair a a = false := by unfold isPair; simp
theorem pairSame_any (a : ByteArray) (ha : a.size ≤ 100000) (w : World) : Calls Try.prog 15 #[.agg #[.string a, .string a]] w fun e w' => e = .returned (.bool false) ∧ Ext [] w w' := by
  have := pairIs_any a a ha ha w
  rw [isPair_same] at this
  exact this
theorem OwnS.sums {h : Array Obj} {ao : Option Addr} {n cap : Nat} {ts : List ByteArray} (o : OwnS h (.slice ao n cap) ts) : n = ts.length ∧ Sums32 h ao cap (ts.map dig) := by
  have hn : n = ts.length := by rcases o.2 with ⟨h1, h0⟩ | ⟨g, c, cur, h1, _⟩ <;> simp at h1 <;> omega
  subst hn
  refine ⟨rfl, sums_own (xs := ts.map dig) ?_⟩
  have e : sumsV (ts.map dig) = sumsC ts := by
    unfold sumsV sumsC
    rw [List.flatMap_map]
    congr 1
    funext x
    rw [dig_V]
  unfold OwnV
  rw [List.length_map, e]; exact o
theorem rootT_pos (L : List ByteArray) (m : Nat) (h : 1 ≤ m) : rootT L m = mthT L m 0 := if_neg (by omega)
/-- The tree's root, as a sum. -/
theorem rootS_any {w : World} {T M floor : Nat} {L : List ByteArray} (m : Nat) (t : Tr w.heap T M L floor) (hN : L.length ≤ 2 ^ 30) (hm : m ≤ L.length) (hf : floor ≤ m) :
    Calls Try.prog 11 #[.pointer (some ⟨T, 0, none⟩), .int .i64 m] w fun e w' => ∃ y : S32, e = .returned (.tuple #[.agg y.V, .int .i64 0]) ∧ Hid (y = dig (rootT L m)) ∧ Ext [] w w' :=
  (root_any m t hN hm hf).mono fun e w' ⟨cs, h1, h2, h3⟩ => ⟨dig (rootT L m), by rw [h1, h2.out, dig_V], Hs.hid rfl, h3⟩
theorem p30c : (2 : Nat) ^ 30 = 1073741824 := by decide
theorem clashWhole_any (ao : Option Addr) (len cap : Nat) (n i m : Int) (w : World) (ha : StrArg w ao len) : Calls Try.prog 3 #[.slice ao len cap, .int .i64 n, .int .i64 i, .int .i64 m] w fun e w' => e = .returned (.bool true) ∧ Ext [] w w' := by
  have HA := Hs.hid ha
  clear ha
  go_enter Try.func3, Try.ntmps3
  go_upto_region 4 with (first
    | (go_at_call 5; refine (awake11_any _).mono ?_; rintro e w1 ⟨rfl, hx1⟩)
    | (go_at_call 6; refine (leaves_any ao len cap _ _ (HA.out.ext hx1)).mono ?_; rintro e w2 ⟨v, ls, rfl, hO, hL, hOg, hx2⟩))
  have hxw := hx1.trans0 hx2
  clear hx1 hx2 hOg
  obtain ⟨ao2, cap2, rfl⟩ := hO.form
  obtain ⟨N, hN⟩ : ∃ N, ls.length = N := ⟨_, rfl⟩
  have hN40 : N ≤ 40 := by have := hL.out.1; omega
  have hN40' : (N : Int) ≤ 40 := by omega
  have hcap2 := hO.capLe
  rw [hN] at hO hcap2 ⊢
  have HN := Hs.hid hN
  clear hN
  by_cases h0 : N = 0
  · have h0' : ((N : Int) == 0) = true := by simp [h0]
    have H0 := Hs.hid h0
    clear h0
    go_wp2
    go_ret
    exact ⟨rfl, hxw⟩
  · have h0' : ((N : Int) == 0) = false := by simp; omega
    have h1N : (1 : Int) ≤ N := by omega
    have H0 := Hs.hid h0
    obtain ⟨c1, q1, e1, e2, e3, e4, e5⟩ := pick_num i N (by omega)
    obtain ⟨c2, q2, f1, f2, f3, f4, f5⟩ := pick_num m N (by omega)
    have e6 : (q1 : Int) < N := by omega
    have f6 : (q2 : Int) < N := by omega
    obtain ⟨m', hm'⟩ : ∃ m', 1 + q2 = m' := ⟨_, rfl⟩
    have f7 : IntKind.i64.wrap (m' : Int) = (m' : Int) := by rw [IntKind.wrap_i64]; omega
    have f8 : (1 : Int) + (q2 : Int) = (m' : Int) := by omega
    have HQ := Hs.hid (And.intro e5 f5)
    have HM := Hs.hid (show 1 ≤ m' ∧ m' ≤ N by omega)
    clear hm'
    have hn0 : ¬ N = 0 := h0
    clear h0 e5 f5
    go_upto_region 7 with fail
    refine wp_region_noPanic ?_
    refine wp_region_held_drew (S := (fun _ => True)) (by kernel_rfl) ?_ (fun hHeld => ?_)
    · ((try dsimp only); all_goals trivial)
    refine wpAnyH_take (i := 0) (v := ?_) rfl (by kernel_rfl) (by kernel_rfl) (by kernel_rfl) (fun _ _ _ h => h) (Or.inl ⟨by rfl, ?_⟩) (by assumption) ?_
    rotate_left
    · (intro w hSw; (try dsimp only at hSw); first | (go_simp; done) | (go_simp; with_reducible rfl))
    try simp only [Act.put, List.getElem_toArray, List.getElem_cons_succ, List.getElem_cons_zero, List.setIfInBounds_toArray, List.set_cons_zero, List.set_cons_succ]
    refine wpAnyH_take (i := 1) (v := ?_) rfl (by kernel_rfl) (by kernel_rfl) (by kernel_rfl) (fun _ _ _ h => h) (Or.inl ⟨by rfl, ?_⟩) (by assumption) ?_
    rotate_left
    · (intro w hSw; (try dsimp only at hSw); first | (go_simp; done) | (go_simp; with_reducible rfl))
    try simp only [Act.put, List.getElem_toArray, List.getElem_cons_succ, List.getElem_cons_zero, List.setIfInBounds_toArray, List.set_cons_zero, List.set_cons_succ]
    refine wpAnyH_take (i := 2) (v := ?_) rfl (by kernel_rfl) (by kernel_rfl) (by kernel_rfl) (fun _ _ _ h => h) (Or.inl ⟨by rfl, ?_⟩) (by assumption) ?_
    rotate_left
    · (intro w hSw; (try dsimp only at hSw); first | (go_simp; done) | (go_simp; with_reducible rfl))
    try simp only [Act.put, List.getElem_toArray, List.getElem_cons_succ, List.getElem_cons_zero, List.setIfInBounds_toArray, List.set_cons_zero, List.set_cons_succ]
    refine wpAnyH_take (i := 3) (v := ?_) rfl (by kernel_rfl) (by kernel_rfl) (by kernel_rfl) (fun _ _ _ h => h) (Or.inl ⟨by rfl, ?_⟩) (by assumption) ?_
    rotate_left
    · (intro w hSw; (try dsimp only at hSw); first | (go_simp; done) | (go_simp; with_reducible rfl))
    try simp only [Act.put, List.getElem_toArray, List.getElem_cons_succ, List.getElem_cons_zero, List.setIfInBounds_toArray, List.set_cons_zero, List.set_cons_succ]
    refine wpAnyH_take (i := 4) (v := ?_) rfl (by kernel_rfl) (by kernel_rfl) (by kernel_rfl) (fun _ _ _ h => h) (Or.inl ⟨by rfl, ?_⟩) (by assumption) ?_
    rotate_left
    · (intro w hSw; (try dsimp only at hSw); first | (go_simp; done) | (go_simp; with_reducible rfl))
    try simp only [Act.put, List.getElem_toArray, List.getElem_cons_succ, List.getElem_cons_zero, List.setIfInBounds_toArray, List.set_cons_zero, List.set_cons_succ]
    refine wpAnyH_take (i := 5) (v := ?_) rfl (by kernel_rfl) (by kernel_rfl) (by kernel_rfl) (fun _ _ _ h => h) (Or.inl ⟨by rfl, ?_⟩) (by assumption) ?_
    rotate_left
    · (intro w hSw; (try dsimp only at hSw); first | (go_simp; done) | (go_simp; with_reducible rfl))
    try simp only [Act.put, List.getElem_toArray, List.getElem_cons_succ, List.getElem_cons_zero, List.setIfInBounds_toArray, List.set_cons_zero, List.set_cons_succ]
    refine wpAnyH_take (i := 6) (v := ?_) rfl (by kernel_rfl) (by kernel_rfl) (by kernel_rfl) (fun _ _ _ h => h) (Or.inl ⟨by rfl, ?_⟩) (by assumption) ?_
    rotate_left
    · (intro w hSw; (try dsimp only at hSw); first | (go_simp; done) | (go_simp; with_reducible rfl))
    try simp only [Act.put, List.getElem_toArray, List.getElem_cons_succ, List.getElem_cons_zero, List.setIfInBounds_toArray, List.set_cons_zero, List.set_cons_succ]
    refine wpAnyH_take (i := 7) (v := ?_) rfl (by kernel_rfl) (by kernel_rfl) (by kernel_rfl) (fun _ _ _ h => h) (Or.inl ⟨by rfl, ?_⟩) (by assumption) ?_
    rotate_left
    · (intro w hSw; (try dsimp only at hSw); first | (go_simp; done) | (go_simp; with_reducible rfl))
    try simp only [Act.put, List.getElem_toArray, List.getElem_cons_succ, List.getElem_cons_zero, List.setIfInBounds_toArray, List.set_cons_zero, List.set_cons_succ]
    refine wpAnyH_take (i := 8) (v := ?_) rfl (by kernel_rfl) (by kernel_rfl) (by kernel_rfl) (fun _ _ _ h => h) (Or.inl ⟨by rfl, ?_⟩) (by assumption) ?_
    rotate_left
    · (intro w hSw; (try dsimp only at hSw); first | (go_simp; done) | (go_simp; with_reducible rfl))
    try simp only [Act.put, List.getElem_toArray, List.getElem_cons_succ, List.getElem_cons_zero, List.setIfInBounds_toArray, List.set_cons_zero, List.set_cons_succ]
    refine wpAnyH_take (i := 9) (v := ?_) rfl (by kernel_rfl) (by kernel_rfl) (by kernel_rfl) (fun _ _ _ h => h) (Or.inl ⟨by rfl, ?_⟩) (by assumption) ?_
    rotate_left
    · (intro w hSw; (try dsimp only at hSw); first | (go_simp; done) | (go_simp; with_reducible rfl))
    try simp only [Act.put, List.getElem_toArray, List.getElem_cons_succ, List.getElem_cons_zero, List.setIfInBounds_toArray, List.set_cons_zero, List.set_cons_succ]
    refine wpAnyH_take (i := 10) (v := ?_) rfl (by kernel_rfl) (by kernel_rfl) (by kernel_rfl) (fun _ _ _ h => h) (Or.inl ⟨by rfl, ?_⟩) (by assumption) ?_
    rotate_left
    · (intro w hSw; (try dsimp only at hSw); first | (go_simp; done) | (go_simp; with_reducible rfl))
    try simp only [Act.put, List.getElem_toArray, List.getElem_cons_succ, List.getElem_cons_zero, List.setIfInBounds_toArray, List.set_cons_zero, List.set_cons_succ]
    refine wpAnyH_done (by kernel_rfl) ?_ _
    refine NoPanic.normal ?_
    go_upto_region 10 with (first
      | (go_at_call 7; refine (new_tr _).mono ?_; rintro e w3 ⟨T, M, rfl, t1, hx1, hT, hM, hTM⟩)
      | (go_at_call 8; refine (append_tr t1 (v := .slice ao2 N cap2) (ls := ls) (hO.ext0 (((Ext.refl [] w2).drew).trans0 hx1)).strs (Hs.hid (fun s hs => by have := hL.out.2 s hs; omega)) (by have h5 := p30c; have := HN.out; simp; omega)).mono ?_; rintro e w4 ⟨rfl, t2, hx2⟩))
    have hx3 : Ext [] w2 w4 := ((Ext.refl [] w2).drew.trans0 hx1).trans hx2 (fun g hg => .inr (by simp at hg hT hM; rcases hg with rfl | rfl; exact hT; exact hM))
    have hxw4 := hxw.trans0 hx3
    rw [List.nil_append] at t2
    obtain ⟨LB, rfl, hLA, hcm⟩ := (hO.ext0 hx3).leafAt (by have := HM.out; omega)
    have hcm' : cap2 ≤ 9223372036854775807 := by unfold maxLen at hcm; omega
    obtain ⟨s1, hs1⟩ : ∃ s, ls[q1]? = some s := ⟨_, List.getElem?_eq_getElem (by have := HN.out; have := HQ.out.1; omega)⟩
    have hs20 := hL.out.2 s1 (List.mem_of_getElem? hs1)
    clear hx1 hx2 hx3 hT hM hTM t1 hO hxw
    go_upto_region 11 with (go_at_call 9; refine (incl_any q1 N t2 (by have h5 := p30c; have := HN.out; omega) (by have := HN.out; omega) HQ.out.1 (Nat.zero_le _)).mono ?_; rintro e w5 ⟨vp, rfl, hO5, _, hx5⟩)
    obtain ⟨a5, c5, rfl⟩ := hO5.form
    obtain ⟨hpl, hpf⟩ := path_fold ls N N 0 q1 (Nat.le_refl _) HQ.out.1
    rw [Nat.zero_add] at hpl hpf
    rw [List.getD_eq_getElem?_getD, hs1, Option.getD_some] at hpf
    have hS5 := hO5.sums.2
    obtain ⟨xs, hxs⟩ : ∃ xs, (pathT ls q1 N 0).map dig = xs := ⟨_, rfl⟩
    rw [hxs] at hS5 hpf
    obtain ⟨p1, hp1⟩ : ∃ p, (pathT ls q1 N 0).length = p := ⟨_, rfl⟩
    have hxl : xs.length = p1 := by rw [← hxs, List.length_map, hp1]
    rw [hp1] at hpl ⊢
    have hway := way_mth s1 (by omega) N N q1 xs a5 c5 (Nat.le_refl _) HQ.out.1 (by omega) w5 hS5
    rw [hxl] at hway
    have HW := Hs.hid hway
    have hLA5 := hLA.ext0 hx5
    have t5 := t2.ext0 hx5
    have hxw5 := hxw4.trans0 hx5
    have hc5 := hLA5.cell hs1
    rw [Nat.zero_add] at hc5
    have hp40 : p1 ≤ 40 := by rw [hpl]; exact Nat.le_trans (dirs_le N q1) hN40
    have hp40' : (p1 : Int) ≤ 40 := by omega
    have hpw : IntKind.i64.wrap ((p1 : Int) + 1) = (p1 : Int) + 1 := by rw [IntKind.wrap_i64]; omega
    have hpn : (!((p1 : Int) + 1 == (p1 : Int) + 1)) = false := by simp
    have hpd : (p1 : Int) + 1 - 1 = p1 := by omega
    have hpl1 : (p1 : Int) < (p1 : Int) + 1 := by omega
    have hpw2 : IntKind.i64.wrap (p1 : Int) = (p1 : Int) := by rw [IntKind.wrap_i64]; omega
    have HPL := Hs.hid hpl
    have HPF := Hs.hid hpf
    have HXL := Hs.hid hxl
    clear hway hS5 hO5 hx5 t2 hxw4 hLA hp1 hxs hpl hpf hxl
    go_upto_region 12 with (go_at_call 10; with_reducible refine (HW.out).mono ?_; intro e w6 hr; unfold WayE at hr; obtain ⟨vw, okw, rfl, hvw, hx6⟩ := hr)
    obtain rfl : okw = true := by rw [hvw.out.isOk, HXL.out, HPL.out]; simp
    obtain ⟨gw, cw, rfl, hOw, _⟩ := hvw.out.yes rfl
    have hTl := wayL_len (dirs q1 N) xs [leaf2 s1] (by rw [HXL.out, HPL.out])
    have hTr := wayL_root (dirs q1 N) xs [leaf2 s1] _ (by rw [HXL.out, HPL.out]) rfl
    rw [show dig ([leaf2 s1].headD ⟨#[]⟩) = dig (leaf2 s1) from rfl, HPF.out] at hTr
    have hTlast := wayL_last (dirs q1 N) xs [leaf2 s1] (by simp)
    have hTs := wayL_sizes (dirs q1 N) xs [leaf2 s1] 1001 (by decide) (by intro t ht; simp at ht; rw [ht, leaf2_size]; omega)
    generalize wayL (dirs q1 N) xs [leaf2 s1] = TT at hOw hTl hTr hTlast hTs ⊢
    obtain ⟨h0, T', rfl⟩ : ∃ h0 T', TT = h0 :: T' := by
      cases TT with
      | nil => exact absurd hTl (by simp; omega)
      | cons a b => exact ⟨a, b, rfl⟩
    have hTl2 : (h0 :: T').length = p1 + 1 := by rw [hTl, HXL.out]; simp; omega
    rw [hTl2]
    have hlastg : (h0 :: T')[p1]? = some (leaf2 s1) := by
      have h9 := hTlast
      rw [List.getLast?_eq_getElem?, hTl2] at h9
      simpa using h9
    have hLA6 := hLA5.ext0 hx6
    have t6 := t5.ext0 hx6
    have hxw6 := hxw5.trans0 hx6
    obtain ⟨L1, hL1⟩ : ∃ L1, leaf2 s1 = L1 := ⟨_, rfl⟩
    have hlt : ⟨#[0]⟩ ++ s1 = L1 := hL1
    rw [hL1] at hlastg
    have HC0' : Hid (∀ w', Ext [] w6 w' → w'.cell? ⟨gw, 0, none⟩ = some (.string h0)) := Hs.hid (fun w' hx => by
      have o := hOw.ext' hx (fun _ _ => List.not_mem_nil)
      exact Own.cells (w := w') rfl o (g := gw) rfl 0 (.string h0) rfl)
    have HC1' : Hid (∀ w', Ext [] w6 w' → w'.cell? ⟨gw, p1, none⟩ = some (.string L1)) := Hs.hid (fun w' hx => by
      have o := hOw.ext' hx (fun _ _ => List.not_mem_nil)
      have := Own.cells (w := w') rfl o (g := gw) rfl p1 (.string L1) (by rw [List.getElem?_map, hlastg]; rfl)
      rwa [add_off] at this)
    have HC2' : Hid (∀ w', Ext [] w6 w' → w'.cell? ⟨LB, q1, none⟩ = some (.string s1)) := Hs.hid (fun w' hx => by
      have := (hLA6.ext0 hx).cell hs1
      rwa [Nat.zero_add] at this)
    have HS0 := Hs.hid (show h0.size ≤ 100000000 by have := hTs h0 (by simp); omega)
    have hsz : ¬ 9223372036854775807 < 1 + s1.size := by omega
    have HTR := Hs.hid hTr
    clear hTl hTr hTlast hTs hOw hvw hL1 hlastg hTl2 hLA5 t5 hxw5 hc5 HW hs20 hx6
    go_upto_region 13 with (first
      | (go_at_call 11; refine (rootS_any N t6 (by have h5 := p30c; have := HN.out; omega) (by have := HN.out; omega) (Nat.zero_le _)).mono ?_; rintro e w7 ⟨rt, rfl, hrt, hx7⟩)
      | (refine wpList_store_row rfl 35 (.tmp 15) (.tmp 72) rfl w7.heap.size rt.V rfl rfl _ _ (heap_new w7 _) (by rw [rt.size]; exact infoSum) (by rw [rt.size]; rfl) rt.one ?_))
    have hR := setRow_heap _ _ _ rt.V _ _ (heap_new w7 (.cells #[.int .u8 0, .int .u8 0, .int .u8 0, .int .u8 0, .int .u8 0, .int .u8 0, .int .u8 0, .int .u8 0, .int .u8 0, .int .u8 0, .int .u8 0, .int .u8 0, .int .u8 0, .int .u8 0, .int .u8 0, .int .u8 0, .int .u8 0, .int .u8 0, .int .u8 0, .int .u8 0, .int .u8 0, .int .u8 0, .int .u8 0, .int .u8 0, .int .u8 0, .int .u8 0, .int .u8 0, .int .u8 0, .int .u8 0, .int .u8 0, .int .u8 0, .int .u8 0] 35))
    have hx8 := boxExt' (w := w7) (.cells #[.int .u8 0, .int .u8 0, .int .u8 0, .int .u8 0, .int .u8 0, .int .u8 0, .int .u8 0, .int .u8 0, .int .u8 0, .int .u8 0, .int .u8 0, .int .u8 0, .int .u8 0, .int .u8 0, .int .u8 0, .int .u8 0, .int .u8 0, .int .u8 0, .int .u8 0, .int .u8 0, .int .u8 0, .int .u8 0, .int .u8 0, .int .u8 0, .int .u8 0, .int .u8 0, .int .u8 0, .int .u8 0, .int .u8 0, .int .u8 0, .int .u8 0, .int .u8 0] 35) rt.V
    generalize (w7.alloc (.cells #[.int .u8 0, .int .u8 0, .int .u8 0, .int .u8 0, .int .u8 0, .int .u8 0, .int .u8 0, .int .u8 0, .int .u8 0, .int .u8 0, .int .u8 0, .int .u8 0, .int .u8 0, .int .u8 0, .int .u8 0, .int .u8 0, .int .u8 0, .int .u8 0, .int .u8 0, .int .u8 0, .int .u8 0, .int .u8 0, .int .u8 0, .int .u8 0, .int .u8 0, .int .u8 0, .int .u8 0, .int .u8 0, .int .u8 0, .int .u8 0, .int .u8 0, .int .u8 0] 35)).setRow w7.heap.size rt.V = w8 at hR hx8 ⊢
    obtain ⟨R, hRR⟩ : ∃ R, w7.heap.size = R := ⟨_, rfl⟩
    rw [hRR] at hR ⊢
    clear hRR
    have hx68 := hx7.trans0 hx8
    have HT0 := Hs.hid (show dig h0 = rt by rw [hrt.out, rootT_pos _ _ (by have := HM.out; omega)]; exact HTR.out)
    have HC0 := Hs.hid (fun w' (h : Ext [] w8 w') => HC0'.out w' (hx68.trans0 h))
    have HC1 := Hs.hid (fun w' (h : Ext [] w8 w') => HC1'.out w' (hx68.trans0 h))
    have HC2 := Hs.hid (fun w' (h : Ext [] w8 w') => HC2'.out w' (hx68.trans0 h))
    have t8 := t6.ext0 hx68
    have hLA8 := hLA6.ext0 hx68
    have hxw8 := hxw6.trans0 hx68
    clear hx7 hx8 hx68 HC0' HC1' HC2' t6 hLA6 hxw6 HTR hrt
    refine wp_region_noPanic ?_
    refine wp_region_held_drew (S := (fun w' => Ext [] w8 w')) (by kernel_rfl) ?_ (fun hHeld => ?_)
    · ((try dsimp only); exact (Ext.refl [] w8).drew)
    refine wpAnyH_take (i := 0) (v := ?_) rfl (by kernel_rfl) (by kernel_rfl) (by kernel_rfl) (fun _ _ _ h => h) (Or.inl ⟨by rfl, ?_⟩) (by assumption) ?_
    rotate_left
    · (intro w hSw; (try dsimp only at hSw); first | (go_simp; done) | (go_simp; with_reducible rfl))
    try simp only [Act.put, List.getElem_toArray, List.getElem_cons_succ, List.getElem_cons_zero, List.setIfInBounds_toArray, List.set_cons_zero, List.set_cons_succ]
    refine wpAnyH_take (i := 1) (v := ?_) rfl (by kernel_rfl) (by kernel_rfl) (by kernel_rfl) (fun _ _ _ h => h) (Or.inl ⟨by rfl, ?_⟩) (by assumption) ?_
    rotate_left
    · (intro w hSw; (try dsimp only at hSw); first | (go_simp; done) | (go_simp; with_reducible rfl))
    try simp only [Act.put, List.getElem_toArray, List.getElem_cons_succ, List.getElem_cons_zero, List.setIfInBounds_toArray, List.set_cons_zero, List.set_cons_succ]
    refine wpAnyH_take (i := 2) (v := ?_) rfl (by kernel_rfl) (by kernel_rfl) (by kernel_rfl) (fun _ _ _ h => h) (Or.inl ⟨by rfl, ?_⟩) (by assumption) ?_
    rotate_left
    · (intro w hSw; (try dsimp only at hSw); first | (go_simp; done) | (go_simp; with_reducible rfl))
    try simp only [Act.put, List.getElem_toArray, List.getElem_cons_succ, List.getElem_cons_zero, List.setIfInBounds_toArray, List.set_cons_zero, List.set_cons_succ]
    refine wpAnyH_take (i := 3) (v := ?_) rfl (by kernel_rfl) (by kernel_rfl) (by kernel_rfl) (fun _ _ _ h => h) (Or.inl ⟨by rfl, ?_⟩) (by assumption) ?_
    rotate_left
    · (intro w hSw; (try dsimp only at hSw); first | (go_simp; done) | (go_simp; with_reducible rfl))
    try simp only [Act.put, List.getElem_toArray, List.getElem_cons_succ, List.getElem_cons_zero, List.setIfInBounds_toArray, List.set_cons_zero, List.set_cons_succ]
    refine wpAnyH_take (i := 4) (v := ?_) rfl (by kernel_rfl) (by kernel_rfl) (by kernel_rfl) (fun _ _ _ h => h) (Or.inl ⟨by rfl, ?_⟩) (by assumption) ?_
    rotate_left
    · (intro w hSw; (try dsimp only at hSw); first | (go_simp; done) | (go_simp; with_reducible rfl))
    try simp only [Act.put, List.getElem_toArray, List.getElem_cons_succ, List.getElem_cons_zero, List.setIfInBounds_toArray, List.set_cons_zero, List.set_cons_succ]
    refine wpAnyH_take (i := 5) (v := ?_) rfl (by kernel_rfl) (by kernel_rfl) (by kernel_rfl) (fun _ _ _ h => h) (Or.inl ⟨by rfl, ?_⟩) (by assumption) ?_
    rotate_left
    · (intro w hSw; (try dsimp only at hSw); have hc0 := HC0.out _ hSw; first | (go_simp; done) | (go_simp; with_reducible rfl))
    try simp only [Act.put, List.getElem_toArray, List.getElem_cons_succ, List.getElem_cons_zero, List.setIfInBounds_toArray, List.set_cons_zero, List.set_cons_succ]
    refine wpAnyH_take (i := 7) (v := _) rfl (by kernel_rfl) (by kernel_rfl) (by kernel_rfl) (fun _ _ _ h => h) (yieldsIf_of (.agg rt.V) (by rfl) (fun w' hw => exec_load_rowV (.tmp 15) rfl R rfl rt w' ⟨_, hw.same hR List.not_mem_nil⟩)) (by assumption) ?_
    try simp only [Act.put, List.getElem_toArray, List.getElem_cons_succ, List.getElem_cons_zero, List.setIfInBounds_toArray, List.set_cons_zero, List.set_cons_succ]
    refine wpAnyH_ready (rs := [6]) (by kernel_rfl) (by simp) ?_
    refine AllReadyH.cons rfl (fun K hK => ?_) AllReadyH.nil
    go_simp
    (go_at_call 12; refine (ofS_any h0 HS0.out _).mono ?_; rintro e w9 ⟨z9, rfl, hz9, hx9⟩; have hzr : z9 = rt := (by rw [hz9.out, HT0.out]); subst z9)
    go_wp2_with fail
    refine hK.out _ _ ?_ (fun hHeld => ?_)
    · ((try dsimp only); exact hHeld.trans0 hx9)
    clear hK K
    try simp only [Act.put, List.getElem_toArray, List.getElem_cons_succ, List.getElem_cons_zero, List.setIfInBounds_toArray, List.set_cons_zero, List.set_cons_succ]
    refine wpAnyH_take (i := 8) (v := _) rfl (by kernel_rfl) (by kernel_rfl) (by kernel_rfl) (fun _ _ _ h => h) (yieldsIf_of (.bool false) (by rfl) (fun w' hw => exec_neSame (.tmp 80) (.tmp 81) _ rfl rt rfl rfl w')) (by assumption) ?_
    try simp only [Act.put, List.getElem_toArray, List.getElem_cons_succ, List.getElem_cons_zero, List.setIfInBounds_toArray, List.set_cons_zero, List.set_cons_succ]
    refine wpAnyH_take (i := 9) (v := ?_) rfl (by kernel_rfl) (by kernel_rfl) (by kernel_rfl) (fun _ _ _ h => h) (Or.inl ⟨by rfl, ?_⟩) (by assumption) ?_
    rotate_left
    · (intro w hSw; (try dsimp only at hSw); first | (go_simp; done) | (go_simp; with_reducible rfl))
    try simp only [Act.put, List.getElem_toArray, List.getElem_cons_succ, List.getElem_cons_zero, List.setIfInBounds_toArray, List.set_cons_zero, List.set_cons_succ]
    refine wpAnyH_take (i := 10) (v := ?_) rfl (by kernel_rfl) (by kernel_rfl) (by kernel_rfl) (fun _ _ _ h => h) (Or.inl ⟨by rfl, ?_⟩) (by assumption) ?_
    rotate_left
    · (intro w hSw; (try dsimp only at hSw); first | (go_simp; done) | (go_simp; with_reducible rfl))
    try simp only [Act.put, List.getElem_toArray, List.getElem_cons_succ, List.getElem_cons_zero, List.setIfInBounds_toArray, List.set_cons_zero, List.set_cons_succ]
    refine wpAnyH_take (i := 11) (v := ?_) rfl (by kernel_rfl) (by kernel_rfl) (by kernel_rfl) (fun _ _ _ h => h) (Or.inl ⟨by rfl, ?_⟩) (by assumption) ?_
    rotate_left
    · (intro w hSw; (try dsimp only at hSw); first | (go_simp; done) | (go_simp; with_reducible rfl))
    try simp only [Act.put, List.getElem_toArray, List.getElem_cons_succ, List.getElem_cons_zero, List.setIfInBounds_toArray, List.set_cons_zero, List.set_cons_succ]
    refine wpAnyH_take (i := 12) (v := ?_) rfl (by kernel_rfl) (by kernel_rfl) (by kernel_rfl) (fun _ _ _ h => h) (Or.inl ⟨by rfl, ?_⟩) (by assumption) ?_
    rotate_left
    · (intro w hSw; (try dsimp only at hSw); first | (go_simp; done) | (go_simp; with_reducible rfl))
    try simp only [Act.put, List.getElem_toArray, List.getElem_cons_succ, List.getElem_cons_zero, List.setIfInBounds_toArray, List.set_cons_zero, List.set_cons_succ]
    refine wpAnyH_take (i := 13) (v := ?_) rfl (by kernel_rfl) (by kernel_rfl) (by kernel_rfl) (fun _ _ _ h => h) (Or.inl ⟨by rfl, ?_⟩) (by assumption) ?_
    rotate_left
    · (intro w hSw; (try dsimp only at hSw); first | (go_simp; done) | (go_simp; with_reducible rfl))
    try simp only [Act.put, List.getElem_toArray, List.getElem_cons_succ, List.getElem_cons_zero, List.setIfInBounds_toArray, List.set_cons_zero, List.set_cons_succ]
    refine wpAnyH_take (i := 14) (v := ?_) rfl (by kernel_rfl) (by kernel_rfl) (by kernel_rfl) (fun _ _ _ h => h) (Or.inl ⟨by rfl, ?_⟩) (by assumption) ?_
    rotate_left
    · (intro w hSw; (try dsimp only at hSw); first | (go_simp; done) | (go_simp; with_reducible rfl))
    try simp only [Act.put, List.getElem_toArray, List.getElem_cons_succ, List.getElem_cons_zero, List.setIfInBounds_toArray, List.set_cons_zero, List.set_cons_succ]
    refine wpAnyH_take (i := 15) (v := ?_) rfl (by kernel_rfl) (by kernel_rfl) (by kernel_rfl) (fun _ _ _ h => h) (Or.inl ⟨by rfl, ?_⟩) (by assumption) ?_
    rotate_left
    · (intro w hSw; (try dsimp only at hSw); first | (go_simp; done) | (go_simp; with_reducible rfl))
    try simp only [Act.put, List.getElem_toArray, List.getElem_cons_succ, List.getElem_cons_zero, List.setIfInBounds_toArray, List.set_cons_zero, List.set_cons_succ]
    refine wpAnyH_take (i := 16) (v := ?_) rfl (by kernel_rfl) (by kernel_rfl) (by kernel_rfl) (fun _ _ _ h => h) (Or.inl ⟨by rfl, ?_⟩) (by assumption) ?_
    rotate_left
    · (intro w hSw; (try dsimp only at hSw); first | (go_simp; done) | (go_simp; with_reducible rfl))
    try simp only [Act.put, List.getElem_toArray, List.getElem_cons_succ, List.getElem_cons_zero, List.setIfInBounds_toArray, List.set_cons_zero, List.set_cons_succ]
    refine wpAnyH_take (i := 17) (v := ?_) rfl (by kernel_rfl) (by kernel_rfl) (by kernel_rfl) (fun _ _ _ h => h) (Or.inl ⟨by rfl, ?_⟩) (by assumption) ?_
    rotate_left
    · (intro w hSw; (try dsimp only at hSw); first | (go_simp; done) | (go_simp; with_reducible rfl))
    try simp only [Act.put, List.getElem_toArray, List.getElem_cons_succ, List.getElem_cons_zero, List.setIfInBounds_toArray, List.set_cons_zero, List.set_cons_succ]
    refine wpAnyH_take (i := 18) (v := ?_) rfl (by kernel_rfl) (by kernel_rfl) (by kernel_rfl) (fun _ _ _ h => h) (Or.inl ⟨by rfl, ?_⟩) (by assumption) ?_
    rotate_left
    · (intro w hSw; (try dsimp only at hSw); first | (go_simp; done) | (go_simp; with_reducible rfl))
    try simp only [Act.put, List.getElem_toArray, List.getElem_cons_succ, List.getElem_cons_zero, List.setIfInBounds_toArray, List.set_cons_zero, List.set_cons_succ]
    refine wpAnyH_take (i := 19) (v := ?_) rfl (by kernel_rfl) (by kernel_rfl) (by kernel_rfl) (fun _ _ _ h => h) (Or.inl ⟨by rfl, ?_⟩) (by assumption) ?_
    rotate_left
    · (intro w hSw; (try dsimp only at hSw); first | (go_simp; done) | (go_simp; with_reducible rfl))
    try simp only [Act.put, List.getElem_toArray, List.getElem_cons_succ, List.getElem_cons_zero, List.setIfInBounds_toArray, List.set_cons_zero, List.set_cons_succ]
    refine wpAnyH_take (i := 20) (v := ?_) rfl (by kernel_rfl) (by kernel_rfl) (by kernel_rfl) (fun _ _ _ h => h) (Or.inl ⟨by rfl, ?_⟩) (by assumption) ?_
    rotate_left
    · (intro w hSw; (try dsimp only at hSw); first | (go_simp; done) | (go_simp; with_reducible rfl))
    try simp only [Act.put, List.getElem_toArray, List.getElem_cons_succ, List.getElem_cons_zero, List.setIfInBounds_toArray, List.set_cons_zero, List.set_cons_succ]
    refine wpAnyH_take (i := 21) (v := ?_) rfl (by kernel_rfl) (by kernel_rfl) (by kernel_rfl) (fun _ _ _ h => h) (Or.inl ⟨by rfl, ?_⟩) (by assumption) ?_
    rotate_left
    · (intro w hSw; (try dsimp only at hSw); first | (go_simp; done) | (go_simp; with_reducible rfl))
    try simp only [Act.put, List.getElem_toArray, List.getElem_cons_succ, List.getElem_cons_zero, List.setIfInBounds_toArray, List.set_cons_zero, List.set_cons_succ]
    refine wpAnyH_take (i := 22) (v := ?_) rfl (by kernel_rfl) (by kernel_rfl) (by kernel_rfl) (fun _ _ _ h => h) (Or.inl ⟨by rfl, ?_⟩) (by assumption) ?_
    rotate_left
    · (intro w hSw; (try dsimp only at hSw); first | (go_simp; done) | (go_simp; with_reducible rfl))
    try simp only [Act.put, List.getElem_toArray, List.getElem_cons_succ, List.getElem_cons_zero, List.setIfInBounds_toArray, List.set_cons_zero, List.set_cons_succ]
    refine wpAnyH_take (i := 23) (v := ?_) rfl (by kernel_rfl) (by kernel_rfl) (by kernel_rfl) (fun _ _ _ h => h) (Or.inl ⟨by rfl, ?_⟩) (by assumption) ?_
    rotate_left
    · (intro w hSw; (try dsimp only at hSw); first | (go_simp; done) | (go_simp; with_reducible rfl))
    try simp only [Act.put, List.getElem_toArray, List.getElem_cons_succ, List.getElem_cons_zero, List.setIfInBounds_toArray, List.set_cons_zero, List.set_cons_succ]
    refine wpAnyH_take (i := 24) (v := ?_) rfl (by kernel_rfl) (by kernel_rfl) (by kernel_rfl) (fun _ _ _ h => h) (Or.inl ⟨by rfl, ?_⟩) (by assumption) ?_
    rotate_left
    · (intro w hSw; (try dsimp only at hSw); have hc1 := HC1.out _ hSw; first | (go_simp; done) | (go_simp; with_reducible rfl))
    try simp only [Act.put, List.getElem_toArray, List.getElem_cons_succ, List.getElem_cons_zero, List.setIfInBounds_toArray, List.set_cons_zero, List.set_cons_succ]
    refine wpAnyH_take (i := 25) (v := ?_) rfl (by kernel_rfl) (by kernel_rfl) (by kernel_rfl) (fun _ _ _ h => h) (Or.inl ⟨by rfl, ?_⟩) (by assumption) ?_
    rotate_left
    · (intro w hSw; (try dsimp only at hSw); first | (go_simp; done) | (go_simp; with_reducible rfl))
    try simp only [Act.put, List.getElem_toArray, List.getElem_cons_succ, List.getElem_cons_zero, List.setIfInBounds_toArray, List.set_cons_zero, List.set_cons_succ]
    refine wpAnyH_take (i := 26) (v := ?_) rfl (by kernel_rfl) (by kernel_rfl) (by kernel_rfl) (fun _ _ _ h => h) (Or.inl ⟨by rfl, ?_⟩) (by assumption) ?_
    rotate_left
    · (intro w hSw; (try dsimp only at hSw); first | (go_simp; done) | (go_simp; with_reducible rfl))
    try simp only [Act.put, List.getElem_toArray, List.getElem_cons_succ, List.getElem_cons_zero, List.setIfInBounds_toArray, List.set_cons_zero, List.set_cons_succ]
    refine wpAnyH_take (i := 27) (v := ?_) rfl (by kernel_rfl) (by kernel_rfl) (by kernel_rfl) (fun _ _ _ h => h) (Or.inl ⟨by rfl, ?_⟩) (by assumption) ?_
    rotate_left
    · (intro w hSw; (try dsimp only at hSw); first | (go_simp; done) | (go_simp; with_reducible rfl))
    try simp only [Act.put, List.getElem_toArray, List.getElem_cons_succ, List.getElem_cons_zero, List.setIfInBounds_toArray, List.set_cons_zero, List.set_cons_succ]
    refine wpAnyH_take (i := 28) (v := ?_) rfl (by kernel_rfl) (by kernel_rfl) (by kernel_rfl) (fun _ _ _ h => h) (Or.inl ⟨by rfl, ?_⟩) (by assumption) ?_
    rotate_left
    · (intro w hSw; (try dsimp only at hSw); have hc2 := HC2.out _ hSw; first | (go_simp; done) | (go_simp; with_reducible rfl))
    try simp only [Act.put, List.getElem_toArray, List.getElem_cons_succ, List.getElem_cons_zero, List.setIfInBounds_toArray, List.set_cons_zero, List.set_cons_succ]
    refine wpAnyH_take (i := 29) (v := ?_) rfl (by kernel_rfl) (by kernel_rfl) (by kernel_rfl) (fun _ _ _ h => h) (Or.inl ⟨by rfl, ?_⟩) (by assumption) ?_
    rotate_left
    · (intro w hSw; (try dsimp only at hSw); first | (go_simp; done) | (go_simp; with_reducible rfl))
    try simp only [Act.put, List.getElem_toArray, List.getElem_cons_succ, List.getElem_cons_zero, List.setIfInBounds_toArray, List.set_cons_zero, List.set_cons_succ]
    refine wpAnyH_take (i := 30) (v := ?_) rfl (by kernel_rfl) (by kernel_rfl) (by kernel_rfl) (fun _ _ _ h => h) (Or.inl ⟨by rfl, ?_⟩) (by assumption) ?_
    rotate_left
    · (intro w hSw; (try dsimp only at hSw); first | (go_simp; done) | (go_simp; with_reducible rfl))
    try simp only [Act.put, List.getElem_toArray, List.getElem_cons_succ, List.getElem_cons_zero, List.setIfInBounds_toArray, List.set_cons_zero, List.set_cons_succ]
    refine wpAnyH_take (i := 31) (v := ?_) rfl (by kernel_rfl) (by kernel_rfl) (by kernel_rfl) (fun _ _ _ h => h) (Or.inl ⟨by rfl, ?_⟩) (by assumption) ?_
    rotate_left
    · (intro w hSw; (try dsimp only at hSw); first | (go_simp; done) | (go_simp; with_reducible rfl))
    try simp only [Act.put, List.getElem_toArray, List.getElem_cons_succ, List.getElem_cons_zero, List.setIfInBounds_toArray, List.set_cons_zero, List.set_cons_succ]
    refine wpAnyH_done (by kernel_rfl) ?_ _
    refine NoPanic.normal ?_
    have t9 := t8.ext0 hHeld
    have hLA9 := hLA8.ext0 hHeld
    have hxw9 := hxw8.trans0 hHeld
    clear t8 hLA8 hxw8 HC0 HC1 HC2 HT0 HS0 hR hHeld hx9
    go_upto_region 16 with (first
      | (go_at_call 11; refine (rootS_any m' t9 (by have h5 := p30c; have := HN.out; omega) (by have := HN.out; have := HM.out; omega) (Nat.zero_le _)).mono ?_; rintro e w10 ⟨od, rfl, hod, hx10⟩)
      | (refine wpList_store_row rfl 35 (.tmp 17) (.tmp 110) rfl w10.heap.size od.V rfl rfl _ _ (heap_new w10 _) (by rw [od.size]; exact infoSum) (by rw [od.size]; rfl) od.one ?_))
    have hR := setRow_heap _ _ _ od.V _ _ (heap_new w10 (.cells #[.int .u8 0, .int .u8 0, .int .u8 0, .int .u8 0, .int .u8 0, .int .u8 0, .int .u8 0, .int .u8 0, .int .u8 0, .int .u8 0, .int .u8 0, .int .u8 0, .int .u8 0, .int .u8 0, .int .u8 0, .int .u8 0, .int .u8 0, .int .u8 0, .int .u8 0, .int .u8 0, .int .u8 0, .int .u8 0, .int .u8 0, .int .u8 0, .int .u8 0, .int .u8 0, .int .u8 0, .int .u8 0, .int .u8 0, .int .u8 0, .int .u8 0, .int .u8 0] 35))
    have hx11 := boxExt' (w := w10) (.cells #[.int .u8 0, .int .u8 0, .int .u8 0, .int .u8 0, .int .u8 0, .int .u8 0, .int .u8 0, .int .u8 0, .int .u8 0, .int .u8 0, .int .u8 0, .int .u8 0, .int .u8 0, .int .u8 0, .int .u8 0, .int .u8 0, .int .u8 0, .int .u8 0, .int .u8 0, .int .u8 0, .int .u8 0, .int .u8 0, .int .u8 0, .int .u8 0, .int .u8 0, .int .u8 0, .int .u8 0, .int .u8 0, .int .u8 0, .int .u8 0, .int .u8 0, .int .u8 0] 35) od.V
    generalize (w10.alloc (.cells #[.int .u8 0, .int .u8 0, .int .u8 0, .int .u8 0, .int .u8 0, .int .u8 0, .int .u8 0, .int .u8 0, .int .u8 0, .int .u8 0, .int .u8 0, .int .u8 0, .int .u8 0, .int .u8 0, .int .u8 0, .int .u8 0, .int .u8 0, .int .u8 0, .int .u8 0, .int .u8 0, .int .u8 0, .int .u8 0, .int .u8 0, .int .u8 0, .int .u8 0, .int .u8 0, .int .u8 0, .int .u8 0, .int .u8 0, .int .u8 0, .int .u8 0, .int .u8 0] 35)).setRow w10.heap.size od.V = w11 at hR hx11 ⊢
    obtain ⟨R2, hRR⟩ : ∃ R, w10.heap.size = R := ⟨_, rfl⟩
    rw [hRR] at hR ⊢
    clear hRR
    have t11 := t9.ext0 (hx10.trans0 hx11)
    have hLA11 := hLA9.ext0 (hx10.trans0 hx11)
    have hxw11 := hxw9.trans0 (hx10.trans0 hx11)
    clear t9 hLA9 hxw9 hx10 hx11
    go_upto_region 17 with (go_at_call 13; refine (cons_any m' N t11 (by have h5 := p30c; have := HN.out; omega) (by have := HN.out; omega) HM.out.2 (Nat.zero_le _)).mono ?_; rintro e w12 ⟨vq, rfl, hO12, _, hx12⟩)
    obtain ⟨a6, c6, rfl⟩ := hO12.form
    have hct : consT ls m' N = stepsT ls m' N 0 true := if_neg (by have := HM.out; omega)
    have hS12 := hO12.sums.2
    have hsr := sides_right ls N N 0 m' true od (Nat.le_refl _) HM.out.1 HM.out.2 (fun _ => by rw [hod.out, rootT_pos _ _ HM.out.1])
    rw [Nat.zero_add, ← hct] at hsr
    have hssz := sidesP_size ls N N 0 m' true od ((consT ls m' N).map dig) (Nat.le_refl _)
    obtain ⟨ys, hys⟩ : ∃ ys, (consT ls m' N).map dig = ys := ⟨_, rfl⟩
    obtain ⟨p2, hp2⟩ : ∃ p, (consT ls m' N).length = p := ⟨_, rfl⟩
    have hyl : ys.length = p2 := by rw [← hys, List.length_map, hp2]
    rw [hys] at hS12 hsr hssz
    rw [hp2]
    have HSF := Hs.hid (csidesF_any LB ls hL N m' cap2 od ys a6 c6 HM.out.1 HM.out.2 HN.out.symm hcap2 hcm' p2 hyl w12 (hLA11.ext0 hx12) hS12)
    have hR12 := hx12.same hR List.not_mem_nil
    have hxw12 := hxw11.trans0 hx12
    have hm1 : (1 : Int) ≤ m' := by have := HM.out; omega
    have hm2 : (m' : Int) ≤ N := by have := HM.out; omega
    generalize sidesP ls N 0 m' true od ys = rr at hsr hssz HSF
    clear hS12 hO12 hx12 hxw11 hR hLA11 t11 hyl hp2 hys hct hod
    go_upto_region 18 with (first
      | (refine wpList_yield (.agg od.V) (by rfl) (exec_load_rowV (.tmp 17) rfl R2 rfl od _ ⟨_, hR12⟩) ?_)
      | (go_at_call 14; with_reducible refine (HSF.out).mono ?_; rintro e WS ⟨vs, oks, rfl, hvs, hgs, hxs⟩))
    obtain rfl : oks = true := by rw [hvs.out.isOk]; exact hsr.2.2.1
    have hOP := hvs.out.yes rfl
    obtain ⟨a7, c7, rfl⟩ := Own.form (w := WS) hOP
    have hxwS := hxw12.trans0 hxs
    have hall : ∀ p ∈ rr.ps.reverse, p.1 = p.2 ∧ p.1.size = 65 := fun p hp => ⟨hsr.2.1 p (List.mem_reverse.1 hp), (hssz p (List.mem_reverse.1 hp)).1⟩
    have hemp : rr.ps.reverse = [] ↔ m' = N := by rw [List.reverse_eq_nil_iff]; exact hsr.2.2.2
    generalize rr.ps.reverse = ps at hOP hall hemp ⊢
    obtain ⟨P, hP⟩ : ∃ P, ps.length = P := ⟨_, rfl⟩
    rw [hP] at hOP ⊢
    have HALL := Hs.hid (And.intro hall (And.intro hemp hP))
    have HOP := Hs.hid hOP
    have HP63 := hOP.size63
    clear hall hemp hP hvs hsr hssz hxs hgs HSF hR12 hxw12 hOP
    go_wp2_with fail
    go_loopw [129] (fun kv wr => ∃ k : Nat, kv = .int .i64 k ∧ k ≤ P ∧ Ext [] WS wr) (fun kv _ => P - (intOf kv).toNat)
    case atStart => exact ⟨0, rfl, Nat.zero_le _, Ext.refl _ _⟩
    case round =>
      obtain ⟨k, rfl, hkP, hEr⟩ := hrel
      by_cases hlt' : k < P
      · have hk2 : (k : Int) < P := by omega
        obtain ⟨p, hp⟩ : ∃ p, ps[k]? = some p := ⟨_, List.getElem?_eq_getElem (by rw [HALL.out.2.2]; exact hlt')⟩
        obtain ⟨hpe, hpz⟩ := HALL.out.1 p (List.mem_of_getElem? hp)
        obtain ⟨pa, pb⟩ := p
        simp only at hpe hpz
        subst hpe
        obtain ⟨g7, rfl⟩ : ∃ g, a7 = some ⟨g, 0, none⟩ := by
          rcases HOP.out.2 with ⟨h1, h2⟩ | ⟨g, cap', cur, h1, _⟩
          · have := HALL.out.2.2; omega
          · simp at h1; exact ⟨g, h1.1⟩
        have hrg := (OwnP.at (HOP.out.ext hEr (fun _ _ => List.not_mem_nil)) hp).1
        have hPZ := Hs.hid (show pa.size ≤ 100000 by omega)
        have hself : (pa.toList == pa.toList) = true := by simp
        clear hpz hp
        go_upto_region 21 with (first
          | (refine wpList_load_mid rfl 43 (.tmp 131) rfl g7 (k * 2) rfl [.string pa, .string pa] _ hrg Try.underlying43 rfl infoPair2 ?_))
        go_wp2_with (go_at_call 15; with_reducible refine (pairSame_any pa hPZ.out _).mono ?_; rintro e w14 ⟨rfl, hx14⟩)
        go_round
        case rel => exact ⟨k + 1, by go_num, by omega, (hEr.alloc _).trans0 hx14⟩
        case measure => simp [intOf]; omega
      · have hkP2 : k = P := by omega
        subst hkP2
        have heq : (((k : Nat) : Int) == 0) = ((m' : Int) == (N : Int)) := by
          rw [Bool.eq_iff_iff, beq_iff_eq, beq_iff_eq]
          have h1 := HALL.out.2.1
          have h2 := HALL.out.2.2
          constructor
          · intro h
            have : ps = [] := List.eq_nil_of_length_eq_zero (by omega)
            have := h1.1 this
            omega
          · intro h
            have := h1.2 (by omega)
            rw [this] at h2; simp at h2; omega
        go_wp2
        go_ret
        exact ⟨rfl, hxwS.trans0 hEr⟩
end Go.Proofs.Ytjicjadibaomkaa
set_option linter.unusedSimpArgs false
set_option linter.unusedVariables false
namespace Go.Proofs.Ytjicjadibaomkaa
open Go.ChangeShapes Go.WideShapes Go.Deep Go.RowKit Go.Hs

theorem cell_lt' {w : World} {a : Addr} {v : Value} (h : w.cell? a = some v) : a.block < w.heap.size := by
  by_cases hb : a.block < w.heap.size
  · exact hb
  · have : w.heap[a.block]? = none := Array.getElem?_eq_none (by omega)
    unfold World.cell? at h
    simp [this] at h
theorem open_strs {H : Type} {enc : TypeId × Value → H} {w : World} {base : Nat} {spare : Nat → Bool} {held : Bool} {ao : Option Addr} {len cap : Nat} {d : DataW H} {p : List MemPlace}
    (h : DataW.Trod enc Try.prog w base spare held 22 (.slice ao len cap) d p) : StrArg w ao len := by
  obtain ⟨fuel, hf⟩ := h
  rcases open_strings Try.underlying22 Try.underlying9 (by kernel_rfl) hf with ⟨hcs, hx⟩ | ⟨a, len', cap', ss, hcs, hb, hl, hm, hss, hx, hi, hsz⟩
  · simp [Value.cells] at hcs
    obtain ⟨rfl, rfl, rfl⟩ := hcs
    exact ⟨by decide, fun k hk => by omega⟩
  · simp [Value.cells] at hcs
    obtain ⟨rfl, rfl, rfl⟩ := hcs
    have hle : len ≤ ss.length := by rw [hss]; split <;> omega
    refine ⟨by unfold maxLen at hm; omega, fun k hk => ⟨a, ss.getD k ByteArray.empty, rfl, ?_, hi k (by omega), ?_⟩⟩
    · have := cell_lt' (hi k (by omega))
      rwa [addr_block] at this
    · have hk' : k < ss.length := by omega
      rw [List.getD_eq_getElem?_getD, List.getElem?_eq_getElem hk']
      exact hsz _ (List.getElem_mem hk')
end Go.Proofs.Ytjicjadibaomkaa
