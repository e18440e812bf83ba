/-
  Texts of this claim, put together: Leaves, TreeU, SideP, CRoot, CSidesA.
-/
import Derived.SliceStrings
import Derived.Test.YtjicjadibaomkaaMSb
import Derived.Test.YtjicjadibaomkaaMSd
set_option linter.unusedSimpArgs false
set_option linter.unusedVariables false
set_option maxHeartbeats 2000000
set_option maxRecDepth 100000
namespace Go.Proofs.Ytjicjadibaomkaa
open Go.RowKit Go.Hs Go.Dg

theorem encode_size (r : Int) : (Utf8.encode r).size ≤ 4 := by
  unfold Utf8.encode
  simp only []
  generalize (if Utf8.valid r = true then r.toNat else Utf8.runeError) = c
  split
  · show 1 ≤ 4; omega
  · split
    · show 2 ≤ 4; omega
    · split
      · show 3 ≤ 4; omega
      · show 4 ≤ 4; omega
theorem OwnT.strs {h : Array Obj} {v : Value} {ls : List ByteArray} (o : OwnT h v ls) : Strs h v ls := by
  rcases o.2 with ⟨rfl, h0⟩ | ⟨g, cap, cur, rfl, _, hg, hn, hm, hs, ht⟩
  · exact .inl ⟨List.eq_nil_of_length_eq_zero h0, _, _, rfl⟩
  · refine .inr ⟨g, 0, cap, cur, _, _, rfl, hg, fun k s hk => ?_⟩
    have hkl := (List.getElem?_eq_some_iff.1 hk).1
    have : (cur.toList.take (ls.length * 1))[k]? = some (.string s) := by rw [ht, List.getElem?_map, hk]; rfl
    rw [List.getElem?_take, if_pos (by omega)] at this
    simpa using this
theorem leaves_any (ao : Option Addr) (len cap : Nat) (n : Int) (w : World) (ha : StrArg w ao len) : Calls Try.prog 6 #[.slice ao len cap, .int .i64 n] w fun e w' =>
    ∃ v ls, e = .returned v ∧ OwnT w'.heap v ls ∧ Hid (ls.length ≤ 40 ∧ ∀ s ∈ ls, s.size ≤ 20) ∧ (∀ g, v.ownBlock = some g → w.heap.size ≤ g) ∧ Ext [] w w' := by
  obtain ⟨i0, hi, hz0, hz1, hz2⟩ := info_parts infoStr
  have hlen := ha.1
  have HA := Hs.hid ha
  clear ha
  obtain ⟨B, hB, hB40⟩ : ∃ B : Nat, min (max n 0) 40 = (B : Int) ∧ B ≤ 40 := ⟨(min (max n 0) 40).toNat, by omega, by omega⟩
  have hB2 : (B : Int) ≤ 40 := by omega
  go_enter Try.func6, Try.ntmps6
  go_wp2_with fail
  have hO := heap_new w (.cells #[] 9)
  have hx0 := (Ext.refl [] w).alloc (.cells #[] 9)
  generalize w.alloc (.cells #[] 9) = W at hO hx0 ⊢
  obtain ⟨g0, hg0⟩ : ∃ g, w.heap.size = g := ⟨_, rfl⟩
  rw [hg0] at hO ⊢
  have HG := Hs.hid (show w.heap.size ≤ g0 from Nat.le_of_eq hg0)
  clear hg0
  go_loopw [5, 6] (fun out iv wr => ∃ (k : Nat) (ls : List ByteArray) (ao2 : Option Addr) (cap2 : Nat), iv = .int .i64 k ∧ out = .slice ao2 k cap2 ∧ OwnT wr.heap (.slice ao2 k cap2) ls ∧ Hid (ls.length = k ∧ (∀ s ∈ ls, s.size ≤ 20) ∧ ∀ g, (Value.slice ao2 k cap2).ownBlock = some g → w.heap.size ≤ g) ∧ k ≤ B ∧ Ext [] w wr) (fun _ iv _ => B - (intOf iv).toNat)
  case atStart => exact ⟨0, [], _, _, rfl, rfl, ⟨rfl, .inr ⟨g0, 0, #[], rfl, Nat.zero_le _, hO, Nat.le_refl _, by decide, rfl, rfl⟩⟩, Hs.hid ⟨rfl, by simp, fun g hg => by have := HG.out; simp [Value.ownBlock] at hg; omega⟩, by omega, hx0⟩
  case round =>
    clear hO hx0
    obtain ⟨k, ls, ao2, cap2, rfl, rfl, hO, HL, hkB, hE⟩ := hrel
    by_cases hlt : k < B
    · have hlt2 : (k : Int) < B := by omega
      go_upto_region 6 with fail
      have hes := encode_size (97 + (k : Int) % 26)
      generalize Utf8.encode (97 + (k : Int) % 26) = s0 at hes ⊢
      have app : ∀ (s1 : ByteArray) (wz : World), s1.size ≤ 20 → OwnT wz.heap (.slice ao2 k cap2) ls → Own wz.heap 9 1 (.slice ao2 k cap2) k (ls.map Value.string) := fun s1 wz _ h => by
        have := HL.out.1; unfold OwnT at h; rw [this] at h; exact h
      have HAPP := Hs.hid app
      clear app
      have HI := Hs.hid (And.intro hi (And.intro hz0 (And.intro hz1 hz2)))
      clear hi hz0 hz1 hz2
      by_cases hl0 : len = 0
      · have hl1 : (len : Int) ≤ 0 := by omega
        have HL0 := Hs.hid hl0
        have HSS := Hs.hid (show s0.size ≤ 20 by omega)
        clear hl0
        go_wp2_with (first
          | (at_builtin; refine wpList_append rfl (.tmp 34) (.tmp 36) 22 rfl 9 i0 _ 1 16 Try.underlying22 HI.out.1 HI.out.2.1 HI.out.2.2.1 HI.out.2.2.2 rfl (by decide) (.slice ao2 k cap2) k (ls.map Value.string) rfl (HAPP.out s0 _ HSS.out (hO.ext' ((Ext.refl [] wr).alloc _) (by simp))) ⟨wr.heap.size, 0, none⟩ 1 1 [.string s0] rfl rfl (news_new wr [.string s0] 9) (by simp [Value.oneCell']) (by unfold maxLen; omega) (by omega) ?_; intro ao3 cap3 w3 hO3 hx3 hg3))
        go_round
        case rel =>
          refine ⟨k + 1, ls ++ [s0], ao3, cap3, by go_num, rfl, OwnT.more HL.out.1 hO3, Hs.hid ⟨by rw [List.length_append, HL.out.1]; rfl, ?_, ?_⟩, by omega, ?_⟩
          · intro q hq
            rcases List.mem_append.1 hq with h | h
            · exact HL.out.2.1 q h
            · simp at h; subst h; exact HSS.out
          · intro g hg
            rcases hg3 g hg with h | h
            · exact HL.out.2.2 g h
            · have h2 := (hE.alloc (.cells #[.string s0] 9)).size
              exact Nat.le_trans h2 h
          · exact (hE.alloc _).trans hx3 (fun g hg => .inr (HL.out.2.2 g (by simpa using hg)))
        case measure => simp [intOf]; omega
      · have hl1 : (0 : Int) < len := by omega
        obtain ⟨q, hq, hql⟩ : ∃ q : Nat, k % len = q ∧ q < len := ⟨_, rfl, Nat.mod_lt _ (by omega)⟩
        obtain ⟨a, x, rfl, _, hcell, hxs⟩ := (HA.out.ext hE).2 q hql
        have hm0 : (k : Int) % (len : Int) = (q : Int) := by exact_mod_cast congrArg (Nat.cast (R := Int)) hq
        have hm1 : Int.tmod (k : Int) (len : Int) = (q : Int) := by rw [Int.tmod_eq_emod_of_nonneg (by omega)]; exact hm0
        have hm2 : (q : Int) < len := by omega
        have hn0 : ¬ len = 0 := hl0
        have HXS := Hs.hid hxs
        clear hxs hq hl0
        go_upto_region 8 with (go_at_call 16; refine (cut_any x 10 (by decide) _ HXS.out).mono ?_; rintro e w1 ⟨tt, rfl, htt, hw1⟩; subst w1; have hnl : ¬ 9223372036854775807 < s0.size + tt.size := by omega)
        have hsz : (s0 ++ tt).size ≤ 20 := by rw [ByteArray.size_append]; omega
        generalize s0 ++ tt = s1 at hsz ⊢
        have HSS := Hs.hid hsz
        clear hsz hnl
        go_wp2_with (first
          | (at_builtin; refine wpList_append rfl (.tmp 34) (.tmp 36) 22 rfl 9 i0 _ 1 16 Try.underlying22 HI.out.1 HI.out.2.1 HI.out.2.2.1 HI.out.2.2.2 rfl (by decide) (.slice ao2 k cap2) k (ls.map Value.string) rfl (HAPP.out s1 _ HSS.out (hO.ext' ((Ext.refl [] wr).alloc _) (by simp))) ⟨wr.heap.size, 0, none⟩ 1 1 [.string s1] rfl rfl (news_new wr [.string s1] 9) (by simp [Value.oneCell']) (by unfold maxLen; omega) (by omega) ?_; intro ao3 cap3 w3 hO3 hx3 hg3))
        go_round
        case rel =>
          refine ⟨k + 1, ls ++ [s1], ao3, cap3, by go_num, rfl, OwnT.more HL.out.1 hO3, Hs.hid ⟨by rw [List.length_append, HL.out.1]; rfl, ?_, ?_⟩, by omega, ?_⟩
          · intro q hq
            rcases List.mem_append.1 hq with h | h
            · exact HL.out.2.1 q h
            · simp at h; subst h; exact HSS.out
          · intro g hg
            rcases hg3 g hg with h | h
            · exact HL.out.2.2 g h
            · have h2 := (hE.alloc (.cells #[.string s1] 9)).size
              exact Nat.le_trans h2 h
          · exact (hE.alloc _).trans hx3 (fun g hg => .inr (HL.out.2.2 g (by simpa using hg)))
        case measure => simp [intOf]; omega
    · go_wp2
      go_ret
      exact ⟨_, ls, rfl, hO, Hs.hid ⟨by have := HL.out.1; omega, HL.out.2.1⟩, HL.out.2.2, hE⟩
end Go.Proofs.Ytjicjadibaomkaa
set_option linter.unusedSimpArgs false
set_option linter.unusedVariables false
set_option maxHeartbeats 2000000
set_option maxRecDepth 100000
namespace Go.Proofs.Ytjicjadibaomkaa
open Go.RowKit Go.Hs Go.Dg

theorem and255' (n : Int) : Go.bits .and .i64 n 255 = n % 256 := by
  have h127 : (BitVec.ofInt 64 255).toNat = 2 ^ 8 - 1 := by decide
  have key : (BitVec.ofInt 64 n &&& BitVec.ofInt 64 255).toNat = (n % ((2 ^ 64 : Nat) : Int)).toNat % 2 ^ 8 := by
    rw [BitVec.toNat_and, BitVec.toNat_ofInt, h127, Nat.and_two_pow_sub_one_eq_mod]
  show IntKind.i64.wrap ((BitVec.ofInt 64 n &&& BitVec.ofInt 64 255).toNat : Nat) = n % 256
  rw [key, IntKind.wrap_i64]
  omega
theorem pick_num (n : Int) (N : Nat) (h : 0 < N) : ∃ c q : Nat, Go.bits .and .i64 n 255 = (c : Int) ∧ c < 256 ∧ Int.tmod (c : Int) (N : Int) = (q : Int) ∧ (c : Int) % (N : Int) = (q : Int) ∧ q < N := by
  refine ⟨(n % 256).toNat, (n % 256).toNat % N, by rw [and255']; omega, by omega, ?_, ?_, Nat.mod_lt _ h⟩
  · rw [Int.tmod_eq_emod_of_nonneg (by omega)]; rfl
  · rfl
theorem OwnT.form {w : World} {v : Value} {ls : List ByteArray} (o : OwnT w.heap v ls) : ∃ ao cap, v = .slice ao ls.length cap := Own.form o
theorem OwnT.ext0 {w w' : World} {v : Value} {ls : List ByteArray} (o : OwnT w.heap v ls) (x : Ext [] w w') : OwnT w'.heap v ls := o.ext' x (by simp)
theorem OwnT.far {w w' : World} {T M floor : Nat} {L ls : List ByteArray} {v : Value} (o : OwnT w.heap v ls) (t : Tr w.heap T M L floor) (x : Ext [T, M] w w') : OwnT w'.heap v ls := by
  obtain ⟨l, t, _⟩ := t
  refine o.ext' x fun g hg hm => ?_
  obtain ⟨cur, hc⟩ := Own.block o hg
  simp only [List.mem_cons, List.not_mem_nil, or_false] at hm
  rcases hm with rfl | rfl
  · exact absurd hc (by rw [t.cells]; simp)
  · exact absurd rfl (t.map.ne hc)
theorem OwnT.capLe {h : Array Obj} {ao : Option Addr} {n cap : Nat} {ls : List ByteArray} (o : OwnT h (.slice ao n cap) ls) : n ≤ cap := by
  rcases o.2 with ⟨h1, h0⟩ | ⟨g, cap', cur, h1, _, hg, hn, hm, hs, ht⟩
  · simp only [Value.slice.injEq] at h1; omega
  · simp only [Value.slice.injEq] at h1; omega
theorem OwnT.leafAt {h : Array Obj} {ao : Option Addr} {n cap : Nat} {ls : List ByteArray} (o : OwnT h (.slice ao n cap) ls) (hn : 0 < n) : ∃ g, ao = some ⟨g, 0, none⟩ ∧ LeafAt h g 0 ls ∧ cap ≤ maxLen := by
  rcases o.2 with ⟨h1, h0⟩ | ⟨g, cap', cur, h1, _, hg, hn, hm, hs, ht⟩
  · simp only [Value.slice.injEq] at h1; omega
  · simp only [Value.slice.injEq] at h1
    obtain ⟨rfl, _, rfl⟩ := h1
    refine ⟨g, rfl, ⟨cur, _, _, hg, fun k s hk => ?_⟩, hm⟩
    have hkl := (List.getElem?_eq_some_iff.1 hk).1
    have h2 : (cur.toList.take (ls.length * 1))[k]? = some (.string s) := by rw [ht, List.getElem?_map, hk]; rfl
    rw [List.getElem?_take, if_pos (by omega)] at h2
    simpa using h2
end Go.Proofs.Ytjicjadibaomkaa
set_option linter.unusedSimpArgs false
set_option linter.unusedVariables false
set_option maxHeartbeats 1000000
namespace Go.Proofs.Ytjicjadibaomkaa
open Go.RowKit Go.Hs Go.Dg

theorem strS_append (x y : List Nat) : strN (x ++ y) = strN x ++ strN y := by
  apply ByteArray.ext
  simp [strN, ByteArray.data_append]
theorem nodeT_dig (a b : ByteArray) : nodeT a b = node2 (dig a).s (dig b).s := by
  rw [nodeT, strS_append, node2_def, ByteArray.append_assoc]; rfl
theorem dig_nodeT (a b : ByteArray) : dig (nodeT a b) = nodeS (dig a) (dig b) := by rw [nodeT_dig]; rfl
theorem leafT_leaf2 (a : ByteArray) : leafT a = leaf2 a := rfl
attribute [local irreducible] dig nodeS node2 nodeT leafT
structure SideR where
  x : S32
  y : S32
  ps : List (ByteArray × ByteArray)
  ok : Bool
def sidesP (L : List ByteArray) (n f m : Nat) (whole : Bool) (old : S32) (xs : List S32) : SideR :=
  if m = n ∧ whole = true then ⟨old, old, [], decide (xs = [])⟩ else
  match xs.getLast? with
  | none => ⟨zeroS, zeroS, [], false⟩
  | some y =>
    if h : m = n ∨ n ≤ 1 then ⟨y, y, [], decide (xs.dropLast = [])⟩ else
    if m ≤ halfN n then
      ⟨(sidesP L (halfN n) f m whole old xs.dropLast).x, nodeS (sidesP L (halfN n) f m whole old xs.dropLast).y y, (sidesP L (halfN n) f m whole old xs.dropLast).ps ++ [(mthT L n f, node2 (sidesP L (halfN n) f m whole old xs.dropLast).y.s y.s)], (sidesP L (halfN n) f m whole old xs.dropLast).ok⟩
    else
      ⟨nodeS y (sidesP L (n - halfN n) (f + halfN n) (m - halfN n) false old xs.dropLast).x, nodeS y (sidesP L (n - halfN n) (f + halfN n) (m - halfN n) false old xs.dropLast).y, (sidesP L (n - halfN n) (f + halfN n) (m - halfN n) false old xs.dropLast).ps ++ [(mthT L n f, node2 y.s (sidesP L (n - halfN n) (f + halfN n) (m - halfN n) false old xs.dropLast).y.s)], (sidesP L (n - halfN n) (f + halfN n) (m - halfN n) false old xs.dropLast).ok⟩
termination_by n
decreasing_by
  all_goals first | exact halfN_lt (by omega) | (have := halfN_pos n; omega)
theorem sidesP_whole (L : List ByteArray) (n f : Nat) (old : S32) (xs : List S32) : sidesP L n f n true old xs = ⟨old, old, [], decide (xs = [])⟩ := by
  rw [sidesP, if_pos ⟨rfl, rfl⟩]
theorem sidesP_nil (L : List ByteArray) (n f m : Nat) (whole : Bool) (old : S32) (h : ¬ (m = n ∧ whole = true)) : sidesP L n f m whole old [] = ⟨zeroS, zeroS, [], false⟩ := by
  rw [sidesP, if_neg h]; rfl
theorem sidesP_end (L : List ByteArray) (n f : Nat) (old : S32) (ys : List S32) (y : S32) : sidesP L n f n false old (ys ++ [y]) = ⟨y, y, [], decide (ys = [])⟩ := by
  rw [sidesP, if_neg (by simp)]
  simp only [List.getLast?_concat, List.dropLast_concat]
  rw [dif_pos (.inl trivial)]
theorem sidesP_left (L : List ByteArray) (n f m k : Nat) (whole : Bool) (old : S32) (ys : List S32) (y : S32) (hm : m < n) (h2 : 2 ≤ n) (hk : halfN n = k) (hi : m ≤ k) (r : SideR) (hr : sidesP L k f m whole old ys = r) :
    sidesP L n f m whole old (ys ++ [y]) = ⟨r.x, nodeS r.y y, r.ps ++ [(mthT L n f, node2 r.y.s y.s)], r.ok⟩ := by
  subst hk; subst hr
  rw [sidesP, if_neg (by omega)]
  simp only [List.getLast?_concat, List.dropLast_concat]
  rw [dif_neg (by omega), if_pos hi]
theorem sidesP_right (L : List ByteArray) (n f m k : Nat) (whole : Bool) (old : S32) (ys : List S32) (y : S32) (hm : m < n) (h2 : 2 ≤ n) (hk : halfN n = k) (hi : ¬ m ≤ k) (r : SideR) (hr : sidesP L (n - k) (f + k) (m - k) false old ys = r) :
    sidesP L n f m whole old (ys ++ [y]) = ⟨nodeS y r.x, nodeS y r.y, r.ps ++ [(mthT L n f, node2 y.s r.y.s)], r.ok⟩ := by
  subst hk; subst hr
  rw [sidesP, if_neg (by omega)]
  simp only [List.getLast?_concat, List.dropLast_concat]
  rw [dif_neg (by omega), if_neg hi]
/-- Of right sums. -/
theorem sides_right (L : List ByteArray) : ∀ (N n f m : Nat) (whole : Bool) (old : S32), n ≤ N → 1 ≤ m → m ≤ n → (whole = true → old = dig (mthT L m f)) →
    (sidesP L n f m whole old ((stepsT L (f + m) n f whole).map dig)).y = dig (mthT L n f) ∧ (∀ p ∈ (sidesP L n f m whole old ((stepsT L (f + m) n f whole).map dig)).ps, p.1 = p.2) ∧
    (sidesP L n f m whole old ((stepsT L (f + m) n f whole).map dig)).ok = true ∧ ((sidesP L n f m whole old ((stepsT L (f + m) n f whole).map dig)).ps = [] ↔ m = n)
  | 0, n, f, m, whole, old, hN, h1, hm, ho => by omega
  | N + 1, n, f, m, whole, old, hN, h1, hm, ho => by
    by_cases hmn : m = n
    · subst hmn
      rw [stepsT_end whole rfl]
      cases whole
      · rw [if_neg (by decide)]
        have := sidesP_end L m f old [] (dig (mthT L m f))
        simp only [List.map_cons, List.map_nil, List.nil_append] at this ⊢
        rw [this]; simp
      · rw [if_pos rfl, List.map_nil, sidesP_whole]
        exact ⟨ho rfl, by simp, by simp, by simp⟩
    · have h2 : 2 ≤ n := by omega
      have hlt := halfN_lt h2
      have hpos := halfN_pos n
      obtain ⟨k, hk⟩ : ∃ k, halfN n = k := ⟨_, rfl⟩
      have hnode := mthT_node (L := L) (f := f) h2
      rw [hk] at hlt hpos hnode
      by_cases hi : m ≤ k
      · rw [stepsT_left whole (by omega) h2 hk (by omega), List.map_append, List.map_cons, List.map_nil]
        obtain ⟨r, hr⟩ : ∃ r, sidesP L k f m whole old ((stepsT L (f + m) k f whole).map dig) = r := ⟨_, rfl⟩
        have IH := sides_right L N k f m whole old (by omega) h1 hi ho
        rw [hr] at IH
        rw [sidesP_left L n f m k whole old _ _ (by omega) h2 hk hi r hr]
        refine ⟨?_, ?_, IH.2.2.1, ?_⟩
        · show nodeS r.y _ = _
          rw [IH.1, hnode, dig_nodeT]
        · intro p hp
          rcases List.mem_append.1 hp with h | h
          · exact IH.2.1 p h
          · simp at h; subst h
            show mthT L n f = _
            rw [hnode, nodeT_dig, IH.1]
        · simp; omega
      · rw [stepsT_right whole (by omega) h2 hk (by omega), List.map_append, List.map_cons, List.map_nil]
        obtain ⟨r, hr⟩ : ∃ r, sidesP L (n - k) (f + k) (m - k) false old ((stepsT L (f + m) (n - k) (f + k) false).map dig) = r := ⟨_, rfl⟩
        have IH := sides_right L N (n - k) (f + k) (m - k) false old (by omega) (by omega) (by omega) (fun h => by cases h)
        rw [show f + k + (m - k) = f + m by omega, hr] at IH
        rw [sidesP_right L n f m k whole old _ _ (by omega) h2 hk hi r hr]
        refine ⟨?_, ?_, IH.2.2.1, ?_⟩
        · show nodeS _ r.y = _
          rw [IH.1, hnode, dig_nodeT]
        · intro p hp
          rcases List.mem_append.1 hp with h | h
          · exact IH.2.1 p h
          · simp at h; subst h
            show mthT L n f = _
            rw [hnode, nodeT_dig, IH.1]
        · simp; omega
/-- The pairs' texts are nodes. -/
theorem sidesP_size (L : List ByteArray) : ∀ (N n f m : Nat) (whole : Bool) (old : S32) (xs : List S32), n ≤ N → ∀ p ∈ (sidesP L n f m whole old xs).ps, p.1.size = 65 ∧ p.2.size = 65
  | 0, n, f, m, whole, old, xs, hN, p, hp => by
    rw [sidesP] at hp
    split at hp
    · simp at hp
    · split at hp
      · simp at hp
      · rw [dif_pos (.inr (by omega))] at hp; simp at hp
  | N + 1, n, f, m, whole, old, xs, hN, p, hp => by
    rw [sidesP] at hp
    split at hp
    · simp at hp
    · split at hp
      · simp at hp
      · rename_i y hy
        split at hp
        · simp at hp
        · rename_i hc
          have h2 : 2 ≤ n := by omega
          have hlt := halfN_lt h2
          have hpos := halfN_pos n
          have hs : ∀ a b : S32, (node2 a.s b.s).size = 65 := fun a b => by rw [node2_size, a.ssize, b.ssize]
          have hm : (mthT L n f).size = 65 := by rw [mthT_node h2, nodeT_dig]; exact hs _ _
          split at hp
          · rcases List.mem_append.1 hp with h | h
            · exact sidesP_size L N (halfN n) f m whole old _ (by omega) p h
            · simp at h; subst h; exact ⟨hm, hs _ _⟩
          · rcases List.mem_append.1 hp with h | h
            · exact sidesP_size L N (n - halfN n) (f + halfN n) (m - halfN n) false old _ (by omega) p h
            · simp at h; subst h; exact ⟨hm, hs _ _⟩
/-- A path's sums. -/
theorem path_fold (L : List ByteArray) : ∀ (N n f i : Nat), n ≤ N → i < n → (pathT L (f + i) n f).length = (dirs i n).length ∧ foldU nodeS (dirs i n) (dig (leaf2 (L.getD (f + i) textP.noB))) ((pathT L (f + i) n f).map dig) = dig (mthT L n f)
  | 0, n, f, i, hN, hi => by omega
  | N + 1, n, f, i, hN, hi => by
    by_cases h2 : 2 ≤ n
    · have hlt := halfN_lt h2
      have hpos := halfN_pos n
      obtain ⟨k, hk⟩ : ∃ k, halfN n = k := ⟨_, rfl⟩
      have hnode := mthT_node (L := L) (f := f) h2
      have hd : dirs i n = if i < halfN n then dirs i (halfN n) ++ [false] else dirs (i - halfN n) (n - halfN n) ++ [true] := by rw [dirs, dif_neg (by omega)]
      rw [hk] at hlt hpos hnode hd
      by_cases hik : i < k
      · rw [if_pos hik] at hd
        have IH := path_fold L N k f i (by omega) hik
        rw [pathT_left h2 hk (by omega), hd, List.map_append, List.map_cons, List.map_nil, foldU_snoc nodeS _ _ _ _ _ (by rw [List.length_map]; exact IH.1.symm), IH.2]
        refine ⟨by simp [IH.1], ?_⟩
        unfold nodeD
        rw [if_neg (by decide), hnode, dig_nodeT]
      · rw [if_neg hik] at hd
        have IH := path_fold L N (n - k) (f + k) (i - k) (by omega) (by omega)
        rw [show f + k + (i - k) = f + i by omega] at IH
        rw [pathT_right h2 hk (by omega), hd, List.map_append, List.map_cons, List.map_nil, foldU_snoc nodeS _ _ _ _ _ (by rw [List.length_map]; exact IH.1.symm), IH.2]
        refine ⟨by simp [IH.1], ?_⟩
        unfold nodeD
        rw [if_pos rfl, hnode, dig_nodeT]
    · have : n = 1 := by omega
      subst this
      obtain rfl : i = 0 := by omega
      have hd : dirs 0 1 = [] := by rw [dirs, dif_pos (by omega)]
      rw [pathT_one (by omega), hd, mthT_one]
      exact ⟨rfl, by rw [Nat.add_zero, List.map_nil, leafT_leaf2]; rfl⟩
end Go.Proofs.Ytjicjadibaomkaa
set_option linter.unusedSimpArgs false
set_option linter.unusedVariables false
set_option maxHeartbeats 2000000
set_option maxRecDepth 100000
namespace Go.Proofs.Ytjicjadibaomkaa
open Go.RowKit Go.Hs Go.Dg

theorem zeroS_lit : zeroS.V = #[.int .u8 0, .int .u8 0, .int .u8 0, .int .u8 0, .int .u8 0, .int .u8 0, .int .u8 0, .int .u8 0, .int .u8 0, .int .u8 0, .int .u8 0, .int .u8 0, .int .u8 0, .int .u8 0, .int .u8 0, .int .u8 0, .int .u8 0, .int .u8 0, .int .u8 0, .int .u8 0, .int .u8 0, .int .u8 0, .int .u8 0, .int .u8 0, .int .u8 0, .int .u8 0, .int .u8 0, .int .u8 0, .int .u8 0, .int .u8 0, .int .u8 0, .int .u8 0] := rfl
theorem leafC_any (s : ByteArray) (hs : s.size ≤ 99999999) (w : World) : Calls Try.prog 23 #[.string s] w fun e w' => ∃ y : S32, e = .returned (.agg y.V) ∧ Hid (y = dig (leaf2 s)) ∧ Ext [] w w' :=
  (leaf_any s hs w).mono fun e w' ⟨cs, h1, h2, h3⟩ => ⟨dig (leaf2 s), by rw [h1, h2.out, dig_V]; rfl, Hs.hid rfl, h3⟩
theorem croot_mth (b o : Nat) (L : List ByteArray) (HL : Hid (L.length ≤ 40 ∧ ∀ s ∈ L, s.size ≤ 20)) : ∀ (N n f off cap : Nat), n ≤ N → 1 ≤ n → f + n ≤ L.length → off = o + f → n ≤ cap → cap ≤ 9223372036854775807 → ∀ w : World, LeafAt w.heap b o L →
    Calls Try.prog 36 #[.slice (some ⟨b, off, none⟩) n cap] w fun e w' => ∃ y : S32, e = .returned (.agg y.V) ∧ Hid (y = dig (mthT L n f)) ∧ Ext [] w w'
  | 0, n, f, off, cap, hN, h1, _, _, _, _, w, _ => by omega
  | N + 1, n, f, off, cap, hN, h1, hfn, hoff, hcap, hcm, w, hA => by
    have hR := heap_new w (.cells zeroS.V 35)
    have hx0 := (Ext.refl [] w).alloc (.cells zeroS.V 35)
    have hA0 := hA.ext0 hx0
    rw [zeroS_lit] at hR hx0 hA0
    by_cases hn1 : n = 1
    · subst hn1
      obtain ⟨s, hs⟩ : ∃ s, L[f]? = some s := ⟨_, List.getElem?_eq_getElem (show f < L.length by omega)⟩
      have hms : mthT L 1 f = leafT s := by rw [mthT_one, List.getD_eq_getElem?_getD, hs]; rfl
      have hsz : s.size ≤ 99999999 := by have := HL.out.2 s (List.mem_of_getElem? hs); omega
      have hc := hA0.cell hs
      rw [← hoff] at hc
      have HM := Hs.hid (And.intro hms hsz)
      clear hms hsz hs hfn hoff hA hA0
      go_enter Try.func36, Try.ntmps36
      go_upto_region 5 with fail
      generalize w.alloc (.cells #[.int .u8 0, .int .u8 0, .int .u8 0, .int .u8 0, .int .u8 0, .int .u8 0, .int .u8 0, .int .u8 0, .int .u8 0, .int .u8 0, .int .u8 0, .int .u8 0, .int .u8 0, .int .u8 0, .int .u8 0, .int .u8 0, .int .u8 0, .int .u8 0, .int .u8 0, .int .u8 0, .int .u8 0, .int .u8 0, .int .u8 0, .int .u8 0, .int .u8 0, .int .u8 0, .int .u8 0, .int .u8 0, .int .u8 0, .int .u8 0, .int .u8 0, .int .u8 0] 35) = W at hR hx0 hc ⊢
      obtain ⟨R, hRR⟩ : ∃ R, w.heap.size = R := ⟨_, rfl⟩
      rw [hRR] at hR ⊢
      have HRR := Hs.hid (show w.heap.size ≤ R from Nat.le_of_eq hRR)
      clear hRR
      go_wp2_with (first
        | (go_at_call 23; refine (leafC_any s HM.out.2 _).mono ?_; rintro e w1 ⟨y1, rfl, hy1, hx1⟩; have hR1 := hx1.same hR List.not_mem_nil)
        | (refine wpList_store_row rfl 35 (.tmp 2) (.tmp 14) rfl R y1.V rfl rfl _ _ hR1 (by rw [y1.size]; exact infoSum) (by rw [y1.size]; rfl) y1.one ?_))
      refine bodyPost_ret (v := .agg y1.V) (results_cell_row (P := Try.prog) Try.results36 _ _ R _ _ _ _ rfl (setRow_heap _ _ _ _ _ _ hR1) Try.underlying35 rfl (by rw [y1.size]; exact infoSum)) rfl ⟨y1, rfl, Hs.hid (by rw [HM.out.1, hy1.out]; rfl), ?_⟩
      exact (hx0.trans0 hx1).trans (setRow_ext _ _) (fun g hg => .inr (by simp at hg; have := HRR.out; omega))
    · have hL40 := HL.out.1
      have h2 : 2 ≤ n := by omega
      have hlt := halfN_lt h2
      have hpos := halfN_pos n
      have hnode : mthT L n f = nodeT (mthT L (halfN n) f) (mthT L (n - halfN n) (f + halfN n)) := mthT_node h2
      have hhalf := chalf_any n h2 (by have : (2 : Nat) ^ 40 = 1099511627776 := (by decide); omega)
      generalize halfN n = k at hlt hpos hnode hhalf ⊢
      have ih1 := croot_mth b o L HL N k f off cap (by omega) (by omega) (by omega) hoff (by omega) hcm
      have ih2 := croot_mth b o L HL N (n - k) (f + k) (off + k) (cap - k) (by omega) (by omega) (by omega) (by omega) (by omega) (by omega)
      generalize mthT L n f = T0 at hnode ⊢
      generalize mthT L k f = T1 at hnode ih1 ⊢
      generalize mthT L (n - k) (f + k) = T2 at hnode ih2 ⊢
      have hnk : (n : Int) - k = ((n - k : Nat) : Int) := by omega
      have b1 : (k : Int) ≤ n ∧ (0 : Int) ≤ k ∧ (k : Int) ≤ cap ∧ (n : Int) ≤ 40 ∧ (2 : Int) ≤ n := by omega
      obtain ⟨b1, b2, b3, b4, b5⟩ := b1
      have hck : ¬ cap = k := by omega
      have d0 : ((n : Int) == 0) = false := by simp; omega
      have d1 : ((n : Int) == 1) = false := by simp; omega
      have HN := Hs.hid (And.intro hnode hhalf)
      have HI := Hs.hid (And.intro ih1 ih2)
      clear hnode hhalf ih1 ih2 hfn hoff hL40 hA
      go_enter Try.func36, Try.ntmps36
      go_upto_region 7 with (go_at_call 27; refine (HN.out.2 _).mono ?_; rintro e w1 ⟨rfl, hx1⟩; subst hx1)
      generalize w.alloc (.cells #[.int .u8 0, .int .u8 0, .int .u8 0, .int .u8 0, .int .u8 0, .int .u8 0, .int .u8 0, .int .u8 0, .int .u8 0, .int .u8 0, .int .u8 0, .int .u8 0, .int .u8 0, .int .u8 0, .int .u8 0, .int .u8 0, .int .u8 0, .int .u8 0, .int .u8 0, .int .u8 0, .int .u8 0, .int .u8 0, .int .u8 0, .int .u8 0, .int .u8 0, .int .u8 0, .int .u8 0, .int .u8 0, .int .u8 0, .int .u8 0, .int .u8 0, .int .u8 0] 35) = W at hR hx0 hA0 ⊢
      obtain ⟨R, hRR⟩ : ∃ R, w.heap.size = R := ⟨_, rfl⟩
      rw [hRR] at hR ⊢
      have HRR := Hs.hid (show w.heap.size ≤ R from Nat.le_of_eq hRR)
      clear hRR
      have hxd : Ext [] w W.drew := hx0.drew
      have hR0 : W.drew.heap[R]? = some (.cells #[.int .u8 0, .int .u8 0, .int .u8 0, .int .u8 0, .int .u8 0, .int .u8 0, .int .u8 0, .int .u8 0, .int .u8 0, .int .u8 0, .int .u8 0, .int .u8 0, .int .u8 0, .int .u8 0, .int .u8 0, .int .u8 0, .int .u8 0, .int .u8 0, .int .u8 0, .int .u8 0, .int .u8 0, .int .u8 0, .int .u8 0, .int .u8 0, .int .u8 0, .int .u8 0, .int .u8 0, .int .u8 0, .int .u8 0, .int .u8 0, .int .u8 0, .int .u8 0] 35 (0, 0)) := hR
      replace hA0 : LeafAt W.drew.heap b o L := hA0
      refine wp_region_noPanic ?_
      refine wp_region_held_drew (S := (fun _ => True)) (by kernel_rfl) ?_ (fun hHeld => ?_)
      · ((try dsimp only); all_goals trivial)
      refine wpAnyH_take (i := 0) (v := ?_) rfl (by kernel_rfl) (by kernel_rfl) (by kernel_rfl) (fun _ _ _ h => h) (Or.inl ⟨by rfl, ?_⟩) (by assumption) ?_
      rotate_left
      · (intro w hSw; (try dsimp only at hSw); first | (go_simp; done) | (go_simp; with_reducible rfl))
      try simp only [Act.put, List.getElem_toArray, List.getElem_cons_succ, List.getElem_cons_zero, List.setIfInBounds_toArray, List.set_cons_zero, List.set_cons_succ]
      refine wpAnyH_take (i := 1) (v := ?_) rfl (by kernel_rfl) (by kernel_rfl) (by kernel_rfl) (fun _ _ _ h => h) (Or.inl ⟨by rfl, ?_⟩) (by assumption) ?_
      rotate_left
      · (intro w hSw; (try dsimp only at hSw); first | (go_simp; done) | (go_simp; with_reducible rfl))
      try simp only [Act.put, List.getElem_toArray, List.getElem_cons_succ, List.getElem_cons_zero, List.setIfInBounds_toArray, List.set_cons_zero, List.set_cons_succ]
      refine wpAnyH_take (i := 2) (v := ?_) rfl (by kernel_rfl) (by kernel_rfl) (by kernel_rfl) (fun _ _ _ h => h) (Or.inl ⟨by rfl, ?_⟩) (by assumption) ?_
      rotate_left
      · (intro w hSw; (try dsimp only at hSw); first | (go_simp; done) | (go_simp; with_reducible rfl))
      try simp only [Act.put, List.getElem_toArray, List.getElem_cons_succ, List.getElem_cons_zero, List.setIfInBounds_toArray, List.set_cons_zero, List.set_cons_succ]
      refine wpAnyH_take (i := 4) (v := ?_) rfl (by kernel_rfl) (by kernel_rfl) (by kernel_rfl) (fun _ _ _ h => h) (Or.inl ⟨by rfl, ?_⟩) (by assumption) ?_
      rotate_left
      · (intro w hSw; (try dsimp only at hSw); first | (go_simp; done) | (go_simp; with_reducible rfl))
      try simp only [Act.put, List.getElem_toArray, List.getElem_cons_succ, List.getElem_cons_zero, List.setIfInBounds_toArray, List.set_cons_zero, List.set_cons_succ]
      refine wpAnyH_take (i := 5) (v := ?_) rfl (by kernel_rfl) (by kernel_rfl) (by kernel_rfl) (fun _ _ _ h => h) (Or.inl ⟨by rfl, ?_⟩) (by assumption) ?_
      rotate_left
      · (intro w hSw; (try dsimp only at hSw); first | (go_simp; done) | (go_simp; with_reducible rfl))
      try simp only [Act.put, List.getElem_toArray, List.getElem_cons_succ, List.getElem_cons_zero, List.setIfInBounds_toArray, List.set_cons_zero, List.set_cons_succ]
      refine wpAnyH_take (i := 6) (v := ?_) rfl (by kernel_rfl) (by kernel_rfl) (by kernel_rfl) (fun _ _ _ h => h) (Or.inl ⟨by rfl, ?_⟩) (by assumption) ?_
      rotate_left
      · (intro w hSw; (try dsimp only at hSw); first | (go_simp; done) | (go_simp; with_reducible rfl))
      try simp only [Act.put, List.getElem_toArray, List.getElem_cons_succ, List.getElem_cons_zero, List.setIfInBounds_toArray, List.set_cons_zero, List.set_cons_succ]
      refine wpAnyH_ready (rs := [3]) (by kernel_rfl) (by simp) ?_
      refine AllReadyH.cons rfl (fun K hK => ?_) AllReadyH.nil
      go_simp
      (go_at_call 36; (with_reducible refine (HI.out.1 _ hA0).mono ?_); rintro e w2 ⟨y2, rfl, hy2, hx2⟩; have hA2 := hA0.ext0 hx2)
      go_wp2_with fail
      refine hK.out _ _ ?_ (fun hHeld => ?_)
      · ((try dsimp only); all_goals trivial)
      clear hK K
      try simp only [Act.put, List.getElem_toArray, List.getElem_cons_succ, List.getElem_cons_zero, List.setIfInBounds_toArray, List.set_cons_zero, List.set_cons_succ]
      refine wpAnyH_ready (rs := [7]) (by kernel_rfl) (by simp) ?_
      refine AllReadyH.cons rfl (fun K hK => ?_) AllReadyH.nil
      go_simp
      (go_at_call 36; (with_reducible refine (HI.out.2 _ hA2).mono ?_); rintro e w3 ⟨y3, rfl, hy3, hx3⟩)
      go_wp2_with fail
      refine hK.out _ _ ?_ (fun hHeld => ?_)
      · ((try dsimp only); all_goals trivial)
      clear hK K
      try simp only [Act.put, List.getElem_toArray, List.getElem_cons_succ, List.getElem_cons_zero, List.setIfInBounds_toArray, List.set_cons_zero, List.set_cons_succ]
      refine wpAnyH_ready (rs := [8]) (by kernel_rfl) (by simp) ?_
      refine AllReadyH.cons rfl (fun K hK => ?_) AllReadyH.nil
      go_simp
      (go_at_call 24; (with_reducible refine (nodeY_any y2 y3 _).mono ?_); rintro e w4 ⟨y4, rfl, hy4, hx4⟩; have hR4 := ((hx2.trans0 hx3).trans0 hx4).same hR0 List.not_mem_nil)
      go_wp2_with fail
      refine hK.out _ _ ?_ (fun hHeld => ?_)
      · ((try dsimp only); all_goals trivial)
      clear hK K
      try simp only [Act.put, List.getElem_toArray, List.getElem_cons_succ, List.getElem_cons_zero, List.setIfInBounds_toArray, List.set_cons_zero, List.set_cons_succ]
      refine wpAnyH_ready (rs := [9]) (by kernel_rfl) (by simp) ?_
      refine AllReadyH.cons rfl (fun K hK => ?_) AllReadyH.nil
      rw [if_pos (by rfl)]
      (refine wp_store_row 35 _ _ rfl R y4.V rfl rfl _ _ hR4 (by rw [y4.size]; exact infoSum) (by rw [y4.size]; rfl) y4.one ?_)
      refine hK.out _ _ ?_ (fun hHeld => ?_)
      · ((try dsimp only); all_goals trivial)
      clear hK K
      try simp only [Act.put, List.getElem_toArray, List.getElem_cons_succ, List.getElem_cons_zero, List.setIfInBounds_toArray, List.set_cons_zero, List.set_cons_succ]
      refine wpAnyH_done (by kernel_rfl) ?_ _
      refine NoPanic.normal ?_
      go_wp2
      refine bodyPost_ret (v := .agg y4.V) (results_cell_row (P := Try.prog) Try.results36 _ _ R _ _ _ _ rfl (setRow_heap _ _ _ _ _ _ hR4) Try.underlying35 rfl (by rw [y4.size]; exact infoSum)) rfl ⟨y4, rfl, Hs.hid (by rw [hy4.out, hy2.out, hy3.out, HN.out.1, dig_nodeT]), ?_⟩
      exact (((hxd.trans0 hx2).trans0 hx3).trans0 hx4).trans (setRow_ext _ _) (fun g hg => .inr (by simp at hg; have := HRR.out; omega))
end Go.Proofs.Ytjicjadibaomkaa
set_option linter.unusedSimpArgs false
set_option linter.unusedVariables false
set_option maxHeartbeats 4000000
set_option maxRecDepth 100000
namespace Go.Proofs.Ytjicjadibaomkaa
open Go.RowKit Go.Hs Go.Dg

theorem setRow_keep {w : World} {g r : Nat} {o : Obj} (cs : Array Value) (h : w.heap[g]? = some o) (hne : g ≠ r) : (w.setRow r cs).heap[g]? = some o := by
  rw [setRow_other _ _ _ _ hne]; exact h
theorem own_farS {h : Array Obj} {e t : TypeId} {size n : Nat} {v : Value} {xs : List Value} (o : Own h e size v n xs) {b : Nat} {cs : Array Value} {f : Nat × Nat} (hb : h[b]? = some (.cells cs t f)) (ht : t ≠ e) : b ∉ v.ownBlock.toList := by
  intro hm
  obtain ⟨cur, hc⟩ := o.block (by simpa using hm)
  rw [hb] at hc
  simp at hc
  exact ht hc.2.1
theorem results_two {fn : Func} {p q u r : Tmp} (h : fn.results = #[.cell p 35, .cell q 35, .tmp u, .tmp r]) (tmps : Array Value) {w : World} {g1 g2 : Nat} {c1 c2 : Array Value} {f1 f2 : Nat × Nat} {x y : Value}
    (hp : tmps.getD p undef = .pointer (some ⟨g1, 0, none⟩)) (hq : tmps.getD q undef = .pointer (some ⟨g2, 0, none⟩)) (hu : tmps.getD u undef = x) (hr : tmps.getD r undef = y)
    (h1 : w.heap[g1]? = some (.cells c1 35 f1)) (s1 : c1.size = 32) (h2 : w.heap[g2]? = some (.cells c2 35 f2)) (s2 : c2.size = 32) :
    (results fn tmps).run Try.prog w = .ok (.tuple #[.agg c1, .agg c2, x, y]) w := by
  simp only [Array.getD_eq_getD_getElem?] at hp hq hu hr
  simp only [results, h]
  simp [Sem.run_bind, Result.andThen, hp, hq, hu, hr, asAddr, load_sum h1 s1, load_sum h2 s2]
/-- Pairs as cells. -/
def flatP (L : List (ByteArray × ByteArray)) : List Value := L.flatMap fun p => [.string p.1, .string p.2]
theorem flatP_append (L : List (ByteArray × ByteArray)) (p : ByteArray × ByteArray) : flatP (L ++ [p]) = flatP L ++ [.string p.1, .string p.2] := by simp [flatP]
theorem infoPair : (Try.prog.info? 43).map (fun i => (i.zero, i.size, i.bytes)) = some (some (.agg #[.string ⟨#[]⟩, .string ⟨#[]⟩]), 2, 32) := by kernel_rfl
/-- A slice of pairs that the call owns. -/
def OwnP (h : Array Obj) (v : Value) (ps : List (ByteArray × ByteArray)) : Prop := Own h 43 2 v ps.length (flatP ps)
theorem OwnP.nil (h : Array Obj) : OwnP h (.slice none 0 0) [] := ⟨rfl, .inl ⟨rfl, rfl⟩⟩
theorem OwnP.ext {w w' : World} {F : List Nat} {v : Value} {ps : List (ByteArray × ByteArray)} (o : OwnP w.heap v ps) (x : Ext F w w') (hF : ∀ g, v.ownBlock = some g → g ∉ F) : OwnP w'.heap v ps :=
  Own.same o fun g hg => x.block g (Own.lt o hg) (hF g hg)
theorem OwnP.set {w : World} {v : Value} {ps : List (ByteArray × ByteArray)} (o : OwnP w.heap v ps) {R : Nat} {z : Array Value} {f : Nat × Nat} (hb : w.heap[R]? = some (.cells z 35 f)) (cs : Array Value) : OwnP (w.setRow R cs).heap v ps :=
  o.ext (setRow_ext R cs) (fun g hg hm => by
    have := own_farS o hb (by decide)
    simp at hm; subst hm
    exact this (by simp [hg]))
theorem nodeC_eq (a b : S32) (t : ByteArray) (h : node2 a.s b.s = t) (w : World) : Calls Try.prog 28 #[.agg (a.V), .agg (b.V)] w fun e w' => e = .returned (.string t) ∧ Ext [] w w' := by
  subst h; exact nodeC_any a b w
theorem Sums32.range {w : World} {b o cap : Nat} {xs : List S32} (h : Sums32 w.heap (some ⟨b, o, none⟩) cap xs) {k : Nat} {x : S32} (hk : xs[k]? = some x) : b < w.heap.size ∧ w.rangeAt b (o + k * 32) x.V.toList := by
  obtain ⟨b', o', e, h1, h2⟩ := h.at hk
  injection e with e; injection e with e1 e2
  subst e1; subst e2
  exact ⟨h1, h2⟩
theorem side_start (w : World) (old : S32) : (((w.alloc (.cells old.V 35)).alloc (.cells #[.int .u8 0, .int .u8 0, .int .u8 0, .int .u8 0, .int .u8 0, .int .u8 0, .int .u8 0, .int .u8 0, .int .u8 0, .int .u8 0, .int .u8 0, .int .u8 0, .int .u8 0, .int .u8 0, .int .u8 0, .int .u8 0, .int .u8 0, .int .u8 0, .int .u8 0, .int .u8 0, .int .u8 0, .int .u8 0, .int .u8 0, .int .u8 0, .int .u8 0, .int .u8 0, .int .u8 0, .int .u8 0, .int .u8 0, .int .u8 0, .int .u8 0, .int .u8 0] 35)).alloc (.cells #[.int .u8 0, .int .u8 0, .int .u8 0, .int .u8 0, .int .u8 0, .int .u8 0, .int .u8 0, .int .u8 0, .int .u8 0, .int .u8 0, .int .u8 0, .int .u8 0, .int .u8 0, .int .u8 0, .int .u8 0, .int .u8 0, .int .u8 0, .int .u8 0, .int .u8 0, .int .u8 0, .int .u8 0, .int .u8 0, .int .u8 0, .int .u8 0, .int .u8 0, .int .u8 0, .int .u8 0, .int .u8 0, .int .u8 0, .int .u8 0, .int .u8 0, .int .u8 0] 35)).heap[w.heap.size]? = some (.cells old.V 35 (0, 0)) ∧
    (((w.alloc (.cells old.V 35)).alloc (.cells #[.int .u8 0, .int .u8 0, .int .u8 0, .int .u8 0, .int .u8 0, .int .u8 0, .int .u8 0, .int .u8 0, .int .u8 0, .int .u8 0, .int .u8 0, .int .u8 0, .int .u8 0, .int .u8 0, .int .u8 0, .int .u8 0, .int .u8 0, .int .u8 0, .int .u8 0, .int .u8 0, .int .u8 0, .int .u8 0, .int .u8 0, .int .u8 0, .int .u8 0, .int .u8 0, .int .u8 0, .int .u8 0, .int .u8 0, .int .u8 0, .int .u8 0, .int .u8 0] 35)).alloc (.cells #[.int .u8 0, .int .u8 0, .int .u8 0, .int .u8 0, .int .u8 0, .int .u8 0, .int .u8 0, .int .u8 0, .int .u8 0, .int .u8 0, .int .u8 0, .int .u8 0, .int .u8 0, .int .u8 0, .int .u8 0, .int .u8 0, .int .u8 0, .int .u8 0, .int .u8 0, .int .u8 0, .int .u8 0, .int .u8 0, .int .u8 0, .int .u8 0, .int .u8 0, .int .u8 0, .int .u8 0, .int .u8 0, .int .u8 0, .int .u8 0, .int .u8 0, .int .u8 0] 35)).heap[w.heap.size + 1]? = some (.cells zeroS.V 35 (0, 0)) ∧
    (((w.alloc (.cells old.V 35)).alloc (.cells #[.int .u8 0, .int .u8 0, .int .u8 0, .int .u8 0, .int .u8 0, .int .u8 0, .int .u8 0, .int .u8 0, .int .u8 0, .int .u8 0, .int .u8 0, .int .u8 0, .int .u8 0, .int .u8 0, .int .u8 0, .int .u8 0, .int .u8 0, .int .u8 0, .int .u8 0, .int .u8 0, .int .u8 0, .int .u8 0, .int .u8 0, .int .u8 0, .int .u8 0, .int .u8 0, .int .u8 0, .int .u8 0, .int .u8 0, .int .u8 0, .int .u8 0, .int .u8 0] 35)).alloc (.cells #[.int .u8 0, .int .u8 0, .int .u8 0, .int .u8 0, .int .u8 0, .int .u8 0, .int .u8 0, .int .u8 0, .int .u8 0, .int .u8 0, .int .u8 0, .int .u8 0, .int .u8 0, .int .u8 0, .int .u8 0, .int .u8 0, .int .u8 0, .int .u8 0, .int .u8 0, .int .u8 0, .int .u8 0, .int .u8 0, .int .u8 0, .int .u8 0, .int .u8 0, .int .u8 0, .int .u8 0, .int .u8 0, .int .u8 0, .int .u8 0, .int .u8 0, .int .u8 0] 35)).heap[w.heap.size + 1 + 1]? = some (.cells zeroS.V 35 (0, 0)) ∧ Ext [] w (((w.alloc (.cells old.V 35)).alloc (.cells #[.int .u8 0, .int .u8 0, .int .u8 0, .int .u8 0, .int .u8 0, .int .u8 0, .int .u8 0, .int .u8 0, .int .u8 0, .int .u8 0, .int .u8 0, .int .u8 0, .int .u8 0, .int .u8 0, .int .u8 0, .int .u8 0, .int .u8 0, .int .u8 0, .int .u8 0, .int .u8 0, .int .u8 0, .int .u8 0, .int .u8 0, .int .u8 0, .int .u8 0, .int .u8 0, .int .u8 0, .int .u8 0, .int .u8 0, .int .u8 0, .int .u8 0, .int .u8 0] 35)).alloc (.cells #[.int .u8 0, .int .u8 0, .int .u8 0, .int .u8 0, .int .u8 0, .int .u8 0, .int .u8 0, .int .u8 0, .int .u8 0, .int .u8 0, .int .u8 0, .int .u8 0, .int .u8 0, .int .u8 0, .int .u8 0, .int .u8 0, .int .u8 0, .int .u8 0, .int .u8 0, .int .u8 0, .int .u8 0, .int .u8 0, .int .u8 0, .int .u8 0, .int .u8 0, .int .u8 0, .int .u8 0, .int .u8 0, .int .u8 0, .int .u8 0, .int .u8 0, .int .u8 0] 35)) := by
  have h1 : (w.alloc (.cells old.V 35)).heap.size = w.heap.size + 1 := by simp
  have h2 : ((w.alloc (.cells old.V 35)).alloc (.cells #[.int .u8 0, .int .u8 0, .int .u8 0, .int .u8 0, .int .u8 0, .int .u8 0, .int .u8 0, .int .u8 0, .int .u8 0, .int .u8 0, .int .u8 0, .int .u8 0, .int .u8 0, .int .u8 0, .int .u8 0, .int .u8 0, .int .u8 0, .int .u8 0, .int .u8 0, .int .u8 0, .int .u8 0, .int .u8 0, .int .u8 0, .int .u8 0, .int .u8 0, .int .u8 0, .int .u8 0, .int .u8 0, .int .u8 0, .int .u8 0, .int .u8 0, .int .u8 0] 35)).heap.size = w.heap.size + 1 + 1 := by simp
  refine ⟨heap_old' _ _ (heap_old' _ _ (heap_new _ _)), ?_, ?_, (((Ext.refl _ _).alloc _).alloc _).alloc _⟩
  · rw [← h1]; exact heap_old' _ _ (heap_new _ _)
  · rw [← h2]; exact heap_new _ _
/-- What sides answers. -/
def SideE (w : World) (L : List ByteArray) (n f m : Nat) (whole : Bool) (old : S32) (xs : List S32) (e : Ending) (w' : World) : Prop := ∃ (x y : S32) (v : Value) (ps : List (ByteArray × ByteArray)) (ok : Bool),
  e = .returned (.tuple #[.agg x.V, .agg y.V, v, .bool ok]) ∧ Hid (sidesP L n f m whole old xs = ⟨x, y, ps, ok⟩) ∧ OwnP w'.heap v ps ∧ (∀ g, v.ownBlock = some g → w.heap.size ≤ g) ∧ ps.length ≤ n ∧ Ext [] w w'
theorem side_end (b o : Nat) (L : List ByteArray) (HL : Hid (L.length ≤ 40 ∧ ∀ s ∈ L, s.size ≤ 20)) (f m off cap : Nat) (old : S32) (ys : List S32) (y : S32) (sb so cap2 : Nat) (h1 : 1 ≤ m) (hfn : f + m ≤ L.length) (hoff : off = o + f) (hcap : m ≤ cap) (hcm : cap ≤ 9223372036854775807) (w : World) (hLA : LeafAt w.heap b o L) (hT : Sums32 w.heap (some ⟨sb, so, none⟩) cap2 (ys ++ [y])) :
    Calls Try.prog 34 #[.int .i64 m, .slice (some ⟨b, off, none⟩) m cap, .slice (some ⟨sb, so, none⟩) (ys.length + 1) cap2, .bool false, .agg old.V] w (SideE w L m f m false old (ys ++ [y])) := by
    have hL40 := HL.out.1
    have hmax := hT.2.1
    have hcap2 := hT.1
    obtain ⟨hA, hB, hC, hx0⟩ := side_start w old
    have hyl : (ys ++ [y]).length = ys.length + 1 := by simp
    have hTi := hT.init
    rw [hyl] at hcap2
    have m0 : ¬ (((ys.length : Nat) : Int) + 1 = 0) := by omega
    have m1 : (((ys.length : Nat) : Int) + 1 == 0) = false := by simp; omega
    have m2 : ((ys.length : Nat) : Int) + 1 - 1 = (ys.length : Int) := by omega
    have m3 : (ys.length : Int) < (ys.length : Int) + 1 := by omega
    have m4 : (ys.length : Int) ≤ cap2 := by omega
    have m5 : (0 : Int) ≤ ys.length := by omega
    have m6 : ys.length ≤ cap2 := by omega
    have m7 : IntKind.i64.wrap (ys.length : Int) = (ys.length : Int) := by rw [IntKind.wrap_i64]; omega
    have m8 : ((ys.length : Int)).toNat = ys.length := by omega
    have HTX := Hs.hid hT
    have HTI := Hs.hid hTi
    have HLA0 := Hs.hid hLA
    have HP := Hs.hid (sidesP_end L m f old ys y)
    have e0 : ((m : Int) == (m : Int)) = true := by simp
    clear hfn hoff hLA hT hTi hL40
    go_enter Try.func34, Try.ntmps34
    go_upto_region 1 with fail
    generalize ((w.alloc (.cells old.V 35)).alloc (.cells #[.int .u8 0, .int .u8 0, .int .u8 0, .int .u8 0, .int .u8 0, .int .u8 0, .int .u8 0, .int .u8 0, .int .u8 0, .int .u8 0, .int .u8 0, .int .u8 0, .int .u8 0, .int .u8 0, .int .u8 0, .int .u8 0, .int .u8 0, .int .u8 0, .int .u8 0, .int .u8 0, .int .u8 0, .int .u8 0, .int .u8 0, .int .u8 0, .int .u8 0, .int .u8 0, .int .u8 0, .int .u8 0, .int .u8 0, .int .u8 0, .int .u8 0, .int .u8 0] 35)).alloc (.cells #[.int .u8 0, .int .u8 0, .int .u8 0, .int .u8 0, .int .u8 0, .int .u8 0, .int .u8 0, .int .u8 0, .int .u8 0, .int .u8 0, .int .u8 0, .int .u8 0, .int .u8 0, .int .u8 0, .int .u8 0, .int .u8 0, .int .u8 0, .int .u8 0, .int .u8 0, .int .u8 0, .int .u8 0, .int .u8 0, .int .u8 0, .int .u8 0, .int .u8 0, .int .u8 0, .int .u8 0, .int .u8 0, .int .u8 0, .int .u8 0, .int .u8 0, .int .u8 0] 35) = W at hA hB hC hx0 ⊢
    obtain ⟨A, hAA⟩ : ∃ A, w.heap.size = A := ⟨_, rfl⟩
    obtain ⟨B, hBB⟩ : ∃ B, A + 1 = B := ⟨_, rfl⟩
    obtain ⟨C, hCC⟩ : ∃ C, B + 1 = C := ⟨_, rfl⟩
    rw [hAA] at hA hB hC
    rw [hBB] at hB hC
    rw [hCC] at hC
    try rw [hAA]
    try rw [hBB]
    try rw [hCC]
    have HRR := Hs.hid (show w.heap.size ≤ A ∧ w.heap.size ≤ B ∧ w.heap.size ≤ C by omega)
    have HAB := Hs.hid (show A < B ∧ B < C by omega)
    clear hAA hBB hCC
    obtain ⟨hsbW, hrg⟩ := (HTX.out.ext hx0 (by simp)).range (k := ys.length) (x := y) (by simp)
    go_upto_region 6 with fail
    refine wp_region_noPanic ?_
    refine wp_region_held_drew (S := (fun w' => w'.rangeAt sb (so + ys.length * 32) y.V.toList)) (by kernel_rfl) ?_ (fun hHeld => ?_)
    · ((try dsimp only); exact hrg)
    refine wpAnyH_take (i := 0) (v := ?_) rfl (by kernel_rfl) (by kernel_rfl) (by kernel_rfl) (fun _ _ _ h => h) (Or.inl ⟨by rfl, ?_⟩) (by assumption) ?_
    rotate_left
    · (intro w hSw; (try dsimp only at hSw); first | (go_simp; done) | (go_simp; with_reducible rfl))
    try simp only [Act.put, List.getElem_toArray, List.getElem_cons_succ, List.getElem_cons_zero, List.setIfInBounds_toArray, List.set_cons_zero, List.set_cons_succ]
    refine wpAnyH_take (i := 1) (v := ?_) rfl (by kernel_rfl) (by kernel_rfl) (by kernel_rfl) (fun _ _ _ h => h) (Or.inl ⟨by rfl, ?_⟩) (by assumption) ?_
    rotate_left
    · (intro w hSw; (try dsimp only at hSw); first | (go_simp; done) | (go_simp; with_reducible rfl))
    try simp only [Act.put, List.getElem_toArray, List.getElem_cons_succ, List.getElem_cons_zero, List.setIfInBounds_toArray, List.set_cons_zero, List.set_cons_succ]
    refine wpAnyH_take (i := 2) (v := ?_) rfl (by kernel_rfl) (by kernel_rfl) (by kernel_rfl) (fun _ _ _ h => h) (Or.inl ⟨by rfl, ?_⟩) (by assumption) ?_
    rotate_left
    · (intro w hSw; (try dsimp only at hSw); first | (go_simp; done) | (go_simp; with_reducible rfl))
    try simp only [Act.put, List.getElem_toArray, List.getElem_cons_succ, List.getElem_cons_zero, List.setIfInBounds_toArray, List.set_cons_zero, List.set_cons_succ]
    refine wpAnyH_take (i := 3) (v := ?_) rfl (by kernel_rfl) (by kernel_rfl) (by kernel_rfl) (fun _ _ _ h => h) (Or.inl ⟨by rfl, ?_⟩) (by assumption) ?_
    rotate_left
    · (intro w hSw; (try dsimp only at hSw); first | (go_simp; done) | (go_simp; with_reducible rfl))
    try simp only [Act.put, List.getElem_toArray, List.getElem_cons_succ, List.getElem_cons_zero, List.setIfInBounds_toArray, List.set_cons_zero, List.set_cons_succ]
    refine wpAnyH_take (i := 4) (v := ?_) rfl (by kernel_rfl) (by kernel_rfl) (by kernel_rfl) (fun _ _ _ h => h) (Or.inl ⟨by rfl, ?_⟩) (by assumption) ?_
    rotate_left
    · (intro w hSw; (try dsimp only at hSw); first | (go_simp; done) | (go_simp; with_reducible rfl))
    try simp only [Act.put, List.getElem_toArray, List.getElem_cons_succ, List.getElem_cons_zero, List.setIfInBounds_toArray, List.set_cons_zero, List.set_cons_succ]
    refine wpAnyH_take (i := 5) (v := _) rfl (by kernel_rfl) (by kernel_rfl) (by kernel_rfl) (fun _ _ _ h => h) (yieldsIf_of (.agg y.V) (by rfl) (fun w' hw => exec_load_midV _ rfl sb _ rfl y w' hw)) (by assumption) ?_
    try simp only [Act.put, List.getElem_toArray, List.getElem_cons_succ, List.getElem_cons_zero, List.setIfInBounds_toArray, List.set_cons_zero, List.set_cons_succ]
    refine wpAnyH_take (i := 6) (v := ?_) rfl (by kernel_rfl) (by kernel_rfl) (by kernel_rfl) (fun _ _ _ h => h) (Or.inl ⟨by rfl, ?_⟩) (by assumption) ?_
    rotate_left
    · (intro w hSw; (try dsimp only at hSw); first | (go_simp; done) | (go_simp; with_reducible rfl))
    try simp only [Act.put, List.getElem_toArray, List.getElem_cons_succ, List.getElem_cons_zero, List.setIfInBounds_toArray, List.set_cons_zero, List.set_cons_succ]
    refine wpAnyH_take (i := 7) (v := ?_) rfl (by kernel_rfl) (by kernel_rfl) (by kernel_rfl) (fun _ _ _ h => h) (Or.inl ⟨by rfl, ?_⟩) (by assumption) ?_
    rotate_left
    · (intro w hSw; (try dsimp only at hSw); first | (go_simp; done) | (go_simp; with_reducible rfl))
    try simp only [Act.put, List.getElem_toArray, List.getElem_cons_succ, List.getElem_cons_zero, List.setIfInBounds_toArray, List.set_cons_zero, List.set_cons_succ]
    refine wpAnyH_take (i := 8) (v := ?_) rfl (by kernel_rfl) (by kernel_rfl) (by kernel_rfl) (fun _ _ _ h => h) (Or.inl ⟨by rfl, ?_⟩) (by assumption) ?_
    rotate_left
    · (intro w hSw; (try dsimp only at hSw); first | (go_simp; done) | (go_simp; with_reducible rfl))
    try simp only [Act.put, List.getElem_toArray, List.getElem_cons_succ, List.getElem_cons_zero, List.setIfInBounds_toArray, List.set_cons_zero, List.set_cons_succ]
    refine wpAnyH_take (i := 9) (v := ?_) rfl (by kernel_rfl) (by kernel_rfl) (by kernel_rfl) (fun _ _ _ h => h) (Or.inl ⟨by rfl, ?_⟩) (by assumption) ?_
    rotate_left
    · (intro w hSw; (try dsimp only at hSw); first | (go_simp; done) | (go_simp; with_reducible rfl))
    try simp only [Act.put, List.getElem_toArray, List.getElem_cons_succ, List.getElem_cons_zero, List.setIfInBounds_toArray, List.set_cons_zero, List.set_cons_succ]
    refine wpAnyH_take (i := 10) (v := ?_) rfl (by kernel_rfl) (by kernel_rfl) (by kernel_rfl) (fun _ _ _ h => h) (Or.inl ⟨by rfl, ?_⟩) (by assumption) ?_
    rotate_left
    · (intro w hSw; (try dsimp only at hSw); first | (go_simp; done) | (go_simp; with_reducible rfl))
    try simp only [Act.put, List.getElem_toArray, List.getElem_cons_succ, List.getElem_cons_zero, List.setIfInBounds_toArray, List.set_cons_zero, List.set_cons_succ]
    refine wpAnyH_ready (rs := [11]) (by kernel_rfl) (by simp) ?_
    refine AllReadyH.cons rfl (fun K hK => ?_) AllReadyH.nil
    rw [if_pos (by rfl)]
    go_simp
    refine hK.out _ _ ?_ (fun hHeld => ?_)
    · ((try dsimp only); exact World.rangeAt_alloc hHeld _)
    clear hK K
    try simp only [Act.put, List.getElem_toArray, List.getElem_cons_succ, List.getElem_cons_zero, List.setIfInBounds_toArray, List.set_cons_zero, List.set_cons_succ]
    refine wpAnyH_ready (rs := [12]) (by kernel_rfl) (by simp) ?_
    refine AllReadyH.cons rfl (fun K hK => ?_) AllReadyH.nil
    rw [if_pos (by rfl)]
    (have hR := setRow_heap _ _ _ y.V _ _ (heap_new W.drew (.cells zeroS.V 35)); rw [zeroS_lit] at hR; refine wp_store_row 35 _ _ rfl _ y.V rfl rfl _ _ (heap_new _ _) (by rw [y.size]; exact infoSum) (by rw [y.size]; rfl) y.one ?_)
    refine hK.out _ _ ?_ (fun hHeld => ?_)
    · ((try dsimp only); (intro j v hj; have q1 := hHeld j v hj; have q2 := World.block_lt_of_cell? _ _ q1; rw [← q1]; unfold World.cell?; rw [setRow_other _ _ _ _ (by simp only [] at hsbW ⊢; omega)]))
    clear hK K
    try simp only [Act.put, List.getElem_toArray, List.getElem_cons_succ, List.getElem_cons_zero, List.setIfInBounds_toArray, List.set_cons_zero, List.set_cons_succ]
    refine wpAnyH_take (i := 13) (v := ?_) rfl (by kernel_rfl) (by kernel_rfl) (by kernel_rfl) (fun _ _ _ h => h) (Or.inl ⟨by rfl, ?_⟩) (by assumption) ?_
    rotate_left
    · (intro w hSw; (try dsimp only at hSw); first | (go_simp; done) | (go_simp; with_reducible rfl))
    try simp only [Act.put, List.getElem_toArray, List.getElem_cons_succ, List.getElem_cons_zero, List.setIfInBounds_toArray, List.set_cons_zero, List.set_cons_succ]
    refine wpAnyH_done (by kernel_rfl) ?_ _
    refine NoPanic.normal ?_
    have hx6 : Ext [] W ((W.alloc (.cells #[.int .u8 0, .int .u8 0, .int .u8 0, .int .u8 0, .int .u8 0, .int .u8 0, .int .u8 0, .int .u8 0, .int .u8 0, .int .u8 0, .int .u8 0, .int .u8 0, .int .u8 0, .int .u8 0, .int .u8 0, .int .u8 0, .int .u8 0, .int .u8 0, .int .u8 0, .int .u8 0, .int .u8 0, .int .u8 0, .int .u8 0, .int .u8 0, .int .u8 0, .int .u8 0, .int .u8 0, .int .u8 0, .int .u8 0, .int .u8 0, .int .u8 0, .int .u8 0] 35)).drew.setRow W.heap.size y.V) := ((Ext.refl [] W).alloc (.cells #[.int .u8 0, .int .u8 0, .int .u8 0, .int .u8 0, .int .u8 0, .int .u8 0, .int .u8 0, .int .u8 0, .int .u8 0, .int .u8 0, .int .u8 0, .int .u8 0, .int .u8 0, .int .u8 0, .int .u8 0, .int .u8 0, .int .u8 0, .int .u8 0, .int .u8 0, .int .u8 0, .int .u8 0, .int .u8 0, .int .u8 0, .int .u8 0, .int .u8 0, .int .u8 0, .int .u8 0, .int .u8 0, .int .u8 0, .int .u8 0, .int .u8 0, .int .u8 0] 35)).drew.trans (setRow_ext _ _) (fun g hg => .inr (by simp at hg; omega))
    replace hR : ((W.alloc (.cells #[.int .u8 0, .int .u8 0, .int .u8 0, .int .u8 0, .int .u8 0, .int .u8 0, .int .u8 0, .int .u8 0, .int .u8 0, .int .u8 0, .int .u8 0, .int .u8 0, .int .u8 0, .int .u8 0, .int .u8 0, .int .u8 0, .int .u8 0, .int .u8 0, .int .u8 0, .int .u8 0, .int .u8 0, .int .u8 0, .int .u8 0, .int .u8 0, .int .u8 0, .int .u8 0, .int .u8 0, .int .u8 0, .int .u8 0, .int .u8 0, .int .u8 0, .int .u8 0] 35)).drew.setRow W.heap.size y.V).heap[W.heap.size]? = some (.cells y.V 35 (0, 0)) := hR
    generalize (W.alloc (.cells #[.int .u8 0, .int .u8 0, .int .u8 0, .int .u8 0, .int .u8 0, .int .u8 0, .int .u8 0, .int .u8 0, .int .u8 0, .int .u8 0, .int .u8 0, .int .u8 0, .int .u8 0, .int .u8 0, .int .u8 0, .int .u8 0, .int .u8 0, .int .u8 0, .int .u8 0, .int .u8 0, .int .u8 0, .int .u8 0, .int .u8 0, .int .u8 0, .int .u8 0, .int .u8 0, .int .u8 0, .int .u8 0, .int .u8 0, .int .u8 0, .int .u8 0, .int .u8 0] 35)).drew.setRow W.heap.size y.V = W6 at hR hx6 ⊢
    obtain ⟨Yb, hYb⟩ : ∃ Y, W.heap.size = Y := ⟨_, rfl⟩
    have HYC := Hs.hid (show C < Yb by have := lt_of_heap hC; omega)
    try rw [hYb]
    rw [hYb] at hR
    replace hA := hx6.same hA List.not_mem_nil
    replace hB := hx6.same hB List.not_mem_nil
    replace hC := hx6.same hC List.not_mem_nil
    have HE := Hs.hid (hx0.trans0 hx6)
    clear hYb hrg hsbW hx0 hx6
    have hSRC := hR
    have HNE := Hs.hid (show Yb ≠ B ∧ Yb ≠ C ∧ C ≠ B by have := HAB.out; have := HYC.out; omega)
    go_upto_region 8 with fail
    refine wp_region_noPanic ?_
    refine wp_region_held_drew (S := (fun w' => w'.heap[Yb]? = some (.cells y.V 35 (0, 0)))) (by kernel_rfl) ?_ (fun hHeld => ?_)
    · ((try dsimp only); exact hSRC)
    refine wpAnyH_take (i := 0) (v := _) rfl (by kernel_rfl) (by kernel_rfl) (by kernel_rfl) (fun _ _ _ h => h) (yieldsIf_of (.agg y.V) (by rfl) (fun w' hw => exec_load_rowV (.tmp 15) rfl Yb rfl y w' ⟨_, hw⟩)) (by assumption) ?_
    try simp only [Act.put, List.getElem_toArray, List.getElem_cons_succ, List.getElem_cons_zero, List.setIfInBounds_toArray, List.set_cons_zero, List.set_cons_succ]
    refine wpAnyH_take (i := 1) (v := _) rfl (by kernel_rfl) (by kernel_rfl) (by kernel_rfl) (fun _ _ _ h => h) (yieldsIf_of (.agg y.V) (by rfl) (fun w' hw => exec_load_rowV (.tmp 15) rfl Yb rfl y w' ⟨_, hw⟩)) (by assumption) ?_
    try simp only [Act.put, List.getElem_toArray, List.getElem_cons_succ, List.getElem_cons_zero, List.setIfInBounds_toArray, List.set_cons_zero, List.set_cons_succ]
    refine wpAnyH_take (i := 2) (v := ?_) rfl (by kernel_rfl) (by kernel_rfl) (by kernel_rfl) (fun _ _ _ h => h) (Or.inl ⟨by rfl, ?_⟩) (by assumption) ?_
    rotate_left
    · (intro w hSw; (try dsimp only at hSw); first | (go_simp; done) | (go_simp; with_reducible rfl))
    try simp only [Act.put, List.getElem_toArray, List.getElem_cons_succ, List.getElem_cons_zero, List.setIfInBounds_toArray, List.set_cons_zero, List.set_cons_succ]
    refine wpAnyH_take (i := 3) (v := ?_) rfl (by kernel_rfl) (by kernel_rfl) (by kernel_rfl) (fun _ _ _ h => h) (Or.inl ⟨by rfl, ?_⟩) (by assumption) ?_
    rotate_left
    · (intro w hSw; (try dsimp only at hSw); first | (go_simp; done) | (go_simp; with_reducible rfl))
    try simp only [Act.put, List.getElem_toArray, List.getElem_cons_succ, List.getElem_cons_zero, List.setIfInBounds_toArray, List.set_cons_zero, List.set_cons_succ]
    refine wpAnyH_take (i := 4) (v := ?_) rfl (by kernel_rfl) (by kernel_rfl) (by kernel_rfl) (fun _ _ _ h => h) (Or.inl ⟨by rfl, ?_⟩) (by assumption) ?_
    rotate_left
    · (intro w hSw; (try dsimp only at hSw); first | (go_simp; done) | (go_simp; with_reducible rfl))
    try simp only [Act.put, List.getElem_toArray, List.getElem_cons_succ, List.getElem_cons_zero, List.setIfInBounds_toArray, List.set_cons_zero, List.set_cons_succ]
    refine wpAnyH_ready (rs := [5]) (by kernel_rfl) (by simp) ?_
    refine AllReadyH.cons rfl (fun K hK => ?_) AllReadyH.nil
    rw [if_pos (by rfl)]
    (refine wp_store_row 35 _ _ rfl B y.V rfl rfl _ _ hB (by rw [y.size]; exact infoSum) (by rw [y.size]; rfl) y.one ?_)
    refine hK.out _ _ ?_ (fun hHeld => ?_)
    · ((try dsimp only); exact setRow_keep _ hHeld HNE.out.1)
    clear hK K
    try simp only [Act.put, List.getElem_toArray, List.getElem_cons_succ, List.getElem_cons_zero, List.setIfInBounds_toArray, List.set_cons_zero, List.set_cons_succ]
    refine wpAnyH_ready (rs := [6]) (by kernel_rfl) (by simp) ?_
    refine AllReadyH.cons rfl (fun K hK => ?_) AllReadyH.nil
    rw [if_pos (by rfl)]
    (refine wp_store_row 35 _ _ rfl C y.V rfl rfl _ _ (setRow_keep _ hC HNE.out.2.2) (by rw [y.size]; exact infoSum) (by rw [y.size]; rfl) y.one ?_)
    refine hK.out _ _ ?_ (fun hHeld => ?_)
    · ((try dsimp only); exact setRow_keep _ hHeld HNE.out.2.1)
    clear hK K
    try simp only [Act.put, List.getElem_toArray, List.getElem_cons_succ, List.getElem_cons_zero, List.setIfInBounds_toArray, List.set_cons_zero, List.set_cons_succ]
    refine wpAnyH_take (i := 7) (v := ?_) rfl (by kernel_rfl) (by kernel_rfl) (by kernel_rfl) (fun _ _ _ h => h) (Or.inl ⟨by rfl, ?_⟩) (by assumption) ?_
    rotate_left
    · (intro w hSw; (try dsimp only at hSw); first | (go_simp; done) | (go_simp; with_reducible rfl))
    try simp only [Act.put, List.getElem_toArray, List.getElem_cons_succ, List.getElem_cons_zero, List.setIfInBounds_toArray, List.set_cons_zero, List.set_cons_succ]
    refine wpAnyH_take (i := 8) (v := ?_) rfl (by kernel_rfl) (by kernel_rfl) (by kernel_rfl) (fun _ _ _ h => h) (Or.inl ⟨by rfl, ?_⟩) (by assumption) ?_
    rotate_left
    · (intro w hSw; (try dsimp only at hSw); first | (go_simp; done) | (go_simp; with_reducible rfl))
    try simp only [Act.put, List.getElem_toArray, List.getElem_cons_succ, List.getElem_cons_zero, List.setIfInBounds_toArray, List.set_cons_zero, List.set_cons_succ]
    refine wpAnyH_done (by kernel_rfl) ?_ _
    refine NoPanic.normal ?_
    go_wp2
    refine bodyPost_ret (v := .tuple #[.agg y.V, .agg y.V, .slice none 0 0, .bool ((ys.length : Int) == 0)]) (results_two Try.results34 _ rfl rfl rfl rfl (setRow_keep _ (setRow_heap _ _ _ _ _ _ hB) (Ne.symm HNE.out.2.2)) y.size (setRow_heap _ _ _ _ _ _ (setRow_keep _ hC HNE.out.2.2)) y.size) rfl ⟨y, y, .slice none 0 0, [], ((ys.length : Int) == 0), rfl, Hs.hid ?_, OwnP.nil _, (fun g hg => by cases hg), Nat.zero_le _, ?_⟩
    · rw [HP.out]; congr 1; cases ys <;> simp; omega
    · exact ((HE.out.drew).trans (setRow_ext _ _) (fun g hg => .inr (by simp at hg; have := HRR.out; omega))).trans (setRow_ext _ _) (fun g hg => .inr (by simp at hg; have := HRR.out; omega))
end Go.Proofs.Ytjicjadibaomkaa
