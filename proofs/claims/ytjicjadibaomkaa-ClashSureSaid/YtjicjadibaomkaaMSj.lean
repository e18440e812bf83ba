/-
  Texts of this claim, put together: SureP, CLeaves, CPrefix.
-/
import Derived.Test.YtjicjadibaomkaaMSh
import Derived.Test.YtjicjadibaomkaaMSc
set_option linter.unusedSimpArgs false
set_option linter.unusedVariables false
set_option maxHeartbeats 1000000
namespace Go.Proofs.Ytjicjadibaomkaa
open Go.RowKit Go.Hs Go.Dg

theorem app_inj {a b c d : ByteArray} (h : a ++ b = c ++ d) (hs : a.size = c.size) : a = c ∧ b = d := by
  have h1 : a.data.toList ++ b.data.toList = c.data.toList ++ d.data.toList := by
    have := congrArg (fun x : ByteArray => x.data.toList) h
    simpa [ByteArray.data_append] using this
  have h2 := List.append_inj h1 (by simpa using hs)
  exact ⟨ByteArray.ext (Array.toList_inj.1 h2.1), ByteArray.ext (Array.toList_inj.1 h2.2)⟩
theorem node2_inj {a b c d : S32} (h : node2 a.s b.s = node2 c.s d.s) : a = c ∧ b = d := by
  rw [node2_def, node2_def] at h
  obtain ⟨h1, h2⟩ := app_inj h (by rw [ByteArray.size_append, ByteArray.size_append, a.ssize, c.ssize])
  obtain ⟨_, h3⟩ := app_inj h1 rfl
  exact ⟨S32.s_inj h3, S32.s_inj h2⟩
theorem leaf2_inj {a b : ByteArray} (h : leaf2 a = leaf2 b) : a = b := by
  rw [leaf2_def, leaf2_def] at h
  exact (app_inj h rfl).2
attribute [local irreducible] dig nodeS node2 nodeT leafT
/-- Where two ways to one root part, the sums are the same. -/
theorem way_clash : ∀ (n : Nat) (ds : List Bool) (ss tt : List S32) (l l' : List ByteArray), ds.length = n → ss.length = n → tt.length = n → l ≠ [] → l' ≠ [] →
    dig ((wayL ds ss l).headD ⟨#[]⟩) = dig ((wayL ds tt l').headD ⟨#[]⟩) → ∀ k, k ≤ n → (∀ j, j < k → (wayL ds ss l)[j]? = (wayL ds tt l')[j]?) → ∀ x y, (wayL ds ss l)[k]? = some x → (wayL ds tt l')[k]? = some y → dig x = dig y
  | 0, ds, ss, tt, l, l', h1, h2, h3, hl, hl', hd, k, hk, hj, x, y, hx, hy => by
    obtain rfl : ds = [] := List.eq_nil_of_length_eq_zero h1
    obtain rfl : ss = [] := List.eq_nil_of_length_eq_zero h2
    obtain rfl : tt = [] := List.eq_nil_of_length_eq_zero h3
    obtain rfl : k = 0 := by omega
    cases l with
    | nil => exact absurd rfl hl
    | cons a l =>
      cases l' with
      | nil => exact absurd rfl hl'
      | cons b l' =>
        have e1 : wayL [] [] (a :: l) = a :: l := rfl
        have e2 : wayL [] [] (b :: l') = b :: l' := rfl
        rw [e1] at hx hd
        rw [e2] at hy hd
        simp at hx hy hd
        rw [← hx, ← hy]; exact hd
  | n + 1, ds, ss, tt, l, l', h1, h2, h3, hl, hl', hd, k, hk, hj, x, y, hx, hy => by
    obtain ⟨ds, d, rfl⟩ : ∃ a b, ds = a ++ [b] := by
      rcases List.eq_nil_or_concat ds with h | ⟨a, b, h⟩
      · rw [h] at h1; simp at h1
      · exact ⟨a, b, by rw [h, List.concat_eq_append]⟩
    obtain ⟨ss, s, rfl⟩ : ∃ a b, ss = a ++ [b] := by
      rcases List.eq_nil_or_concat ss with h | ⟨a, b, h⟩
      · rw [h] at h2; simp at h2
      · exact ⟨a, b, by rw [h, List.concat_eq_append]⟩
    obtain ⟨tt, t, rfl⟩ : ∃ a b, tt = a ++ [b] := by
      rcases List.eq_nil_or_concat tt with h | ⟨a, b, h⟩
      · rw [h] at h3; simp at h3
      · exact ⟨a, b, by rw [h, List.concat_eq_append]⟩
    have g1 : ds.length = n := by simpa using h1
    have g2 : ss.length = n := by simpa using h2
    have g3 : tt.length = n := by simpa using h3
    rw [wayL_snoc _ _ _ _ _ (by omega)] at hx hd hj
    rw [wayL_snoc _ _ _ _ _ (by omega)] at hy hd hj
    cases k with
    | zero =>
      unfold wayStep at hx hy hd
      rw [List.headD_cons, List.headD_cons] at hd
      simp only [List.getElem?_cons_zero, Option.some.injEq] at hx hy
      rw [← hx, ← hy]; exact hd
    | succ k =>
      have e0 := hj 0 (by omega)
      unfold wayStep at e0
      simp only [List.getElem?_cons_zero, Option.some.injEq] at e0
      have hh : dig ((wayL ds ss l).headD ⟨#[]⟩) = dig ((wayL ds tt l').headD ⟨#[]⟩) := by
        cases d
        · rw [if_neg (by decide), if_neg (by decide)] at e0; exact (node2_inj e0).1
        · rw [if_pos rfl, if_pos rfl] at e0; exact (node2_inj e0).2
      refine way_clash n ds ss tt l l' g1 g2 g3 hl hl' hh k (by omega) (fun j hjk => ?_) x y ?_ ?_
      · have := hj (j + 1) (by omega)
        unfold wayStep at this
        simpa using this
      · unfold wayStep at hx; simpa using hx
      · unfold wayStep at hy; simpa using hy
/-- sides reckons what proof does. -/
theorem sides_fold (L : List ByteArray) : ∀ (N n f m : Nat) (whole : Bool) (old : S32) (xs : List S32), n ≤ N → 1 ≤ m → m ≤ n →
    (sidesP L n f m whole old xs).ok = decide ((seedB (whole && firstB m n) old xs).length = (dirsB m n).length + 1) ∧
    ((sidesP L n f m whole old xs).ok = true → ∃ x zs, seedB (whole && firstB m n) old xs = x :: zs ∧ (sidesP L n f m whole old xs).x = foldO nodeS (dirsB m n) x zs ∧ (sidesP L n f m whole old xs).y = foldU nodeS (dirsB m n) x zs)
  | 0, n, f, m, whole, old, xs, hN, h1, hm => by omega
  | N + 1, n, f, m, whole, old, xs, hN, h1, hm => by
    by_cases hmn : m = n
    · subst hmn
      have hd : dirsB m m = [] := by rw [dirsB, dif_pos (.inr rfl)]
      have hf : firstB m m = true := by rw [firstB, dif_pos (.inr rfl)]
      rw [hd, hf]
      cases whole
      · rcases List.eq_nil_or_concat xs with rfl | ⟨ys, y, h⟩
        · rw [sidesP_nil L m f m false old (by simp)]
          exact ⟨by simp [seedB], fun h => by simp at h⟩
        · rw [List.concat_eq_append] at h
          subst h
          rw [sidesP_end]
          refine ⟨by cases ys <;> simp [seedB], fun h => ?_⟩
          have : ys = [] := by simpa using h
          subst this
          exact ⟨y, [], by simp [seedB], rfl, rfl⟩
      · rw [sidesP_whole]
        refine ⟨by cases xs <;> simp [seedB], fun h => ?_⟩
        have : xs = [] := by simpa using h
        subst this
        exact ⟨old, [], by simp [seedB], rfl, rfl⟩
    · have h2 : 2 ≤ n := by omega
      have hlt := halfN_lt h2
      have hpos := halfN_pos n
      have hd : dirsB m n = if m ≤ halfN n then dirsB m (halfN n) ++ [false] else dirsB (m - halfN n) (n - halfN n) ++ [true] := by rw [dirsB, dif_neg (by omega)]
      have hf : firstB m n = if m ≤ halfN n then firstB m (halfN n) else false := by rw [firstB, dif_neg (by omega)]
      obtain ⟨k, hk⟩ : ∃ k, halfN n = k := ⟨_, rfl⟩
      rw [hk] at hlt hpos hd hf
      rcases List.eq_nil_or_concat xs with rfl | ⟨ys, y, h⟩
      · rw [sidesP_nil L n f m whole old (fun h => hmn h.1)]
        refine ⟨?_, fun h => by simp at h⟩
        have : (seedB (whole && firstB m n) old []).length ≤ 1 := by unfold seedB; split <;> simp
        have h3 : 1 ≤ (dirsB m n).length := by rw [hd]; split <;> simp
        symm; simp; omega
      · rw [List.concat_eq_append] at h
        subst h
        by_cases hi : m ≤ k
        · rw [if_pos hi] at hd hf
          obtain ⟨r, hr⟩ : ∃ r, sidesP L k f m whole old ys = r := ⟨_, rfl⟩
          have IH := sides_fold L N k f m whole old ys (by omega) h1 hi
          rw [hr] at IH
          rw [sidesP_left L n f m k whole old ys y (by omega) h2 hk hi r hr, hd, hf]
          have hs : seedB (whole && firstB m k) old (ys ++ [y]) = seedB (whole && firstB m k) old ys ++ [y] := by unfold seedB; split <;> rfl
          rw [hs]
          refine ⟨by rw [IH.1]; simp, fun hok => ?_⟩
          obtain ⟨x, zs, g1, g2, g3⟩ := IH.2 hok
          have hl : (dirsB m k).length = zs.length := by
            have h9 := IH.1
            rw [show r.ok = true from hok, g1] at h9
            simp at h9; omega
          refine ⟨x, zs ++ [y], by rw [g1]; rfl, ?_, ?_⟩
          · rw [foldO_snoc nodeS _ _ _ _ _ hl, if_neg (by decide), ← g2]
          · rw [foldU_snoc nodeS _ _ _ _ _ hl, ← g3]; rfl
        · rw [if_neg hi] at hd hf
          obtain ⟨r, hr⟩ : ∃ r, sidesP L (n - k) (f + k) (m - k) false old ys = r := ⟨_, rfl⟩
          have IH := sides_fold L N (n - k) (f + k) (m - k) false old ys (by omega) (by omega) (by omega)
          rw [hr, Bool.false_and] at IH
          rw [sidesP_right L n f m k whole old ys y (by omega) h2 hk hi r hr, hd, hf, Bool.and_false]
          have hs : seedB false old (ys ++ [y]) = seedB false old ys ++ [y] := rfl
          rw [hs]
          refine ⟨by rw [IH.1]; simp, fun hok => ?_⟩
          obtain ⟨x, zs, g1, g2, g3⟩ := IH.2 hok
          have hl : (dirsB (m - k) (n - k)).length = zs.length := by
            have h9 := IH.1
            rw [show r.ok = true from hok, g1] at h9
            simp at h9; omega
          refine ⟨x, zs ++ [y], by rw [g1]; rfl, ?_, ?_⟩
          · rw [foldO_snoc nodeS _ _ _ _ _ hl, if_pos rfl, ← g2]
          · rw [foldU_snoc nodeS _ _ _ _ _ hl, ← g3]; rfl
/-- Where the pairs part, the sums are the same; where they don't, the elder root is right. -/
theorem sides_clash (L : List ByteArray) : ∀ (N n f m : Nat) (whole : Bool) (old : S32) (xs : List S32), n ≤ N → 1 ≤ m → m ≤ n → (sidesP L n f m whole old xs).ok = true → (sidesP L n f m whole old xs).y = dig (mthT L n f) →
    (∀ (k : Nat) (p : ByteArray × ByteArray), (∀ (j : Nat) (q : ByteArray × ByteArray), j < k → (sidesP L n f m whole old xs).ps.reverse[j]? = some q → q.1 = q.2) → (sidesP L n f m whole old xs).ps.reverse[k]? = some p → dig p.1 = dig p.2) ∧
    ((∀ p ∈ (sidesP L n f m whole old xs).ps, p.1 = p.2) → (sidesP L n f m whole old xs).x = dig (mthT L m f))
  | 0, n, f, m, whole, old, xs, hN, h1, hm => by omega
  | N + 1, n, f, m, whole, old, xs, hN, h1, hm => by
    by_cases hmn : m = n
    · subst hmn
      cases whole
      · rcases List.eq_nil_or_concat xs with rfl | ⟨ys, y, h⟩
        · rw [sidesP_nil L m f m false old (by simp)]
          intro h; simp at h
        · rw [List.concat_eq_append] at h
          subst h
          rw [sidesP_end]
          intro _ hy
          exact ⟨fun k p _ hp => by simp at hp, fun _ => hy⟩
      · rw [sidesP_whole]
        intro _ hy
        exact ⟨fun k p _ hp => by simp at hp, fun _ => hy⟩
    · have h2 : 2 ≤ n := by omega
      have hlt := halfN_lt h2
      have hpos := halfN_pos n
      have hnode := mthT_node (L := L) (f := f) h2
      obtain ⟨v, hv1, hv2⟩ := exists_pow n h2
      have hkv := halfN_eq hv1 hv2
      obtain ⟨k, hk⟩ : ∃ k, halfN n = k := ⟨_, rfl⟩
      rw [hk] at hlt hpos hnode hkv
      rcases List.eq_nil_or_concat xs with rfl | ⟨ys, y, h⟩
      · rw [sidesP_nil L n f m whole old (fun h => hmn h.1)]
        intro h; simp at h
      · rw [List.concat_eq_append] at h
        subst h
        by_cases hi : m ≤ k
        · obtain ⟨r, hr⟩ : ∃ r, sidesP L k f m whole old ys = r := ⟨_, rfl⟩
          have IH := sides_clash L N k f m whole old ys (by omega) h1 hi
          rw [hr] at IH
          rw [sidesP_left L n f m k whole old ys y (by omega) h2 hk hi r hr]
          intro hok hy
          have hy' : nodeS r.y y = dig (mthT L n f) := hy
          have hsame : mthT L n f = node2 r.y.s y.s → r.y = dig (mthT L k f) := fun e => by
            rw [hnode, nodeT_dig] at e
            exact (node2_inj e).1.symm
          refine ⟨fun kk p hj hp => ?_, fun hall => ?_⟩
          · simp only [List.reverse_append, List.reverse_cons, List.reverse_nil, List.nil_append, List.singleton_append] at hj hp
            cases kk with
            | zero =>
              simp at hp; subst hp
              show dig (mthT L n f) = dig (node2 r.y.s y.s)
              rw [← hy', nodeS_def]
            | succ kk =>
              have h0 := hj 0 _ (by omega) rfl
              exact (IH hok (hsame h0)).1 kk p (fun j q hjk hq => hj (j + 1) q (by omega) (by simpa using hq)) (by simpa using hp)
          · have h0 := hall (mthT L n f, node2 r.y.s y.s) (by simp)
            exact (IH hok (hsame h0)).2 (fun p hp => hall p (by simp [hp]))
        · obtain ⟨r, hr⟩ : ∃ r, sidesP L (n - k) (f + k) (m - k) false old ys = r := ⟨_, rfl⟩
          have IH := sides_clash L N (n - k) (f + k) (m - k) false old ys (by omega) (by omega) (by omega)
          rw [hr] at IH
          rw [sidesP_right L n f m k whole old ys y (by omega) h2 hk hi r hr]
          intro hok hy
          have hy' : nodeS y r.y = dig (mthT L n f) := hy
          have hsame : mthT L n f = node2 y.s r.y.s → y = dig (mthT L k f) ∧ r.y = dig (mthT L (n - k) (f + k)) := fun e => by
            rw [hnode, nodeT_dig] at e
            exact ⟨(node2_inj e).1.symm, (node2_inj e).2.symm⟩
          refine ⟨fun kk p hj hp => ?_, fun hall => ?_⟩
          · simp only [List.reverse_append, List.reverse_cons, List.reverse_nil, List.nil_append, List.singleton_append] at hj hp
            cases kk with
            | zero =>
              simp at hp; subst hp
              show dig (mthT L n f) = dig (node2 y.s r.y.s)
              rw [← hy', nodeS_def]
            | succ kk =>
              have h0 := hj 0 _ (by omega) rfl
              exact (IH hok (hsame h0).2).1 kk p (fun j q hjk hq => hj (j + 1) q (by omega) (by simpa using hq)) (by simpa using hp)
          · have h0 := hall (mthT L n f, node2 y.s r.y.s) (by simp)
            have h3 := (IH hok (hsame h0).2).2 (fun p hp => hall p (by simp [hp]))
            show nodeS y r.x = _
            have hm2 : 2 ≤ m := by omega
            have hmk : halfN m = k := by rw [hkv]; exact halfN_eq (by omega) (by omega)
            rw [h3, (hsame h0).1, mthT_node hm2, hmk, dig_nodeT]
end Go.Proofs.Ytjicjadibaomkaa
set_option linter.unusedSimpArgs false
set_option linter.unusedVariables false
set_option maxHeartbeats 4000000
set_option maxRecDepth 100000
namespace Go.Proofs.Ytjicjadibaomkaa
open Go.RowKit Go.Hs Go.Dg

theorem load_pair {w : World} {g : Nat} {a b : ByteArray} {fr : Nat × Nat} (h : w.heap[g]? = some (.cells #[.string a, .string b] 43 fr)) : (loadVar 43 ⟨g, 0, none⟩).run Try.prog w = .ok (.agg #[.string a, .string b]) w :=
  run_loadVar_row (P := Try.prog) w g 43 43 #[.string a, .string b] fr _ h Try.underlying43 rfl infoPair2
theorem results_pair {fn : Func} {p u : Tmp} (h : fn.results = #[.cell p 43, .tmp u]) (tmps : Array Value) {w : World} {g : Nat} {a b : ByteArray} {fr : Nat × Nat} {x : Value}
    (hp : tmps.getD p undef = .pointer (some ⟨g, 0, none⟩)) (hx : tmps.getD u undef = x) (hg : w.heap[g]? = some (.cells #[.string a, .string b] 43 fr)) :
    (results fn tmps).run Try.prog w = .ok (.tuple #[.agg #[.string a, .string b], x]) w := by
  rw [results_cell_tmp h, hp, hx]
  simp [asAddr, load_pair hg]
theorem inclN_zero {lf root : S32} {i n : Int} {xs : List S32} (h : inclN lf i n root xs = 0) : 0 ≤ i ∧ i < n ∧ xs.length = (dirs i.toNat n.toNat).length ∧ foldU nodeS (dirs i.toNat n.toNat) lf xs = root := by
  unfold inclN at h
  split at h
  · simp at h
  · split at h
    · rename_i h1 h2; exact ⟨by omega, by omega, h2.1, h2.2⟩
    · simp at h
/-- What Leaves, Prefix answer. -/
structure PairR (c : Prop) (p q : ByteArray) (ok : Bool) : Prop where
  isOk : ok = true ↔ c
  yes : ok = true → p ≠ q ∧ dig p = dig q
  no : ok = false → p = ⟨#[]⟩ ∧ q = ⟨#[]⟩
  sp : p.size ≤ 1001
  sq : q.size ≤ 1001
theorem PairR.none {c : Prop} (h : ¬ c) : PairR c ⟨#[]⟩ ⟨#[]⟩ false := ⟨⟨(fun h => by cases h), (fun hc => absurd hc h)⟩, (fun h => by cases h), (fun _ => ⟨rfl, rfl⟩), (by decide), (by decide)⟩
theorem ba_eqT (a : ByteArray) : (a.toList == a.toList) = true := by simp
theorem ba_eqF {a b : ByteArray} (h : a ≠ b) : (a.toList == b.toList) = false := by
  rw [Bool.eq_false_iff, ne_eq, beq_iff_eq, ByteArray.toList_eq, ByteArray.toList_eq]
  exact fun e => h (ByteArray.ext (Array.toList_inj.1 e))
theorem cleaves_any (i n : Int) (hn : n ≤ 1000) (root : S32) (a b : ByteArray) (ha : a.size ≤ 1000) (hb : b.size ≤ 1000) (xs ys : List S32) (aX : Option Addr) (cX lx : Nat) (aY : Option Addr) (cY ly : Nat) (hlx : xs.length = lx) (hly : ys.length = ly)
    (w : World) (hX : Sums32 w.heap aX cX xs) (hY : Sums32 w.heap aY cY ys) :
    Calls Try.prog 18 #[.int .i64 i, .agg (headV n root), .string a, .slice aX lx cX, .string b, .slice aY ly cY] w fun e w' => ∃ (p q : ByteArray) (ok : Bool), e = .returned (.tuple #[.agg #[.string p, .string q], .bool ok]) ∧
      Hid (PairR (a ≠ b ∧ inclN (dig (leaf2 a)) i n root xs = 0 ∧ inclN (dig (leaf2 b)) i n root ys = 0) p q ok) ∧ Ext [] w w' := by
  obtain ⟨hHd, hG, hx0, _⟩ := alloc_two' w (.cells (headV n root) 49) (.cells #[.string ⟨#[]⟩, .string ⟨#[]⟩] 43)
  have HS := Hs.hid (And.intro (hX.ext hx0 (by simp)) (hY.ext hx0 (by simp)))
  clear hX hY
  go_enter Try.func18, Try.ntmps18
  go_upto_region 1 with fail
  generalize (w.alloc (.cells (headV n root) 49)).alloc (.cells #[.string ⟨#[]⟩, .string ⟨#[]⟩] 43) = W0 at hHd hG hx0 HS ⊢
  obtain ⟨H, hHH⟩ : ∃ H, w.heap.size = H := ⟨_, rfl⟩
  obtain ⟨G, hGG⟩ : ∃ G, H + 1 = G := ⟨_, rfl⟩
  rw [hHH] at hHd hG
  rw [hGG] at hG
  try rw [hHH]
  try rw [hGG]
  have HGW := Hs.hid (show w.heap.size ≤ G by omega)
  clear hHH hGG
  have n0 := head_n (n := n) (root := root) hHd
  by_cases hab : a = b
  · subst hab
    have e0 := ba_eqT a
    have HC := Hs.hid (show ¬ (a ≠ a ∧ inclN (dig (leaf2 a)) i n root xs = 0 ∧ inclN (dig (leaf2 a)) i n root ys = 0) from fun h => h.1 rfl)
    go_wp2_with (refine wpList_store_row rfl 43 (.tmp 12) (.tmp 38) rfl G #[.string ⟨#[]⟩, .string ⟨#[]⟩] rfl rfl _ _ hG infoPair2 rfl (by simp [Value.oneCell']) ?_)
    refine bodyPost_ret (v := .tuple #[.agg #[.string ⟨#[]⟩, .string ⟨#[]⟩], .bool false]) (results_pair Try.results18 _ rfl rfl (setRow_heap _ _ _ _ _ _ hG)) rfl ⟨_, _, false, rfl, Hs.hid (PairR.none HC.out), ?_⟩
    exact hx0.trans (setRow_ext _ _) (fun g hg => .inr (by simp at hg; have := HGW.out; omega))
  · have e0 := ba_eqF hab
    have HAB := Hs.hid hab
    clear hab
    by_cases h1 : inclN (dig (leaf2 a)) i n root xs = 0
    · have HI1 := Hs.hid (pInclNil a ha i n hn root xs h1 lx hlx aX cX W0 HS.out.1)
      by_cases h2 : inclN (dig (leaf2 b)) i n root ys = 0
      · have HI2 := Hs.hid (fun w1 (hx : Ext [] W0 w1) => pInclNil b hb i n hn root ys h2 ly hly aY cY w1 (HS.out.2.ext hx (by simp)))
        obtain ⟨z0, z1, z2, z3⟩ := inclN_zero h1
        obtain ⟨_, _, z4, z5⟩ := inclN_zero h2
        obtain ⟨I, rfl⟩ : ∃ I : Nat, i = I := ⟨i.toNat, by omega⟩
        obtain ⟨N, rfl⟩ : ∃ N : Nat, n = N := ⟨n.toNat, by omega⟩
        rw [Int.toNat_natCast, Int.toNat_natCast] at z2 z3 z4 z5
        have hIN : I < N := by omega
        have hway1 := fun w1 (h : Sums32 w1.heap aX cX xs) => way_mth a ha N N I xs aX cX (Nat.le_refl _) hIN (by omega) w1 h
        have hway2 := fun w1 (h : Sums32 w1.heap aY cY ys) => way_mth b hb N N I ys aY cY (Nat.le_refl _) hIN (by omega) w1 h
        rw [hlx] at hway1
        rw [hly] at hway2
        have HW := Hs.hid (And.intro hway1 hway2)
        have HZ := Hs.hid (And.intro z2 (And.intro z3 (And.intro z4 z5)))
        have HH := Hs.hid (And.intro h1 h2)
        clear hway1 hway2 z0 z1 z2 z3 z4 z5 h1 h2 hlx hly
        go_upto_region 3 with (first
          | (refine wpList_yield (.agg (headV N root)) (by rfl) (exec_load_rowHd (.tmp 7) rfl H rfl N root _ ⟨_, hHd⟩) ?_)
          | (go_at_call 21; with_reducible refine (HI1.out).mono ?_; rintro e w1 ⟨rfl, hx1⟩; have hHd1 := hx1.same hHd List.not_mem_nil)
          | (refine wpList_yield (.agg (headV N root)) (by rfl) (exec_load_rowHd (.tmp 7) rfl H rfl N root _ ⟨_, hHd1⟩) ?_)
          | (go_at_call 21; with_reducible refine (HI2.out _ hx1).mono ?_; rintro e w2 ⟨rfl, hx2⟩))
        have hE2 := hx1.trans0 hx2
        have hG2 := hE2.same hG List.not_mem_nil
        have n2 := head_n (n := N) (root := root) (hE2.same hHd List.not_mem_nil)
        have HE2 := Hs.hid hE2
        clear hx1 hx2 hE2 hHd1 hHd n0 hG
        go_upto_region 4 with (go_at_call 10; with_reducible refine (HW.out.1 _ (HS.out.1.ext HE2.out (by simp))).mono ?_; intro e w3 hr; unfold WayE at hr; obtain ⟨vX, okX, rfl, hvX, hx3⟩ := hr)
        have n3 := hx3.below.cell (p := ⟨H, 0, none⟩) (cellIn n2)
        rw [n2] at n3
        go_upto_region 5 with (go_at_call 10; with_reducible refine (HW.out.2 _ (HS.out.2.ext (HE2.out.trans0 hx3) (by simp))).mono ?_; intro e w4 hr; unfold WayE at hr; obtain ⟨vY, okY, rfl, hvY, hx4⟩ := hr)
        have hokX : okX = true := by rw [hvX.out.isOk, HZ.out.1]; simp
        have hokY : okY = true := by rw [hvY.out.isOk, HZ.out.2.2.1]; simp
        subst hokX; subst hokY
        obtain ⟨gX, kX, rfl, hOX, _⟩ := hvX.out.yes rfl
        obtain ⟨gY, kY, rfl, hOY, _⟩ := hvY.out.yes rfl
        have hLX := wayL_len (dirs I N) xs [leaf2 a] HZ.out.1.symm
        have hLY := wayL_len (dirs I N) ys [leaf2 b] HZ.out.2.2.1.symm
        have hRX := wayL_root (dirs I N) xs [leaf2 a] _ HZ.out.1.symm rfl
        have hRY := wayL_root (dirs I N) ys [leaf2 b] _ HZ.out.2.2.1.symm rfl
        have hTX := wayL_last (dirs I N) xs [leaf2 a] (by simp)
        have hTY := wayL_last (dirs I N) ys [leaf2 b] (by simp)
        have hSX := wayL_sizes (dirs I N) xs [leaf2 a] 1001 (by decide) (by intro t ht; simp at ht; rw [ht, leaf2_size]; omega)
        have hSY := wayL_sizes (dirs I N) ys [leaf2 b] 1001 (by decide) (by intro t ht; simp at ht; rw [ht, leaf2_size]; omega)
        rw [show dig ([leaf2 a].headD ⟨#[]⟩) = dig (leaf2 a) from rfl, HZ.out.2.1] at hRX
        rw [show dig ([leaf2 b].headD ⟨#[]⟩) = dig (leaf2 b) from rfl, HZ.out.2.2.2] at hRY
        have hcl := way_clash (dirs I N).length (dirs I N) xs ys [leaf2 a] [leaf2 b] rfl HZ.out.1 HZ.out.2.2.1 (by simp) (by simp) (hRX.trans hRY.symm)
        have hLL : (dirs I N).length + 1 = (wayL (dirs I N) xs [leaf2 a]).length := by rw [hLX, HZ.out.1]; simp; omega
        have hLL2 : (dirs I N).length + 1 = (wayL (dirs I N) ys [leaf2 b]).length := by rw [hLY, HZ.out.2.2.1]; simp; omega
        have hdl : (dirs I N).length ≤ 1000 := Nat.le_trans (dirs_le N I) (by omega)
        generalize (dirs I N).length = D at hcl hLL hLL2 hdl
        generalize wayL (dirs I N) xs [leaf2 a] = TX at hOX hTX hSX hcl hLL ⊢
        generalize wayL (dirs I N) ys [leaf2 b] = TY at hOY hTY hSY hcl hLL2 ⊢
        have hx34 := hx3.trans0 hx4
        have HE := Hs.hid ((hx0.trans0 HE2.out).trans0 hx34)
        have hGW := hx34.same hG2 List.not_mem_nil
        generalize w4 = W at *
        have hfX : gX ∉ [G] := by
          intro hm; simp at hm; subst hm
          obtain ⟨cur, hc⟩ := Own.block (hOX.ext' hx4 (fun _ _ => List.not_mem_nil)) (g := gX) rfl
          rw [hGW] at hc; simp at hc
        have hfY : gY ∉ [G] := by
          intro hm; simp at hm; subst hm
          obtain ⟨cur, hc⟩ := Own.block hOY (g := gY) rfl
          rw [hGW] at hc; simp at hc
        have HCX : Hid (∀ w', Ext [G] W w' → ∀ (k : Nat) (x : ByteArray), TX[k]? = some x → w'.cell? ⟨gX, k, none⟩ = some (.string x)) := Hs.hid (fun w' hx k x hk => by
          have o := (hOX.ext' hx4 (fun _ _ => List.not_mem_nil)).ext' hx (fun g hg => by simp [Value.ownBlock] at hg; subst hg; exact hfX)
          have := Own.cells (w := w') rfl o (g := gX) rfl k (.string x) (by rw [List.getElem?_map, hk]; rfl)
          rwa [add_off] at this)
        have HCY : Hid (∀ w', Ext [G] W w' → ∀ (k : Nat) (x : ByteArray), TY[k]? = some x → w'.cell? ⟨gY, k, none⟩ = some (.string x)) := Hs.hid (fun w' hx k x hk => by
          have o := hOY.ext' hx (fun g hg => by simp [Value.ownBlock] at hg; subst hg; exact hfY)
          have := Own.cells (w := w') rfl o (g := gY) rfl k (.string x) (by rw [List.getElem?_map, hk]; rfl)
          rwa [add_off] at this)
        have HT := Hs.hid (And.intro hTX (And.intro hTY (And.intro hSX (And.intro hSY hcl))))
        rw [← hLL, ← hLL2]
        have HLL := Hs.hid (And.intro hLL hLL2)
        have hD : (D : Int) ≤ 1000 := by omega
        clear hvX hvY hOX hOY hLX hLY hRX hRY hTX hTY hSX hSY hcl hLL hLL2 hx3 hx4 hx34 hfX hfY hG2 n2 n3 hdl
        go_wp2_with fail
        go_loopw [66] (fun kv wr => ∃ k : Nat, kv = .int .i64 k ∧ k ≤ D + 1 ∧ Hid (∀ j, j < k → TX[j]? = TY[j]?) ∧ Ext [G] W wr ∧ wr.heap[G]? = some (.cells #[.string ⟨#[]⟩, .string ⟨#[]⟩] 43 (0, 0))) (fun kv _ => D + 1 - (intOf kv).toNat)
        case atStart => exact ⟨0, rfl, Nat.zero_le _, Hs.hid (fun j hj => by omega), Ext.refl _ _, hGW⟩
        case round =>
          obtain ⟨k, rfl, hkD, HJ, hEr, hGr⟩ := hrel
          by_cases hlt : k < D + 1
          · have hk2 : (k : Int) < (D : Int) + 1 := by omega
            have hk3 : k < D + 1 := hlt
            obtain ⟨x, hx⟩ : ∃ x, TX[k]? = some x := ⟨_, List.getElem?_eq_getElem (by have := HLL.out.1; omega)⟩
            obtain ⟨y, hy⟩ : ∃ y, TY[k]? = some y := ⟨_, List.getElem?_eq_getElem (by have := HLL.out.2; omega)⟩
            have HXY := Hs.hid (And.intro hx hy)
            clear hx hy
            by_cases hxy : x = y
            · subst hxy
              have e2 := ba_eqT x
              go_upto_region 10 with fail
              refine wp_region_noPanic ?_
              refine wp_region_held_drew (S := (fun w' => Ext [G] W w')) (by kernel_rfl) ?_ (fun hHeld => ?_)
              · ((try dsimp only); exact hEr.drew)
              refine wpAnyH_take (i := 0) (v := ?_) rfl (by kernel_rfl) (by kernel_rfl) (by kernel_rfl) (fun _ _ _ h => h) (Or.inl ⟨by rfl, ?_⟩) (by assumption) ?_
              rotate_left
              · (intro w hSw; (try dsimp only at hSw); first | (go_simp; done) | (go_simp; with_reducible rfl))
              try simp only [Act.put, List.getElem_toArray, List.getElem_cons_succ, List.getElem_cons_zero, List.setIfInBounds_toArray, List.set_cons_zero, List.set_cons_succ]
              refine wpAnyH_take (i := 1) (v := ?_) rfl (by kernel_rfl) (by kernel_rfl) (by kernel_rfl) (fun _ _ _ h => h) (Or.inl ⟨by rfl, ?_⟩) (by assumption) ?_
              rotate_left
              · (intro w hSw; (try dsimp only at hSw); first | (go_simp; done) | (go_simp; with_reducible rfl))
              try simp only [Act.put, List.getElem_toArray, List.getElem_cons_succ, List.getElem_cons_zero, List.setIfInBounds_toArray, List.set_cons_zero, List.set_cons_succ]
              refine wpAnyH_take (i := 2) (v := ?_) rfl (by kernel_rfl) (by kernel_rfl) (by kernel_rfl) (fun _ _ _ h => h) (Or.inl ⟨by rfl, ?_⟩) (by assumption) ?_
              rotate_left
              · (intro w hSw; (try dsimp only at hSw); first | (go_simp; done) | (go_simp; with_reducible rfl))
              try simp only [Act.put, List.getElem_toArray, List.getElem_cons_succ, List.getElem_cons_zero, List.setIfInBounds_toArray, List.set_cons_zero, List.set_cons_succ]
              refine wpAnyH_take (i := 3) (v := ?_) rfl (by kernel_rfl) (by kernel_rfl) (by kernel_rfl) (fun _ _ _ h => h) (Or.inl ⟨by rfl, ?_⟩) (by assumption) ?_
              rotate_left
              · (intro w hSw; (try dsimp only at hSw); have q0 := HCX.out _ hSw k _ HXY.out.1; first | (go_simp; done) | (go_simp; with_reducible rfl))
              try simp only [Act.put, List.getElem_toArray, List.getElem_cons_succ, List.getElem_cons_zero, List.setIfInBounds_toArray, List.set_cons_zero, List.set_cons_succ]
              refine wpAnyH_take (i := 4) (v := ?_) rfl (by kernel_rfl) (by kernel_rfl) (by kernel_rfl) (fun _ _ _ h => h) (Or.inl ⟨by rfl, ?_⟩) (by assumption) ?_
              rotate_left
              · (intro w hSw; (try dsimp only at hSw); first | (go_simp; done) | (go_simp; with_reducible rfl))
              try simp only [Act.put, List.getElem_toArray, List.getElem_cons_succ, List.getElem_cons_zero, List.setIfInBounds_toArray, List.set_cons_zero, List.set_cons_succ]
              refine wpAnyH_take (i := 5) (v := ?_) rfl (by kernel_rfl) (by kernel_rfl) (by kernel_rfl) (fun _ _ _ h => h) (Or.inl ⟨by rfl, ?_⟩) (by assumption) ?_
              rotate_left
              · (intro w hSw; (try dsimp only at hSw); first | (go_simp; done) | (go_simp; with_reducible rfl))
              try simp only [Act.put, List.getElem_toArray, List.getElem_cons_succ, List.getElem_cons_zero, List.setIfInBounds_toArray, List.set_cons_zero, List.set_cons_succ]
              refine wpAnyH_take (i := 6) (v := ?_) rfl (by kernel_rfl) (by kernel_rfl) (by kernel_rfl) (fun _ _ _ h => h) (Or.inl ⟨by rfl, ?_⟩) (by assumption) ?_
              rotate_left
              · (intro w hSw; (try dsimp only at hSw); first | (go_simp; done) | (go_simp; with_reducible rfl))
              try simp only [Act.put, List.getElem_toArray, List.getElem_cons_succ, List.getElem_cons_zero, List.setIfInBounds_toArray, List.set_cons_zero, List.set_cons_succ]
              refine wpAnyH_take (i := 7) (v := ?_) rfl (by kernel_rfl) (by kernel_rfl) (by kernel_rfl) (fun _ _ _ h => h) (Or.inl ⟨by rfl, ?_⟩) (by assumption) ?_
              rotate_left
              · (intro w hSw; (try dsimp only at hSw); have q0 := HCY.out _ hSw k _ HXY.out.2; first | (go_simp; done) | (go_simp; with_reducible rfl))
              try simp only [Act.put, List.getElem_toArray, List.getElem_cons_succ, List.getElem_cons_zero, List.setIfInBounds_toArray, List.set_cons_zero, List.set_cons_succ]
              refine wpAnyH_take (i := 8) (v := ?_) rfl (by kernel_rfl) (by kernel_rfl) (by kernel_rfl) (fun _ _ _ h => h) (Or.inl ⟨by rfl, ?_⟩) (by assumption) ?_
              rotate_left
              · (intro w hSw; (try dsimp only at hSw); first | (go_simp; done) | (go_simp; with_reducible rfl))
              try simp only [Act.put, List.getElem_toArray, List.getElem_cons_succ, List.getElem_cons_zero, List.setIfInBounds_toArray, List.set_cons_zero, List.set_cons_succ]
              refine wpAnyH_done (by kernel_rfl) ?_ _
              refine NoPanic.normal ?_
              go_wp2
              go_round
              case rel => exact ⟨k + 1, by go_num, by omega, Hs.hid (fun j hj => by
                  rcases Nat.lt_succ_iff_lt_or_eq.1 hj with h | rfl
                  · exact HJ.out j h
                  · rw [HXY.out.1, HXY.out.2]), hHeld, hGr⟩
              case measure => simp [intOf]; omega
            · have e2 := ba_eqF hxy
              have HXN := Hs.hid hxy
              clear hxy
              go_upto_region 10 with fail
              refine wp_region_noPanic ?_
              refine wp_region_held_drew (S := (fun w' => Ext [G] W w')) (by kernel_rfl) ?_ (fun hHeld => ?_)
              · ((try dsimp only); exact hEr.drew)
              refine wpAnyH_take (i := 0) (v := ?_) rfl (by kernel_rfl) (by kernel_rfl) (by kernel_rfl) (fun _ _ _ h => h) (Or.inl ⟨by rfl, ?_⟩) (by assumption) ?_
              rotate_left
              · (intro w hSw; (try dsimp only at hSw); first | (go_simp; done) | (go_simp; with_reducible rfl))
              try simp only [Act.put, List.getElem_toArray, List.getElem_cons_succ, List.getElem_cons_zero, List.setIfInBounds_toArray, List.set_cons_zero, List.set_cons_succ]
              refine wpAnyH_take (i := 1) (v := ?_) rfl (by kernel_rfl) (by kernel_rfl) (by kernel_rfl) (fun _ _ _ h => h) (Or.inl ⟨by rfl, ?_⟩) (by assumption) ?_
              rotate_left
              · (intro w hSw; (try dsimp only at hSw); first | (go_simp; done) | (go_simp; with_reducible rfl))
              try simp only [Act.put, List.getElem_toArray, List.getElem_cons_succ, List.getElem_cons_zero, List.setIfInBounds_toArray, List.set_cons_zero, List.set_cons_succ]
              refine wpAnyH_take (i := 2) (v := ?_) rfl (by kernel_rfl) (by kernel_rfl) (by kernel_rfl) (fun _ _ _ h => h) (Or.inl ⟨by rfl, ?_⟩) (by assumption) ?_
              rotate_left
              · (intro w hSw; (try dsimp only at hSw); first | (go_simp; done) | (go_simp; with_reducible rfl))
              try simp only [Act.put, List.getElem_toArray, List.getElem_cons_succ, List.getElem_cons_zero, List.setIfInBounds_toArray, List.set_cons_zero, List.set_cons_succ]
              refine wpAnyH_take (i := 3) (v := ?_) rfl (by kernel_rfl) (by kernel_rfl) (by kernel_rfl) (fun _ _ _ h => h) (Or.inl ⟨by rfl, ?_⟩) (by assumption) ?_
              rotate_left
              · (intro w hSw; (try dsimp only at hSw); have q0 := HCX.out _ hSw k _ HXY.out.1; first | (go_simp; done) | (go_simp; with_reducible rfl))
              try simp only [Act.put, List.getElem_toArray, List.getElem_cons_succ, List.getElem_cons_zero, List.setIfInBounds_toArray, List.set_cons_zero, List.set_cons_succ]
              refine wpAnyH_take (i := 4) (v := ?_) rfl (by kernel_rfl) (by kernel_rfl) (by kernel_rfl) (fun _ _ _ h => h) (Or.inl ⟨by rfl, ?_⟩) (by assumption) ?_
              rotate_left
              · (intro w hSw; (try dsimp only at hSw); first | (go_simp; done) | (go_simp; with_reducible rfl))
              try simp only [Act.put, List.getElem_toArray, List.getElem_cons_succ, List.getElem_cons_zero, List.setIfInBounds_toArray, List.set_cons_zero, List.set_cons_succ]
              refine wpAnyH_take (i := 5) (v := ?_) rfl (by kernel_rfl) (by kernel_rfl) (by kernel_rfl) (fun _ _ _ h => h) (Or.inl ⟨by rfl, ?_⟩) (by assumption) ?_
              rotate_left
              · (intro w hSw; (try dsimp only at hSw); first | (go_simp; done) | (go_simp; with_reducible rfl))
              try simp only [Act.put, List.getElem_toArray, List.getElem_cons_succ, List.getElem_cons_zero, List.setIfInBounds_toArray, List.set_cons_zero, List.set_cons_succ]
              refine wpAnyH_take (i := 6) (v := ?_) rfl (by kernel_rfl) (by kernel_rfl) (by kernel_rfl) (fun _ _ _ h => h) (Or.inl ⟨by rfl, ?_⟩) (by assumption) ?_
              rotate_left
              · (intro w hSw; (try dsimp only at hSw); first | (go_simp; done) | (go_simp; with_reducible rfl))
              try simp only [Act.put, List.getElem_toArray, List.getElem_cons_succ, List.getElem_cons_zero, List.setIfInBounds_toArray, List.set_cons_zero, List.set_cons_succ]
              refine wpAnyH_take (i := 7) (v := ?_) rfl (by kernel_rfl) (by kernel_rfl) (by kernel_rfl) (fun _ _ _ h => h) (Or.inl ⟨by rfl, ?_⟩) (by assumption) ?_
              rotate_left
              · (intro w hSw; (try dsimp only at hSw); have q0 := HCY.out _ hSw k _ HXY.out.2; first | (go_simp; done) | (go_simp; with_reducible rfl))
              try simp only [Act.put, List.getElem_toArray, List.getElem_cons_succ, List.getElem_cons_zero, List.setIfInBounds_toArray, List.set_cons_zero, List.set_cons_succ]
              refine wpAnyH_take (i := 8) (v := ?_) rfl (by kernel_rfl) (by kernel_rfl) (by kernel_rfl) (fun _ _ _ h => h) (Or.inl ⟨by rfl, ?_⟩) (by assumption) ?_
              rotate_left
              · (intro w hSw; (try dsimp only at hSw); first | (go_simp; done) | (go_simp; with_reducible rfl))
              try simp only [Act.put, List.getElem_toArray, List.getElem_cons_succ, List.getElem_cons_zero, List.setIfInBounds_toArray, List.set_cons_zero, List.set_cons_succ]
              refine wpAnyH_done (by kernel_rfl) ?_ _
              refine NoPanic.normal ?_
              clear hHeld
              go_upto_region 11 with fail
              refine wp_region_noPanic ?_
              refine wp_region_held_drew (S := (fun w' => Ext [G] W w')) (by kernel_rfl) ?_ (fun hHeld => ?_)
              · ((try dsimp only); exact hEr.drew.drew)
              refine wpAnyH_take (i := 0) (v := ?_) rfl (by kernel_rfl) (by kernel_rfl) (by kernel_rfl) (fun _ _ _ h => h) (Or.inl ⟨by rfl, ?_⟩) (by assumption) ?_
              rotate_left
              · (intro w hSw; (try dsimp only at hSw); first | (go_simp; done) | (go_simp; with_reducible rfl))
              try simp only [Act.put, List.getElem_toArray, List.getElem_cons_succ, List.getElem_cons_zero, List.setIfInBounds_toArray, List.set_cons_zero, List.set_cons_succ]
              refine wpAnyH_take (i := 1) (v := ?_) rfl (by kernel_rfl) (by kernel_rfl) (by kernel_rfl) (fun _ _ _ h => h) (Or.inl ⟨by rfl, ?_⟩) (by assumption) ?_
              rotate_left
              · (intro w hSw; (try dsimp only at hSw); first | (go_simp; done) | (go_simp; with_reducible rfl))
              try simp only [Act.put, List.getElem_toArray, List.getElem_cons_succ, List.getElem_cons_zero, List.setIfInBounds_toArray, List.set_cons_zero, List.set_cons_succ]
              refine wpAnyH_take (i := 2) (v := ?_) rfl (by kernel_rfl) (by kernel_rfl) (by kernel_rfl) (fun _ _ _ h => h) (Or.inl ⟨by rfl, ?_⟩) (by assumption) ?_
              rotate_left
              · (intro w hSw; (try dsimp only at hSw); first | (go_simp; done) | (go_simp; with_reducible rfl))
              try simp only [Act.put, List.getElem_toArray, List.getElem_cons_succ, List.getElem_cons_zero, List.setIfInBounds_toArray, List.set_cons_zero, List.set_cons_succ]
              refine wpAnyH_take (i := 3) (v := ?_) rfl (by kernel_rfl) (by kernel_rfl) (by kernel_rfl) (fun _ _ _ h => h) (Or.inl ⟨by rfl, ?_⟩) (by assumption) ?_
              rotate_left
              · (intro w hSw; (try dsimp only at hSw); have q0 := HCX.out _ hSw k _ HXY.out.1; first | (go_simp; done) | (go_simp; with_reducible rfl))
              try simp only [Act.put, List.getElem_toArray, List.getElem_cons_succ, List.getElem_cons_zero, List.setIfInBounds_toArray, List.set_cons_zero, List.set_cons_succ]
              refine wpAnyH_take (i := 4) (v := ?_) rfl (by kernel_rfl) (by kernel_rfl) (by kernel_rfl) (fun _ _ _ h => h) (Or.inl ⟨by rfl, ?_⟩) (by assumption) ?_
              rotate_left
              · (intro w hSw; (try dsimp only at hSw); first | (go_simp; done) | (go_simp; with_reducible rfl))
              try simp only [Act.put, List.getElem_toArray, List.getElem_cons_succ, List.getElem_cons_zero, List.setIfInBounds_toArray, List.set_cons_zero, List.set_cons_succ]
              refine wpAnyH_take (i := 5) (v := ?_) rfl (by kernel_rfl) (by kernel_rfl) (by kernel_rfl) (fun _ _ _ h => h) (Or.inl ⟨by rfl, ?_⟩) (by assumption) ?_
              rotate_left
              · (intro w hSw; (try dsimp only at hSw); first | (go_simp; done) | (go_simp; with_reducible rfl))
              try simp only [Act.put, List.getElem_toArray, List.getElem_cons_succ, List.getElem_cons_zero, List.setIfInBounds_toArray, List.set_cons_zero, List.set_cons_succ]
              refine wpAnyH_take (i := 6) (v := ?_) rfl (by kernel_rfl) (by kernel_rfl) (by kernel_rfl) (fun _ _ _ h => h) (Or.inl ⟨by rfl, ?_⟩) (by assumption) ?_
              rotate_left
              · (intro w hSw; (try dsimp only at hSw); first | (go_simp; done) | (go_simp; with_reducible rfl))
              try simp only [Act.put, List.getElem_toArray, List.getElem_cons_succ, List.getElem_cons_zero, List.setIfInBounds_toArray, List.set_cons_zero, List.set_cons_succ]
              refine wpAnyH_take (i := 7) (v := ?_) rfl (by kernel_rfl) (by kernel_rfl) (by kernel_rfl) (fun _ _ _ h => h) (Or.inl ⟨by rfl, ?_⟩) (by assumption) ?_
              rotate_left
              · (intro w hSw; (try dsimp only at hSw); have q0 := HCY.out _ hSw k _ HXY.out.2; first | (go_simp; done) | (go_simp; with_reducible rfl))
              try simp only [Act.put, List.getElem_toArray, List.getElem_cons_succ, List.getElem_cons_zero, List.setIfInBounds_toArray, List.set_cons_zero, List.set_cons_succ]
              refine wpAnyH_take (i := 8) (v := ?_) rfl (by kernel_rfl) (by kernel_rfl) (by kernel_rfl) (fun _ _ _ h => h) (Or.inl ⟨by rfl, ?_⟩) (by assumption) ?_
              rotate_left
              · (intro w hSw; (try dsimp only at hSw); first | (go_simp; done) | (go_simp; with_reducible rfl))
              try simp only [Act.put, List.getElem_toArray, List.getElem_cons_succ, List.getElem_cons_zero, List.setIfInBounds_toArray, List.set_cons_zero, List.set_cons_succ]
              refine wpAnyH_ready (rs := [9]) (by kernel_rfl) (by simp) ?_
              refine AllReadyH.cons rfl (fun K hK => ?_) AllReadyH.nil
              rw [if_pos (by rfl)]
              (refine wp_store_row 43 _ _ rfl G #[.string x, .string y] rfl rfl _ _ hGr infoPair2 rfl (by simp [Value.oneCell']) ?_)
              refine hK.out _ _ ?_ (fun hHeld => ?_)
              · ((try dsimp only); exact Ext.trans hHeld (setRow_ext _ _) (fun g hg => .inl hg))
              clear hK K
              try simp only [Act.put, List.getElem_toArray, List.getElem_cons_succ, List.getElem_cons_zero, List.setIfInBounds_toArray, List.set_cons_zero, List.set_cons_succ]
              refine wpAnyH_take (i := 10) (v := ?_) rfl (by kernel_rfl) (by kernel_rfl) (by kernel_rfl) (fun _ _ _ h => h) (Or.inl ⟨by rfl, ?_⟩) (by assumption) ?_
              rotate_left
              · (intro w hSw; (try dsimp only at hSw); first | (go_simp; done) | (go_simp; with_reducible rfl))
              try simp only [Act.put, List.getElem_toArray, List.getElem_cons_succ, List.getElem_cons_zero, List.setIfInBounds_toArray, List.set_cons_zero, List.set_cons_succ]
              refine wpAnyH_done (by kernel_rfl) ?_ _
              refine NoPanic.normal ?_
              go_wp2
              refine bodyPost_ret (v := .tuple #[.agg #[.string x, .string y], .bool true]) (results_pair Try.results18 _ rfl rfl (setRow_heap _ _ _ _ _ _ hGr)) rfl ⟨x, y, true, rfl, Hs.hid ?_, ?_⟩
              · refine ⟨⟨fun _ => ⟨HAB.out, HH.out⟩, fun _ => rfl⟩, fun _ => ⟨HXN.out, ?_⟩, (fun h => by cases h), HT.out.2.2.1 x (List.mem_of_getElem? HXY.out.1), HT.out.2.2.2.1 y (List.mem_of_getElem? HXY.out.2)⟩
                exact HT.out.2.2.2.2 k (by omega) HJ.out x y HXY.out.1 HXY.out.2
              · exact HE.out.trans hHeld (fun g hg => .inr (by simp at hg; have := HGW.out; omega))
          · exfalso
            have hkD2 : k = D + 1 := by omega
            subst hkD2
            have h9 := HT.out.1
            have h8 := HT.out.2.1
            rw [List.getLast?_eq_getElem?, ← HLL.out.1] at h9
            rw [List.getLast?_eq_getElem?, ← HLL.out.2] at h8
            rw [HJ.out _ (by omega), h8] at h9
            simp at h9
            exact HAB.out (leaf2_inj h9).symm
      · have HI2 := Hs.hid (fun w1 (hx : Ext [] W0 w1) => pInclErr _ h2 b hb i n hn root ys rfl ly hly aY cY w1 (HS.out.2.ext hx (by simp)))
        have HC := Hs.hid (show ¬ (a ≠ b ∧ inclN (dig (leaf2 a)) i n root xs = 0 ∧ inclN (dig (leaf2 b)) i n root ys = 0) from fun h => h2 h.2.2)
        clear h1 h2 hlx hly
        go_wp2_with (first
          | (refine wpList_yield (.agg (headV n root)) (by rfl) (exec_load_rowHd (.tmp 7) rfl H rfl n root _ ⟨_, hHd⟩) ?_)
          | (go_at_call 21; with_reducible refine (HI1.out).mono ?_; rintro e w1 ⟨rfl, hx1⟩; have hHd1 := hx1.same hHd List.not_mem_nil)
          | (refine wpList_yield (.agg (headV n root)) (by rfl) (exec_load_rowHd (.tmp 7) rfl H rfl n root _ ⟨_, hHd1⟩) ?_)
          | (go_at_call 21; with_reducible refine (HI2.out _ hx1).mono ?_; rintro e w2 ⟨pp, rfl, _, hx2⟩; have hG2 := (hx1.trans0 hx2).same hG List.not_mem_nil)
          | (refine wpList_store_row rfl 43 (.tmp 12) (.tmp 38) rfl G #[.string ⟨#[]⟩, .string ⟨#[]⟩] rfl rfl _ _ hG2 infoPair2 rfl (by simp [Value.oneCell']) ?_))
        refine bodyPost_ret (v := .tuple #[.agg #[.string ⟨#[]⟩, .string ⟨#[]⟩], .bool false]) (results_pair Try.results18 _ rfl rfl (setRow_heap _ _ _ _ _ _ hG2)) rfl ⟨_, _, false, rfl, Hs.hid (PairR.none HC.out), ?_⟩
        exact ((hx0.trans0 hx1).trans0 hx2).trans (setRow_ext _ _) (fun g hg => .inr (by simp at hg; have := HGW.out; omega))
    · have HI1 := Hs.hid (pInclErr _ h1 a ha i n hn root xs rfl lx hlx aX cX W0 HS.out.1)
      have HC := Hs.hid (show ¬ (a ≠ b ∧ inclN (dig (leaf2 a)) i n root xs = 0 ∧ inclN (dig (leaf2 b)) i n root ys = 0) from fun h => h1 h.2.1)
      clear h1 hlx hly
      go_wp2_with (first
        | (refine wpList_yield (.agg (headV n root)) (by rfl) (exec_load_rowHd (.tmp 7) rfl H rfl n root _ ⟨_, hHd⟩) ?_)
        | (go_at_call 21; with_reducible refine (HI1.out).mono ?_; rintro e w1 ⟨pp, rfl, _, hx1⟩; have hG1 := hx1.same hG List.not_mem_nil)
        | (refine wpList_store_row rfl 43 (.tmp 12) (.tmp 38) rfl G #[.string ⟨#[]⟩, .string ⟨#[]⟩] rfl rfl _ _ hG1 infoPair2 rfl (by simp [Value.oneCell']) ?_))
      refine bodyPost_ret (v := .tuple #[.agg #[.string ⟨#[]⟩, .string ⟨#[]⟩], .bool false]) (results_pair Try.results18 _ rfl rfl (setRow_heap _ _ _ _ _ _ hG1)) rfl ⟨_, _, false, rfl, Hs.hid (PairR.none HC.out), ?_⟩
      exact (hx0.trans0 hx1).trans (setRow_ext _ _) (fun g hg => .inr (by simp at hg; have := HGW.out; omega))
end Go.Proofs.Ytjicjadibaomkaa
set_option linter.unusedSimpArgs false
set_option linter.unusedVariables false
set_option maxHeartbeats 40000000
set_option maxRecDepth 100000
namespace Go.Proofs.Ytjicjadibaomkaa
open Go.RowKit Go.Hs Go.Dg

theorem exec_eqVs {a : Act} {o : Oper} (x y : Operand) (t : TypeId) (ho : o.op = Op.binOp .eql 35 x y t) (p q : S32) (hx : a.eval x = .agg p.V) (hy : a.eval y = .agg q.V) (h : p = q) (w : World) :
    (execOp a.eval o).run Try.prog w = .ok (.value (.bool true)) w := by
  subst h
  unfold execOp
  simp only [ho, hx, hy, Sem.run_bind, run_guard_sum _ _ _ _ _ _ (.inl rfl), Result.andThen_ok, binOp, run_eq_V, Sem.run_pure, decide_true]
theorem exec_eqVn {a : Act} {o : Oper} (x y : Operand) (t : TypeId) (ho : o.op = Op.binOp .eql 35 x y t) (p q : S32) (hx : a.eval x = .agg p.V) (hy : a.eval y = .agg q.V) (h : p ≠ q) (w : World) :
    (execOp a.eval o).run Try.prog w = .ok (.value (.bool false)) w := by
  unfold execOp
  simp only [ho, hx, hy, Sem.run_bind, run_guard_sum _ _ _ _ _ _ (.inl rfl), Result.andThen_ok, binOp, run_eq_V, Sem.run_pure, decide_eq_false h]
theorem pConsNil (m n : Int) (hn : n ≤ 1000) (old root : S32) (xs : List S32) (hr : consN m n old root xs = 0) (L : Nat) (hL : xs.length = L) (ao : Option Addr) (cap : Nat) (w : World) (hS : Sums32 w.heap ao cap xs) :
    Calls Try.prog 22 #[.agg (headV m old), .agg (headV n root), .slice ao L cap] w fun e w' => e = .returned .nilIface ∧ Ext [] w w' := by
  subst hL
  refine (pConsH_any m n hn old root xs ao cap w hS).mono ?_
  rintro e w' ⟨v, h1, h2, h3⟩
  rw [hr] at h2
  rcases h2.out with ⟨_, h⟩ | ⟨h, _⟩
  · exact ⟨by rw [h1, h], h3⟩
  · exact absurd rfl h
theorem pConsErr (m n : Int) (hn : n ≤ 1000) (old root : S32) (xs : List S32) (hr : consN m n old root xs ≠ 0) (L : Nat) (hL : xs.length = L) (ao : Option Addr) (cap : Nat) (w : World) (hS : Sums32 w.heap ao cap xs) :
    Calls Try.prog 22 #[.agg (headV m old), .agg (headV n root), .slice ao L cap] w fun e w' => ∃ p, e = .returned (.iface 99 p) ∧ Ext [] w w' := by
  subst hL
  refine (pConsH_any m n hn old root xs ao cap w hS).mono ?_
  rintro e w' ⟨v, h1, h2, h3⟩
  rcases h2.out with ⟨h, _⟩ | ⟨_, h4⟩
  · exact absurd h hr
  · obtain ⟨b, u, rfl, _, _⟩ := h4
    exact ⟨_, h1, h3⟩
/-- Leaves as an argument: none, or a block's. -/
def LvArg (h : Array Obj) (ao : Option Addr) (L : List ByteArray) : Prop := L = [] ∨ ∃ b, ao = some ⟨b, 0, none⟩ ∧ LeafAt h b 0 L
theorem LvArg.ext0 {w w' : World} {ao : Option Addr} {L : List ByteArray} (h : LvArg w.heap ao L) (x : Ext [] w w') : LvArg w'.heap ao L := by
  rcases h with h | ⟨b, h1, h2⟩
  · exact .inl h
  · exact .inr ⟨b, h1, h2.ext0 x⟩
theorem croot0_any (ao : Option Addr) (cap : Nat) (w : World) : Calls Try.prog 36 #[.slice ao 0 cap] w fun e w' => ∃ y : S32, e = .returned (.agg y.V) ∧ Hid (y = dig ⟨#[]⟩) ∧ Ext [] w w' := by
  have hR := heap_new w (.cells zeroS.V 35)
  have hx0 := (Ext.refl [] w).alloc (.cells zeroS.V 35)
  rw [zeroS_lit] at hR hx0
  go_enter Try.func36, Try.ntmps36
  go_upto_region 3 with fail
  generalize w.alloc (.cells #[.int .u8 0, .int .u8 0, .int .u8 0, .int .u8 0, .int .u8 0, .int .u8 0, .int .u8 0, .int .u8 0, .int .u8 0, .int .u8 0, .int .u8 0, .int .u8 0, .int .u8 0, .int .u8 0, .int .u8 0, .int .u8 0, .int .u8 0, .int .u8 0, .int .u8 0, .int .u8 0, .int .u8 0, .int .u8 0, .int .u8 0, .int .u8 0, .int .u8 0, .int .u8 0, .int .u8 0, .int .u8 0, .int .u8 0, .int .u8 0, .int .u8 0, .int .u8 0] 35) = W at hR hx0 ⊢
  obtain ⟨R, hRR⟩ : ∃ R, w.heap.size = R := ⟨_, rfl⟩
  rw [hRR] at hR ⊢
  have HRR := Hs.hid (show w.heap.size ≤ R from Nat.le_of_eq hRR)
  clear hRR
  go_wp2_with (first
    | (go_at_call 12; refine (ofS_any ⟨#[]⟩ (by decide) _).mono ?_; rintro e w1 ⟨y1, rfl, hy1, hx1⟩; have hR1 := hx1.same hR List.not_mem_nil)
    | (refine wpList_store_row rfl 35 (.tmp 2) (.tmp 8) rfl R y1.V rfl rfl _ _ hR1 (by rw [y1.size]; exact infoSum) (by rw [y1.size]; rfl) y1.one ?_))
  refine bodyPost_ret (v := .agg y1.V) (results_cell_row (P := Try.prog) Try.results36 _ _ R _ _ _ _ rfl (setRow_heap _ _ _ _ _ _ hR1) Try.underlying35 rfl (by rw [y1.size]; exact infoSum)) rfl ⟨y1, rfl, hy1, ?_⟩
  exact (hx0.trans0 hx1).trans (setRow_ext _ _) (fun g hg => .inr (by simp at hg; have := HRR.out; omega))
theorem crootT_any (L : List ByteArray) (HL : Hid (L.length ≤ 40 ∧ ∀ s ∈ L, s.size ≤ 20)) (ao : Option Addr) (m cap : Nat) (hm : m ≤ L.length) (hcap : m ≤ cap) (hcm : cap ≤ 9223372036854775807) (w : World) (hL : LvArg w.heap ao L) :
    Calls Try.prog 36 #[.slice ao m cap] w fun e w' => ∃ y : S32, e = .returned (.agg y.V) ∧ Hid (y = dig (rootT L m)) ∧ Ext [] w w' := by
  rcases Nat.eq_zero_or_pos m with rfl | h
  · exact croot0_any ao cap w
  · have hr : rootT L m = mthT L m 0 := if_neg (by omega)
    rw [hr]
    rcases hL with rfl | ⟨b, rfl, hA⟩
    · simp at hm; omega
    · exact croot_mth b 0 L HL m m 0 0 cap (Nat.le_refl _) h (by omega) rfl hcap hcm w hA
theorem prefix_pure {L : List ByteArray} {M n : Nat} {claim : S32} {xs : List S32} (hn : n = L.length) (h1 : 1 ≤ M) (hlt : M < n) (h : consN M n claim (dig (rootT L n)) xs = 0) :
    (sidesP L n 0 M true claim xs).ok = true ∧ (sidesP L n 0 M true claim xs).y = dig (mthT L n 0) ∧ (sidesP L n 0 M true claim xs).x = claim := by
  have hr : rootT L n = mthT L n 0 := if_neg (by omega)
  rw [hr] at h
  unfold consN at h
  rw [if_neg (by omega), if_neg (by omega), if_neg (by omega), Int.toNat_natCast, Int.toNat_natCast] at h
  obtain ⟨g1, g2⟩ := sides_fold L n n 0 M true claim xs (Nat.le_refl _) h1 (by omega)
  rw [Bool.true_and] at g1 g2
  cases hs : seedB (firstB M n) claim xs with
  | nil => rw [hs] at h; simp at h
  | cons x zs =>
    rw [hs] at h g1 g2
    simp only [] at h
    split at h
    · rename_i hc
      have hok : (sidesP L n 0 M true claim xs).ok = true := by rw [g1]; simp [hc.1]
      obtain ⟨x', zs', e, e1, e2⟩ := g2 hok
      simp only [List.cons.injEq] at e
      obtain ⟨rfl, rfl⟩ := e
      exact ⟨hok, by rw [e2]; exact hc.2.2, by rw [e1]; exact hc.2.1⟩
    · simp at h
/-- When a wrong elder root is proved. -/
def PfxC (L : List ByteArray) (n : Nat) (m : Int) (claim : S32) (xs : List S32) : Prop := 0 ≤ m ∧ m ≤ n ∧ consN m n claim (dig (rootT L n)) xs = 0 ∧ dig (rootT L m.toNat) ≠ claim
def PairE (w : World) (c : Prop) (e : Ending) (w' : World) : Prop := ∃ (p q : ByteArray) (ok : Bool), e = .returned (.tuple #[.agg #[.string p, .string q], .bool ok]) ∧ Hid (PairR c p q ok) ∧ Ext [] w w'
theorem cprefix_any (L : List ByteArray) (HL : Hid (L.length ≤ 40 ∧ ∀ s ∈ L, s.size ≤ 20)) (ao : Option Addr) (n cap : Nat) (hn : n = L.length) (hcap : n ≤ cap) (hcm : cap ≤ 9223372036854775807) (m : Int) (claim : S32) (xs : List S32) (ao2 : Option Addr) (cap2 nx : Nat) (hnx : xs.length = nx)
    (w : World) (hL : LvArg w.heap ao L) (hS : Sums32 w.heap ao2 cap2 xs) :
    Calls Try.prog 19 #[.int .i64 m, .agg claim.V, .slice ao n cap, .slice ao2 nx cap2] w (PairE w (PfxC L n m claim xs)) := by
  obtain ⟨hA, hG, hx0, _⟩ := alloc_two' w (.cells claim.V 35) (.cells #[.string ⟨#[]⟩, .string ⟨#[]⟩] 43)
  obtain ⟨now, hnow'⟩ : ∃ now, dig (rootT L n) = now := ⟨_, rfl⟩
  have HNOW := Hs.hid hnow'
  clear hnow'
  have HRT := Hs.hid (fun w' (h : Ext [] w w') => crootT_any L HL ao n cap (by omega) hcap hcm w' (hL.ext0 h))
  have hn40 : n ≤ 40 := by have := HL.out.1; omega
  have hn40' : (n : Int) ≤ 40 := by omega
  have HLS := Hs.hid (And.intro hL hS)
  have HN := Hs.hid hn
  clear hL hS hn
  go_enter Try.func19, Try.ntmps19
  go_upto_region 1 with fail
  generalize (w.alloc (.cells claim.V 35)).alloc (.cells #[.string ⟨#[]⟩, .string ⟨#[]⟩] 43) = W0 at hA hG hx0 ⊢
  obtain ⟨A, hAA⟩ : ∃ H, w.heap.size = H := ⟨_, rfl⟩
  obtain ⟨G, hGG⟩ : ∃ G, A + 1 = G := ⟨_, rfl⟩
  rw [hAA] at hA hG
  rw [hGG] at hG
  try rw [hAA]
  try rw [hGG]
  have HGW := Hs.hid (show w.heap.size ≤ G ∧ w.heap.size ≤ A by omega)
  clear hAA hGG
  go_upto_region 2 with (first
    | (go_at_call 36; with_reducible refine (HRT.out _ hx0).mono ?_; rintro e w1 ⟨nw, rfl, hnow, hx1⟩; have hnw : nw = now := hnow.out.trans HNOW.out; subst nw)
    | (refine wpList_store_row rfl 35 (.tmp 10) (.tmp 16) rfl w1.heap.size now.V rfl rfl _ _ (heap_new w1 _) (by rw [now.size]; exact infoSum) (by rw [now.size]; rfl) now.one ?_))
  have hR := setRow_heap _ _ _ now.V _ _ (heap_new w1 (.cells #[.int .u8 0, .int .u8 0, .int .u8 0, .int .u8 0, .int .u8 0, .int .u8 0, .int .u8 0, .int .u8 0, .int .u8 0, .int .u8 0, .int .u8 0, .int .u8 0, .int .u8 0, .int .u8 0, .int .u8 0, .int .u8 0, .int .u8 0, .int .u8 0, .int .u8 0, .int .u8 0, .int .u8 0, .int .u8 0, .int .u8 0, .int .u8 0, .int .u8 0, .int .u8 0, .int .u8 0, .int .u8 0, .int .u8 0, .int .u8 0, .int .u8 0, .int .u8 0] 35))
  have hx2 := boxExt' (w := w1) (.cells #[.int .u8 0, .int .u8 0, .int .u8 0, .int .u8 0, .int .u8 0, .int .u8 0, .int .u8 0, .int .u8 0, .int .u8 0, .int .u8 0, .int .u8 0, .int .u8 0, .int .u8 0, .int .u8 0, .int .u8 0, .int .u8 0, .int .u8 0, .int .u8 0, .int .u8 0, .int .u8 0, .int .u8 0, .int .u8 0, .int .u8 0, .int .u8 0, .int .u8 0, .int .u8 0, .int .u8 0, .int .u8 0, .int .u8 0, .int .u8 0, .int .u8 0, .int .u8 0] 35) now.V
  generalize (w1.alloc (.cells #[.int .u8 0, .int .u8 0, .int .u8 0, .int .u8 0, .int .u8 0, .int .u8 0, .int .u8 0, .int .u8 0, .int .u8 0, .int .u8 0, .int .u8 0, .int .u8 0, .int .u8 0, .int .u8 0, .int .u8 0, .int .u8 0, .int .u8 0, .int .u8 0, .int .u8 0, .int .u8 0, .int .u8 0, .int .u8 0, .int .u8 0, .int .u8 0, .int .u8 0, .int .u8 0, .int .u8 0, .int .u8 0, .int .u8 0, .int .u8 0, .int .u8 0, .int .u8 0] 35)).setRow w1.heap.size now.V = W2 at hR hx2 ⊢
  obtain ⟨R, hRR⟩ : ∃ R, w1.heap.size = R := ⟨_, rfl⟩
  rw [hRR] at hR ⊢
  clear hRR
  have hx12 := hx1.trans0 hx2
  replace hA := hx12.same hA List.not_mem_nil
  replace hG := hx12.same hG List.not_mem_nil
  have HE := Hs.hid (hx0.trans0 hx12)
  have HSU := Hs.hid (HLS.out.2.ext HE.out (by simp))
  clear hx0 hx1 hx2 hx12 hnow
  by_cases hm0 : m < 0
  · have HC := Hs.hid (show ¬ PfxC L n m claim xs from fun h => by have := h.1; have := h.2.1; omega)
    go_wp2_with (refine wpList_store_row rfl 43 (.tmp 8) (.tmp 37) rfl G #[.string ⟨#[]⟩, .string ⟨#[]⟩] rfl rfl _ _ hG infoPair2 rfl (by simp [Value.oneCell']) ?_)
    refine bodyPost_ret (v := .tuple #[.agg #[.string ⟨#[]⟩, .string ⟨#[]⟩], .bool false]) (results_pair Try.results19 _ rfl rfl (setRow_heap _ _ _ _ _ _ hG)) rfl ⟨_, _, false, rfl, Hs.hid (PairR.none HC.out), ?_⟩
    exact HE.out.trans (setRow_ext _ _) (fun g hg => .inr (by simp at hg; have := HGW.out; omega))
  · by_cases hmn : (n : Int) < m
    · have HC := Hs.hid (show ¬ PfxC L n m claim xs from fun h => by have := h.1; have := h.2.1; omega)
      go_wp2_with (refine wpList_store_row rfl 43 (.tmp 8) (.tmp 37) rfl G #[.string ⟨#[]⟩, .string ⟨#[]⟩] rfl rfl _ _ hG infoPair2 rfl (by simp [Value.oneCell']) ?_)
      refine bodyPost_ret (v := .tuple #[.agg #[.string ⟨#[]⟩, .string ⟨#[]⟩], .bool false]) (results_pair Try.results19 _ rfl rfl (setRow_heap _ _ _ _ _ _ hG)) rfl ⟨_, _, false, rfl, Hs.hid (PairR.none HC.out), ?_⟩
      exact HE.out.trans (setRow_ext _ _) (fun g hg => .inr (by simp at hg; have := HGW.out; omega))
    · by_cases hc : consN m n claim now xs = 0
      · have HCN := Hs.hid hc
        have HCO := Hs.hid (pConsNil m n (by omega) claim now xs hc nx hnx ao2 cap2 W2 HSU.out)
        clear hc
        go_upto_region 4 with (first
      | (refine wpList_yield (.agg claim.V) (by rfl) (exec_load_rowV (.tmp 5) rfl A rfl claim _ ⟨_, hA⟩) ?_)
      | (refine wpList_yield (.agg now.V) (by rfl) (exec_load_rowV (.tmp 10) rfl R rfl now _ ⟨_, hR⟩) ?_)
      | (refine wpList_yield (.agg (headV m claim)) (by rfl) (exec_build #[(0, .tmp 26), (1, .tmp 27)] rfl [(0, .int .i64 m), (1, .agg claim.V)] _ _ (by first | (go_simp; done) | (go_simp; rfl) | (simp [Act.eval]; done)) (head_built m claim)) ?_)
      | (refine wpList_yield (.agg (headV n now)) (by rfl) (exec_build #[(0, .tmp 30), (1, .tmp 31)] rfl [(0, .int .i64 n), (1, .agg now.V)] _ _ (by first | (go_simp; done) | (go_simp; rfl) | (simp [Act.eval]; done)) (head_built n now)) ?_)
      | (go_at_call 22; with_reducible refine (HCO.out).mono ?_; rintro e W3 ⟨rfl, hx3⟩)
      | fail)
        have hA3 := hx3.same hA List.not_mem_nil
        have hG3 := hx3.same hG List.not_mem_nil
        replace HE := Hs.hid (HE.out.trans0 hx3)
        clear hx3 hA hG hR HCO
        obtain ⟨M, rfl⟩ : ∃ M : Nat, m = M := ⟨m.toNat, by omega⟩
        have HM := Hs.hid (show M ≤ n by omega)
        have HRM := Hs.hid (fun w' (h : Ext [] W3 w') => crootT_any L HL ao M cap (by have := HM.out; have := HN.out; omega) (by have := HM.out; omega) hcm w' (HLS.out.1.ext0 (HE.out.trans0 h)))
        have b1 : (0 : Int) ≤ M ∧ (M : Int) ≤ cap ∧ (M : Int) ≤ n := by omega
        obtain ⟨b1, b2, b3⟩ := b1
        have b4 : M ≤ cap := by omega
        clear hm0 hmn
        by_cases hd : dig (rootT L M) = claim
        · have HRC := Hs.hid (fun (y : S32) (h : y = dig (rootT L M)) => h.trans hd)
          have HC := Hs.hid (show ¬ PfxC L n M claim xs from fun h => h.2.2.2 hd)
          clear hd
          refine wp_region_noPanic ?_
          refine wp_region_held_drew (S := (fun w' => Ext [] W3 w')) (by kernel_rfl) ?_ (fun hHeld => ?_)
          · ((try dsimp only); exact (Ext.refl [] W3).drew)
          refine wpAnyH_take (i := 0) (v := ?_) rfl (by kernel_rfl) (by kernel_rfl) (by kernel_rfl) (fun _ _ _ h => h) (Or.inl ⟨by rfl, ?_⟩) (by assumption) ?_
          rotate_left
          · (intro w hSw; (try dsimp only at hSw); first | (go_simp; done) | (go_simp; with_reducible rfl))
          try simp only [Act.put, List.getElem_toArray, List.getElem_cons_succ, List.getElem_cons_zero, List.setIfInBounds_toArray, List.set_cons_zero, List.set_cons_succ]
          refine wpAnyH_take (i := 1) (v := ?_) rfl (by kernel_rfl) (by kernel_rfl) (by kernel_rfl) (fun _ _ _ h => h) (Or.inl ⟨by rfl, ?_⟩) (by assumption) ?_
          rotate_left
          · (intro w hSw; (try dsimp only at hSw); first | (go_simp; done) | (go_simp; with_reducible rfl))
          try simp only [Act.put, List.getElem_toArray, List.getElem_cons_succ, List.getElem_cons_zero, List.setIfInBounds_toArray, List.set_cons_zero, List.set_cons_succ]
          refine wpAnyH_take (i := 2) (v := ?_) rfl (by kernel_rfl) (by kernel_rfl) (by kernel_rfl) (fun _ _ _ h => h) (Or.inl ⟨by rfl, ?_⟩) (by assumption) ?_
          rotate_left
          · (intro w hSw; (try dsimp only at hSw); first | (go_simp; done) | (go_simp; with_reducible rfl))
          try simp only [Act.put, List.getElem_toArray, List.getElem_cons_succ, List.getElem_cons_zero, List.setIfInBounds_toArray, List.set_cons_zero, List.set_cons_succ]
          refine wpAnyH_take (i := 4) (v := _) rfl (by kernel_rfl) (by kernel_rfl) (by kernel_rfl) (fun _ _ _ h => h) (yieldsIf_of (.agg claim.V) (by rfl) (fun w' hw => exec_load_rowV (.tmp 5) rfl A rfl claim w' ⟨_, hw.same hA3 List.not_mem_nil⟩)) (by assumption) ?_
          try simp only [Act.put, List.getElem_toArray, List.getElem_cons_succ, List.getElem_cons_zero, List.setIfInBounds_toArray, List.set_cons_zero, List.set_cons_succ]
          refine wpAnyH_ready (rs := [3]) (by kernel_rfl) (by simp) ?_
          refine AllReadyH.cons rfl (fun K hK => ?_) AllReadyH.nil
          go_simp
          (go_at_call 36; with_reducible refine (HRM.out _ hHeld).mono ?_; rintro e w5 ⟨rm, rfl, hrm, hx5⟩; have hzz := HRC.out rm hrm.out)
          go_wp2_with fail
          refine hK.out _ _ ?_ (fun hHeld => ?_)
          · ((try dsimp only); exact Ext.trans0 hHeld hx5)
          clear hK K
          try simp only [Act.put, List.getElem_toArray, List.getElem_cons_succ, List.getElem_cons_zero, List.setIfInBounds_toArray, List.set_cons_zero, List.set_cons_succ]
          refine wpAnyH_take (i := 5) (v := _) rfl (by kernel_rfl) (by kernel_rfl) (by kernel_rfl) (fun _ _ _ h => h) (yieldsIf_of (.bool true) (by rfl) (fun w' hw => exec_eqVs (.tmp 41) (.tmp 42) _ rfl claim claim rfl rfl rfl w')) (by assumption) ?_
          try simp only [Act.put, List.getElem_toArray, List.getElem_cons_succ, List.getElem_cons_zero, List.setIfInBounds_toArray, List.set_cons_zero, List.set_cons_succ]
          refine wpAnyH_take (i := 6) (v := ?_) rfl (by kernel_rfl) (by kernel_rfl) (by kernel_rfl) (fun _ _ _ h => h) (Or.inl ⟨by rfl, ?_⟩) (by assumption) ?_
          rotate_left
          · (intro w hSw; (try dsimp only at hSw); first | (go_simp; done) | (go_simp; with_reducible rfl))
          try simp only [Act.put, List.getElem_toArray, List.getElem_cons_succ, List.getElem_cons_zero, List.setIfInBounds_toArray, List.set_cons_zero, List.set_cons_succ]
          refine wpAnyH_take (i := 7) (v := undef) rfl (by kernel_rfl) (by kernel_rfl) (by kernel_rfl) (fun _ _ _ h => h) (Or.inr ⟨by rfl, rfl⟩) (by assumption) ?_
          try simp only [Act.put, List.getElem_toArray, List.getElem_cons_succ, List.getElem_cons_zero, List.setIfInBounds_toArray, List.set_cons_zero, List.set_cons_succ]
          refine wpAnyH_take (i := 8) (v := undef) rfl (by kernel_rfl) (by kernel_rfl) (by kernel_rfl) (fun _ _ _ h => h) (Or.inr ⟨by rfl, rfl⟩) (by assumption) ?_
          try simp only [Act.put, List.getElem_toArray, List.getElem_cons_succ, List.getElem_cons_zero, List.setIfInBounds_toArray, List.set_cons_zero, List.set_cons_succ]
          refine wpAnyH_take (i := 9) (v := ?_) rfl (by kernel_rfl) (by kernel_rfl) (by kernel_rfl) (fun _ _ _ h => h) (Or.inl ⟨by rfl, ?_⟩) (by assumption) ?_
          rotate_left
          · (intro w hSw; (try dsimp only at hSw); first | (go_simp; done) | (go_simp; with_reducible rfl))
          try simp only [Act.put, List.getElem_toArray, List.getElem_cons_succ, List.getElem_cons_zero, List.setIfInBounds_toArray, List.set_cons_zero, List.set_cons_succ]
          refine wpAnyH_take (i := 10) (v := ?_) rfl (by kernel_rfl) (by kernel_rfl) (by kernel_rfl) (fun _ _ _ h => h) (Or.inl ⟨by rfl, ?_⟩) (by assumption) ?_
          rotate_left
          · (intro w hSw; (try dsimp only at hSw); first | (go_simp; done) | (go_simp; with_reducible rfl))
          try simp only [Act.put, List.getElem_toArray, List.getElem_cons_succ, List.getElem_cons_zero, List.setIfInBounds_toArray, List.set_cons_zero, List.set_cons_succ]
          refine wpAnyH_take (i := 11) (v := undef) rfl (by kernel_rfl) (by kernel_rfl) (by kernel_rfl) (fun _ _ _ h => h) (Or.inr ⟨by rfl, rfl⟩) (by assumption) ?_
          try simp only [Act.put, List.getElem_toArray, List.getElem_cons_succ, List.getElem_cons_zero, List.setIfInBounds_toArray, List.set_cons_zero, List.set_cons_succ]
          refine wpAnyH_take (i := 12) (v := undef) rfl (by kernel_rfl) (by kernel_rfl) (by kernel_rfl) (fun _ _ _ h => h) (Or.inr ⟨by rfl, rfl⟩) (by assumption) ?_
          try simp only [Act.put, List.getElem_toArray, List.getElem_cons_succ, List.getElem_cons_zero, List.setIfInBounds_toArray, List.set_cons_zero, List.set_cons_succ]
          refine wpAnyH_take (i := 13) (v := undef) rfl (by kernel_rfl) (by kernel_rfl) (by kernel_rfl) (fun _ _ _ h => h) (Or.inr ⟨by rfl, rfl⟩) (by assumption) ?_
          try simp only [Act.put, List.getElem_toArray, List.getElem_cons_succ, List.getElem_cons_zero, List.setIfInBounds_toArray, List.set_cons_zero, List.set_cons_succ]
          refine wpAnyH_take (i := 14) (v := undef) rfl (by kernel_rfl) (by kernel_rfl) (by kernel_rfl) (fun _ _ _ h => h) (Or.inr ⟨by rfl, rfl⟩) (by assumption) ?_
          try simp only [Act.put, List.getElem_toArray, List.getElem_cons_succ, List.getElem_cons_zero, List.setIfInBounds_toArray, List.set_cons_zero, List.set_cons_succ]
          refine wpAnyH_take (i := 15) (v := ?_) rfl (by kernel_rfl) (by kernel_rfl) (by kernel_rfl) (fun _ _ _ h => h) (Or.inl ⟨by rfl, ?_⟩) (by assumption) ?_
          rotate_left
          · (intro w hSw; (try dsimp only at hSw); first | (go_simp; done) | (go_simp; with_reducible rfl))
          try simp only [Act.put, List.getElem_toArray, List.getElem_cons_succ, List.getElem_cons_zero, List.setIfInBounds_toArray, List.set_cons_zero, List.set_cons_succ]
          refine wpAnyH_done (by kernel_rfl) ?_ _
          refine NoPanic.normal ?_
          have hG5 := hHeld.same hG3 List.not_mem_nil
          go_wp2_with (refine wpList_store_row rfl 43 (.tmp 8) (.tmp 54) rfl G #[.string ⟨#[]⟩, .string ⟨#[]⟩] rfl rfl _ _ hG5 infoPair2 rfl (by simp [Value.oneCell']) ?_)
          refine bodyPost_ret (v := .tuple #[.agg #[.string ⟨#[]⟩, .string ⟨#[]⟩], .bool false]) (results_pair Try.results19 _ rfl rfl (setRow_heap _ _ _ _ _ _ hG5)) rfl ⟨_, _, false, rfl, Hs.hid (PairR.none HC.out), ?_⟩
          exact (HE.out.trans0 hHeld).trans (setRow_ext _ _) (fun g hg => .inr (by simp at hg; have := HGW.out; omega))
        · have HRC := Hs.hid (fun (y : S32) (h : y = dig (rootT L M)) => show y ≠ claim from fun e => hd (h.symm.trans e))
          have hM0 : M ≠ 0 := fun h0 => by
            subst h0
            have h9 : consN 0 n claim now xs = 0 := HCN.out
            unfold consN at h9
            rw [if_neg (by omega)] at h9
            split at h9
            · rename_i h8
              split at h9
              · rename_i h7
                have h6 := HNOW.out
                rw [← show (0 : Nat) = n by omega] at h6
                exact hd (h6.trans h7.2.symm)
              · simp at h9
            · rw [if_pos rfl] at h9
              split at h9
              · rename_i h7; exact hd h7.2.symm
              · simp at h9
          have hMn : M ≠ n := fun h0 => by
            subst h0
            have h9 := HCN.out
            unfold consN at h9
            rw [if_neg (by omega), if_pos rfl] at h9
            split at h9
            · rename_i h7; exact hd (HNOW.out.trans h7.2.symm)
            · simp at h9
          have HMM := Hs.hid (show 1 ≤ M ∧ M < n by have := HM.out; omega)
          have e0 : ((M : Int) == 0) = false := by simp; exact hM0
          have e1 : ((M : Int) == (n : Int)) = false := by simp; omega
          have hpp := prefix_pure HN.out HMM.out.1 HMM.out.2 (by rw [HNOW.out]; exact HCN.out)
          obtain ⟨b, rfl, hLA⟩ : ∃ b, ao = some ⟨b, 0, none⟩ ∧ LeafAt w.heap b 0 L := by
            rcases HLS.out.1 with h | h
            · have := HN.out; have := HMM.out; rw [h] at *; simp at *; omega
            · exact h
          have HSF := Hs.hid (fun w' (h : Ext [] w w') => csidesF_any b L HL n M cap claim xs ao2 cap2 HMM.out.1 (by have := HMM.out; omega) HN.out hcap hcm nx hnx w' (hLA.ext0 h) (HLS.out.2.ext h (by simp)))
          have hcl := sides_clash L n n 0 M true claim xs (Nat.le_refl _) HMM.out.1 (by have := HMM.out; omega) hpp.1 hpp.2.1
          rw [hpp.2.2] at hcl
          have hrm : rootT L M = mthT L M 0 := if_neg hM0
          have HPC := Hs.hid (And.intro hcl.1 (show ¬ ∀ p ∈ (sidesP L n 0 M true claim xs).ps, p.1 = p.2 from fun hall => hd (by rw [hrm]; exact (hcl.2 hall).symm)))
          have hsz := sidesP_size L n n 0 M true claim xs (Nat.le_refl _)
          have hok := hpp.1
          have HCND := Hs.hid (show PfxC L n M claim xs from ⟨b1, b3, by rw [HNOW.out]; exact HCN.out, hd⟩)
          generalize sidesP L n 0 M true claim xs = rr at HSF HPC hsz hok
          clear hd hM0 hMn hpp hcl hrm hLA HCN HRT HNOW
          refine wp_region_noPanic ?_
          refine wp_region_held_drew (S := (fun w' => Ext [] W3 w')) (by kernel_rfl) ?_ (fun hHeld => ?_)
          · ((try dsimp only); exact (Ext.refl [] W3).drew)
          refine wpAnyH_take (i := 0) (v := ?_) rfl (by kernel_rfl) (by kernel_rfl) (by kernel_rfl) (fun _ _ _ h => h) (Or.inl ⟨by rfl, ?_⟩) (by assumption) ?_
          rotate_left
          · (intro w hSw; (try dsimp only at hSw); first | (go_simp; done) | (go_simp; with_reducible rfl))
          try simp only [Act.put, List.getElem_toArray, List.getElem_cons_succ, List.getElem_cons_zero, List.setIfInBounds_toArray, List.set_cons_zero, List.set_cons_succ]
          refine wpAnyH_take (i := 1) (v := ?_) rfl (by kernel_rfl) (by kernel_rfl) (by kernel_rfl) (fun _ _ _ h => h) (Or.inl ⟨by rfl, ?_⟩) (by assumption) ?_
          rotate_left
          · (intro w hSw; (try dsimp only at hSw); first | (go_simp; done) | (go_simp; with_reducible rfl))
          try simp only [Act.put, List.getElem_toArray, List.getElem_cons_succ, List.getElem_cons_zero, List.setIfInBounds_toArray, List.set_cons_zero, List.set_cons_succ]
          refine wpAnyH_take (i := 2) (v := ?_) rfl (by kernel_rfl) (by kernel_rfl) (by kernel_rfl) (fun _ _ _ h => h) (Or.inl ⟨by rfl, ?_⟩) (by assumption) ?_
          rotate_left
          · (intro w hSw; (try dsimp only at hSw); first | (go_simp; done) | (go_simp; with_reducible rfl))
          try simp only [Act.put, List.getElem_toArray, List.getElem_cons_succ, List.getElem_cons_zero, List.setIfInBounds_toArray, List.set_cons_zero, List.set_cons_succ]
          refine wpAnyH_take (i := 4) (v := _) rfl (by kernel_rfl) (by kernel_rfl) (by kernel_rfl) (fun _ _ _ h => h) (yieldsIf_of (.agg claim.V) (by rfl) (fun w' hw => exec_load_rowV (.tmp 5) rfl A rfl claim w' ⟨_, hw.same hA3 List.not_mem_nil⟩)) (by assumption) ?_
          try simp only [Act.put, List.getElem_toArray, List.getElem_cons_succ, List.getElem_cons_zero, List.setIfInBounds_toArray, List.set_cons_zero, List.set_cons_succ]
          refine wpAnyH_ready (rs := [3]) (by kernel_rfl) (by simp) ?_
          refine AllReadyH.cons rfl (fun K hK => ?_) AllReadyH.nil
          go_simp
          (go_at_call 36; with_reducible refine (HRM.out _ hHeld).mono ?_; rintro e w5 ⟨rm, rfl, hrm, hx5⟩; have hzz := HRC.out rm hrm.out)
          go_wp2_with fail
          refine hK.out _ _ ?_ (fun hHeld => ?_)
          · ((try dsimp only); exact Ext.trans0 hHeld hx5)
          clear hK K
          try simp only [Act.put, List.getElem_toArray, List.getElem_cons_succ, List.getElem_cons_zero, List.setIfInBounds_toArray, List.set_cons_zero, List.set_cons_succ]
          refine wpAnyH_take (i := 5) (v := _) rfl (by kernel_rfl) (by kernel_rfl) (by kernel_rfl) (fun _ _ _ h => h) (yieldsIf_of (.bool false) (by rfl) (fun w' hw => exec_eqVn (.tmp 41) (.tmp 42) _ rfl rm claim rfl rfl hzz w')) (by assumption) ?_
          try simp only [Act.put, List.getElem_toArray, List.getElem_cons_succ, List.getElem_cons_zero, List.setIfInBounds_toArray, List.set_cons_zero, List.set_cons_succ]
          refine wpAnyH_take (i := 6) (v := ?_) rfl (by kernel_rfl) (by kernel_rfl) (by kernel_rfl) (fun _ _ _ h => h) (Or.inl ⟨by rfl, ?_⟩) (by assumption) ?_
          rotate_left
          · (intro w hSw; (try dsimp only at hSw); first | (go_simp; done) | (go_simp; with_reducible rfl))
          try simp only [Act.put, List.getElem_toArray, List.getElem_cons_succ, List.getElem_cons_zero, List.setIfInBounds_toArray, List.set_cons_zero, List.set_cons_succ]
          refine wpAnyH_take (i := 7) (v := ?_) rfl (by kernel_rfl) (by kernel_rfl) (by kernel_rfl) (fun _ _ _ h => h) (Or.inl ⟨by rfl, ?_⟩) (by assumption) ?_
          rotate_left
          · (intro w hSw; (try dsimp only at hSw); first | (go_simp; done) | (go_simp; with_reducible rfl))
          try simp only [Act.put, List.getElem_toArray, List.getElem_cons_succ, List.getElem_cons_zero, List.setIfInBounds_toArray, List.set_cons_zero, List.set_cons_succ]
          refine wpAnyH_take (i := 8) (v := ?_) rfl (by kernel_rfl) (by kernel_rfl) (by kernel_rfl) (fun _ _ _ h => h) (Or.inl ⟨by rfl, ?_⟩) (by assumption) ?_
          rotate_left
          · (intro w hSw; (try dsimp only at hSw); first | (go_simp; done) | (go_simp; with_reducible rfl))
          try simp only [Act.put, List.getElem_toArray, List.getElem_cons_succ, List.getElem_cons_zero, List.setIfInBounds_toArray, List.set_cons_zero, List.set_cons_succ]
          refine wpAnyH_take (i := 9) (v := ?_) rfl (by kernel_rfl) (by kernel_rfl) (by kernel_rfl) (fun _ _ _ h => h) (Or.inl ⟨by rfl, ?_⟩) (by assumption) ?_
          rotate_left
          · (intro w hSw; (try dsimp only at hSw); first | (go_simp; done) | (go_simp; with_reducible rfl))
          try simp only [Act.put, List.getElem_toArray, List.getElem_cons_succ, List.getElem_cons_zero, List.setIfInBounds_toArray, List.set_cons_zero, List.set_cons_succ]
          refine wpAnyH_take (i := 10) (v := ?_) rfl (by kernel_rfl) (by kernel_rfl) (by kernel_rfl) (fun _ _ _ h => h) (Or.inl ⟨by rfl, ?_⟩) (by assumption) ?_
          rotate_left
          · (intro w hSw; (try dsimp only at hSw); first | (go_simp; done) | (go_simp; with_reducible rfl))
          try simp only [Act.put, List.getElem_toArray, List.getElem_cons_succ, List.getElem_cons_zero, List.setIfInBounds_toArray, List.set_cons_zero, List.set_cons_succ]
          refine wpAnyH_take (i := 11) (v := ?_) rfl (by kernel_rfl) (by kernel_rfl) (by kernel_rfl) (fun _ _ _ h => h) (Or.inl ⟨by rfl, ?_⟩) (by assumption) ?_
          rotate_left
          · (intro w hSw; (try dsimp only at hSw); first | (go_simp; done) | (go_simp; with_reducible rfl))
          try simp only [Act.put, List.getElem_toArray, List.getElem_cons_succ, List.getElem_cons_zero, List.setIfInBounds_toArray, List.set_cons_zero, List.set_cons_succ]
          refine wpAnyH_take (i := 12) (v := ?_) rfl (by kernel_rfl) (by kernel_rfl) (by kernel_rfl) (fun _ _ _ h => h) (Or.inl ⟨by rfl, ?_⟩) (by assumption) ?_
          rotate_left
          · (intro w hSw; (try dsimp only at hSw); first | (go_simp; done) | (go_simp; with_reducible rfl))
          try simp only [Act.put, List.getElem_toArray, List.getElem_cons_succ, List.getElem_cons_zero, List.setIfInBounds_toArray, List.set_cons_zero, List.set_cons_succ]
          refine wpAnyH_take (i := 13) (v := ?_) rfl (by kernel_rfl) (by kernel_rfl) (by kernel_rfl) (fun _ _ _ h => h) (Or.inl ⟨by rfl, ?_⟩) (by assumption) ?_
          rotate_left
          · (intro w hSw; (try dsimp only at hSw); first | (go_simp; done) | (go_simp; with_reducible rfl))
          try simp only [Act.put, List.getElem_toArray, List.getElem_cons_succ, List.getElem_cons_zero, List.setIfInBounds_toArray, List.set_cons_zero, List.set_cons_succ]
          refine wpAnyH_take (i := 14) (v := ?_) rfl (by kernel_rfl) (by kernel_rfl) (by kernel_rfl) (fun _ _ _ h => h) (Or.inl ⟨by rfl, ?_⟩) (by assumption) ?_
          rotate_left
          · (intro w hSw; (try dsimp only at hSw); first | (go_simp; done) | (go_simp; with_reducible rfl))
          try simp only [Act.put, List.getElem_toArray, List.getElem_cons_succ, List.getElem_cons_zero, List.setIfInBounds_toArray, List.set_cons_zero, List.set_cons_succ]
          refine wpAnyH_take (i := 15) (v := ?_) rfl (by kernel_rfl) (by kernel_rfl) (by kernel_rfl) (fun _ _ _ h => h) (Or.inl ⟨by rfl, ?_⟩) (by assumption) ?_
          rotate_left
          · (intro w hSw; (try dsimp only at hSw); first | (go_simp; done) | (go_simp; with_reducible rfl))
          try simp only [Act.put, List.getElem_toArray, List.getElem_cons_succ, List.getElem_cons_zero, List.setIfInBounds_toArray, List.set_cons_zero, List.set_cons_succ]
          refine wpAnyH_done (by kernel_rfl) ?_ _
          refine NoPanic.normal ?_
          have hG5 := hHeld.same hG3 List.not_mem_nil
          have hA5 := hHeld.same hA3 List.not_mem_nil
          have HE5 := Hs.hid (HE.out.trans0 hHeld)
          clear hHeld hx5 hG3 hA3
          go_upto_region 7 with (first
            | (refine wpList_yield (.agg claim.V) (by rfl) (exec_load_rowV (.tmp 5) rfl A rfl claim _ ⟨_, hA5⟩) ?_)
            | (go_at_call 14; with_reducible refine (HSF.out _ HE5.out).mono ?_; rintro e WS ⟨vs, oks, rfl, hvs, hgs, hxs⟩))
          obtain rfl : oks = true := by rw [hvs.out.isOk]; exact hok
          have hOP := hvs.out.yes rfl
          obtain ⟨a7, c7, rfl⟩ := Own.form (w := WS) hOP
          have hGS := hxs.same hG5 List.not_mem_nil
          have HES := Hs.hid (HE5.out.trans0 hxs)
          have hall : ∀ p ∈ rr.ps.reverse, p.1.size = 65 ∧ p.2.size = 65 := fun p hp => hsz p (List.mem_reverse.1 hp)
          have hcl1 := HPC.out.1
          have hne : ¬ ∀ p ∈ rr.ps.reverse, p.1 = p.2 := fun h => HPC.out.2 (fun p hp => h p (List.mem_reverse.2 hp))
          clear HPC
          generalize rr.ps.reverse = ps at hOP hall hcl1 hne ⊢
          obtain ⟨P, hP⟩ : ∃ P, ps.length = P := ⟨_, rfl⟩
          rw [hP] at hOP ⊢
          have HALL := Hs.hid (And.intro hall (And.intro hcl1 (And.intro hne hP)))
          have HOP := Hs.hid hOP
          have HP63 := hOP.size63
          clear hall hcl1 hne hP hvs hsz hok hxs hgs HSF hA5 hG5 hOP
          go_wp2_with fail
          go_loopw [65] (fun kv wr => ∃ k : Nat, kv = .int .i64 k ∧ k ≤ P ∧ Hid (∀ (j : Nat) (q : ByteArray × ByteArray), j < k → ps[j]? = some q → q.1 = q.2) ∧ Ext [] WS wr) (fun kv _ => P - (intOf kv).toNat)
          case atStart => exact ⟨0, rfl, Nat.zero_le _, Hs.hid (fun j q hj => by omega), Ext.refl _ _⟩
          case round =>
            obtain ⟨k, rfl, hkP, HJ, hEr⟩ := hrel
            by_cases hlt' : k < P
            · have hk2 : (k : Int) < P := by omega
              obtain ⟨p, hp⟩ : ∃ p, ps[k]? = some p := ⟨_, List.getElem?_eq_getElem (by rw [HALL.out.2.2.2]; exact hlt')⟩
              obtain ⟨pz1, pz2⟩ := HALL.out.1 p (List.mem_of_getElem? hp)
              have HPK := Hs.hid hp
              obtain ⟨g7, rfl⟩ : ∃ g, a7 = some ⟨g, 0, none⟩ := by
                rcases HOP.out.2 with ⟨h1, h2⟩ | ⟨g, cap', cur, h1, _⟩
                · have := HALL.out.2.2.2; omega
                · simp at h1; exact ⟨g, h1.1⟩
              have hrg := (OwnP.at (HOP.out.ext hEr (fun _ _ => List.not_mem_nil)) hp).1
              have HPZ := Hs.hid (And.intro pz1 pz2)
              obtain ⟨pa, pb⟩ := p
              simp only at hrg
              clear pz1 pz2 hp
              by_cases hpe : pa = pb
              · subst hpe
                have e2 := ba_eqT pa
                go_upto_region 10 with (first
                  | (refine wpList_load_mid rfl 43 (.tmp 67) rfl g7 (k * 2) rfl [.string pa, .string pa] _ hrg Try.underlying43 rfl infoPair2 ?_))
                go_wp2_with fail
                go_round
                case rel => exact ⟨k + 1, by go_num, by omega, Hs.hid (fun j q hj hq => by
                    rcases Nat.lt_succ_iff_lt_or_eq.1 hj with h | rfl
                    · exact HJ.out j q h hq
                    · rw [HPK.out] at hq; simp at hq; subst hq; rfl), hEr.alloc _⟩
                case measure => simp [intOf]; omega
              · have e2 := ba_eqF hpe
                have HPE := Hs.hid hpe
                have hGr := hEr.same hGS List.not_mem_nil
                clear hpe
                go_upto_region 10 with (first
                  | (refine wpList_load_mid rfl 43 (.tmp 67) rfl g7 (k * 2) rfl [.string pa, .string pb] _ hrg Try.underlying43 rfl infoPair2 ?_))
                have hdd := HALL.out.2.1 k (pa, pb) HJ.out HPK.out
                simp only [] at hdd
                have hGa : (wr.alloc (.cells #[.string pa, .string pb] 43)).heap[G]? = some (.cells #[.string ⟨#[]⟩, .string ⟨#[]⟩] 43 (0, 0)) := heap_old' _ _ hGr
                go_wp2_with (refine wpList_store_row rfl 43 (.tmp 8) (.tmp 74) rfl G #[.string pa, .string pb] rfl rfl _ _ hGa infoPair2 rfl (by simp [Value.oneCell']) ?_)
                have hGf := setRow_heap _ _ _ #[.string pa, .string pb] _ _ hGa
                have hxf := ((HES.out.trans0 hEr).alloc (.cells #[.string pa, .string pb] 43)).trans (setRow_ext G #[.string pa, .string pb]) (fun g hg => .inr (by simp at hg; have := HGW.out; omega))
                generalize (wr.alloc (.cells #[.string pa, .string pb] 43)).setRow G #[.string pa, .string pb] = WF at hGf hxf ⊢
                refine bodyPost_ret (v := .tuple #[.agg #[.string pa, .string pb], .bool true]) (results_pair Try.results19 _ rfl rfl hGf) rfl ⟨pa, pb, true, rfl, Hs.hid ?_, ?_⟩
                · refine ⟨⟨fun _ => HCND.out, fun _ => rfl⟩, fun _ => ⟨HPE.out, hdd⟩, (fun h => by cases h), by have := HPZ.out.1; omega, by have := HPZ.out.2; omega⟩
                · exact hxf
            · exfalso
              refine HALL.out.2.2.1 (fun p hp => ?_)
              obtain ⟨j, hj⟩ := List.getElem?_of_mem hp
              have hjl := (List.getElem?_eq_some_iff.1 hj).1
              exact HJ.out j p (by have := HALL.out.2.2.2; omega) hj
      · have HC := Hs.hid (show ¬ PfxC L n m claim xs from fun h => hc (by rw [← HNOW.out]; exact h.2.2.1))
        have HCO := Hs.hid (pConsErr m n (by omega) claim now xs hc nx hnx ao2 cap2 W2 HSU.out)
        clear hc
        go_wp2_with (first
      | (refine wpList_yield (.agg claim.V) (by rfl) (exec_load_rowV (.tmp 5) rfl A rfl claim _ ⟨_, hA⟩) ?_)
      | (refine wpList_yield (.agg now.V) (by rfl) (exec_load_rowV (.tmp 10) rfl R rfl now _ ⟨_, hR⟩) ?_)
      | (refine wpList_yield (.agg (headV m claim)) (by rfl) (exec_build #[(0, .tmp 26), (1, .tmp 27)] rfl [(0, .int .i64 m), (1, .agg claim.V)] _ _ (by first | (go_simp; done) | (go_simp; rfl) | (simp [Act.eval]; done)) (head_built m claim)) ?_)
      | (refine wpList_yield (.agg (headV n now)) (by rfl) (exec_build #[(0, .tmp 30), (1, .tmp 31)] rfl [(0, .int .i64 n), (1, .agg now.V)] _ _ (by first | (go_simp; done) | (go_simp; rfl) | (simp [Act.eval]; done)) (head_built n now)) ?_)
      | (go_at_call 22; with_reducible refine (HCO.out).mono ?_; rintro e W3 ⟨pp, rfl, hx3⟩; have hG3 := hx3.same hG List.not_mem_nil)
      | (refine wpList_store_row rfl 43 (.tmp 8) (.tmp 37) rfl G #[.string ⟨#[]⟩, .string ⟨#[]⟩] rfl rfl _ _ hG3 infoPair2 rfl (by simp [Value.oneCell']) ?_))
        refine bodyPost_ret (v := .tuple #[.agg #[.string ⟨#[]⟩, .string ⟨#[]⟩], .bool false]) (results_pair Try.results19 _ rfl rfl (setRow_heap _ _ _ _ _ _ hG3)) rfl ⟨_, _, false, rfl, Hs.hid (PairR.none HC.out), ?_⟩
        exact (HE.out.trans0 hx3).trans (setRow_ext _ _) (fun g hg => .inr (by simp at hg; have := HGW.out; omega))
end Go.Proofs.Ytjicjadibaomkaa
