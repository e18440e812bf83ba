/-
  Texts of this claim, put together: SumsV, RProof, Up, Both, RIncl, PIncl, PSum, PSums, PCons, PCons2, PHead, PAwake, PAny, OpenS.
-/
import Derived.Great.BuildSlice
import Derived.Test.YtnjjbolbemlceaaDoorPKtx1
import Derived.OwnWalk
import Derived.Deep.WholeRow
import Derived.Lib.SlBuf
import Derived.Test.YtnjjbolbemlceaaDoorChecked
import Derived.SliceStrings
import Derived.ChangeSlices
import Derived.Deep.Slices
import Derived.Deep.Fields
import Derived.ChangeSame
import Derived.Carry
import Derived.ProofKit
import Derived.OpenShut
import Derived.Test.YtnjjbolbemlceaaDoorMPb2
import Derived.Test.YtnjjbolbemlceaaDoorMPb3
set_option linter.unusedSimpArgs false
set_option linter.unusedVariables false
set_option maxHeartbeats 1000000
set_option maxRecDepth 100000
namespace Go.Proofs.YtnjjbolbemlceaaDoor
open Go.RowKit Go.Hs Go.Dg

/-- The cells of sums, by their texts. -/
def sumsV (xs : List S32) : List Value := xs.flatMap fun x => x.V.toList
theorem sumsV_len (xs : List S32) : (sumsV xs).length = xs.length * 32 := by
  unfold sumsV
  induction xs with
  | nil => rfl
  | cons x xs ih =>
    rw [List.flatMap_cons, List.length_append, ih, Array.length_toList, x.size, List.length_cons]; omega
theorem sumsV_app (xs ys : List S32) : sumsV (xs ++ ys) = sumsV xs ++ sumsV ys := by simp [sumsV]
theorem sumsV_one (xs : List S32) : ∀ u ∈ sumsV xs, u.oneCell' = true := by
  intro u hu
  simp only [sumsV, List.mem_flatMap] at hu
  obtain ⟨x, _, hx⟩ := hu
  exact (Array.all_eq_true'.1 (x.one)) u (Array.mem_toList_iff.1 hx)
theorem infoSumY : (Tryd.prog.info? 46).map (fun i => (i.zero, i.size, i.bytes)) = some (some (.agg #[.int .u8 0, .int .u8 0, .int .u8 0, .int .u8 0, .int .u8 0, .int .u8 0, .int .u8 0, .int .u8 0, .int .u8 0, .int .u8 0, .int .u8 0, .int .u8 0, .int .u8 0, .int .u8 0, .int .u8 0, .int .u8 0, .int .u8 0, .int .u8 0, .int .u8 0, .int .u8 0, .int .u8 0, .int .u8 0, .int .u8 0, .int .u8 0, .int .u8 0, .int .u8 0, .int .u8 0, .int .u8 0, .int .u8 0, .int .u8 0, .int .u8 0, .int .u8 0]), 32, 32) := by kernel_rfl
theorem fill_sumsV : ∀ (xs : List S32) (k : Nat) (pre : List Value) (b : Array Value), pre.length = k * 32 → b.size = (k + xs.length) * 32 → b.toList.take (k * 32) = pre →
    Instr.fill (fun i => some (i * 32, 32)) b ((xs.zipIdx k).map fun p => (p.2, Value.agg (p.1.V))) = some (pre ++ sumsV xs).toArray
  | [], k, pre, b, hp, hb, ht => by
    simp only [List.zipIdx_nil, List.map_nil, Instr.fill, sumsV, List.flatMap_nil, List.append_nil]
    have : b.toList = pre := by rw [← ht, List.take_of_length_le (by simp at hb ⊢; omega)]
    rw [← this]
  | x :: xs, k, pre, b, hp, hb, ht => by
    simp only [List.zipIdx_cons, List.map_cons, Instr.fill]
    have hc : (Value.agg x.V).cells = x.V := rfl
    simp only [List.length_cons] at hb
    rw [hc, if_neg (by simp [x.size]; omega)]
    have hf : x.V.zipIdx.foldl (fun cs (p : Value × Nat) => cs.setIfInBounds (k * 32 + p.2) p.1) b = (x.V.toList.zipIdx 0).foldl (fun a (p : Value × Nat) => a.setIfInBounds (k * 32 + p.2) p.1) b := by
      rw [← Array.foldl_toList, Array.toList_zipIdx]
    have hf' : x.V.zipIdx.foldl (fun cs (x : Value × Nat) => match x with | (c, j) => cs.setIfInBounds (k * 32 + j) c) b = (x.V.toList.zipIdx 0).foldl (fun a (p : Value × Nat) => a.setIfInBounds (k * 32 + p.2) p.1) b := hf
    rw [hf']
    obtain ⟨h1, h2⟩ := fold_at (k * 32) x.V.toList 0 b
    have hlen : x.V.toList.length = 32 := by rw [Array.length_toList, x.size]
    generalize (x.V.toList.zipIdx 0).foldl (fun a (p : Value × Nat) => a.setIfInBounds (k * 32 + p.2) p.1) b = b2 at h1 h2 ⊢
    have hb2 : b2.size = (k + 1 + xs.length) * 32 := by omega
    have hp2 : (pre ++ x.V.toList).length = (k + 1) * 32 := by rw [List.length_append, hp, hlen]; omega
    have ht2 : b2.toList.take ((k + 1) * 32) = pre ++ x.V.toList := by
      apply List.ext_getElem?
      intro i
      rw [List.getElem?_take]
      have h4 := h2 i
      rw [← Array.getElem?_toList] at h4
      by_cases hi : i < (k + 1) * 32
      · rw [if_pos hi, h4]
        by_cases hi2 : i < k * 32
        · rw [if_neg (by omega), List.getElem?_append_left (by omega), ← ht, List.getElem?_take, if_pos hi2, Array.getElem?_toList]
        · rw [if_pos ⟨by omega, by omega, by omega⟩, List.getElem?_append_right (by omega), hp]; congr 1
      · rw [if_neg hi, List.getElem?_eq_none]
        rw [List.length_append, hp, hlen]; omega
    have h3 := fill_sumsV xs (k + 1) (pre ++ x.V.toList) b2 hp2 hb2 ht2
    rw [h3]
    simp [sumsV]
theorem fill_sumV (x : S32) (b : Array Value) (hb : b.size = 32) : Instr.fill (fun i => some (i * 32, 32)) b [(0, Value.agg x.V)] = some x.V := by
  have := fill_sumsV [x] 0 [] b rfl (by simpa using hb) rfl
  simpa [sumsV] using this
/-- A slice of one sum, made where it is written. -/
theorem wpList_sumV {ops : Array Oper} {rest : List Oper} {o : Oper} {a : Act} {w : World} {Q : Exit → Act → World → Prop} (hg : o.guard = none) (y : Operand) (ho : o.op = .buildSlice 42 1 #[(0, y)])
    (x : S32) (hy : a.eval y = .agg x.V)
    (h : wpList Tryd.prog ops Q rest (a.put o.dst (.slice (some ⟨w.heap.size, 0, none⟩) 1 1)) (w.alloc (.cells x.V 46))) : wpList Tryd.prog ops Q (o :: rest) a w := by
  obtain ⟨i0, hi, hz0, hz1, hz2⟩ := info_parts infoSumY
  refine wpList_buildSlice hg 42 46 1 _ ho x.V i0 _ Tryd.underlying42 hi hz0 (by rw [hz1]; decide) (by rw [hz1]; decide) ?_ h
  rw [hz1]
  have : (#[(0, y)].map fun (p : Nat × Operand) => (p.1, a.eval p.2)).toList = [(0, Value.agg x.V)] := by simp [hy]
  show Instr.fill _ _ (#[(0, y)].map fun (p : Nat × Operand) => (p.1, a.eval p.2)).toList = _
  rw [this]
  exact fill_sumV x _ (by simp)
/-- A slice of sums that the call owns. -/
def OwnV (h : Array Obj) (v : Value) (xs : List S32) : Prop := Own h 46 32 v xs.length (sumsV xs)
theorem OwnV.nil (h : Array Obj) : OwnV h (.slice none 0 0) [] := ⟨rfl, .inl ⟨rfl, rfl⟩⟩
theorem OwnV.form {w : World} {v : Value} {xs : List S32} (o : OwnV w.heap v xs) : ∃ ao cap, v = .slice ao xs.length cap := Own.form o
theorem OwnV.ext {w w' : World} {F : List Nat} {v : Value} {xs : List S32} (o : OwnV w.heap v xs) (x : Ext F w w') (hF : ∀ g, v.ownBlock = some g → g ∉ F) : OwnV w'.heap v xs :=
  Own.same o fun g hg => x.block g (Own.lt o hg) (hF g hg)
/-- One more, behind: the one sum's slice lies in block B. -/
theorem wpList_append_sumV {ops : Array Oper} {rest : List Oper} {o : Oper} {a : Act} {w : World} {Q : Exit → Act → World → Prop}
    (hg : o.guard = none) (s y : Operand) (hop : o.op = Op.call { callee := Callee.builtin Builtin.append, args := #[s, y], argTypes := #[42, 42] })
    (v : Value) (xs : List S32) (hs : a.eval s = v) (hown : OwnV w.heap v xs) (B m : Nat) (ys : List S32) (fr : Nat × Nat) (hm : m = ys.length) (hy : a.eval y = .slice (some ⟨B, 0, none⟩) m m) (hB : w.heap[B]? = some (.cells (sumsV ys).toArray 46 fr))
    (hlen : xs.length + m ≤ 1000)
    (hK : ∀ ao cap w', OwnV w'.heap (.slice ao (xs.length + m) cap) (xs ++ ys) → Ext v.ownBlock.toList w w' → (∀ g, (Value.slice ao (xs.length + m) cap).ownBlock = some g → v.ownBlock = some g ∨ w.heap.size ≤ g) →
      wpList Tryd.prog ops Q rest (a.put o.dst (.slice ao (xs.length + m) cap)) w') : wpList Tryd.prog ops Q (o :: rest) a w := by
  obtain ⟨i0, hi, hz0, hz1, hz2⟩ := info_parts infoSumY
  subst hm
  refine wpList_append hg s y 42 hop 46 i0 _ 32 32 Tryd.underlying42 hi hz0 hz1 hz2 (by kernel_rfl) (by decide) v xs.length (sumsV xs) hs hown ⟨B, 0, none⟩ ys.length ys.length (sumsV ys) hy (sumsV_len ys) (fun j u hj => ?_) (sumsV_one ys) (by unfold maxLen; omega) (by omega) fun ao cap w' h1 h2 h3 => hK ao cap w' ?_ h2 h3
  · rw [add_off', cellAt hB j]; simpa using hj
  · unfold OwnV; rw [sumsV_app, List.length_append]; exact h1
end Go.Proofs.YtnjjbolbemlceaaDoor
set_option linter.unusedSimpArgs false
set_option linter.unusedVariables false
set_option maxHeartbeats 2000000
set_option maxRecDepth 100000
namespace Go.Proofs.YtnjjbolbemlceaaDoor
open Go.RowKit Go.Hs Go.Dg
open Go.Proofs.YtnjjbolbemlceaaDoorW.PrintWords Go.Proofs.YtnjjbolbemlceaaDoorW.PrintLast Go.Proofs.YtnjjbolbemlceaaDoorW.PrintMore
open Go.Proofs.YtnjjbolbemlceaaDoor.PKt

theorem halfP : ∀ n : Nat, n < 302 → 2 ≤ n → hindsightref09_Half.f 70 (n : Int) = some ((2 ^ (n - 1).log2 : Nat) : Int) := by decide +kernel
theorem halfR_any (n : Nat) (h2 : 2 ≤ n) (hn : n ≤ 301) (w : World) : Calls Tryd.prog 42 #[.int .i64 n] w fun e w' => e = .returned (.int .i64 (halfN n : Int)) ∧ Ext [] w w' := by
  refine (hindsightref09_Half.calls 70 n (halfN n) w (halfP n (by omega) h2)).mono ?_
  rintro e w' ⟨rfl, m, rfl⟩
  exact ⟨rfl, (Ext.refl [] w).drewN m⟩
/-- ref01.Node of any two texts. -/
theorem nodeB0_any (a b L : ByteArray) (hlt : ⟨#[1]⟩ ++ a ++ b = L) (h0 : L.size ≤ 100000000) (ha : a.size ≤ 100) (hb : b.size ≤ 100) (w : World) : Calls Tryd.prog 43 #[.string a, .string b] w fun e w' => e = .returned (.string (strN (digN L))) ∧ Ext [] w w' := by
  have hc1 : ¬ 9223372036854775807 < 1 + a.size := by omega
  have hc2 : ¬ 9223372036854775807 < 1 + a.size + b.size := by omega
  have HL := Hs.hid h0
  go_enter Tryd.func43, Tryd.ntmps43
  go_wp2_with (go_at_call 48; refine (refOf_any L HL.out _).mono ?_; rintro e w1 ⟨rfl, hx1⟩)
  go_ret
  exact ⟨rfl, hx1⟩
theorem leafB0_any (s L : ByteArray) (hlt : ⟨#[0]⟩ ++ s = L) (h0 : L.size ≤ 100000000) (hs : s.size ≤ 1000000) (w : World) : Calls Tryd.prog 47 #[.string s] w fun e w' => e = .returned (.string (strN (digN L))) ∧ Ext [] w w' := by
  have hsz : ¬ 9223372036854775807 < 1 + s.size := by omega
  have HL := Hs.hid h0
  go_enter Tryd.func47, Tryd.ntmps47
  go_wp2_with (go_at_call 48; refine (refOf_any L HL.out _).mono ?_; rintro e w1 ⟨rfl, hx1⟩)
  go_ret
  exact ⟨rfl, hx1⟩
theorem nodeB_any (a b : ByteArray) (ha : a.size ≤ 100) (hb : b.size ≤ 100) (w : World) : Calls Tryd.prog 43 #[.string a, .string b] w fun e w' => ∃ x : S32, e = .returned (.string x.s) ∧ Hid (x = dig (node2 a b)) ∧ Ext [] w w' := by
  have h1 := node2_def a b
  have h2 := node2_size a b
  generalize node2 a b = L at h1 h2 ⊢
  exact (nodeB0_any a b L h1.symm (by omega) ha hb w).mono fun e w' ⟨h1, h2⟩ => ⟨dig L, h1, Hs.hid rfl, h2⟩
theorem leafB_any (s : ByteArray) (hs : s.size ≤ 1000000) (w : World) : Calls Tryd.prog 47 #[.string s] w fun e w' => ∃ x : S32, e = .returned (.string x.s) ∧ Hid (x = dig (leaf2 s)) ∧ Ext [] w w' := by
  have h1 := leaf2_def s
  have h2 := leaf2_size s
  generalize leaf2 s = L at h1 h2 ⊢
  exact (leafB0_any s L h1.symm (by omega) hs w).mono fun e w' ⟨h1, h2⟩ => ⟨dig L, h1, Hs.hid rfl, h2⟩
/-- A slice of sums' texts. -/
def Txts (h : Array Obj) (ao : Option Addr) (cap : Nat) (xs : List S32) : Prop :=
  xs.length ≤ cap ∧ (cap : Int) ≤ 9223372036854775807 ∧ (xs = [] ∨ ∃ b cs t fr, ao = some ⟨b, 0, none⟩ ∧ h[b]? = some (.cells cs t fr) ∧ ∀ (k : Nat) x, xs[k]? = some x → cs[k]? = some (.string x.s))
theorem Txts.ext {w w' : World} {ao : Option Addr} {cap : Nat} {xs : List S32} (h : Txts w.heap ao cap xs) (x : Ext [] w w') : Txts w'.heap ao cap xs := by
  obtain ⟨h1, h2, rfl | ⟨b, cs, t, fr, e, hb, hk⟩⟩ := h
  · exact ⟨h1, h2, .inl rfl⟩
  · exact ⟨h1, h2, .inr ⟨b, cs, t, fr, e, x.same hb (by simp), hk⟩⟩
theorem Txts.init {h : Array Obj} {ao : Option Addr} {cap : Nat} {xs : List S32} {x : S32} (t : Txts h ao cap (xs ++ [x])) : Txts h ao cap xs := by
  obtain ⟨h1, h2, h3 | ⟨b, cs, t, fr, e, hb, hk⟩⟩ := t
  · simp at h3
  · refine ⟨by simp at h1; omega, h2, .inr ⟨b, cs, t, fr, e, hb, fun k y hy => hk k y ?_⟩⟩
    rw [List.getElem?_append_left (List.getElem?_eq_some_iff.1 hy).1]; exact hy
theorem Txts.last {w : World} {ao : Option Addr} {cap : Nat} {xs : List S32} {x : S32} (t : Txts w.heap ao cap (xs ++ [x])) : ∃ b, ao = some ⟨b, 0, none⟩ ∧ b < w.heap.size ∧ w.cell? ⟨b, xs.length, none⟩ = some (.string x.s) := by
  obtain ⟨h1, h2, h3 | ⟨b, cs, t, fr, e, hb, hk⟩⟩ := t
  · simp at h3
  · exact ⟨b, e, lt_of_heap hb, by rw [cellAt hb]; exact hk _ x (by simp)⟩
theorem snoc_cases (xs : List S32) : xs = [] ∨ ∃ ys y, xs = ys ++ [y] := by
  rcases List.eq_nil_or_concat xs with h | ⟨ys, y, h⟩
  · exact .inl h
  · exact .inr ⟨ys, y, by rw [h, List.concat_eq_append]⟩
end Go.Proofs.YtnjjbolbemlceaaDoor
set_option linter.unusedSimpArgs false
set_option linter.unusedVariables false
set_option maxHeartbeats 2000000
set_option maxRecDepth 100000
namespace Go.Proofs.YtnjjbolbemlceaaDoor
open Go.RowKit Go.Hs Go.Dg

theorem refUp_mth : ∀ (N n i : Nat) (xs : List S32) (ao : Option Addr) (cap : Nat) (leaf : S32), n ≤ N → i < n → n ≤ 301 → ∀ w : World, Txts w.heap ao cap xs →
    Calls Tryd.prog 24 #[.int .i64 i, .int .i64 n, .string leaf.s, .slice ao xs.length cap] w fun e w' => ∃ v ok, e = .returned (.tuple #[.string v, .bool ok]) ∧
      Hid (v.size ≤ 32 ∧ ok = decide (xs.length = (dirs i n).length) ∧ (ok = true → v = (foldU nodeS (dirs i n) leaf xs).s)) ∧ Ext [] w w'
  | 0, n, i, xs, ao, cap, leaf, hN, hi, _, w, _ => by omega
  | N + 1, n, i, xs, ao, cap, leaf, hN, hi, hn, w, hT => by
    by_cases hn1 : n = 1
    · subst hn1
      have hd : dirs i 1 = [] := by rw [dirs, dif_pos (by omega)]
      go_enter Tryd.func24, Tryd.ntmps24
      go_wp2
      go_ret2
      exact ⟨_, _, rfl, Hs.hid ⟨Nat.le_of_eq leaf.ssize, by rw [hd]; cases xs <;> simp <;> omega, fun _ => by rw [hd]; cases xs <;> rfl⟩, Ext.refl _ _⟩
    · have hlt := halfN_lt (n := n) (by omega)
      have hpos := halfN_pos n
      have hhalf := halfR_any n (by omega) hn
      have hd0 : dirs i n = if i < halfN n then dirs i (halfN n) ++ [false] else dirs (i - halfN n) (n - halfN n) ++ [true] := by rw [dirs, dif_neg (by omega)]
      have ih1 := fun (h : i < halfN n) (ys : List S32) => refUp_mth N (halfN n) i ys ao cap leaf (by omega) h (by omega)
      have ih2 := fun (h : ¬ i < halfN n) (ys : List S32) => refUp_mth N (n - halfN n) (i - halfN n) ys ao cap leaf (by omega) (by omega) (by omega)
      have hmax := hT.2.1
      have hcap := hT.1
      rcases snoc_cases xs with rfl | ⟨ys, y, rfl⟩
      · have hne : ¬ (0 = (dirs i n).length) := by
          rw [hd0]; split <;> simp
        have HD := Hs.hid hne
        clear hd0 ih1 ih2 hne
        go_enter Tryd.func24, Tryd.ntmps24
        go_wp2
        go_ret2
        exact ⟨_, _, rfl, Hs.hid ⟨by decide, by simpa using HD.out, fun h => by simp at h⟩, Ext.refl _ _⟩
      · have hyl : (ys ++ [y]).length = ys.length + 1 := by simp
        rw [hyl] at hcap ⊢
        obtain ⟨b, rfl, hbl, hcell⟩ := hT.last
        have hTi := hT.init
        have hm1 : ((ys.length + 1 : Nat) : Int) - 1 = (ys.length : Int) := by omega
        have hm2 : ((ys.length : Int) + 1) - 1 = (ys.length : Int) := by omega
        have hm0 : ¬ ((ys.length : Int) + 1 = 0) := by omega
        have hm3 : (ys.length : Int) < (ys.length : Int) + 1 := by omega
        have hm4 : (ys.length : Int) ≤ cap := by omega
        have hk1 : (0:Int) ≤ ys.length := by omega
        have hys : ys.length ≤ cap := by omega
        have hn1' : ¬ (n : Int) = 1 := by omega
        generalize halfN n = k at hlt hpos hhalf hd0 ih1 ih2
        by_cases hik : i < k
        · have hik' : (i : Int) < k := by omega
          rw [if_pos hik] at hd0
          have ih := ih1 hik ys
          have HH := Hs.hid (And.intro ih (And.intro hd0 hhalf))
          clear ih1 ih2 ih hd0 hhalf hT
          go_enter Tryd.func24, Tryd.ntmps24
          go_wp2_with (first
            | (go_at_call 42; refine (HH.out.2.2 _).mono ?_; rintro e w1 ⟨rfl, hx1⟩)
            | (go_at_call 24; with_reducible refine (HH.out.1 _ (hTi.ext hx1)).mono ?_; rintro e w2 ⟨v, ok, rfl, hv, hx2⟩)
            | (go_at_call 43; refine (nodeB_any v y.s (by have := hv.out.1; omega) (by rw [y.ssize]; decide) _).mono ?_; rintro e w3 ⟨z, rfl, hz, hx3⟩))
          go_ret2
          refine ⟨_, _, rfl, Hs.hid ⟨Nat.le_of_eq z.ssize, ?_, fun h => ?_⟩, (hx1.trans0 hx2).trans0 hx3⟩
          · rw [hv.out.2.1, HH.out.2.1]; simp
          · have h1 := hv.out.2.2 h
            have h2 : ys.length = (dirs i k).length := by have := hv.out.2.1; rw [h] at this; simpa using this.symm
            rw [hz.out, HH.out.2.1, foldU_snoc nodeS _ _ _ _ _ h2.symm, h1]; rfl
        · have hik' : ¬ (i : Int) < k := by omega
          rw [if_neg hik] at hd0
          have ih := ih2 hik ys
          have e1 : (i : Int) - k = ((i - k : Nat) : Int) := by omega
          have e2 : (n : Int) - k = ((n - k : Nat) : Int) := by omega
          have HH := Hs.hid (And.intro ih (And.intro hd0 hhalf))
          clear ih1 ih2 ih hd0 hhalf hT
          go_enter Tryd.func24, Tryd.ntmps24
          go_wp2_with (first
            | (go_at_call 42; refine (HH.out.2.2 _).mono ?_; rintro e w1 ⟨rfl, hx1⟩)
            | (go_at_call 24; with_reducible refine (HH.out.1 _ (hTi.ext hx1)).mono ?_; rintro e w2 ⟨v, ok, rfl, hv, hx2⟩)
            | (go_at_call 43; refine (nodeB_any y.s v (by rw [y.ssize]; decide) (by have := hv.out.1; omega) _).mono ?_; rintro e w3 ⟨z, rfl, hz, hx3⟩))
          go_ret2
          refine ⟨_, _, rfl, Hs.hid ⟨Nat.le_of_eq z.ssize, ?_, fun h => ?_⟩, (hx1.trans0 hx2).trans0 hx3⟩
          · rw [hv.out.2.1, HH.out.2.1]; simp
          · have h1 := hv.out.2.2 h
            have h2 : ys.length = (dirs (i - k) (n - k)).length := by have := hv.out.2.1; rw [h] at this; simpa using this.symm
            rw [hz.out, HH.out.2.1, foldU_snoc nodeS _ _ _ _ _ h2.symm, h1]; rfl
end Go.Proofs.YtnjjbolbemlceaaDoor
set_option linter.unusedSimpArgs false
set_option linter.unusedVariables false
set_option maxHeartbeats 2000000
set_option maxRecDepth 100000
namespace Go.Proofs.YtnjjbolbemlceaaDoor
open Go.RowKit Go.Hs Go.Dg

/-- The sums that a fold over the first m takes: the first one stands for itself. -/
def seedB (f : Bool) (old : S32) (xs : List S32) : List S32 := if f then old :: xs else xs
theorem seedB_snoc (f : Bool) (old y : S32) (ys : List S32) : seedB f old (ys ++ [y]) = seedB f old ys ++ [y] := by
  cases f <;> rfl
/-- What Both answers. -/
structure BothP (m n : Nat) (old : S32) (first : Bool) (xs : List S32) (a b : ByteArray) (ok : Bool) : Prop where
  sa : a.size ≤ 32
  sb : b.size ≤ 32
  isOk : ok = decide ((seedB (first && firstB m n) old xs).length = (dirsB m n).length + 1)
  val : ok = true → ∃ x zs, seedB (first && firstB m n) old xs = x :: zs ∧ a = (foldO nodeS (dirsB m n) x zs).s ∧ b = (foldU nodeS (dirsB m n) x zs).s
theorem BothP.left {m n k : Nat} {old : S32} {first : Bool} {ys : List S32} {y : S32} {a b : ByteArray} {ok : Bool} (h : BothP m k old first ys a b ok) (hd : dirsB m n = dirsB m k ++ [false]) (hf : firstB m n = firstB m k) {z : S32}
    (hz : z = dig (node2 b y.s)) : BothP m n old first (ys ++ [y]) a z.s ok := by
  refine ⟨h.sa, Nat.le_of_eq z.ssize, ?_, fun e => ?_⟩
  · rw [h.isOk, hd, hf, seedB_snoc]; simp
  · obtain ⟨x, zs, h1, h2, h3⟩ := h.val e
    have hl : (dirsB m k).length = zs.length := by
      have := h.isOk; rw [e, h1] at this; simp at this; exact this.symm
    refine ⟨x, zs ++ [y], by rw [hf, seedB_snoc, h1]; rfl, ?_, ?_⟩
    · rw [hd, foldO_snoc nodeS _ _ _ _ _ hl, h2]; rfl
    · rw [hd, foldU_snoc nodeS _ _ _ _ _ hl, hz, h3]; rfl
theorem BothP.right {m n k : Nat} {old : S32} {first : Bool} {ys : List S32} {y : S32} {a b : ByteArray} {ok : Bool} (h : BothP (m - k) (n - k) old false ys a b ok) (hd : dirsB m n = dirsB (m - k) (n - k) ++ [true]) (hf : firstB m n = false) {u z : S32}
    (hu : u = dig (node2 y.s a)) (hz : z = dig (node2 y.s b)) : BothP m n old first (ys ++ [y]) u.s z.s ok := by
  have hff : (first && firstB m n) = false := by rw [hf, Bool.and_false]
  refine ⟨Nat.le_of_eq u.ssize, Nat.le_of_eq z.ssize, ?_, fun e => ?_⟩
  · rw [h.isOk, hd, hff, Bool.false_and, seedB_snoc]; simp
  · obtain ⟨x, zs, h1, h2, h3⟩ := h.val e
    have hl : (dirsB (m - k) (n - k)).length = zs.length := by
      have := h.isOk; rw [e, h1] at this; simp at this; exact this.symm
    rw [Bool.false_and] at h1
    refine ⟨x, zs ++ [y], by rw [hff, seedB_snoc, h1]; rfl, ?_, ?_⟩
    · rw [hd, foldO_snoc nodeS _ _ _ _ _ hl, hu, h2]; rfl
    · rw [hd, foldU_snoc nodeS _ _ _ _ _ hl, hz, h3]; rfl
theorem refBoth_mth : ∀ (N n m : Nat) (first : Bool) (xs : List S32) (ao : Option Addr) (cap : Nat) (old : S32), n ≤ N → 1 ≤ m → m ≤ n → n ≤ 301 → ∀ w : World, Txts w.heap ao cap xs →
    Calls Tryd.prog 49 #[.int .i64 m, .int .i64 n, .string old.s, .bool first, .slice ao xs.length cap] w fun e w' => ∃ a b ok, e = .returned (.tuple #[.string a, .string b, .bool ok]) ∧
      Hid (BothP m n old first xs a b ok) ∧ Ext [] w w'
  | 0, n, m, first, xs, ao, cap, old, hN, h1, hm, hn, w, hT => by omega
  | N + 1, n, m, first, xs, ao, cap, old, hN, h1, hm, hn, w, hT => by
    by_cases hmn : m = n
    · subst hmn
      have hd : dirsB m m = [] := by rw [dirsB, dif_pos (.inr rfl)]
      have hf : firstB m m = true := by rw [firstB, dif_pos (.inr rfl)]
      have hmax := hT.2.1
      have hcap := hT.1
      cases first
      · rcases snoc_cases xs with rfl | ⟨ys, y, rfl⟩
        · have HD := Hs.hid (And.intro hd hf)
          clear hd hf
          go_enter Tryd.func49, Tryd.ntmps49
          go_wp2
          go_ret3
          exact ⟨_, _, _, rfl, Hs.hid ⟨by decide, by decide, by rw [HD.out.1, HD.out.2]; rfl, fun h => by simp at h⟩, Ext.refl _ _⟩
        · have hyl : (ys ++ [y]).length = ys.length + 1 := by simp
          rw [hyl] at hcap ⊢
          obtain ⟨b, rfl, hbl, hcell⟩ := hT.last
          have hm2 : ((ys.length : Int) + 1) - 1 = (ys.length : Int) := by omega
          have hm0 : ¬ ((ys.length : Int) + 1 = 0) := by omega
          have hm4 : (ys.length : Int) ≤ cap := by omega
          have hk1 : (0:Int) ≤ ys.length := by omega
          have hys : ys.length ≤ cap := by omega
          have HD := Hs.hid (And.intro hd hf)
          clear hd hf hT
          go_enter Tryd.func49, Tryd.ntmps49
          go_wp2
          go_ret3
          exact ⟨_, _, _, rfl, Hs.hid ⟨Nat.le_of_eq y.ssize, Nat.le_of_eq y.ssize, by rw [HD.out.1, HD.out.2]; cases ys <;> simp [seedB] <;> omega, fun h => by
            rw [HD.out.1, HD.out.2]
            cases ys with
            | nil => exact ⟨y, [], rfl, rfl, rfl⟩
            | cons z zs => simp at h; omega⟩, Ext.refl _ _⟩
      · have HD := Hs.hid (And.intro hd hf)
        clear hd hf
        go_enter Tryd.func49, Tryd.ntmps49
        go_wp2
        go_ret3
        exact ⟨_, _, _, rfl, Hs.hid ⟨Nat.le_of_eq old.ssize, Nat.le_of_eq old.ssize, by rw [HD.out.1, HD.out.2]; cases xs <;> simp [seedB] <;> omega, fun h => by
          rw [HD.out.1, HD.out.2]
          cases xs with
          | nil => exact ⟨old, [], rfl, rfl, rfl⟩
          | cons z zs => simp at h; omega⟩, Ext.refl _ _⟩
    · have hmn' : ¬ (m : Int) = n := by omega
      have hlt := halfN_lt (n := n) (by omega)
      have hpos := halfN_pos n
      have hhalf := halfR_any n (by omega) hn
      have hd0 : dirsB m n = if m ≤ halfN n then dirsB m (halfN n) ++ [false] else dirsB (m - halfN n) (n - halfN n) ++ [true] := by rw [dirsB, dif_neg (by omega)]
      have hf0 : firstB m n = if m ≤ halfN n then firstB m (halfN n) else false := by rw [firstB, dif_neg (by omega)]
      have ih1 := fun (h : m ≤ halfN n) (ys : List S32) => refBoth_mth N (halfN n) m first ys ao cap old (by omega) h1 h (by omega)
      have ih2 := fun (h : ¬ m ≤ halfN n) (ys : List S32) => refBoth_mth N (n - halfN n) (m - halfN n) false ys ao cap old (by omega) (by omega) (by omega) (by omega)
      have hmax := hT.2.1
      have hcap := hT.1
      rcases snoc_cases xs with rfl | ⟨ys, y, rfl⟩
      · have hne : ¬ ((seedB (first && firstB m n) old []).length = (dirsB m n).length + 1) := by
          rw [hd0, hf0]; cases first <;> split <;> simp [seedB] <;> split <;> simp
        have HD := Hs.hid hne
        clear hd0 hf0 ih1 ih2 hne
        go_enter Tryd.func49, Tryd.ntmps49
        go_wp2
        go_ret3
        exact ⟨_, _, _, rfl, Hs.hid ⟨by decide, by decide, by rw [decide_eq_false HD.out], fun h => by simp at h⟩, Ext.refl _ _⟩
      · have hyl : (ys ++ [y]).length = ys.length + 1 := by simp
        rw [hyl] at hcap ⊢
        obtain ⟨b, rfl, hbl, hcell⟩ := hT.last
        have hTi := hT.init
        have hm2 : ((ys.length : Int) + 1) - 1 = (ys.length : Int) := by omega
        have hm0 : ¬ ((ys.length : Int) + 1 = 0) := by omega
        have hm4 : (ys.length : Int) ≤ cap := by omega
        have hk1 : (0:Int) ≤ ys.length := by omega
        have hys : ys.length ≤ cap := by omega
        generalize halfN n = k at hlt hpos hhalf hd0 hf0 ih1 ih2
        by_cases hik : m ≤ k
        · have hik' : (m : Int) ≤ k := by omega
          rw [if_pos hik] at hd0 hf0
          have ih := ih1 hik ys
          have HH := Hs.hid (And.intro ih (And.intro hhalf (And.intro hd0 hf0)))
          clear ih1 ih2 ih hd0 hf0 hhalf hT
          go_enter Tryd.func49, Tryd.ntmps49
          go_wp2_with (first
            | (go_at_call 42; refine (HH.out.2.1 _).mono ?_; rintro e w1 ⟨rfl, hx1⟩)
            | (go_at_call 49; with_reducible refine (HH.out.1 _ (hTi.ext hx1)).mono ?_; rintro e w2 ⟨va, vb, ok, rfl, hv, hx2⟩)
            | (go_at_call 43; refine (nodeB_any vb y.s (by have := hv.out.sb; omega) (by rw [y.ssize]; decide) _).mono ?_; rintro e w3 ⟨z, rfl, hz, hx3⟩))
          go_ret3
          exact ⟨_, _, _, rfl, Hs.hid (hv.out.left HH.out.2.2.1 HH.out.2.2.2 hz.out), (hx1.trans0 hx2).trans0 hx3⟩
        · have hik' : ¬ (m : Int) ≤ k := by omega
          rw [if_neg hik] at hd0 hf0
          have ih := ih2 hik ys
          have e1 : (m : Int) - k = ((m - k : Nat) : Int) := by omega
          have e2 : (n : Int) - k = ((n - k : Nat) : Int) := by omega
          have HH := Hs.hid (And.intro ih (And.intro hhalf (And.intro hd0 hf0)))
          clear ih1 ih2 ih hd0 hf0 hhalf hT
          go_enter Tryd.func49, Tryd.ntmps49
          go_upto_region 14 with (first
            | (go_at_call 42; refine (HH.out.2.1 _).mono ?_; rintro e w1 ⟨rfl, hx1⟩)
            | (go_at_call 49; with_reducible refine (HH.out.1 _ (hTi.ext hx1)).mono ?_; rintro e w2 ⟨va, vb, ok, rfl, hv, hx2⟩))
          have HA := Hs.hid hv.out.sa
          go_wp2_with (first
            | (go_at_call 43; have HC := HA; clear HA; refine (nodeB_any y.s va (by rw [y.ssize]; decide) (by have := HC.out; omega) _).mono ?_; rintro e w3 ⟨u, rfl, hu, hx3⟩)
            | (go_at_call 43; refine (nodeB_any y.s vb (by rw [y.ssize]; decide) (by have := hv.out.sb; omega) _).mono ?_; rintro e w4 ⟨z, rfl, hz, hx4⟩))
          go_ret3
          exact ⟨_, _, _, rfl, Hs.hid (hv.out.right HH.out.2.2.1 HH.out.2.2.2 hu.out hz.out), ((hx1.trans0 hx2).trans0 hx3).trans0 hx4⟩
end Go.Proofs.YtnjjbolbemlceaaDoor
set_option linter.unusedSimpArgs false
set_option linter.unusedVariables false
set_option maxHeartbeats 2000000
set_option maxRecDepth 100000
namespace Go.Proofs.YtnjjbolbemlceaaDoor
open Go.RowKit Go.Hs Go.Dg

theorem str_eqB (r s : ByteArray) : (r.toList == s.toList) = decide (r = s) := by
  rw [Bool.eq_iff_iff, beq_iff_eq, decide_eq_true_iff, ByteArray.toList_eq, ByteArray.toList_eq] 
  exact ⟨fun h => ByteArray.ext (Array.toList_inj.1 h), fun h => by rw [h]⟩
/-- Whether sums prove a leaf's sum: the error's number. -/
def inclN (leaf : S32) (i n : Int) (root : S32) (xs : List S32) : Int :=
  if i < 0 ∨ n ≤ i then 6 else if xs.length = (dirs i.toNat n.toNat).length ∧ foldU nodeS (dirs i.toNat n.toNat) leaf xs = root then 0 else 12
theorem refIncl_any (leaf : ByteArray) (hs : leaf.size ≤ 1000) (i n : Int) (hn : n ≤ 301) (root : S32) (xs : List S32) (ao : Option Addr) (cap : Nat) (w : World) (hT : Txts w.heap ao cap xs) :
    Calls Tryd.prog 28 #[.string leaf, .int .i64 i, .int .i64 n, .string root.s, .slice ao xs.length cap] w fun e w' => ∃ r, e = .returned (.int .i64 r) ∧ Hid (r = inclN (dig (leaf2 leaf)) i n root xs) ∧ Ext [] w w' := by
  by_cases hi : i < 0 ∨ n ≤ i
  · have hr : inclN (dig (leaf2 leaf)) i n root xs = 6 := by unfold inclN; rw [if_pos hi]
    have HR := Hs.hid hr
    clear hr
    by_cases h0 : i < 0
    · clear hi
      go_enter Tryd.func28, Tryd.ntmps28
      go_wp2
      go_ret
      exact ⟨_, rfl, Hs.hid HR.out.symm, Ext.refl _ _⟩
    · have h1 : n ≤ i := by omega
      clear hi
      go_enter Tryd.func28, Tryd.ntmps28
      go_wp2
      go_ret
      exact ⟨_, rfl, Hs.hid HR.out.symm, Ext.refl _ _⟩
  · obtain ⟨I, rfl⟩ : ∃ I : Nat, i = I := ⟨i.toNat, by omega⟩
    obtain ⟨M, rfl⟩ : ∃ M : Nat, n = M := ⟨n.toNat, by omega⟩
    have hlt : I < M := by omega
    have h0 : ¬ (I : Int) < 0 := by omega
    have h1 : ¬ (M : Int) ≤ I := by omega
    have hr : ∀ v ok, Hid (v.size ≤ 32 ∧ ok = decide (xs.length = (dirs I M).length) ∧ (ok = true → v = (foldU nodeS (dirs I M) (dig (leaf2 leaf)) xs).s)) → inclN (dig (leaf2 leaf)) I M root xs = if ok = true ∧ v = root.s then 0 else 12 := by
      intro v ok hv
      unfold inclN
      rw [if_neg hi]
      simp only [Int.toNat_natCast]
      by_cases hk : ok = true
      · have e1 := hv.out.2.2 hk
        have e2 := hv.out.2.1
        rw [hk] at e2
        have e3 : xs.length = (dirs I M).length := by simpa using e2
        by_cases hq : foldU nodeS (dirs I M) (dig (leaf2 leaf)) xs = root
        · rw [if_pos ⟨e3, hq⟩, if_pos ⟨hk, by rw [e1, hq]⟩]
        · rw [if_neg (fun h => hq h.2), if_neg (fun h => hq (S32.s_inj (e1.symm.trans h.2)))]
      · have e2 := hv.out.2.1
        rw [if_neg (fun h => hk (by rw [e2]; simpa using h.1)), if_neg (fun h => hk h.1)]
    have HR := Hs.hid hr
    clear hr hi
    have HB := Hs.hid (leafB_any leaf (by omega))
    have HU := Hs.hid (fun w (h : Txts w.heap ao cap xs) => refUp_mth M M I xs ao cap (dig (leaf2 leaf)) (Nat.le_refl _) hlt (by omega) w h)
    generalize dig (leaf2 leaf) = LF at HR HB HU ⊢
    go_enter Tryd.func28, Tryd.ntmps28
    go_upto_region 4 with (first
      | (go_at_call 47; refine (HB.out _).mono ?_; rintro e w1 ⟨x, rfl, hx, hx1⟩; obtain rfl := hx.out; clear hx)
      | (go_at_call 24; with_reducible refine (HU.out _ (hT.ext hx1)).mono ?_; rintro e w2 ⟨v, ok, rfl, hv, hx2⟩))
    have HF := Hs.hid (HR.out v ok hv)
    clear hv
    cases ok
    · go_wp2
      go_ret
      exact ⟨_, rfl, Hs.hid (by rw [HF.out]; rfl), hx1.trans0 hx2⟩
    · have eqv := str_eqB v root.s
      by_cases hv : v = root.s
      · have HV := Hs.hid hv
        rw [decide_eq_true hv] at eqv
        clear hv
        go_wp2
        go_ret
        exact ⟨_, rfl, Hs.hid (by rw [HF.out]; simp [HV.out]), hx1.trans0 hx2⟩
      · have HV := Hs.hid hv
        rw [decide_eq_false hv] at eqv
        clear hv
        go_wp2
        go_ret
        exact ⟨_, rfl, Hs.hid (by rw [HF.out]; simp [HV.out]), hx1.trans0 hx2⟩
/-- Whether sums prove that the first m among n are those of an elder root: the error's number. -/
def consN (m n : Int) (old root : S32) (xs : List S32) : Int :=
  if m < 0 ∨ n < m then 6 else if m = n then (if xs = [] ∧ old = root then 0 else 12) else if m = 0 then (if xs = [] ∧ old = dig ⟨#[]⟩ then 0 else 12)
  else match seedB (firstB m.toNat n.toNat) old xs with
    | [] => 12
    | x :: zs => if zs.length = (dirsB m.toNat n.toNat).length ∧ foldO nodeS (dirsB m.toNat n.toNat) x zs = old ∧ foldU nodeS (dirsB m.toNat n.toNat) x zs = root then 0 else 12
theorem refCons_any (m n : Int) (hn : n ≤ 301) (old root : S32) (xs : List S32) (ao : Option Addr) (cap : Nat) (w : World) (hT : Txts w.heap ao cap xs) :
    Calls Tryd.prog 29 #[.int .i64 m, .string old.s, .int .i64 n, .string root.s, .slice ao xs.length cap] w fun e w' => ∃ r, e = .returned (.int .i64 r) ∧ Hid (r = consN m n old root xs) ∧ Ext [] w w' := by
  by_cases hi : m < 0 ∨ n < m
  · have hr : consN m n old root xs = 6 := by unfold consN; rw [if_pos hi]
    have HR := Hs.hid hr
    clear hr
    by_cases h0 : m < 0
    · clear hi
      go_enter Tryd.func29, Tryd.ntmps29
      go_wp2
      go_ret
      exact ⟨_, rfl, Hs.hid HR.out.symm, Ext.refl _ _⟩
    · have h1 : n < m := by omega
      clear hi
      go_enter Tryd.func29, Tryd.ntmps29
      go_wp2
      go_ret
      exact ⟨_, rfl, Hs.hid HR.out.symm, Ext.refl _ _⟩
  · have h0 : ¬ m < 0 := by omega
    have h1 : ¬ n < m := by omega
    have eqo := str_eqB old.s root.s
    have hlen : (xs.length : Int) > 0 ↔ xs ≠ [] := by cases xs <;> simp
    by_cases hmn : m = n
    · subst hmn
      have hr : consN m m old root xs = if xs = [] ∧ old.s = root.s then 0 else 12 := by
        unfold consN; rw [if_neg hi, if_pos rfl]
        by_cases hx : xs = [] ∧ old = root
        · rw [if_pos hx, if_pos ⟨hx.1, by rw [hx.2]⟩]
        · rw [if_neg hx, if_neg (fun h => hx ⟨h.1, S32.s_inj h.2⟩)]
      clear hi
      cases xs with
      | nil =>
        have HR := Hs.hid hr
        clear hr
        by_cases hv : old.s = root.s
        · have HV := Hs.hid hv
          rw [decide_eq_true hv] at eqo
          clear hv
          go_enter Tryd.func29, Tryd.ntmps29
          go_wp2
          go_ret
          exact ⟨_, rfl, Hs.hid (by rw [HR.out]; simp [HV.out]), Ext.refl _ _⟩
        · have HV := Hs.hid hv
          rw [decide_eq_false hv] at eqo
          clear hv
          go_enter Tryd.func29, Tryd.ntmps29
          go_wp2
          go_ret
          exact ⟨_, rfl, Hs.hid (by rw [HR.out]; simp [HV.out]), Ext.refl _ _⟩
      | cons x xs =>
        have hl : (0 : Int) < ((x :: xs).length : Int) := by simp
        have HR : Hid (consN m m old root (x :: xs) = 12) := Hs.hid (by rw [hr]; simp)
        clear hr
        generalize x :: xs = ys at hl HR hT ⊢
        clear hT
        generalize ys.length = L at hl ⊢
        clear eqo hlen
        go_enter Tryd.func29, Tryd.ntmps29
        go_wp2
        go_ret
        exact ⟨_, rfl, Hs.hid (by rw [HR.out]), Ext.refl _ _⟩
    · by_cases hm0 : m = 0
      · subst hm0
        have hr : consN 0 n old root xs = if xs = [] ∧ old = dig ⟨#[]⟩ then 0 else 12 := by
          unfold consN; rw [if_neg hi, if_neg hmn, if_pos rfl]
        clear hi
        cases xs with
        | nil =>
          have hq : consN 0 n old root [] = if old.s = strN (digN ⟨#[]⟩) then 0 else 12 := by
            rw [hr]
            by_cases hx : old = dig ⟨#[]⟩
            · rw [if_pos ⟨rfl, hx⟩, if_pos (by rw [hx]; rfl)]
            · rw [if_neg (fun h => hx h.2), if_neg (fun h => hx (S32.s_inj (h.trans (dig_s _).symm)))]
          have HR := Hs.hid hq
          clear hr hq
          have HO := Hs.hid (refOf_any ⟨#[]⟩ (by decide))
          generalize strN (digN ⟨#[]⟩) = E at HR HO
          have eqE := str_eqB old.s E
          by_cases hv : old.s = E
          · have HV := Hs.hid hv
            rw [decide_eq_true hv] at eqE
            clear hv
            go_enter Tryd.func29, Tryd.ntmps29
            go_wp2_with (go_at_call 48; refine (HO.out _).mono ?_; rintro e w1 ⟨rfl, hx1⟩)
            go_ret
            exact ⟨_, rfl, Hs.hid (by rw [HR.out]; simp [HV.out]), hx1⟩
          · have HV := Hs.hid hv
            rw [decide_eq_false hv] at eqE
            clear hv
            go_enter Tryd.func29, Tryd.ntmps29
            go_wp2_with (go_at_call 48; refine (HO.out _).mono ?_; rintro e w1 ⟨rfl, hx1⟩)
            go_ret
            exact ⟨_, rfl, Hs.hid (by rw [HR.out]; simp [HV.out]), hx1⟩
        | cons x xs =>
          have hl : (0 : Int) < ((x :: xs).length : Int) := by simp
          have HR : Hid (consN 0 n old root (x :: xs) = 12) := Hs.hid (by rw [hr]; simp)
          clear hr
          generalize x :: xs = ys at hl HR hT ⊢
          clear hT
          generalize ys.length = L at hl ⊢
          clear eqo hlen
          go_enter Tryd.func29, Tryd.ntmps29
          go_wp2
          go_ret
          exact ⟨_, rfl, Hs.hid (by rw [HR.out]), Ext.refl _ _⟩
      · obtain ⟨I, rfl⟩ : ∃ I : Nat, m = I := ⟨m.toNat, by omega⟩
        obtain ⟨M, rfl⟩ : ∃ M : Nat, n = M := ⟨n.toNat, by omega⟩
        have hr : ∀ a b ok, Hid (BothP I M old true xs a b ok) → consN I M old root xs = if ok = true ∧ a = old.s ∧ b = root.s then 0 else 12 := by
          intro a b ok hv
          unfold consN
          rw [if_neg hi, if_neg hmn, if_neg hm0]
          simp only [Int.toNat_natCast]
          have e2 := hv.out.isOk
          rw [Bool.true_and] at e2
          by_cases hk : ok = true
          · obtain ⟨x, zs, h1, h2, h3⟩ := hv.out.val hk
            rw [Bool.true_and] at h1
            rw [hk, h1] at e2
            have e3 : zs.length = (dirsB I M).length := by simp at e2; omega
            rw [h1]
            show (if zs.length = (dirsB I M).length ∧ foldO nodeS (dirsB I M) x zs = old ∧ foldU nodeS (dirsB I M) x zs = root then (0 : Int) else 12) = _
            by_cases hq : foldO nodeS (dirsB I M) x zs = old ∧ foldU nodeS (dirsB I M) x zs = root
            · rw [if_pos ⟨e3, hq⟩, if_pos ⟨hk, by rw [h2, hq.1], by rw [h3, hq.2]⟩]
            · rw [if_neg (fun h => hq h.2), if_neg (fun h => hq ⟨S32.s_inj (h2.symm.trans h.2.1), S32.s_inj (h3.symm.trans h.2.2)⟩)]
          · rw [if_neg (fun h => hk h.1)]
            cases hq : seedB (firstB I M) old xs with
            | nil => rfl
            | cons x zs =>
              show (if zs.length = (dirsB I M).length ∧ foldO nodeS (dirsB I M) x zs = old ∧ foldU nodeS (dirsB I M) x zs = root then (0 : Int) else 12) = _
              rw [if_neg]
              intro h
              apply hk
              rw [e2, hq]
              simp [h.1]
        have HR := Hs.hid hr
        have HU := Hs.hid (fun w (h : Txts w.heap ao cap xs) => refBoth_mth M M I true xs ao cap old (Nat.le_refl _) (by omega) (by omega) (by omega) w h)
        clear hr hi eqo
        go_enter Tryd.func29, Tryd.ntmps29
        go_upto_region 12 with (go_at_call 49; with_reducible refine (HU.out _ hT).mono ?_; rintro e w2 ⟨va, vb, ok, rfl, hv, hx2⟩)
        have HF := Hs.hid (HR.out va vb ok hv)
        clear hv
        cases ok
        · go_wp2
          go_ret
          exact ⟨_, rfl, Hs.hid (by rw [HF.out]; rfl), hx2⟩
        · have eqa := str_eqB va old.s
          have eqb := str_eqB vb root.s
          by_cases hv : va = old.s
          · have HV := Hs.hid hv
            rw [decide_eq_true hv] at eqa
            clear hv
            by_cases hb : vb = root.s
            · have HB := Hs.hid hb
              rw [decide_eq_true hb] at eqb
              clear hb
              go_wp2
              go_ret
              exact ⟨_, rfl, Hs.hid (by rw [HF.out]; simp [HV.out, HB.out]), hx2⟩
            · have HB := Hs.hid hb
              rw [decide_eq_false hb] at eqb
              clear hb
              go_wp2
              go_ret
              exact ⟨_, rfl, Hs.hid (by rw [HF.out]; simp [HV.out, HB.out]), hx2⟩
          · have HV := Hs.hid hv
            rw [decide_eq_false hv] at eqa
            clear hv
            go_wp2
            go_ret
            exact ⟨_, rfl, Hs.hid (by rw [HF.out]; simp [HV.out]), hx2⟩
end Go.Proofs.YtnjjbolbemlceaaDoor
set_option linter.unusedSimpArgs false
set_option linter.unusedVariables false
set_option maxHeartbeats 2000000
set_option maxRecDepth 100000
namespace Go.Proofs.YtnjjbolbemlceaaDoor
open Go.RowKit Go.Hs Go.Dg

/-- An error with one step, or none. -/
def ErrIs (h : Array Obj) (r : Int) (step : ByteArray) (a : Int) (v : Value) : Prop := (r = 0 ∧ v = .nilIface) ∨ (r ≠ 0 ∧ ErrV h (errN r) [(step, a)] v)
theorem ErrIs.ext {r : Int} {step : ByteArray} {a : Int} {v : Value} {w w' : World} (h : ErrIs w.heap r step a v) (x : Ext [] w w') : ErrIs w'.heap r step a v := by
  rcases h with h | ⟨h1, h2⟩
  · exact .inl h
  · exact .inr ⟨h1, h2.ext0 x⟩
theorem ErrIs.alloc (step : ByteArray) (a r : Int) (hr : r ≠ 0) (w : World) : ErrIs (w.alloc (.cells #[.string step, .int .i64 a, errN r] 68)).heap r step a (.iface 66 (.pointer (some ⟨w.heap.size, 0, none⟩))) :=
  .inr ⟨hr, _, _, rfl, heap_new _ _, rfl⟩
theorem in_err (step : ByteArray) (a r : Int) (hr : r ≠ 0) (w : World) : Calls Tryd.prog 30 #[.string step, .int .i64 a, .iface 28 (.int .i64 r)] w fun e w' => ∃ v, e = .returned v ∧ Hid (ErrIs w'.heap r step a v) ∧ Ext [] w w' :=
  (in_num step a r hr w).mono fun e w' ⟨v, h1, h2, h3⟩ => ⟨v, h1, Hs.hid (by rw [h3, h2]; exact ErrIs.alloc step a r hr w), by rw [h3]; exact (Ext.refl _ _).alloc _⟩
theorem told_any (step : ByteArray) (a : Int) (ok : Bool) (w : World) :
    Calls Tryd.prog 45 #[.string step, .int .i64 a, .bool ok] w fun e w' => ∃ v, e = .returned v ∧ Hid (ErrIs w'.heap (if ok then 0 else 12) step a v) ∧ Ext [] w w' := by
  cases ok
  · go_enter Tryd.func45, Tryd.ntmps45
    go_wp2_with (go_at_call 30; refine (in_err step a 12 (by decide) _).mono ?_; rintro e w1 ⟨v, rfl, hv, hx1⟩)
    go_ret
    exact ⟨_, rfl, hv, hx1⟩
  · go_enter Tryd.func45, Tryd.ntmps45
    go_wp2
    go_ret
    exact ⟨_, rfl, Hs.hid (.inl ⟨rfl, rfl⟩), Ext.refl _ _⟩
theorem head_n {w : World} {H : Nat} {n : Int} {root : S32} {fr : Nat × Nat} (h : w.heap[H]? = some (.cells (#[.int .i64 n] ++ root.V) 52 fr)) : w.cell? ⟨H, 0, none⟩ = some (.int .i64 n) := by
  rw [cellAt h, Array.getElem?_append_left (by simp)]; rfl
theorem head_root {w : World} {H : Nat} {n : Int} {root : S32} {fr : Nat × Nat} (h : w.heap[H]? = some (.cells (#[.int .i64 n] ++ root.V) 52 fr)) : w.rangeAt H 1 root.V.toList := by
  intro j v hj
  rw [cellAt h, Array.getElem?_append_right (by simp)]
  simpa [Nat.add_sub_cancel_left] using hj
theorem take_le {s : WSt S32} {x : S32} (h : s.a ≤ 1000 ∧ s.e ≤ 1000) : (s.take nodeS x).a ≤ 1000 ∧ (s.take nodeS x).e ≤ 1000 := by
  have hc : ∀ a e, (climbE a e).1 ≤ a := fun a => by
    induction a using Nat.strongRecOn with
    | _ a ih =>
      intro e
      rw [climbE]; split
      · next h => have := ih (a / 2) (by omega) (e / 2); omega
      · exact Nat.le_refl _
  have h1 := hc s.a s.e
  have h2 := climbE_le s.a s.e
  unfold WSt.take nextP
  split
  · exact h
  · split <;> (constructor <;> simp only [] <;> omega)
theorem wCells_one (s : WSt S32) : (wCells s).toArray.all (·.oneCell') = true := by
  rw [Array.all_eq_true']
  intro u hu
  simp only [wCells, List.mem_toArray, List.mem_append, List.mem_cons, List.not_mem_nil, or_false] at hu
  rcases hu with (((rfl | rfl) | h) | h) | rfl
  · rfl
  · rfl
  · exact S32.ones _ u h
  · exact S32.ones _ u h
  · rfl
theorem walk0_sz (s : WSt S32) : walk0.size = (wCells s).toArray.size := by unfold walk0; rw [List.size_toArray, List.size_toArray, wCells_len, wCells_len]
theorem boxExt {w : World} (o : Obj) (x : Array Value) : Ext [] w ((w.alloc o).setRow w.heap.size x) :=
  ((Ext.refl [] w).alloc o).trans (setRow_ext _ _) (fun g hg => .inr (by simp at hg; omega))
theorem exec_build {a : Act} {o : Oper} {t : TypeId} (parts : Array (Nat × Operand)) (ho : o.op = .build t parts) (vs : List (Nat × Value)) (cells : Array Value) (w : World) (hv : (parts.map fun (i, x) => (i, a.eval x)).toList = vs)
    (hb : Tryd.prog.built t vs = some cells) : (execOp a.eval o).run Tryd.prog w = .ok (.value (.agg cells)) w := by
  unfold execOp
  have := run_build w t (parts.map fun (i, x) => (i, a.eval x)) cells (by rw [hv]; exact hb)
  simp only [ho, Sem.run_bind, this, Result.andThen_ok, Sem.run_pure]
theorem incl_walk (LF root : S32) (I M : Nat) (hlt : I < M) (xs : List S32) (s : WSt S32) (hs : s = xs.foldl (WSt.take nodeS) ⟨I, M - 1, zeroS, LF, false⟩) :
    inclN LF I M root xs = if s.st = false ∧ s.e = 0 ∧ s.l = root then 0 else 12 := by
  obtain ⟨h1, h2⟩ := take_all nodeS xs ⟨I, M - 1, zeroS, LF, false⟩ rfl
  rw [← hs] at h1 h2
  rw [ways_dirs M I hlt] at h1 h2
  unfold inclN
  rw [if_neg (by omega)]
  simp only [Int.toNat_natCast]
  by_cases hl : xs.length = (dirs I M).length
  · have h3 := h1.2 hl
    have h4 := (h2 hl).1
    have h5 : s.st = false := by cases h : s.st; rfl; exact absurd h h3.1
    by_cases hr : s.l = root
    · rw [if_pos ⟨hl, by rw [← h4]; exact hr⟩, if_pos ⟨h5, h3.2, hr⟩]
    · rw [if_neg (fun q => hr (h4.trans q.2)), if_neg (fun q => hr q.2.2)]
  · rw [if_neg (fun q => hl q.1), if_neg (fun q => hl (h1.1 ⟨by rw [q.1]; decide, q.2.1⟩))]
theorem pIncl_any (leaf : ByteArray) (hs : leaf.size ≤ 1000) (i n : Int) (hn : n ≤ 1000) (root : S32) (xs : List S32) (ao : Option Addr) (cap : Nat) (w : World) (hS : Sums32 w.heap ao cap xs) :
    Calls Tryd.prog 26 #[.string leaf, .int .i64 i, .agg (#[.int .i64 n] ++ root.V), .slice ao xs.length cap] w fun e w' => ∃ v, e = .returned v ∧
      Hid (ErrIs w'.heap (inclN (dig (leaf2 leaf)) i n root xs) ⟨#[108, 101, 97, 102]⟩ i v) ∧ Ext [] w w' := by
  by_cases hi : i < 0 ∨ n ≤ i
  · have hr : inclN (dig (leaf2 leaf)) i n root xs = 6 := by unfold inclN; rw [if_pos hi]
    have HR := Hs.hid hr
    clear hr
    have hH := head_n (heap_new w (.cells (#[.int .i64 n] ++ root.V) 52))
    have hx0 := (Ext.refl [] w).alloc (.cells (#[.int .i64 n] ++ root.V) 52)
    by_cases h0 : i < 0
    · clear hi
      go_enter Tryd.func26, Tryd.ntmps26
      go_wp2_with (go_at_call 30; refine (in_err ⟨#[108, 101, 97, 102]⟩ i 6 (by decide) _).mono ?_; rintro e w1 ⟨v, rfl, hv, hx1⟩)
      go_ret
      exact ⟨_, rfl, by rw [HR.out]; exact hv, hx0.trans0 hx1⟩
    · have h1 : n ≤ i := by omega
      clear hi
      go_enter Tryd.func26, Tryd.ntmps26
      go_wp2_with (go_at_call 30; refine (in_err ⟨#[108, 101, 97, 102]⟩ i 6 (by decide) _).mono ?_; rintro e w1 ⟨v, rfl, hv, hx1⟩)
      go_ret
      exact ⟨_, rfl, by rw [HR.out]; exact hv, hx0.trans0 hx1⟩
  · obtain ⟨I, rfl⟩ : ∃ I : Nat, i = I := ⟨i.toNat, by omega⟩
    obtain ⟨M, rfl⟩ : ∃ M : Nat, n = M := ⟨n.toNat, by omega⟩
    have hlt : I < M := by omega
    have h0 : ¬ (I : Int) < 0 := by omega
    have h1 : ¬ (M : Int) ≤ I := by omega
    have hM1 : (M : Int) - 1 = ((M - 1 : Nat) : Int) := by omega
    have hM2 : M ≤ 1000 := by omega
    have hwr : IntKind.i64.wrap ((M - 1 : Nat) : Int) = ((M - 1 : Nat) : Int) := by rw [IntKind.wrap_i64]; omega
    have HLF : Hid (digV (⟨#[0]⟩ ++ leaf) = (dig (leaf2 leaf)).V) := Hs.hid (dig_V _)
    generalize dig (leaf2 leaf) = LF at HLF ⊢
    have hH := heap_new w (.cells (#[.int .i64 (M : Int)] ++ root.V) 52)
    have hx0 := (Ext.refl [] w).alloc (.cells (#[.int .i64 (M : Int)] ++ root.V) 52)
    have hHn := head_n hH
    go_enter Tryd.func26, Tryd.ntmps26
    go_upto_region 3 with fail
    generalize w.alloc (.cells (#[.int .i64 (M : Int)] ++ root.V) 52) = W at hH hx0 hHn ⊢
    obtain ⟨H, hHH⟩ : ∃ H, w.heap.size = H := ⟨_, rfl⟩
    rw [hHH] at hH hHn ⊢
    have HHH := Hs.hid (show w.heap.size ≤ H from Nat.le_of_eq hHH)
    clear hHH
    go_cut [9] (fun s9 wx => ∃ b, s9 = .pointer (some ⟨b, 0, none⟩) ∧ w.heap.size ≤ b ∧ H < b ∧ WAt wx.heap b ⟨I, M - 1, zeroS, LF, false⟩ ∧ wx.heap[H]? = some (.cells (#[.int .i64 (M : Int)] ++ root.V) 52 (0, 0)) ∧ Ext [] w wx)
    case first =>
      refine wp_region_noPanic ?_
      refine wp_region_held_drew (S := (fun w' => w'.cell? ⟨H, 0, none⟩ = some (.int .i64 (M : Int)))) (by kernel_rfl) ?_ (fun hHeld => ?_)
      · ((try dsimp only); exact head_n hH)
      refine wpAnyH_take (i := 0) (v := ?_) rfl (by kernel_rfl) (by kernel_rfl) (by kernel_rfl) (fun _ _ _ h => h) (Or.inl ⟨by rfl, ?_⟩) (by assumption) ?_
      rotate_left
      · (intro w hSw; (try dsimp only at hSw); first | (go_simp; done) | (go_simp; with_reducible rfl))
      try simp only [Act.put, List.getElem_toArray, List.getElem_cons_succ, List.getElem_cons_zero, List.setIfInBounds_toArray, List.set_cons_zero, List.set_cons_succ]
      refine wpAnyH_take (i := 1) (v := ?_) rfl (by kernel_rfl) (by kernel_rfl) (by kernel_rfl) (fun _ _ _ h => h) (Or.inl ⟨by rfl, ?_⟩) (by assumption) ?_
      rotate_left
      · (intro w hSw; (try dsimp only at hSw); first | (go_simp; done) | (go_simp; with_reducible rfl))
      try simp only [Act.put, List.getElem_toArray, List.getElem_cons_succ, List.getElem_cons_zero, List.setIfInBounds_toArray, List.set_cons_zero, List.set_cons_succ]
      refine wpAnyH_take (i := 2) (v := ?_) rfl (by kernel_rfl) (by kernel_rfl) (by kernel_rfl) (fun _ _ _ h => h) (Or.inl ⟨by rfl, ?_⟩) (by assumption) ?_
      rotate_left
      · (intro w hSw; (try dsimp only at hSw); first | (go_simp; done) | (go_simp; with_reducible rfl))
      try simp only [Act.put, List.getElem_toArray, List.getElem_cons_succ, List.getElem_cons_zero, List.setIfInBounds_toArray, List.set_cons_zero, List.set_cons_succ]
      refine wpAnyH_take (i := 3) (v := ?_) rfl (by kernel_rfl) (by kernel_rfl) (by kernel_rfl) (fun _ _ _ h => h) (Or.inl ⟨by rfl, ?_⟩) (by assumption) ?_
      rotate_left
      · (intro w hSw; (try dsimp only at hSw); first | (go_simp; done) | (go_simp; with_reducible rfl))
      try simp only [Act.put, List.getElem_toArray, List.getElem_cons_succ, List.getElem_cons_zero, List.setIfInBounds_toArray, List.set_cons_zero, List.set_cons_succ]
      refine wpAnyH_take (i := 4) (v := ?_) rfl (by kernel_rfl) (by kernel_rfl) (by kernel_rfl) (fun _ _ _ h => h) (Or.inl ⟨by rfl, ?_⟩) (by assumption) ?_
      rotate_left
      · (intro w hSw; (try dsimp only at hSw); first | (go_simp; done) | (go_simp; with_reducible rfl))
      try simp only [Act.put, List.getElem_toArray, List.getElem_cons_succ, List.getElem_cons_zero, List.setIfInBounds_toArray, List.set_cons_zero, List.set_cons_succ]
      refine wpAnyH_ready (rs := [5, 7]) (by kernel_rfl) (by simp) ?_
      refine AllReadyH.cons rfl (fun K hK => ?_) (AllReadyH.cons rfl (fun K hK => ?_) AllReadyH.nil)
      · go_simp
        (go_at_call 23; refine (leaf_any leaf (by omega) _).mono ?_; rintro e w1 ⟨cs1, rfl, hcs, hx1⟩; obtain rfl : cs1 = LF.V := hcs.out.trans HLF.out; clear hcs; have hH1 := hx1.same (by exact hH) List.not_mem_nil)
        go_wp2_with fail
        refine hK.out _ _ ?_ (fun hHeld => ?_)
        · ((try dsimp only); exact head_n hH1)
        clear hK K
        try simp only [Act.put, List.getElem_toArray, List.getElem_cons_succ, List.getElem_cons_zero, List.setIfInBounds_toArray, List.set_cons_zero, List.set_cons_succ]
        refine wpAnyH_take (i := 6) (v := _) rfl (by kernel_rfl) (by kernel_rfl) (by kernel_rfl) (fun _ _ _ h => h) (.inl ⟨by rfl, fun w' _ => exec_build _ rfl [(0, .int .i64 (I : Int)), (1, .int .i64 ((M - 1 : Nat) : Int)), (3, .agg LF.V)] (wCells ⟨I, M - 1, zeroS, LF, false⟩).toArray _ (by first | (go_simp; done) | (go_simp; rfl) | (simp [Act.eval]; done)) (walk_built I (M - 1) LF)⟩) (by assumption) ?_
        try simp only [Act.put, List.getElem_toArray, List.getElem_cons_succ, List.getElem_cons_zero, List.setIfInBounds_toArray, List.set_cons_zero, List.set_cons_succ]
        refine wpAnyH_ready (rs := [7]) (by kernel_rfl) (by simp) ?_
        refine AllReadyH.cons rfl (fun K hK => ?_) AllReadyH.nil
        rw [if_pos (by rfl)]
        (have hz := (zero_of_info (P := Tryd.prog) infoWalk).1 w1; have hN := heap_new w1 (.cells walk0 82); have hH2 := heap_old' _ (.cells walk0 82) hH1; have hNl := lt_of_heap hH1; go_simp)
        refine hK.out _ _ ?_ (fun hHeld => ?_)
        · ((try dsimp only); exact head_n hH2)
        clear hK K
        try simp only [Act.put, List.getElem_toArray, List.getElem_cons_succ, List.getElem_cons_zero, List.setIfInBounds_toArray, List.set_cons_zero, List.set_cons_succ]
        refine wpAnyH_ready (rs := [8]) (by kernel_rfl) (by simp) ?_
        refine AllReadyH.cons rfl (fun K hK => ?_) AllReadyH.nil
        rw [if_pos (by rfl)]
        (have hW3 := setRow_heap _ _ _ (wCells ⟨I, M - 1, zeroS, LF, false⟩).toArray _ _ hN; have hH3 := (setRow_other _ _ H (wCells ⟨I, M - 1, zeroS, LF, false⟩).toArray (Nat.ne_of_lt hNl)).trans hH2; refine wp_store_row 82 _ _ rfl _ (wCells ⟨I, M - 1, zeroS, LF, false⟩).toArray rfl rfl _ _ hN (by rw [List.size_toArray, wCells_len]; exact (zero_of_info (P := Tryd.prog) infoWalk).2) (walk0_sz _) (wCells_one _) ?_)
        refine hK.out _ _ ?_ (fun hHeld => ?_)
        · ((try dsimp only); exact head_n hH3)
        clear hK K
        try simp only [Act.put, List.getElem_toArray, List.getElem_cons_succ, List.getElem_cons_zero, List.setIfInBounds_toArray, List.set_cons_zero, List.set_cons_succ]
        refine wpAnyH_done (by kernel_rfl) ?_ _
        refine NoPanic.normal ?_
        go_wp2
        go_meet
        first
          | exact ⟨_, rfl, Nat.le_trans (hx0.size) hx1.size, hNl, hW3, hH3, (((hx0.drew).trans0 hx1).alloc _).trans (setRow_ext _ _) (fun g hg => .inr (by simp at hg; subst hg; exact Nat.le_trans hx0.size hx1.size))⟩
          | exact ⟨_, rfl, hx0.size, hNl, hW3, hH3, (((hx0.drew).alloc _).trans0 hx1).trans (setRow_ext _ _) (fun g hg => .inr (by simp at hg; subst hg; exact hx0.size))⟩
      · rw [if_pos (by rfl)]
        (have hz := (zero_of_info (P := Tryd.prog) infoWalk).1 W.drew; have hN := heap_new W.drew (.cells walk0 82); have hH0 := heap_old' _ (.cells walk0 82) (show W.drew.heap[H]? = _ from hH); have hNl := lt_of_heap hH; go_simp)
        refine hK.out _ _ ?_ (fun hHeld => ?_)
        · ((try dsimp only); exact head_n hH0)
        clear hK K
        try simp only [Act.put, List.getElem_toArray, List.getElem_cons_succ, List.getElem_cons_zero, List.setIfInBounds_toArray, List.set_cons_zero, List.set_cons_succ]
        refine wpAnyH_ready (rs := [5]) (by kernel_rfl) (by simp) ?_
        refine AllReadyH.cons rfl (fun K hK => ?_) AllReadyH.nil
        go_simp
        (go_at_call 23; refine (leaf_any leaf (by omega) _).mono ?_; rintro e w1 ⟨cs1, rfl, hcs, hx1⟩; obtain rfl : cs1 = LF.V := hcs.out.trans HLF.out; clear hcs; have hH1 := hx1.same (by exact hH0) List.not_mem_nil; have hN1 := hx1.same hN List.not_mem_nil)
        go_wp2_with fail
        refine hK.out _ _ ?_ (fun hHeld => ?_)
        · ((try dsimp only); exact head_n hH1)
        clear hK K
        try simp only [Act.put, List.getElem_toArray, List.getElem_cons_succ, List.getElem_cons_zero, List.setIfInBounds_toArray, List.set_cons_zero, List.set_cons_succ]
        refine wpAnyH_take (i := 6) (v := _) rfl (by kernel_rfl) (by kernel_rfl) (by kernel_rfl) (fun _ _ _ h => h) (.inl ⟨by rfl, fun w' _ => exec_build _ rfl [(0, .int .i64 (I : Int)), (1, .int .i64 ((M - 1 : Nat) : Int)), (3, .agg LF.V)] (wCells ⟨I, M - 1, zeroS, LF, false⟩).toArray _ (by first | (go_simp; done) | (go_simp; rfl) | (simp [Act.eval]; done)) (walk_built I (M - 1) LF)⟩) (by assumption) ?_
        try simp only [Act.put, List.getElem_toArray, List.getElem_cons_succ, List.getElem_cons_zero, List.setIfInBounds_toArray, List.set_cons_zero, List.set_cons_succ]
        refine wpAnyH_ready (rs := [8]) (by kernel_rfl) (by simp) ?_
        refine AllReadyH.cons rfl (fun K hK => ?_) AllReadyH.nil
        rw [if_pos (by rfl)]
        (have hW3 := setRow_heap _ _ _ (wCells ⟨I, M - 1, zeroS, LF, false⟩).toArray _ _ hN1; have hH3 := (setRow_other _ _ H (wCells ⟨I, M - 1, zeroS, LF, false⟩).toArray (Nat.ne_of_lt hNl)).trans hH1; refine wp_store_row 82 _ _ rfl _ (wCells ⟨I, M - 1, zeroS, LF, false⟩).toArray rfl rfl _ _ hN1 (by rw [List.size_toArray, wCells_len]; exact (zero_of_info (P := Tryd.prog) infoWalk).2) (walk0_sz _) (wCells_one _) ?_)
        refine hK.out _ _ ?_ (fun hHeld => ?_)
        · ((try dsimp only); exact head_n hH3)
        clear hK K
        try simp only [Act.put, List.getElem_toArray, List.getElem_cons_succ, List.getElem_cons_zero, List.setIfInBounds_toArray, List.set_cons_zero, List.set_cons_succ]
        refine wpAnyH_done (by kernel_rfl) ?_ _
        refine NoPanic.normal ?_
        go_wp2
        go_meet
        first
          | exact ⟨_, rfl, Nat.le_trans (hx0.size) hx1.size, hNl, hW3, hH3, (((hx0.drew).trans0 hx1).alloc _).trans (setRow_ext _ _) (fun g hg => .inr (by simp at hg; subst hg; exact Nat.le_trans hx0.size hx1.size))⟩
          | exact ⟨_, rfl, hx0.size, hNl, hW3, hH3, (((hx0.drew).alloc _).trans0 hx1).trans (setRow_ext _ _) (fun g hg => .inr (by simp at hg; subst hg; exact hx0.size))⟩
    case rest =>
      obtain ⟨b, rfl, hbn, hHb, hW, hH, hE⟩ := hcut
      have hmax := hS.2.1
      have hlen : (xs.length : Int) ≤ 9223372036854775807 := by have := hS.1; omega
      have hSc : Sums32 wc.heap ao cap xs := hS.ext hE (by simp)
      have HI := Hs.hid hi
      have HSS := Hs.hid hS
      have HFIN := Hs.hid (incl_walk LF root I M hlt xs)
      clear hx0 hHn hS hSc hi h0 h1 hn
      go_wp2_with fail
      go_loopw [32] (fun iv wr => ∃ (k : Nat) (s : WSt S32), iv = .int .i64 k ∧ k ≤ xs.length ∧ WAt wr.heap b s ∧ Hid (s = (xs.take k).foldl (WSt.take nodeS) ⟨I, M - 1, zeroS, LF, false⟩) ∧ Hid (s.a ≤ 1000 ∧ s.e ≤ 1000) ∧ Ext [b] wc wr) (fun iv _ => xs.length - (intOf iv).toNat)
      case atStart => exact ⟨0, _, rfl, Nat.zero_le _, hW, Hs.hid rfl, Hs.hid ⟨by show I ≤ 1000; omega, by show M - 1 ≤ 1000; omega⟩, Ext.refl _ _⟩
      case round =>
        clear hW
        obtain ⟨k, s, rfl, hk, hW, HS, HB, hEb⟩ := hrel
        by_cases hkl : k < xs.length
        · have hkl' : (k : Int) < xs.length := by omega
          obtain ⟨x, hx⟩ : ∃ x, xs[k]? = some x := ⟨_, List.getElem?_eq_getElem hkl⟩
          have HX := Hs.hid hx
          clear hx
          obtain ⟨sb, so, rfl, hsb, hrg⟩ := (HSS.out.ext ((hE.mono (F' := [b]) (fun _ h => by cases h)).trans' hEb) (by simpa using hbn)).at HX.out
          have HW := Hs.hid hW
          clear hW
          go_wp2_with (first
            | (refine wpList_yield (.agg x.V) (by rfl) (exec_load_midV (.tmp 34) rfl sb _ rfl x _ hrg) ?_)
            | (refine wpList_store_row rfl 46 (.tmp 11) (.tmp 35) rfl wr.heap.size x.V rfl rfl _ _ (heap_new _ _) (by rw [x.size]; exact infoSum) (by rw [x.size]; rfl) x.one ?_)
            | (refine wpList_yield (.agg x.V) (by rfl) (exec_load_rowV (.tmp 11) rfl wr.heap.size rfl x _ ⟨_, setRow_heap _ _ _ _ _ _ (heap_new _ _)⟩) ?_)
            | (go_at_call 44; refine (take_any b s HB.out x _ (HW.out.ext (boxExt _ _) List.not_mem_nil)).mono ?_; rintro e w5 ⟨rfl, hW5, hx5⟩))
          go_round
          case rel =>
            refine ⟨k + 1, s.take nodeS x, by go_num, by omega, hW5, Hs.hid ?_, Hs.hid (take_le HB.out), ?_⟩
            · rw [List.take_add_one, HX.out, HS.out]; simp
            · exact hEb.trans' (((boxExt _ _).mono (fun _ h => by cases h)).trans' hx5)
          case measure => simp [intOf]; omega
        · have hkl' : ¬ (k : Int) < xs.length := by omega
          obtain rfl : k = xs.length := by omega
          have h66 := hW.st
          have hce := hW.e
          have hWl := hW.l
          have hHr : wr.rangeAt H 1 root.V.toList := head_root (hEb.same hH (by simp; omega))
          have HR := Hs.hid (HFIN.out s (by rw [HS.out, List.take_length]))
          have HEE : Hid (Ext [] w wr) := Hs.hid (hE.trans hEb (fun g hg => .inr (by simp at hg; omega)))
          cases hst : s.st with
          | true =>
            rw [hst] at h66
            have HST := Hs.hid hst
            clear hst
            go_wp2_with (go_at_call 45; refine (told_any ⟨#[108, 101, 97, 102]⟩ (I : Int) false _).mono ?_; rintro e w7 ⟨v, rfl, hv, hx7⟩)
            go_ret
            exact ⟨_, rfl, by rw [HR.out, if_neg (fun q => by rw [HST.out] at q; cases q.1)]; exact hv, HEE.out.trans0 hx7⟩
          | false =>
            rw [hst] at h66
            have HST := Hs.hid hst
            clear hst
            by_cases he : s.e = 0
            · have he' : (s.e : Int) = 0 := by omega
              have HE0 := Hs.hid he
              clear he
              by_cases hl : s.l = root
              · have HL := Hs.hid hl
                have hdec : decide (s.l = root) = true := decide_eq_true hl
                clear hl
                go_wp2_with (first
                  | (refine wpList_yield (.agg s.l.V) (by rfl) (exec_load_midV (.tmp 49) rfl b 34 rfl s.l _ hWl) ?_)
                  | (refine wpList_yield (.agg root.V) (by rfl) (exec_load_midV (.tmp 51) rfl H 1 rfl root _ hHr) ?_)
                  | (refine wpList_yield (.bool (decide (s.l = root))) (by rfl) (exec_eq_V (.tmp 50) (.tmp 52) _ rfl _ _ rfl rfl _) ?_)
                  | (go_at_call 45; refine (told_any ⟨#[108, 101, 97, 102]⟩ (I : Int) true _).mono ?_; rintro e w7 ⟨v, rfl, hv, hx7⟩))
                go_ret
                exact ⟨_, rfl, by rw [HR.out, if_pos ⟨HST.out, HE0.out, HL.out⟩]; exact hv, HEE.out.trans0 hx7⟩
              · have HL := Hs.hid hl
                have hdec : decide (s.l = root) = false := decide_eq_false hl
                clear hl
                go_wp2_with (first
                  | (refine wpList_yield (.agg s.l.V) (by rfl) (exec_load_midV (.tmp 49) rfl b 34 rfl s.l _ hWl) ?_)
                  | (refine wpList_yield (.agg root.V) (by rfl) (exec_load_midV (.tmp 51) rfl H 1 rfl root _ hHr) ?_)
                  | (refine wpList_yield (.bool (decide (s.l = root))) (by rfl) (exec_eq_V (.tmp 50) (.tmp 52) _ rfl _ _ rfl rfl _) ?_)
                  | (go_at_call 45; refine (told_any ⟨#[108, 101, 97, 102]⟩ (I : Int) false _).mono ?_; rintro e w7 ⟨v, rfl, hv, hx7⟩))
                go_ret
                exact ⟨_, rfl, by rw [HR.out, if_neg (fun q => HL.out q.2.2)]; exact hv, HEE.out.trans0 hx7⟩
            · have he' : ¬ (s.e : Int) = 0 := by omega
              have HE0 := Hs.hid he
              clear he
              go_wp2_with (go_at_call 45; refine (told_any ⟨#[108, 101, 97, 102]⟩ (I : Int) false _).mono ?_; rintro e w7 ⟨v, rfl, hv, hx7⟩)
              go_ret
              exact ⟨_, rfl, by rw [HR.out, if_neg (fun q => HE0.out q.2.1)]; exact hv, HEE.out.trans0 hx7⟩
end Go.Proofs.YtnjjbolbemlceaaDoor
set_option linter.unusedSimpArgs false
set_option linter.unusedVariables false
set_option maxHeartbeats 2000000
set_option maxRecDepth 100000
namespace Go.Proofs.YtnjjbolbemlceaaDoor
open Go.RowKit Go.Hs Go.Dg

theorem cutE_any (s : ByteArray) (n : Nat) (hn : n ≤ 1000000) (w : World) (hs : s.size ≤ maxLen) : Calls Tryd.prog 20 #[.string s, .int .i64 n] w fun e w' => ∃ t : ByteArray, e = .returned (.string t) ∧ t.size ≤ n ∧ w' = w := by
  unfold maxLen at hs
  have h1 : (n : Int) ≤ 1000000 := by omega
  have h2 : (0 : Int) ≤ n := by omega
  have h3 : (s.size : Int) ≤ 9223372036854775807 := by omega
  by_cases h : n < s.size
  · have hi : (n : Int) < s.size := by omega
    have HN := Hs.hid h
    clear h
    go_enter Tryd.func20, Tryd.ntmps20
    go_wp2
    go_ret
    exact ⟨_, rfl, by rw [ByteArray.size_extract]; omega, rfl⟩
  · have hi : ¬ (n : Int) < s.size := by omega
    have HN := Hs.hid h
    clear h
    go_enter Tryd.func20, Tryd.ntmps20
    go_wp2
    go_ret
    exact ⟨_, rfl, by have := HN.out; omega, rfl⟩
theorem few_any (n : Int) (w : World) : Calls Tryd.prog 21 #[.int .i64 n] w fun e w' => ∃ r, e = .returned (.int .i64 r) ∧ Hid (r ≤ 300 ∧ -3 ≤ r) ∧ w' = w := by
  go_enter Tryd.func21, Tryd.ntmps21
  go_wp2
  go_ret
  exact ⟨_, rfl, Hs.hid (by omega), rfl⟩
/-- The first 32 bytes of a text, and zeros. -/
def pad32 (s : ByteArray) : S32 := ⟨((s.data.toList.take (Nat.min s.size 32)).map UInt8.toNat) ++ List.replicate (32 - Nat.min s.size 32) 0, by
  have : s.data.toList.length = s.size := Array.length_toList
  have h2 : Nat.min s.size 32 ≤ s.size := Nat.min_le_left _ _
  have h3 : Nat.min s.size 32 ≤ 32 := Nat.min_le_right _ _
  rw [List.length_append, List.length_map, List.length_take, List.length_replicate, this, Nat.min_eq_left h2]; omega, by
  intro c hc
  rcases List.mem_append.1 hc with h | h
  · obtain ⟨x, _, rfl⟩ := List.mem_map.1 h
    exact x.toNat_lt
  · rw [(List.mem_replicate.1 h).2]; decide⟩
theorem pad32_self (x : S32) : pad32 x.s = x := by
  apply S32.ext'
  have hz : x.s.size = 32 := x.ssize
  show ((x.s.data.toList.take (Nat.min x.s.size 32)).map UInt8.toNat) ++ List.replicate (32 - Nat.min x.s.size 32) 0 = x.l
  rw [hz]
  have hd : x.s.data.toList = x.l.map UInt8.ofNat := by simp [S32.s, strN]
  rw [show Nat.min 32 32 = 32 from rfl, Nat.sub_self, List.replicate_zero, List.append_nil, hd, List.take_of_length_le (by rw [List.length_map, x.len]; exact Nat.le_refl _), List.map_map]
  apply List.ext_getElem?
  intro i
  rw [List.getElem?_map]
  cases h : x.l[i]? with
  | none => rfl
  | some c =>
    have := x.lt c (List.mem_of_getElem? h)
    simp only [Option.map_some, Function.comp_apply, UInt8.toNat_ofNat']
    rw [Nat.mod_eq_of_lt (by omega)]
theorem run_copy_sum (w : World) (ty : TypeId) (R : Nat) (s : ByteArray) (hR : w.heap[R]? = some (.cells zeroS.V 46 (0, 0))) :
    (Builtin.copy_ #[50, 9] ty #[.slice (some ⟨R, 0, none⟩) 32 32, .string s]).run Tryd.prog w = .ok (goInt (Nat.min s.size 32)) (w.setRow R (pad32 s).V) := by
  have h2 : Nat.min s.size 32 ≤ s.size := Nat.min_le_left _ _
  have h3 : Nat.min s.size 32 ≤ 32 := Nat.min_le_right _ _
  have hsz : s.data.toList.length = s.size := Array.length_toList
  have hlen : ((s.data.toList.map fun b : UInt8 => Value.int IntKind.u8 (b.toNat : Int)).take (Nat.min s.size 32)).length = Nat.min s.size 32 := by
    rw [List.length_take, List.length_map, hsz, Nat.min_eq_left h2]
  have hst := run_storeCells_at Tryd.prog R 0 46 ((s.data.toList.map fun b : UInt8 => Value.int IntKind.u8 (b.toNat : Int)).take (Nat.min s.size 32)) 0 zeroS.V w hR (by rw [hlen, zeroS.size]; omega) (by
    intro v hv
    obtain ⟨x, _, rfl⟩ := List.mem_map.1 (List.mem_of_mem_take hv)
    rfl)
  have hV : (zeroS.V.toList.take 0 ++ (s.data.toList.map fun b : UInt8 => Value.int IntKind.u8 (b.toNat : Int)).take (Nat.min s.size 32) ++ zeroS.V.toList.drop (Nat.min s.size 32)).toArray = (pad32 s).V := by
    show _ = ((((s.data.toList.take (Nat.min s.size 32)).map UInt8.toNat) ++ List.replicate (32 - Nat.min s.size 32) 0).map fun (c : Nat) => Value.int .u8 c).toArray
    congr 1
    rw [List.take_zero, List.nil_append, List.map_append, ← List.map_take, List.map_map]
    congr 1
    show ((List.replicate 32 0).map fun (c : Nat) => Value.int .u8 c).drop _ = _
    rw [← List.map_drop, List.drop_replicate]
  rw [hlen] at hst
  simp only [Nat.add_zero, Nat.zero_add] at hst
  rw [hV] at hst
  obtain ⟨i0, hi, _⟩ := info_parts infoU8
  have hs : (Tryd.prog.info? 5).map (·.size) = some 1 := by kernel_rfl
  cases hq : Tryd.prog.info? 5 with
  | none => simp [hq] at hs
  | some i =>
    have h1 : i.size = 1 := by simpa [hq] using hs
    simp [Builtin.copy_, run_underlying Tryd.underlying50, Builtin.lenOf, Builtin.firstCells, sizeOf, typeInfo, hq, h1]
    rw [hst]
    simp [Result.andThen]
theorem sum32_any (s : ByteArray) (hs : s.size ≤ maxLen) (w : World) : Calls Tryd.prog 25 #[.string s] w fun e w' => ∃ x : S32, e = .returned (.agg x.V) ∧ Hid (x = pad32 s) ∧ Ext [] w w' := by
  have hZ : zeroS.V = #[.int .u8 0, .int .u8 0, .int .u8 0, .int .u8 0, .int .u8 0, .int .u8 0, .int .u8 0, .int .u8 0, .int .u8 0, .int .u8 0, .int .u8 0, .int .u8 0, .int .u8 0, .int .u8 0, .int .u8 0, .int .u8 0, .int .u8 0, .int .u8 0, .int .u8 0, .int .u8 0, .int .u8 0, .int .u8 0, .int .u8 0, .int .u8 0, .int .u8 0, .int .u8 0, .int .u8 0, .int .u8 0, .int .u8 0, .int .u8 0, .int .u8 0, .int .u8 0] := rfl
  have HZ := Hs.hid hZ
  go_enter Tryd.func25, Tryd.ntmps25
  go_upto_region 2 with fail
  rw [← HZ.out]
  clear hZ
  have h0 := heap_old' _ (.cells zeroS.V 46) (heap_new w (.cells zeroS.V 46))
  have h1 := heap_new (w.alloc (.cells zeroS.V 46)) (.cells zeroS.V 46)
  have hx := ((Ext.refl [] w).alloc (.cells zeroS.V 46)).alloc (.cells zeroS.V 46)
  have hsz1 : (w.alloc (.cells zeroS.V 46)).heap.size = w.heap.size + 1 := by simp
  rw [hsz1] at h1
  generalize (w.alloc (.cells zeroS.V 46)).alloc (.cells zeroS.V 46) = W at h0 h1 hx ⊢
  clear hsz1
  obtain ⟨R, hR⟩ : ∃ R, w.heap.size = R := ⟨_, rfl⟩
  have HR := Hs.hid (show w.heap.size ≤ R from Nat.le_of_eq hR)
  rw [hR] at h0 h1 ⊢
  clear hR
  have hcp := fun ty => run_copy_sum W ty (R + 1) s h1
  obtain ⟨y, hy⟩ : ∃ y, y = pad32 s := ⟨_, rfl⟩
  rw [← hy] at hcp
  have HY := Hs.hid hy
  clear hy
  have h0' : (W.setRow (R + 1) y.V).heap[R]? = some (.cells zeroS.V 46 (0, 0)) := (setRow_other _ _ _ _ (by omega)).trans h0
  have h1' := setRow_heap W (R + 1) _ y.V _ _ h1
  have HC := Hs.hid hcp
  have HZS := Hs.hid (show zeroS.V.size = y.V.size by rw [zeroS.size, y.size])
  clear hcp
  go_wp2_with (first
    | (refine Lib.wpList_copy_run _ rfl (.tmp 4) (.tmp 5) 50 9 rfl _ _ rfl rfl (HC.out _) ?_)
    | (refine wpList_yield (.agg y.V) (by rfl) (exec_load_rowV (.tmp 3) rfl (R + 1) rfl y _ ⟨_, h1'⟩) ?_)
    | (refine wpList_store_row rfl 46 (.tmp 2) (.tmp 7) rfl R y.V rfl rfl _ _ h0' (by rw [y.size]; exact infoSum) HZS.out y.one ?_))
  refine bodyPost_ret (v := .agg y.V) (results_cell_row (P := Tryd.prog) Tryd.results25 _ _ R _ _ _ _ rfl (setRow_heap _ _ _ _ _ _ h0') Tryd.underlying46 rfl (by rw [y.size]; exact infoSum)) rfl ?_
  exact ⟨y, rfl, HY, (hx.trans (setRow_ext (R + 1) y.V) (fun g hg => .inr (by have := HR.out; simp at hg; omega))).trans (setRow_ext R y.V) (fun g hg => .inr (by have := HR.out; simp at hg; omega))⟩
end Go.Proofs.YtnjjbolbemlceaaDoor
set_option linter.unusedSimpArgs false
set_option linter.unusedVariables false
set_option maxHeartbeats 2000000
set_option maxRecDepth 100000
namespace Go.Proofs.YtnjjbolbemlceaaDoor
open Go.RowKit Go.Hs Go.Dg

theorem infoStrP : (Tryd.prog.info? 9).map (fun i => (i.zero, i.size, i.bytes)) = some (some (.string ⟨#[]⟩), 1, 16) := by kernel_rfl
/-- A slice of the sums' texts that the call owns. -/
def OwnX (h : Array Obj) (v : Value) (xs : List S32) : Prop := Own h 9 1 v xs.length (xs.map fun x => Value.string x.s)
theorem OwnX.ext {w w' : World} {F : List Nat} {v : Value} {xs : List S32} (o : OwnX w.heap v xs) (x : Ext F w w') (hF : ∀ g, v.ownBlock = some g → g ∉ F) : OwnX w'.heap v xs :=
  Own.same o fun g hg => x.block g (Own.lt o hg) (hF g hg)
theorem sums_any (ao : Option Addr) (len cap : Nat) (w : World) (ha : StrArg w ao len) : Calls Tryd.prog 22 #[.slice ao len cap] w fun e w' =>
    ∃ xs ao1 cap1 ao2 cap2, e = .returned (.tuple #[.slice ao1 (List.length xs) cap1, .slice ao2 (List.length xs) cap2]) ∧ Hid (xs.length ≤ 12 ∧ OwnV w'.heap (.slice ao1 xs.length cap1) xs ∧ OwnX w'.heap (.slice ao2 xs.length cap2) xs ∧
      (∀ g, (Value.slice ao1 xs.length cap1).ownBlock = some g → w.heap.size ≤ g) ∧ ∀ g, (Value.slice ao2 xs.length cap2).ownBlock = some g → w.heap.size ≤ g) ∧ Ext [] w w' := by
  obtain ⟨i0, hi, hz0, hz1, hz2⟩ := info_parts infoStrP
  have HI := Hs.hid (And.intro hi (And.intro hz0 (And.intro hz1 hz2)))
  clear hi hz0 hz1 hz2
  have hlen := ha.1
  have HA := Hs.hid ha
  clear ha
  have HZ := Hs.hid (show zeroS.V = #[.int .u8 0, .int .u8 0, .int .u8 0, .int .u8 0, .int .u8 0, .int .u8 0, .int .u8 0, .int .u8 0, .int .u8 0, .int .u8 0, .int .u8 0, .int .u8 0, .int .u8 0, .int .u8 0, .int .u8 0, .int .u8 0, .int .u8 0, .int .u8 0, .int .u8 0, .int .u8 0, .int .u8 0, .int .u8 0, .int .u8 0, .int .u8 0, .int .u8 0, .int .u8 0, .int .u8 0, .int .u8 0, .int .u8 0, .int .u8 0, .int .u8 0, .int .u8 0] from rfl)
  go_enter Tryd.func22, Tryd.ntmps22
  go_upto_region 3 with fail
  have hO1 := heap_old' _ (.cells #[] 9) (heap_new w (.cells #[] 46))
  have hO2 := heap_new (w.alloc (.cells #[] 46)) (.cells #[] 9)
  have hx0 := ((Ext.refl [] w).alloc (.cells #[] 46)).alloc (.cells #[] 9)
  have hsz1 : (w.alloc (.cells #[] 46)).heap.size = w.heap.size + 1 := by simp
  rw [hsz1] at hO2
  generalize (w.alloc (.cells #[] 46)).alloc (.cells #[] 9) = W at hO1 hO2 hx0 ⊢
  obtain ⟨R, hRR⟩ : ∃ R, w.heap.size = R := ⟨_, rfl⟩
  have HR := Hs.hid (show w.heap.size ≤ R from Nat.le_of_eq hRR)
  rw [hRR] at hO1 hO2 ⊢
  clear hRR hsz1
  go_wp2_with fail
  go_loopw [4, 5, 6] (fun s4 s5 s6 wr => ∃ (xs : List S32) (ao1 : Option Addr) (cap1 : Nat) (ao2 : Option Addr) (cap2 : Nat), s4 = .slice ao1 xs.length cap1 ∧ s5 = .slice ao2 xs.length cap2 ∧ s6 = .int .i64 (xs.length : Nat) ∧ Hid (xs.length ≤ 12 ∧ xs.length ≤ len) ∧
    Hid (OwnV wr.heap (.slice ao1 xs.length cap1) xs ∧ OwnX wr.heap (.slice ao2 xs.length cap2) xs) ∧ Hid ((∀ g, (Value.slice ao1 xs.length cap1).ownBlock = some g → w.heap.size ≤ g ∧ (Value.slice ao2 xs.length cap2).ownBlock ≠ some g) ∧ ∀ g, (Value.slice ao2 xs.length cap2).ownBlock = some g → w.heap.size ≤ g) ∧ Hid (Ext [] w wr)) (fun _ _ iv _ => 12 - (intOf iv).toNat)
  case atStart =>
    refine ⟨[], _, _, _, _, rfl, rfl, rfl, Hs.hid ⟨by decide, Nat.zero_le _⟩, Hs.hid ⟨⟨rfl, .inr ⟨R, 0, #[], rfl, Nat.zero_le _, hO1, Nat.le_refl _, by decide, rfl, rfl⟩⟩, ⟨rfl, .inr ⟨R + 1, 0, #[], rfl, Nat.zero_le _, hO2, Nat.le_refl _, by decide, rfl, rfl⟩⟩⟩, Hs.hid ⟨fun g hg => ?_, fun g hg => ?_⟩, Hs.hid hx0⟩
    · have := HR.out; simp [Value.ownBlock] at hg ⊢; omega
    · have := HR.out; simp [Value.ownBlock] at hg; omega
  case round =>
    clear hO1 hO2 hx0
    obtain ⟨xs, ao1, cap1, ao2, cap2, rfl, rfl, rfl, HL, HO, HF, HE⟩ := hrel
    obtain ⟨k, hk⟩ : ∃ k, xs.length = k := ⟨_, rfl⟩
    by_cases hlt : xs.length < len ∧ xs.length < 12
    · have h1 : ((xs.length : Nat) : Int) < len := by omega
      have h2 : ((xs.length : Nat) : Int) < 12 := by omega
      obtain ⟨a, t, rfl, _, hcell, hts⟩ := (HA.out.ext HE.out).2 xs.length hlt.1
      have HT := Hs.hid hts
      have HLT := Hs.hid hlt
      clear hts hlt hk
      go_upto_region 7 with (first
        | (go_at_call 25; refine (sum32_any t HT.out _).mono ?_; rintro e w1 ⟨x, rfl, hx, hx1⟩)
        | (refine wpList_store_row rfl 46 (.tmp 7) (.tmp 24) rfl w1.heap.size x.V rfl rfl _ _ (heap_new _ _) (by rw [x.size]; exact infoSum) (by rw [x.size]; rfl) x.one ?_))
      have hr7 := setRow_heap _ _ _ x.V _ _ (heap_new w1 (.cells zeroS.V 46))
      have hx7 := hx1.trans0 (boxExt (w := w1) (.cells zeroS.V 46) x.V)
      rw [HZ.out] at hr7 hx7
      obtain ⟨R7, hR7⟩ : ∃ g, w1.heap.size = g := ⟨_, rfl⟩
      have HR7 := Hs.hid (show wr.heap.size ≤ R7 by have := hx1.size; omega)
      rw [hR7] at hr7 hx7 ⊢
      clear hR7 hx
      generalize (w1.alloc _).setRow R7 x.V = W7 at hr7 hx7 ⊢
      have HO1 : Hid (OwnV (W7.alloc (.cells x.V 46)).heap (.slice ao1 xs.length cap1) xs) := Hs.hid ((HO.out.1.ext hx7 (fun _ _ => List.not_mem_nil)).ext ((Ext.refl [] _).alloc _) (fun _ _ => List.not_mem_nil))
      have HBB := Hs.hid (show (W7.alloc (.cells x.V 46)).heap[W7.heap.size]? = some (.cells (sumsV [x]).toArray 46 (0, 0)) by
        rw [show (sumsV [x]).toArray = x.V by simp [sumsV]]; exact heap_new _ _)
      go_upto_region 8 with (first
        | (refine wpList_yield (.agg x.V) (by rfl) (exec_load_rowV (.tmp 7) rfl R7 rfl x _ ⟨_, hr7⟩) ?_)
        | (refine wpList_sumV rfl (.tmp 26) rfl x rfl ?_)
        | (refine wpList_append_sumV rfl (.tmp 25) (.tmp 27) rfl (.slice ao1 xs.length cap1) xs rfl HO1.out W7.heap.size 1 [x] (0, 0) rfl rfl HBB.out (by have := HL.out.1; omega) ?_; intro ao3 cap3 w3 hO3 hx3 hf3))
      have hlt1 : ∀ g, (Value.slice ao1 xs.length cap1).ownBlock = some g → g < wr.heap.size := fun g hg => Own.lt HO.out.1 hg
      have hr3 := hx3.same (heap_old' _ (.cells x.V 46) hr7) (by
        intro hm
        have := hlt1 R7 (by simpa using hm)
        have := HR7.out; omega)
      have hcv := conv_V hr3
      have HE3 := Hs.hid (((HE.out.trans0 hx7).alloc (.cells x.V 46)).trans hx3 (fun g hg => .inr (HF.out.1 g (by simpa using hg)).1))
      have HO2 : Hid (OwnX (w3.alloc (.cells #[.string x.s] 9)).heap (.slice ao2 xs.length cap2) xs) := Hs.hid (by
        have o1 := (HO.out.2.ext hx7 (fun _ _ => List.not_mem_nil)).ext ((Ext.refl [] _).alloc (.cells x.V 46)) (fun _ _ => List.not_mem_nil)
        have o2 := o1.ext hx3 (fun g hg hm => (HF.out.1 g (by simpa using hm)).2 hg)
        exact o2.ext ((Ext.refl [] _).alloc _) (fun _ _ => List.not_mem_nil))
      have HX3 := Hs.hid (And.intro hO3 hf3)
      have HW7 := Hs.hid (show wr.heap.size ≤ W7.heap.size from hx7.size)
      have HSZ3 := Hs.hid (show W7.heap.size ≤ w3.heap.size by have := hx3.size; simp at this; omega)
      clear hO3 hf3 hx3 hx7 hr7 hr3
      go_wp2_with (at_builtin; refine wpList_append rfl (.tmp 29) (.tmp 32) 34 rfl 9 i0 _ 1 16 Tryd.underlying34 HI.out.1 HI.out.2.1 HI.out.2.2.1 HI.out.2.2.2 rfl (by decide) (.slice ao2 xs.length cap2) xs.length (xs.map fun x : S32 => Value.string x.s) rfl HO2.out ⟨w3.heap.size, 0, none⟩ 1 1 [.string x.s] rfl rfl (news_new w3 [.string x.s] 9) (by simp [Value.oneCell']) (by have := HL.out.1; unfold maxLen; omega) (by have := HL.out.1; omega) ?_; intro ao4 cap4 w4 hO4 hx4 hf4)
      go_round
      case rel =>
        have hl1 : (xs ++ [x]).length = xs.length + 1 := by simp
        have hlt2 : ∀ g, (Value.slice ao2 xs.length cap2).ownBlock = some g → g < wr.heap.size := fun g hg => Own.lt HO.out.2 hg
        refine ⟨xs ++ [x], ao3, cap3, ao4, cap4, by rw [hl1], by rw [hl1], by rw [hl1]; go_num, Hs.hid (by rw [hl1]; have := HLT.out; omega), Hs.hid ⟨?_, ?_⟩, Hs.hid ?_, Hs.hid ?_⟩
        · rw [hl1]
          refine (HX3.out.1.ext ((Ext.refl [] w3).alloc (.cells #[.string x.s] 9)) (fun _ _ => List.not_mem_nil)).ext hx4 (fun g hg hm => ?_)
          have hm' : (Value.slice ao2 xs.length cap2).ownBlock = some g := by simpa using hm
          have q := hlt2 g hm'
          rcases HX3.out.2 g hg with h | h
          · exact (HF.out.1 g h).2 hm'
          · have := HW7.out; simp at h; omega
        · unfold OwnX
          rw [hl1, List.map_append]
          exact hO4
        · rw [hl1]
          refine ⟨fun g hg => ⟨?_, fun h4 => ?_⟩, fun g hg => ?_⟩
          · rcases HX3.out.2 g hg with h | h
            · exact (HF.out.1 g h).1
            · have := HW7.out; have := HE.out.size; simp at h; omega
          · rcases hf4 g h4 with h | h
            · have q := hlt2 g h
              rcases HX3.out.2 g hg with h' | h'
              · exact (HF.out.1 g h').2 h
              · have := HW7.out; simp at h'; omega
            · have q := Own.lt HX3.out.1 hg
              simp at h; omega
          · rcases hf4 g hg with h | h
            · exact HF.out.2 g h
            · have := HE3.out.size; simp at h; omega
        · exact (HE3.out.alloc _).trans hx4 (fun g hg => .inr (HF.out.2 g (by simpa using hg)))
      case measure =>
        have := HLT.out
        simp [intOf]; omega
    · have h12 : ¬ (((xs.length : Nat) : Int) < len ∧ ((xs.length : Nat) : Int) < 12) := by omega
      clear hlt hk
      by_cases h1 : ((xs.length : Nat) : Int) < len
      · have h2 : ¬ ((xs.length : Nat) : Int) < 12 := fun h => h12 ⟨h1, h⟩
        clear h12
        go_wp2
        go_ret2
        exact ⟨xs, ao1, cap1, ao2, cap2, rfl, Hs.hid ⟨HL.out.1, HO.out.1, HO.out.2, fun g hg => (HF.out.1 g hg).1, HF.out.2⟩, HE.out⟩
      · clear h12
        go_wp2
        go_ret2
        exact ⟨xs, ao1, cap1, ao2, cap2, rfl, Hs.hid ⟨HL.out.1, HO.out.1, HO.out.2, fun g hg => (HF.out.1 g hg).1, HF.out.2⟩, HE.out⟩
end Go.Proofs.YtnjjbolbemlceaaDoor
set_option linter.unusedSimpArgs false
set_option linter.unusedVariables false
set_option maxHeartbeats 2000000
set_option maxRecDepth 100000
namespace Go.Proofs.YtnjjbolbemlceaaDoor
open Go.RowKit Go.Hs Go.Dg

theorem pConsA_any (m n : Int) (hn : n ≤ 1000) (hout : m ≤ 0 ∨ n ≤ m) (old root : S32) (xs : List S32) (ao : Option Addr) (cap : Nat) (w : World) (hS : Sums32 w.heap ao cap xs) :
    Calls Tryd.prog 27 #[.agg (#[.int .i64 m] ++ old.V), .agg (#[.int .i64 n] ++ root.V), .slice ao xs.length cap] w fun e w' => ∃ v, e = .returned v ∧
      Hid (ErrIs w'.heap (consN m n old root xs) ⟨#[112, 114, 101, 102, 105, 120]⟩ m v) ∧ Ext [] w w' := by
  have hmax := hS.2.1
  have hcap := hS.1
  by_cases hi : m < 0 ∨ n < m
  · have hr : consN m n old root xs = 6 := by unfold consN; rw [if_pos hi]
    have HR := Hs.hid hr
    clear hr
    obtain ⟨hA, hB, hx0, _⟩ := alloc_two' w (.cells (#[.int .i64 m] ++ old.V) 52) (.cells (#[.int .i64 n] ++ root.V) 52)
    have hAm := head_n hA
    have hBn := head_n hB
    by_cases h0 : m < 0
    · clear hi hout
      go_enter Tryd.func27, Tryd.ntmps27
      go_wp2_with (go_at_call 30; refine (in_err ⟨#[112, 114, 101, 102, 105, 120]⟩ m 6 (by decide) _).mono ?_; rintro e w1 ⟨v, rfl, hv, hx1⟩)
      go_ret
      exact ⟨_, rfl, by rw [HR.out]; exact hv, hx0.trans0 hx1⟩
    · have h1 : n < m := by omega
      clear hi hout
      go_enter Tryd.func27, Tryd.ntmps27
      go_wp2_with (go_at_call 30; refine (in_err ⟨#[112, 114, 101, 102, 105, 120]⟩ m 6 (by decide) _).mono ?_; rintro e w1 ⟨v, rfl, hv, hx1⟩)
      go_ret
      exact ⟨_, rfl, by rw [HR.out]; exact hv, hx0.trans0 hx1⟩
  · have h0 : ¬ m < 0 := by omega
    have h1 : ¬ n < m := by omega
    by_cases hmn : m = n
    · subst hmn
      have hr : consN m m old root xs = if xs = [] ∧ old = root then 0 else 12 := by unfold consN; rw [if_neg hi, if_pos rfl]
      clear hi hout
      rcases Nat.eq_zero_or_pos xs.length with hl | hl
      · have hxs : xs = [] := List.eq_nil_of_length_eq_zero hl
        have HR := Hs.hid (show consN m m old root xs = if decide (old = root) = true then 0 else 12 by
          rw [hr]
          by_cases h : old = root
          · rw [if_pos ⟨hxs, h⟩, if_pos (by simpa using h)]
          · rw [if_neg (fun q => h q.2), if_neg (by simpa using h)])
        rw [hl] at hcap ⊢
        clear hr hxs hl hS
        generalize consN m m old root xs = CN at HR ⊢
        obtain ⟨hA, hB, hx0, _⟩ := alloc_two' w (.cells (#[.int .i64 m] ++ old.V) 52) (.cells (#[.int .i64 m] ++ root.V) 52)
        have hAm := head_n hA
        have hBn := head_n hB
        go_enter Tryd.func27, Tryd.ntmps27
        go_upto_region 4 with fail
        generalize (w.alloc (.cells (#[.int .i64 m] ++ old.V) 52)).alloc (.cells (#[.int .i64 m] ++ root.V) 52) = W at hA hB hx0 hAm hBn ⊢
        obtain ⟨A, hAA⟩ : ∃ A, w.heap.size = A := ⟨_, rfl⟩
        rw [hAA] at hA hB hAm hBn ⊢
        obtain ⟨B, hBB⟩ : ∃ B, A + 1 = B := ⟨_, rfl⟩
        rw [hBB] at hB hBn ⊢
        have HAB := Hs.hid (And.intro (show w.heap.size ≤ A from Nat.le_of_eq hAA) (show A < B by omega))
        clear hAA hBB
        refine wp_region_stl_tail 12 (by kernel_rfl) (by kernel_rfl) ?_
        simp only [List.take_succ_cons, List.take_zero, List.drop_succ_cons, List.drop_zero]
        refine still_val (v := ?_) (by rfl) ?_ ?_
        rotate_left
        · first | (go_simp; done) | (go_simp; with_reducible rfl)
        try simp only [Act.put, List.getElem_toArray, List.getElem_cons_succ, List.getElem_cons_zero, List.setIfInBounds_toArray, List.set_cons_zero, List.set_cons_succ]
        refine still_val (v := ?_) (by rfl) ?_ ?_
        rotate_left
        · first | (go_simp; done) | (go_simp; with_reducible rfl)
        try simp only [Act.put, List.getElem_toArray, List.getElem_cons_succ, List.getElem_cons_zero, List.setIfInBounds_toArray, List.set_cons_zero, List.set_cons_succ]
        refine still_val (v := ?_) (by rfl) ?_ ?_
        rotate_left
        · first | (go_simp; done) | (go_simp; with_reducible rfl)
        try simp only [Act.put, List.getElem_toArray, List.getElem_cons_succ, List.getElem_cons_zero, List.setIfInBounds_toArray, List.set_cons_zero, List.set_cons_succ]
        refine still_val (v := ?_) (by rfl) ?_ ?_
        rotate_left
        · first | (go_simp; done) | (go_simp; with_reducible rfl)
        try simp only [Act.put, List.getElem_toArray, List.getElem_cons_succ, List.getElem_cons_zero, List.setIfInBounds_toArray, List.set_cons_zero, List.set_cons_succ]
        refine still_val (v := ?_) (by rfl) ?_ ?_
        rotate_left
        · first | (go_simp; done) | (go_simp; with_reducible rfl)
        try simp only [Act.put, List.getElem_toArray, List.getElem_cons_succ, List.getElem_cons_zero, List.setIfInBounds_toArray, List.set_cons_zero, List.set_cons_succ]
        refine still_val (v := ?_) (by rfl) ?_ ?_
        rotate_left
        · first | (go_simp; done) | (go_simp; with_reducible rfl)
        try simp only [Act.put, List.getElem_toArray, List.getElem_cons_succ, List.getElem_cons_zero, List.setIfInBounds_toArray, List.set_cons_zero, List.set_cons_succ]
        refine still_val (v := ?_) (by rfl) ?_ ?_
        rotate_left
        · first | (go_simp; done) | (go_simp; with_reducible rfl)
        try simp only [Act.put, List.getElem_toArray, List.getElem_cons_succ, List.getElem_cons_zero, List.setIfInBounds_toArray, List.set_cons_zero, List.set_cons_succ]
        refine still_val (v := (.agg old.V)) (by rfl) (exec_load_midV (.tmp 37) rfl A 1 rfl old _ (head_root hA)) ?_
        try simp only [Act.put, List.getElem_toArray, List.getElem_cons_succ, List.getElem_cons_zero, List.setIfInBounds_toArray, List.set_cons_zero, List.set_cons_succ]
        refine still_val (v := ?_) (by rfl) ?_ ?_
        rotate_left
        · first | (go_simp; done) | (go_simp; with_reducible rfl)
        try simp only [Act.put, List.getElem_toArray, List.getElem_cons_succ, List.getElem_cons_zero, List.setIfInBounds_toArray, List.set_cons_zero, List.set_cons_succ]
        refine still_val (v := (.agg root.V)) (by rfl) (exec_load_midV (.tmp 39) rfl B 1 rfl root _ (head_root hB)) ?_
        try simp only [Act.put, List.getElem_toArray, List.getElem_cons_succ, List.getElem_cons_zero, List.setIfInBounds_toArray, List.set_cons_zero, List.set_cons_succ]
        refine still_val (v := (.bool (decide (old = root)))) (by rfl) (exec_eq_V (.tmp 38) (.tmp 40) _ rfl old root rfl rfl _) ?_
        try simp only [Act.put, List.getElem_toArray, List.getElem_cons_succ, List.getElem_cons_zero, List.setIfInBounds_toArray, List.set_cons_zero, List.set_cons_succ]
        refine still_val (v := ?_) (by rfl) ?_ ?_
        rotate_left
        · first | (go_simp; done) | (go_simp; with_reducible rfl)
        try simp only [Act.put, List.getElem_toArray, List.getElem_cons_succ, List.getElem_cons_zero, List.setIfInBounds_toArray, List.set_cons_zero, List.set_cons_succ]
        refine still_end ?_
        go_wp2_with (go_at_call 45; refine (told_any ⟨#[112, 114, 101, 102, 105, 120]⟩ m (decide (old = root)) _).mono ?_; rintro e w1 ⟨v, rfl, hv, hx1⟩)
        go_ret
        exact ⟨_, rfl, by rw [HR.out]; exact hv, hx0.drew.trans0 hx1⟩
      · have HR := Hs.hid (show consN m m old root xs = 12 by rw [hr, if_neg (fun q => by rw [q.1] at hl; simp at hl)])
        have hl' : ¬ ((xs.length : Nat) : Int) = 0 := by omega
        clear hr hS
        generalize consN m m old root xs = CN at HR ⊢
        generalize xs.length = L at hl hl' hcap ⊢
        have hbe : ((L : Int) == 0) = false := by simpa using hl'
        obtain ⟨hA, hB, hx0, _⟩ := alloc_two' w (.cells (#[.int .i64 m] ++ old.V) 52) (.cells (#[.int .i64 m] ++ root.V) 52)
        have hAm := head_n hA
        have hBn := head_n hB
        go_enter Tryd.func27, Tryd.ntmps27
        go_upto_region 4 with fail
        generalize (w.alloc (.cells (#[.int .i64 m] ++ old.V) 52)).alloc (.cells (#[.int .i64 m] ++ root.V) 52) = W at hA hB hx0 hAm hBn ⊢
        obtain ⟨A, hAA⟩ : ∃ A, w.heap.size = A := ⟨_, rfl⟩
        rw [hAA] at hA hB hAm hBn ⊢
        obtain ⟨B, hBB⟩ : ∃ B, A + 1 = B := ⟨_, rfl⟩
        rw [hBB] at hB hBn ⊢
        have HAB := Hs.hid (And.intro (show w.heap.size ≤ A from Nat.le_of_eq hAA) (show A < B by omega))
        clear hAA hBB
        refine wp_region_stl_tail 12 (by kernel_rfl) (by kernel_rfl) ?_
        simp only [List.take_succ_cons, List.take_zero, List.drop_succ_cons, List.drop_zero]
        refine still_val (v := ?_) (by rfl) ?_ ?_
        rotate_left
        · first | (go_simp; done) | (go_simp; with_reducible rfl)
        try simp only [Act.put, List.getElem_toArray, List.getElem_cons_succ, List.getElem_cons_zero, List.setIfInBounds_toArray, List.set_cons_zero, List.set_cons_succ]
        refine still_val (v := ?_) (by rfl) ?_ ?_
        rotate_left
        · first | (go_simp; done) | (go_simp; with_reducible rfl)
        try simp only [Act.put, List.getElem_toArray, List.getElem_cons_succ, List.getElem_cons_zero, List.setIfInBounds_toArray, List.set_cons_zero, List.set_cons_succ]
        refine still_val (v := ?_) (by rfl) ?_ ?_
        rotate_left
        · first | (go_simp; done) | (go_simp; with_reducible rfl)
        try simp only [Act.put, List.getElem_toArray, List.getElem_cons_succ, List.getElem_cons_zero, List.setIfInBounds_toArray, List.set_cons_zero, List.set_cons_succ]
        refine still_val (v := ?_) (by rfl) ?_ ?_
        rotate_left
        · first | (go_simp; done) | (go_simp; with_reducible rfl)
        try simp only [Act.put, List.getElem_toArray, List.getElem_cons_succ, List.getElem_cons_zero, List.setIfInBounds_toArray, List.set_cons_zero, List.set_cons_succ]
        refine still_val (v := ?_) (by rfl) ?_ ?_
        rotate_left
        · first | (go_simp; done) | (go_simp; with_reducible rfl)
        try simp only [Act.put, List.getElem_toArray, List.getElem_cons_succ, List.getElem_cons_zero, List.setIfInBounds_toArray, List.set_cons_zero, List.set_cons_succ]
        refine still_val (v := ?_) (by rfl) ?_ ?_
        rotate_left
        · first | (go_simp; done) | (go_simp; with_reducible rfl)
        try simp only [Act.put, List.getElem_toArray, List.getElem_cons_succ, List.getElem_cons_zero, List.setIfInBounds_toArray, List.set_cons_zero, List.set_cons_succ]
        refine still_not (by rfl) ?_
        try simp only [Act.put, List.getElem_toArray, List.getElem_cons_succ, List.getElem_cons_zero, List.setIfInBounds_toArray, List.set_cons_zero, List.set_cons_succ]
        refine still_not (by rfl) ?_
        try simp only [Act.put, List.getElem_toArray, List.getElem_cons_succ, List.getElem_cons_zero, List.setIfInBounds_toArray, List.set_cons_zero, List.set_cons_succ]
        refine still_not (by rfl) ?_
        try simp only [Act.put, List.getElem_toArray, List.getElem_cons_succ, List.getElem_cons_zero, List.setIfInBounds_toArray, List.set_cons_zero, List.set_cons_succ]
        refine still_not (by rfl) ?_
        try simp only [Act.put, List.getElem_toArray, List.getElem_cons_succ, List.getElem_cons_zero, List.setIfInBounds_toArray, List.set_cons_zero, List.set_cons_succ]
        refine still_not (by rfl) ?_
        try simp only [Act.put, List.getElem_toArray, List.getElem_cons_succ, List.getElem_cons_zero, List.setIfInBounds_toArray, List.set_cons_zero, List.set_cons_succ]
        refine still_val (v := ?_) (by rfl) ?_ ?_
        rotate_left
        · first | (go_simp; done) | (go_simp; with_reducible rfl)
        try simp only [Act.put, List.getElem_toArray, List.getElem_cons_succ, List.getElem_cons_zero, List.setIfInBounds_toArray, List.set_cons_zero, List.set_cons_succ]
        refine still_end ?_
        go_wp2_with (go_at_call 45; refine (told_any ⟨#[112, 114, 101, 102, 105, 120]⟩ m false _).mono ?_; rintro e w1 ⟨v, rfl, hv, hx1⟩)
        go_ret
        exact ⟨_, rfl, by rw [HR.out]; exact hv, hx0.drew.trans0 hx1⟩
    · obtain rfl : m = 0 := by omega
      have hr : consN 0 n old root xs = if xs = [] ∧ old = dig ⟨#[]⟩ then 0 else 12 := by unfold consN; rw [if_neg hi, if_neg hmn, if_pos rfl]
      have HD0 : Hid (digV ⟨#[]⟩ = (dig ⟨#[]⟩).V) := Hs.hid (dig_V _)
      generalize dig ⟨#[]⟩ = D0 at hr HD0
      clear hi hout
      rcases Nat.eq_zero_or_pos xs.length with hl | hl
      · have hxs : xs = [] := List.eq_nil_of_length_eq_zero hl
        have HR := Hs.hid (show consN 0 n old root xs = if decide (old = D0) = true then 0 else 12 by
          rw [hr]
          by_cases h : old = D0
          · rw [if_pos ⟨hxs, h⟩, if_pos (by simpa using h)]
          · rw [if_neg (fun q => h q.2), if_neg (by simpa using h)])
        rw [hl] at hcap ⊢
        clear hr hxs hl hS
        generalize consN 0 n old root xs = CN at HR ⊢
        obtain ⟨hA, hB, hx0, _⟩ := alloc_two' w (.cells (#[.int .i64 0] ++ old.V) 52) (.cells (#[.int .i64 n] ++ root.V) 52)
        have hAm := head_n hA
        have hBn := head_n hB
        go_enter Tryd.func27, Tryd.ntmps27
        go_upto_region 6 with fail
        generalize (w.alloc (.cells (#[.int .i64 0] ++ old.V) 52)).alloc (.cells (#[.int .i64 n] ++ root.V) 52) = W at hA hB hx0 hAm hBn ⊢
        obtain ⟨A, hAA⟩ : ∃ A, w.heap.size = A := ⟨_, rfl⟩
        rw [hAA] at hA hB hAm hBn ⊢
        obtain ⟨B, hBB⟩ : ∃ B, A + 1 = B := ⟨_, rfl⟩
        rw [hBB] at hB hBn ⊢
        have HAB := Hs.hid (And.intro (show w.heap.size ≤ A from Nat.le_of_eq hAA) (show A < B by omega))
        clear hAA hBB
        refine wp_region_noPanic ?_
        refine wp_region_held_drew (S := (fun w' => w'.heap[A]? = some (.cells (#[.int .i64 0] ++ old.V) 52 (0, 0)))) (by kernel_rfl) ?_ (fun hHeld => ?_)
        · ((try dsimp only); exact hA)
        refine wpAnyH_take (i := 0) (v := ?_) rfl (by kernel_rfl) (by kernel_rfl) (by kernel_rfl) (fun _ _ _ h => h) (Or.inl ⟨by rfl, ?_⟩) (by assumption) ?_
        rotate_left
        · (intro w hSw; (try dsimp only at hSw); first | (go_simp; done) | (go_simp; with_reducible rfl))
        try simp only [Act.put, List.getElem_toArray, List.getElem_cons_succ, List.getElem_cons_zero, List.setIfInBounds_toArray, List.set_cons_zero, List.set_cons_succ]
        refine wpAnyH_take (i := 1) (v := ?_) rfl (by kernel_rfl) (by kernel_rfl) (by kernel_rfl) (fun _ _ _ h => h) (Or.inl ⟨by rfl, ?_⟩) (by assumption) ?_
        rotate_left
        · (intro w hSw; (try dsimp only at hSw); first | (go_simp; done) | (go_simp; with_reducible rfl))
        try simp only [Act.put, List.getElem_toArray, List.getElem_cons_succ, List.getElem_cons_zero, List.setIfInBounds_toArray, List.set_cons_zero, List.set_cons_succ]
        refine wpAnyH_take (i := 2) (v := ?_) rfl (by kernel_rfl) (by kernel_rfl) (by kernel_rfl) (fun _ _ _ h => h) (Or.inl ⟨by rfl, ?_⟩) (by assumption) ?_
        rotate_left
        · (intro w hSw; (try dsimp only at hSw); first | (go_simp; done) | (go_simp; with_reducible rfl))
        try simp only [Act.put, List.getElem_toArray, List.getElem_cons_succ, List.getElem_cons_zero, List.setIfInBounds_toArray, List.set_cons_zero, List.set_cons_succ]
        refine wpAnyH_take (i := 3) (v := ?_) rfl (by kernel_rfl) (by kernel_rfl) (by kernel_rfl) (fun _ _ _ h => h) (Or.inl ⟨by rfl, ?_⟩) (by assumption) ?_
        rotate_left
        · (intro w hSw; (try dsimp only at hSw); first | (go_simp; done) | (go_simp; with_reducible rfl))
        try simp only [Act.put, List.getElem_toArray, List.getElem_cons_succ, List.getElem_cons_zero, List.setIfInBounds_toArray, List.set_cons_zero, List.set_cons_succ]
        refine wpAnyH_take (i := 4) (v := ?_) rfl (by kernel_rfl) (by kernel_rfl) (by kernel_rfl) (fun _ _ _ h => h) (Or.inl ⟨by rfl, ?_⟩) (by assumption) ?_
        rotate_left
        · (intro w hSw; (try dsimp only at hSw); first | (go_simp; done) | (go_simp; with_reducible rfl))
        try simp only [Act.put, List.getElem_toArray, List.getElem_cons_succ, List.getElem_cons_zero, List.setIfInBounds_toArray, List.set_cons_zero, List.set_cons_succ]
        refine wpAnyH_take (i := 5) (v := _) rfl (by kernel_rfl) (by kernel_rfl) (by kernel_rfl) (fun _ _ _ h => h) (yieldsIf_of (.agg old.V) (by rfl) (fun w' hw => exec_load_midV (.tmp 52) rfl A 1 rfl old w' (head_root hw))) (by assumption) ?_
        try simp only [Act.put, List.getElem_toArray, List.getElem_cons_succ, List.getElem_cons_zero, List.setIfInBounds_toArray, List.set_cons_zero, List.set_cons_succ]
        refine wpAnyH_ready (rs := [6]) (by kernel_rfl) (by simp) ?_
        refine AllReadyH.cons rfl (fun K hK => ?_) AllReadyH.nil
        go_simp
        (go_at_call 41; refine (of_any ⟨#[]⟩ (by decide) _).mono ?_; rintro e w1 ⟨cs1, rfl, hcs, hx1⟩; obtain rfl : cs1 = D0.V := hcs.out.trans HD0.out; clear hcs)
        go_wp2_with fail
        refine hK.out _ _ ?_ (fun hHeld => ?_)
        · ((try dsimp only); exact hx1.same hHeld List.not_mem_nil)
        clear hK K
        try simp only [Act.put, List.getElem_toArray, List.getElem_cons_succ, List.getElem_cons_zero, List.setIfInBounds_toArray, List.set_cons_zero, List.set_cons_succ]
        refine wpAnyH_take (i := 7) (v := _) rfl (by kernel_rfl) (by kernel_rfl) (by kernel_rfl) (fun _ _ _ h => h) (yieldsIf_of (.bool (decide (old = D0))) (by rfl) (fun w' _ => exec_eq_V (.tmp 53) (.tmp 54) _ rfl old D0 rfl rfl w')) (by assumption) ?_
        try simp only [Act.put, List.getElem_toArray, List.getElem_cons_succ, List.getElem_cons_zero, List.setIfInBounds_toArray, List.set_cons_zero, List.set_cons_succ]
        refine wpAnyH_take (i := 8) (v := ?_) rfl (by kernel_rfl) (by kernel_rfl) (by kernel_rfl) (fun _ _ _ h => h) (Or.inl ⟨by rfl, ?_⟩) (by assumption) ?_
        rotate_left
        · (intro w hSw; (try dsimp only at hSw); first | (go_simp; done) | (go_simp; with_reducible rfl))
        try simp only [Act.put, List.getElem_toArray, List.getElem_cons_succ, List.getElem_cons_zero, List.setIfInBounds_toArray, List.set_cons_zero, List.set_cons_succ]
        refine wpAnyH_ready (rs := [9]) (by kernel_rfl) (by simp) ?_
        refine AllReadyH.cons rfl (fun K hK => ?_) AllReadyH.nil
        go_simp
        (go_at_call 45; refine (told_any ⟨#[112, 114, 101, 102, 105, 120]⟩ 0 (decide (old = D0)) _).mono ?_; rintro e w2 ⟨v, rfl, hv, hx2⟩)
        go_wp2_with fail
        refine hK.out _ _ ?_ (fun hHeld => ?_)
        · ((try dsimp only); exact hx2.same hHeld List.not_mem_nil)
        clear hK K
        try simp only [Act.put, List.getElem_toArray, List.getElem_cons_succ, List.getElem_cons_zero, List.setIfInBounds_toArray, List.set_cons_zero, List.set_cons_succ]
        refine wpAnyH_take (i := 10) (v := ?_) rfl (by kernel_rfl) (by kernel_rfl) (by kernel_rfl) (fun _ _ _ h => h) (Or.inl ⟨by rfl, ?_⟩) (by assumption) ?_
        rotate_left
        · (intro w hSw; (try dsimp only at hSw); first | (go_simp; done) | (go_simp; with_reducible rfl))
        try simp only [Act.put, List.getElem_toArray, List.getElem_cons_succ, List.getElem_cons_zero, List.setIfInBounds_toArray, List.set_cons_zero, List.set_cons_succ]
        refine wpAnyH_done (by kernel_rfl) ?_ _
        refine NoPanic.normal ?_
        go_wp2
        go_ret
        exact ⟨_, rfl, by rw [HR.out]; simpa using hv, (hx0.drew.trans0 hx1).trans0 hx2⟩
      · have HR := Hs.hid (show consN 0 n old root xs = 12 by rw [hr, if_neg (fun q => by rw [q.1] at hl; simp at hl)])
        have hl' : ¬ ((xs.length : Nat) : Int) = 0 := by omega
        clear hr hS
        generalize consN 0 n old root xs = CN at HR ⊢
        generalize xs.length = L at hl hl' hcap ⊢
        have hbe : ((L : Int) == 0) = false := by simpa using hl'
        obtain ⟨hA, hB, hx0, _⟩ := alloc_two' w (.cells (#[.int .i64 0] ++ old.V) 52) (.cells (#[.int .i64 n] ++ root.V) 52)
        have hAm := head_n hA
        have hBn := head_n hB
        go_enter Tryd.func27, Tryd.ntmps27
        go_upto_region 6 with fail
        generalize (w.alloc (.cells (#[.int .i64 0] ++ old.V) 52)).alloc (.cells (#[.int .i64 n] ++ root.V) 52) = W at hA hB hx0 hAm hBn ⊢
        obtain ⟨A, hAA⟩ : ∃ A, w.heap.size = A := ⟨_, rfl⟩
        rw [hAA] at hA hB hAm hBn ⊢
        obtain ⟨B, hBB⟩ : ∃ B, A + 1 = B := ⟨_, rfl⟩
        rw [hBB] at hB hBn ⊢
        have HAB := Hs.hid (And.intro (show w.heap.size ≤ A from Nat.le_of_eq hAA) (show A < B by omega))
        clear hAA hBB
        refine wp_region_noPanic ?_
        refine wp_region_held_drew (S := (fun w' => w'.heap[A]? = some (.cells (#[.int .i64 0] ++ old.V) 52 (0, 0)))) (by kernel_rfl) ?_ (fun hHeld => ?_)
        · ((try dsimp only); exact hA)
        refine wpAnyH_take (i := 0) (v := ?_) rfl (by kernel_rfl) (by kernel_rfl) (by kernel_rfl) (fun _ _ _ h => h) (Or.inl ⟨by rfl, ?_⟩) (by assumption) ?_
        rotate_left
        · (intro w hSw; (try dsimp only at hSw); first | (go_simp; done) | (go_simp; with_reducible rfl))
        try simp only [Act.put, List.getElem_toArray, List.getElem_cons_succ, List.getElem_cons_zero, List.setIfInBounds_toArray, List.set_cons_zero, List.set_cons_succ]
        refine wpAnyH_take (i := 1) (v := ?_) rfl (by kernel_rfl) (by kernel_rfl) (by kernel_rfl) (fun _ _ _ h => h) (Or.inl ⟨by rfl, ?_⟩) (by assumption) ?_
        rotate_left
        · (intro w hSw; (try dsimp only at hSw); first | (go_simp; done) | (go_simp; with_reducible rfl))
        try simp only [Act.put, List.getElem_toArray, List.getElem_cons_succ, List.getElem_cons_zero, List.setIfInBounds_toArray, List.set_cons_zero, List.set_cons_succ]
        refine wpAnyH_take (i := 2) (v := ?_) rfl (by kernel_rfl) (by kernel_rfl) (by kernel_rfl) (fun _ _ _ h => h) (Or.inl ⟨by rfl, ?_⟩) (by assumption) ?_
        rotate_left
        · (intro w hSw; (try dsimp only at hSw); first | (go_simp; done) | (go_simp; with_reducible rfl))
        try simp only [Act.put, List.getElem_toArray, List.getElem_cons_succ, List.getElem_cons_zero, List.setIfInBounds_toArray, List.set_cons_zero, List.set_cons_succ]
        refine wpAnyH_take (i := 3) (v := ?_) rfl (by kernel_rfl) (by kernel_rfl) (by kernel_rfl) (fun _ _ _ h => h) (Or.inl ⟨by rfl, ?_⟩) (by assumption) ?_
        rotate_left
        · (intro w hSw; (try dsimp only at hSw); first | (go_simp; done) | (go_simp; with_reducible rfl))
        try simp only [Act.put, List.getElem_toArray, List.getElem_cons_succ, List.getElem_cons_zero, List.setIfInBounds_toArray, List.set_cons_zero, List.set_cons_succ]
        refine wpAnyH_take (i := 4) (v := undef) rfl (by kernel_rfl) (by kernel_rfl) (by kernel_rfl) (fun _ _ _ h => h) (Or.inr ⟨by rfl, rfl⟩) (by assumption) ?_
        try simp only [Act.put, List.getElem_toArray, List.getElem_cons_succ, List.getElem_cons_zero, List.setIfInBounds_toArray, List.set_cons_zero, List.set_cons_succ]
        refine wpAnyH_take (i := 5) (v := undef) rfl (by kernel_rfl) (by kernel_rfl) (by kernel_rfl) (fun _ _ _ h => h) (Or.inr ⟨by rfl, rfl⟩) (by assumption) ?_
        try simp only [Act.put, List.getElem_toArray, List.getElem_cons_succ, List.getElem_cons_zero, List.setIfInBounds_toArray, List.set_cons_zero, List.set_cons_succ]
        refine wpAnyH_take (i := 6) (v := undef) rfl (by kernel_rfl) (by kernel_rfl) (by kernel_rfl) (fun _ _ _ h => h) (Or.inr ⟨by rfl, rfl⟩) (by assumption) ?_
        try simp only [Act.put, List.getElem_toArray, List.getElem_cons_succ, List.getElem_cons_zero, List.setIfInBounds_toArray, List.set_cons_zero, List.set_cons_succ]
        refine wpAnyH_take (i := 7) (v := undef) rfl (by kernel_rfl) (by kernel_rfl) (by kernel_rfl) (fun _ _ _ h => h) (Or.inr ⟨by rfl, rfl⟩) (by assumption) ?_
        try simp only [Act.put, List.getElem_toArray, List.getElem_cons_succ, List.getElem_cons_zero, List.setIfInBounds_toArray, List.set_cons_zero, List.set_cons_succ]
        refine wpAnyH_take (i := 8) (v := ?_) rfl (by kernel_rfl) (by kernel_rfl) (by kernel_rfl) (fun _ _ _ h => h) (Or.inl ⟨by rfl, ?_⟩) (by assumption) ?_
        rotate_left
        · (intro w hSw; (try dsimp only at hSw); first | (go_simp; done) | (go_simp; with_reducible rfl))
        try simp only [Act.put, List.getElem_toArray, List.getElem_cons_succ, List.getElem_cons_zero, List.setIfInBounds_toArray, List.set_cons_zero, List.set_cons_succ]
        refine wpAnyH_ready (rs := [9]) (by kernel_rfl) (by simp) ?_
        refine AllReadyH.cons rfl (fun K hK => ?_) AllReadyH.nil
        go_simp
        (go_at_call 45; refine (told_any ⟨#[112, 114, 101, 102, 105, 120]⟩ 0 false _).mono ?_; rintro e w2 ⟨v, rfl, hv, hx2⟩)
        go_wp2_with fail
        refine hK.out _ _ ?_ (fun hHeld => ?_)
        · ((try dsimp only); exact hx2.same hHeld List.not_mem_nil)
        clear hK K
        try simp only [Act.put, List.getElem_toArray, List.getElem_cons_succ, List.getElem_cons_zero, List.setIfInBounds_toArray, List.set_cons_zero, List.set_cons_succ]
        refine wpAnyH_take (i := 10) (v := ?_) rfl (by kernel_rfl) (by kernel_rfl) (by kernel_rfl) (fun _ _ _ h => h) (Or.inl ⟨by rfl, ?_⟩) (by assumption) ?_
        rotate_left
        · (intro w hSw; (try dsimp only at hSw); first | (go_simp; done) | (go_simp; with_reducible rfl))
        try simp only [Act.put, List.getElem_toArray, List.getElem_cons_succ, List.getElem_cons_zero, List.setIfInBounds_toArray, List.set_cons_zero, List.set_cons_succ]
        refine wpAnyH_done (by kernel_rfl) ?_ _
        refine NoPanic.normal ?_
        go_wp2
        go_ret
        exact ⟨_, rfl, by rw [HR.out]; exact hv, hx0.drew.trans0 hx2⟩
end Go.Proofs.YtnjjbolbemlceaaDoor
set_option linter.unusedSimpArgs false
set_option linter.unusedVariables false
set_option maxHeartbeats 2000000
set_option maxRecDepth 100000
namespace Go.Proofs.YtnjjbolbemlceaaDoor
open Go.RowKit Go.Hs Go.Dg

theorem fill_walk0 (I E : Nat) : Instr.fill ([(0, 1), (1, 1), (2, 32), (34, 32), (66, 1)].toArray[·]?) walk0 [(0, .int .i64 (I : Int)), (1, .int .i64 (E : Int))] = some (wCells ⟨I, E, zeroS, zeroS, false⟩).toArray := by rfl
theorem walk_built0 (I E : Nat) : Tryd.prog.built 82 [(0, .int .i64 (I : Int)), (1, .int .i64 (E : Int))] = some (wCells ⟨I, E, zeroS, zeroS, false⟩).toArray := by
  have hp := walkPlaces
  have hf := fill_walk0 I E
  unfold Program.built
  cases hi : Tryd.prog.info? 82 with
  | none => rw [hi] at hp; simp at hp
  | some it =>
    cases hu : Tryd.prog.underlying 82 with
    | none => rw [hi, hu] at hp; simp at hp
    | some d =>
      rw [hi, hu] at hp
      cases d with
      | struct fields =>
        simp only [Option.bind_some, Option.map_eq_some_iff] at hp
        obtain ⟨pl, h1, h2⟩ := hp
        have h3 := (Prod.mk.inj h2).1
        have h4 := (Prod.mk.inj h2).2
        subst h4
        simp only [h1, h3]
        exact hf
      | _ => simp at hp
theorem climbO_odd {a e : Nat} (h : a % 2 = 1) : climbO a e = climbO (a / 2) (e / 2) := by rw [climbO, dif_pos h]
theorem climbO_even {a e : Nat} (h : ¬ a % 2 = 1) : climbO a e = (a, e) := by rw [climbO, dif_neg h]
theorem cons_walk (I M : Nat) (h1 : 1 ≤ I) (hlt : I < M) (old root x : S32) (xs zs : List S32) (hz : seedB (firstB I M) old xs = x :: zs) (s : WSt S32)
    (hs : s = zs.foldl (WSt.take nodeS) ⟨(climbO (I - 1) (M - 1)).1, (climbO (I - 1) (M - 1)).2, x, x, false⟩) :
    consN I M old root xs = if s.st = false ∧ s.e = 0 ∧ s.o = old ∧ s.l = root then 0 else 12 := by
  obtain ⟨q1, q2⟩ := take_all nodeS zs ⟨(climbO (I - 1) (M - 1)).1, (climbO (I - 1) (M - 1)).2, x, x, false⟩ rfl
  rw [← hs] at q1 q2
  have hd := (climbO_dirsB M I h1 hlt).1
  simp only [] at q1 q2
  rw [hd] at q1 q2
  unfold consN
  rw [if_neg (by omega), if_neg (by omega), if_neg (by omega)]
  simp only [Int.toNat_natCast, hz]
  by_cases hl : zs.length = (dirsB I M).length
  · have h3 := q1.2 hl
    have h4 := q2 hl
    have h5 : s.st = false := by cases h : s.st; rfl; exact absurd h h3.1
    by_cases hr : s.o = old ∧ s.l = root
    · rw [if_pos ⟨hl, by rw [← h4.2]; exact hr.1, by rw [← h4.1]; exact hr.2⟩, if_pos ⟨h5, h3.2, hr.1, hr.2⟩]
    · rw [if_neg (fun q => hr ⟨h4.2.trans q.2.1, h4.1.trans q.2.2⟩), if_neg (fun q => hr ⟨q.2.2.1, q.2.2.2⟩)]
  · rw [if_neg (fun q => hl q.1), if_neg (fun q => hl (q1.1 ⟨by rw [q.1]; decide, q.2.1⟩))]
theorem pConsB_any (I M : Nat) (hn : M ≤ 1000) (h1 : 1 ≤ I) (hlt : I < M) (old root : S32) (xs : List S32) (ao : Option Addr) (cap : Nat) (w : World) (hS : Sums32 w.heap ao cap xs) :
    Calls Tryd.prog 27 #[.agg (#[.int .i64 (I : Int)] ++ old.V), .agg (#[.int .i64 (M : Int)] ++ root.V), .slice ao xs.length cap] w fun e w' => ∃ v, e = .returned v ∧
      Hid (ErrIs w'.heap (consN I M old root xs) ⟨#[112, 114, 101, 102, 105, 120]⟩ (I : Int) v) ∧ Ext [] w w' := by
  have hmax := hS.2.1
  have hcap := hS.1
  have k0 : ¬ (I : Int) < 0 := by omega
  have k1 : ¬ (M : Int) < I := by omega
  have k2 : ¬ (I : Int) = M := by omega
  have k3 : ¬ (I : Int) = 0 := by omega
  have k4 : (I : Int) - 1 = ((I - 1 : Nat) : Int) := by omega
  have k5 : (M : Int) - 1 = ((M - 1 : Nat) : Int) := by omega
  have k6 : IntKind.i64.wrap ((I - 1 : Nat) : Int) = ((I - 1 : Nat) : Int) := by rw [IntKind.wrap_i64]; omega
  have k7 : IntKind.i64.wrap ((M - 1 : Nat) : Int) = ((M - 1 : Nat) : Int) := by rw [IntKind.wrap_i64]; omega
  obtain ⟨hA, hB, hx0, _⟩ := alloc_two' w (.cells (#[.int .i64 (I : Int)] ++ old.V) 52) (.cells (#[.int .i64 (M : Int)] ++ root.V) 52)
  have hAm := head_n hA
  have hBn := head_n hB
  go_enter Tryd.func27, Tryd.ntmps27
  go_upto_region 7 with fail
  generalize (w.alloc (.cells (#[.int .i64 (I : Int)] ++ old.V) 52)).alloc (.cells (#[.int .i64 (M : Int)] ++ root.V) 52) = W at hA hB hx0 hAm hBn ⊢
  obtain ⟨A, hAA⟩ : ∃ A, w.heap.size = A := ⟨_, rfl⟩
  rw [hAA] at hA hB hAm hBn ⊢
  obtain ⟨B, hBB⟩ : ∃ B, A + 1 = B := ⟨_, rfl⟩
  rw [hBB] at hB hBn ⊢
  have HAB := Hs.hid (And.intro (show w.heap.size ≤ A from Nat.le_of_eq hAA) (show A < B by omega))
  clear hAA hBB
  have HSS := Hs.hid hS
  have HFIN := Hs.hid (cons_walk I M h1 hlt old root)
  have HCL := Hs.hid (climbO_dirsB M I h1 hlt)
  have HN := Hs.hid (And.intro hn (And.intro h1 hlt))
  have hz := fun w => (zero_of_info (P := Tryd.prog) infoWalk).1 w
  clear hS hn
  go_upto_block 1 with (first
    | (refine wpList_yield (.agg (wCells ⟨I - 1, M - 1, zeroS, zeroS, false⟩).toArray) (by rfl) (exec_build _ rfl [(0, .int .i64 ((I - 1 : Nat) : Int)), (1, .int .i64 ((M - 1 : Nat) : Int))] _ _ (by first | (go_simp; done) | (go_simp; rfl) | (simp [Act.eval]; done)) (walk_built0 (I - 1) (M - 1))) ?_)
    | (refine wpList_store_row rfl 82 (.tmp 7) (.tmp 64) rfl W.heap.size (wCells ⟨I - 1, M - 1, zeroS, zeroS, false⟩).toArray rfl rfl _ _ (heap_new _ _) (by rw [List.size_toArray, wCells_len]; exact (zero_of_info (P := Tryd.prog) infoWalk).2) (walk0_sz _) (wCells_one _) ?_))
  have hW : WAt ((W.alloc (.cells walk0 82)).setRow W.heap.size (wCells ⟨I - 1, M - 1, zeroS, zeroS, false⟩).toArray).heap W.heap.size ⟨I - 1, M - 1, zeroS, zeroS, false⟩ := setRow_heap _ _ _ _ _ _ (heap_new _ _)
  replace hA := (boxExt (.cells walk0 82) (wCells ⟨I - 1, M - 1, zeroS, zeroS, false⟩).toArray).same hA List.not_mem_nil
  have hBlt := lt_of_heap hB
  replace hB := (boxExt (.cells walk0 82) (wCells ⟨I - 1, M - 1, zeroS, zeroS, false⟩).toArray).same hB List.not_mem_nil
  replace hx0 := hx0.trans0 (boxExt (.cells walk0 82) (wCells ⟨I - 1, M - 1, zeroS, zeroS, false⟩).toArray)
  obtain ⟨b, hbb⟩ : ∃ b, W.heap.size = b := ⟨_, rfl⟩
  have HABb : Hid (w.heap.size ≤ A ∧ A < B ∧ B < b) := Hs.hid ⟨HAB.out.1, HAB.out.2, by omega⟩
  generalize (W.alloc (.cells walk0 82)).setRow W.heap.size (wCells ⟨I - 1, M - 1, zeroS, zeroS, false⟩).toArray = W1 at hW hA hB hx0 ⊢
  rw [hbb] at hW ⊢
  clear hbb hBlt HAB hz hAm hBn
  obtain ⟨c1, c2, hc⟩ : ∃ c1 c2, climbO (I - 1) (M - 1) = (c1, c2) := ⟨_, _, rfl⟩
  have HC := Hs.hid hc
  clear hc
  have HK := Hs.hid (And.intro hx0 (And.intro hA hB))
  clear hx0 hA hB
  try simp only [Act.put, List.getElem_toArray, List.getElem_cons_succ, List.getElem_cons_zero, List.setIfInBounds_toArray, List.set_cons_zero, List.set_cons_succ]
  go_cut [] (fun wx => WAt wx.heap b ⟨c1, c2, zeroS, zeroS, false⟩ ∧ Ext [b] W1 wx)
  case first =>
    go_wp2_with fail
    go_loopw [] (fun wr => ∃ a e, WAt wr.heap b ⟨a, e, zeroS, zeroS, false⟩ ∧ a ≤ 1000 ∧ e ≤ 1000 ∧ climbO a e = climbO (I - 1) (M - 1) ∧ Ext [b] W1 wr) (fun wr => match wr.cell? ⟨b, 0, none⟩ with | some v => (intOf v).toNat | none => 0)
    case atStart => exact ⟨_, _, hW, by have := HN.out; omega, by have := HN.out; omega, rfl, Ext.refl _ _⟩
    case round =>
      clear hW
      obtain ⟨a, e, hW5, ha, hee, hc5, hE5⟩ := hrel
      have HC5 := Hs.hid hc5
      clear hc5
      have q0 := hW5.a
      have hand5 := and_one a (by omega)
      by_cases ho5 : a % 2 = 1
      · replace hand5 : Go.bits .and .i64 (a : Int) 1 = 1 := by rw [hand5, ho5]; rfl
        go_wp2_with (go_at_call 46; refine (up_any' b _ (by exact ⟨ha, hee⟩) _ hW5).mono ?_; rintro e w6 ⟨rfl, hW6, hx6⟩)
        go_round
        case rel => exact ⟨a / 2, e / 2, hW6, by omega, by omega, by rw [← HC5.out]; exact (climbO_odd ho5).symm, hE5.trans' hx6⟩
        case measure =>
          have q6 : w6.cell? ⟨b, 0, none⟩ = some (.int .i64 ((a / 2 : Nat) : Int)) := hW6.a
          simp only [q6, q0]
          simp [intOf]; omega
      · replace hand5 : Go.bits .and .i64 (a : Int) 1 = 0 := by rw [hand5, show a % 2 = 0 by omega]; rfl
        go_wp2_with fail
        go_meet
        have he : (a, e) = (c1, c2) := by rw [← HC.out, ← HC5.out]; exact (climbO_even ho5).symm
        injection he with e1 e2
        subst e1; subst e2
        exact ⟨hW5, hE5⟩
  case rest =>
    clear hW
    obtain ⟨hW, hE1⟩ := hcut
    have HAb : A ≠ b := by have := HABb.out; omega
    have hA : wc.heap[A]? = _ := hE1.same HK.out.2.1 (by simpa using HAb)
    go_upto_region 10 with fail
    have HB' := Hs.hid hE1
    go_cut [] (fun wx => WAt wx.heap b ⟨c1, c2, old, old, false⟩ ∧ Ext [b] W1 wx)
    case first =>
      refine wp_region_noPanic ?_
      refine wp_region_held_drew (S := (fun w' => w'.heap[A]? = some (.cells (#[.int .i64 (I : Int)] ++ old.V) 52 (0, 0)))) (by kernel_rfl) ?_ (fun hHeld => ?_)
      · ((try dsimp only); exact hA)
      refine wpAnyH_take (i := 0) (v := ?_) rfl (by kernel_rfl) (by kernel_rfl) (by kernel_rfl) (fun _ _ _ h => h) (Or.inl ⟨by rfl, ?_⟩) (by assumption) ?_
      rotate_left
      · (intro w hSw; (try dsimp only at hSw); first | (go_simp; done) | (go_simp; with_reducible rfl))
      try simp only [Act.put, List.getElem_toArray, List.getElem_cons_succ, List.getElem_cons_zero, List.setIfInBounds_toArray, List.set_cons_zero, List.set_cons_succ]
      refine wpAnyH_take (i := 1) (v := _) rfl (by kernel_rfl) (by kernel_rfl) (by kernel_rfl) (fun _ _ _ h => h) (yieldsIf_of (.agg old.V) (by rfl) (fun w' hw => exec_load_midV (.tmp 70) rfl A 1 rfl old w' (head_root hw))) (by assumption) ?_
      try simp only [Act.put, List.getElem_toArray, List.getElem_cons_succ, List.getElem_cons_zero, List.setIfInBounds_toArray, List.set_cons_zero, List.set_cons_succ]
      refine wpAnyH_take (i := 2) (v := ?_) rfl (by kernel_rfl) (by kernel_rfl) (by kernel_rfl) (fun _ _ _ h => h) (Or.inl ⟨by rfl, ?_⟩) (by assumption) ?_
      rotate_left
      · (intro w hSw; (try dsimp only at hSw); first | (go_simp; done) | (go_simp; with_reducible rfl))
      try simp only [Act.put, List.getElem_toArray, List.getElem_cons_succ, List.getElem_cons_zero, List.setIfInBounds_toArray, List.set_cons_zero, List.set_cons_succ]
      refine wpAnyH_take (i := 3) (v := _) rfl (by kernel_rfl) (by kernel_rfl) (by kernel_rfl) (fun _ _ _ h => h) (yieldsIf_of (.agg old.V) (by rfl) (fun w' hw => exec_load_midV (.tmp 72) rfl A 1 rfl old w' (head_root hw))) (by assumption) ?_
      try simp only [Act.put, List.getElem_toArray, List.getElem_cons_succ, List.getElem_cons_zero, List.setIfInBounds_toArray, List.set_cons_zero, List.set_cons_succ]
      refine wpAnyH_take (i := 4) (v := ?_) rfl (by kernel_rfl) (by kernel_rfl) (by kernel_rfl) (fun _ _ _ h => h) (Or.inl ⟨by rfl, ?_⟩) (by assumption) ?_
      rotate_left
      · (intro w hSw; (try dsimp only at hSw); first | (go_simp; done) | (go_simp; with_reducible rfl))
      try simp only [Act.put, List.getElem_toArray, List.getElem_cons_succ, List.getElem_cons_zero, List.setIfInBounds_toArray, List.set_cons_zero, List.set_cons_succ]
      refine wpAnyH_ready (rs := [5]) (by kernel_rfl) (by simp) ?_
      refine AllReadyH.cons rfl (fun K hK => ?_) AllReadyH.nil
      rw [if_pos (by rfl)]
      (have hW7 := WAt.setO (show WAt (World.drew _).heap b _ from hW) (old); refine wp_store_midV _ _ rfl b 2 (old) rfl rfl (WAt.there (show WAt (World.drew _).heap b _ from hW) _ _ (by decide)) ?_)
      refine hK.out _ _ ?_ (fun hHeld => ?_)
      · ((try dsimp only); (rw [heap_setCells_ne _ _ _ HAb]; exact hHeld))
      clear hK K
      try simp only [Act.put, List.getElem_toArray, List.getElem_cons_succ, List.getElem_cons_zero, List.setIfInBounds_toArray, List.set_cons_zero, List.set_cons_succ]
      refine wpAnyH_take (i := 6) (v := ?_) rfl (by kernel_rfl) (by kernel_rfl) (by kernel_rfl) (fun _ _ _ h => h) (Or.inl ⟨by rfl, ?_⟩) (by assumption) ?_
      rotate_left
      · (intro w hSw; (try dsimp only at hSw); first | (go_simp; done) | (go_simp; with_reducible rfl))
      try simp only [Act.put, List.getElem_toArray, List.getElem_cons_succ, List.getElem_cons_zero, List.setIfInBounds_toArray, List.set_cons_zero, List.set_cons_succ]
      refine wpAnyH_ready (rs := [7]) (by kernel_rfl) (by simp) ?_
      refine AllReadyH.cons rfl (fun K hK => ?_) AllReadyH.nil
      rw [if_pos (by rfl)]
      (have hW8 := WAt.setL hW7 (old); refine wp_store_midV _ _ rfl b 34 (old) rfl rfl (WAt.there hW7 _ _ (by decide)) ?_)
      refine hK.out _ _ ?_ (fun hHeld => ?_)
      · ((try dsimp only); (rw [heap_setCells_ne _ _ _ HAb]; exact hHeld))
      clear hK K
      try simp only [Act.put, List.getElem_toArray, List.getElem_cons_succ, List.getElem_cons_zero, List.setIfInBounds_toArray, List.set_cons_zero, List.set_cons_succ]
      refine wpAnyH_done (by kernel_rfl) ?_ _
      refine NoPanic.normal ?_
      go_wp2
      go_meet
      exact ⟨hW8, HB'.out.drew.trans' (Ext.setCells (.inl (List.mem_singleton.2 rfl)) _ _ _ (Ext.setCells (.inl (List.mem_singleton.2 rfl)) _ _ _ (Ext.refl [b] _)))⟩
    case rest =>
      clear hW hE1 hA HB'
      obtain ⟨hW, hE1⟩ := hcut
      have hA : wc.heap[A]? = _ := hE1.same HK.out.2.1 (by simpa using HAb)
      have hAm := head_n hA
      have q0 := hW.a
      have hSc : Sums32 wc.heap ao cap xs := HSS.out.ext ((HK.out.1.mono (F' := [b]) (fun _ h => by cases h)).trans' hE1) (by have := HABb.out; simp; omega)
      go_upto_if 78 with fail
      have HF := Hs.hid (show decide (c1 = 0) = firstB I M by have := HCL.out.2.1; rw [HC.out] at this; exact this)
      have HE1 := Hs.hid hE1
      have HSX := Hs.hid HSS.out
      have HX15 := Hs.hid ((HK.out.1.mono (F' := [b]) (fun _ h => by cases h)).trans' hE1)
      have HX14 := Hs.hid ((HK.out.1.mono (F' := [b]) (fun _ h => by cases h)).trans' (hE1.drew))
      clear hE1
      go_cut [2] (fun s2 wx => ∃ ao' cap' x zs, s2 = .slice ao' (List.length zs) cap' ∧ Hid (Sums32 w.heap ao' cap' zs) ∧ Hid (seedB (firstB I M) old xs = x :: zs) ∧ WAt wx.heap b ⟨c1, c2, x, x, false⟩ ∧ Ext [b] W1 wx)
      case first =>
        by_cases hc0 : c1 = 0
        · have hc0' : (c1 : Int) = 0 := by omega
          have HFF : Hid (firstB I M = true) := Hs.hid (by rw [← HF.out]; simpa using hc0)
          have HC0 := Hs.hid hc0
          clear hc0
          go_wp2_with fail
          go_meet
          exact ⟨ao, cap, old, xs, rfl, HSS, Hs.hid (by rw [HFF.out]; rfl), hW, HE1.out⟩
        · have hc0' : ¬ (c1 : Int) = 0 := by omega
          have HFF : Hid (firstB I M = false) := Hs.hid (by rw [← HF.out]; simpa using hc0)
          have HC0 := Hs.hid hc0
          clear hc0
          cases xs with
          | nil =>
            have HR : Hid (consN I M old root [] = 12) := Hs.hid (by
              unfold consN
              rw [if_neg (by have := HN.out; omega), if_neg (by have := HN.out; omega), if_neg (by have := HN.out; omega)]
              simp only [Int.toNat_natCast, HFF.out]
              rfl)
            have hl0 : ([] : List S32).length = 0 := rfl
            go_wp2_with (go_at_call 45; refine (told_any ⟨#[112, 114, 101, 102, 105, 120]⟩ (I : Int) false _).mono ?_; rintro e w1 ⟨v, rfl, hv, hx1⟩)
            go_ret
            exact ⟨_, rfl, by rw [HR.out]; exact hv, (HX15.out.trans0 hx1).mono (fun g hg => .inr (by have := HABb.out; simp at hg; omega))⟩
          | cons x zs =>
            have HSD := Hs.hid (show seedB (firstB I M) old (x :: zs) = x :: zs by rw [HFF.out]; rfl)
            obtain ⟨sb, so, rfl, hsb, _⟩ := HSS.out.at (show (x :: zs)[0]? = some x from rfl)
            obtain ⟨sb', so', e, _, hrg⟩ := hSc.at (show (x :: zs)[0]? = some x from rfl)
            injection e with e; injection e with e1 e2
            subst e1; subst e2
            rw [Nat.zero_mul, Nat.add_zero] at hrg
            have hsbb : sb ≠ b := by have := HABb.out; omega
            have hcap' : zs.length + 1 ≤ cap := hcap
            have HSX := HSX
            have hxl : (x :: zs).length = zs.length + 1 := rfl
            rw [hxl]
            have l1 : ¬ ((zs.length : Nat) : Int) + 1 = 0 := by omega
            have l2 : (0 : Int) < ((zs.length : Nat) : Int) + 1 := by omega
            have l3 : (1 : Int) ≤ ((zs.length : Nat) : Int) + 1 := by omega
            have l4 : ((zs.length : Nat) : Int) + 1 ≤ cap := by omega
            have l5 : (1 : Int) ≤ cap := by omega
            have l6 : ((zs.length : Nat) : Int) + 1 - 1 = zs.length := by omega
            have l7 : zs.length + 1 - 1 = zs.length := by omega
            clear hSc hxl hcap
            go_upto_region 14 with fail
            refine wp_region_noPanic ?_
            refine wp_region_held_drew (S := (fun w' => w'.rangeAt sb so x.V.toList)) (by kernel_rfl) ?_ (fun hHeld => ?_)
            · ((try dsimp only); exact hrg)
            refine wpAnyH_take (i := 0) (v := ?_) rfl (by kernel_rfl) (by kernel_rfl) (by kernel_rfl) (fun _ _ _ h => h) (Or.inl ⟨by rfl, ?_⟩) (by assumption) ?_
            rotate_left
            · (intro w hSw; (try dsimp only at hSw); first | (go_simp; done) | (go_simp; with_reducible rfl))
            try simp only [Act.put, List.getElem_toArray, List.getElem_cons_succ, List.getElem_cons_zero, List.setIfInBounds_toArray, List.set_cons_zero, List.set_cons_succ]
            refine wpAnyH_take (i := 1) (v := ?_) rfl (by kernel_rfl) (by kernel_rfl) (by kernel_rfl) (fun _ _ _ h => h) (Or.inl ⟨by rfl, ?_⟩) (by assumption) ?_
            rotate_left
            · (intro w hSw; (try dsimp only at hSw); first | (go_simp; done) | (go_simp; with_reducible rfl))
            try simp only [Act.put, List.getElem_toArray, List.getElem_cons_succ, List.getElem_cons_zero, List.setIfInBounds_toArray, List.set_cons_zero, List.set_cons_succ]
            refine wpAnyH_take (i := 2) (v := _) rfl (by kernel_rfl) (by kernel_rfl) (by kernel_rfl) (fun _ _ _ h => h) (yieldsIf_of (.agg x.V) (by rfl) (fun w' hw => exec_load_midV (.tmp 86) rfl sb so rfl x w' hw)) (by assumption) ?_
            try simp only [Act.put, List.getElem_toArray, List.getElem_cons_succ, List.getElem_cons_zero, List.setIfInBounds_toArray, List.set_cons_zero, List.set_cons_succ]
            refine wpAnyH_take (i := 3) (v := ?_) rfl (by kernel_rfl) (by kernel_rfl) (by kernel_rfl) (fun _ _ _ h => h) (Or.inl ⟨by rfl, ?_⟩) (by assumption) ?_
            rotate_left
            · (intro w hSw; (try dsimp only at hSw); first | (go_simp; done) | (go_simp; with_reducible rfl))
            try simp only [Act.put, List.getElem_toArray, List.getElem_cons_succ, List.getElem_cons_zero, List.setIfInBounds_toArray, List.set_cons_zero, List.set_cons_succ]
            refine wpAnyH_take (i := 4) (v := ?_) rfl (by kernel_rfl) (by kernel_rfl) (by kernel_rfl) (fun _ _ _ h => h) (Or.inl ⟨by rfl, ?_⟩) (by assumption) ?_
            rotate_left
            · (intro w hSw; (try dsimp only at hSw); first | (go_simp; done) | (go_simp; with_reducible rfl))
            try simp only [Act.put, List.getElem_toArray, List.getElem_cons_succ, List.getElem_cons_zero, List.setIfInBounds_toArray, List.set_cons_zero, List.set_cons_succ]
            refine wpAnyH_take (i := 5) (v := _) rfl (by kernel_rfl) (by kernel_rfl) (by kernel_rfl) (fun _ _ _ h => h) (yieldsIf_of (.agg x.V) (by rfl) (fun w' hw => exec_load_midV (.tmp 89) rfl sb so rfl x w' hw)) (by assumption) ?_
            try simp only [Act.put, List.getElem_toArray, List.getElem_cons_succ, List.getElem_cons_zero, List.setIfInBounds_toArray, List.set_cons_zero, List.set_cons_succ]
            refine wpAnyH_take (i := 6) (v := ?_) rfl (by kernel_rfl) (by kernel_rfl) (by kernel_rfl) (fun _ _ _ h => h) (Or.inl ⟨by rfl, ?_⟩) (by assumption) ?_
            rotate_left
            · (intro w hSw; (try dsimp only at hSw); first | (go_simp; done) | (go_simp; with_reducible rfl))
            try simp only [Act.put, List.getElem_toArray, List.getElem_cons_succ, List.getElem_cons_zero, List.setIfInBounds_toArray, List.set_cons_zero, List.set_cons_succ]
            refine wpAnyH_take (i := 7) (v := ?_) rfl (by kernel_rfl) (by kernel_rfl) (by kernel_rfl) (fun _ _ _ h => h) (Or.inl ⟨by rfl, ?_⟩) (by assumption) ?_
            rotate_left
            · (intro w hSw; (try dsimp only at hSw); first | (go_simp; done) | (go_simp; with_reducible rfl))
            try simp only [Act.put, List.getElem_toArray, List.getElem_cons_succ, List.getElem_cons_zero, List.setIfInBounds_toArray, List.set_cons_zero, List.set_cons_succ]
            refine wpAnyH_take (i := 8) (v := ?_) rfl (by kernel_rfl) (by kernel_rfl) (by kernel_rfl) (fun _ _ _ h => h) (Or.inl ⟨by rfl, ?_⟩) (by assumption) ?_
            rotate_left
            · (intro w hSw; (try dsimp only at hSw); first | (go_simp; done) | (go_simp; with_reducible rfl))
            try simp only [Act.put, List.getElem_toArray, List.getElem_cons_succ, List.getElem_cons_zero, List.setIfInBounds_toArray, List.set_cons_zero, List.set_cons_succ]
            refine wpAnyH_ready (rs := [9]) (by kernel_rfl) (by simp) ?_
            refine AllReadyH.cons rfl (fun K hK => ?_) AllReadyH.nil
            rw [if_pos (by rfl)]
            (have hW7 := WAt.setO (show WAt (World.drew _).heap b _ from hW) (x); refine wp_store_midV _ _ rfl b 2 (x) rfl rfl (WAt.there (show WAt (World.drew _).heap b _ from hW) _ _ (by decide)) ?_)
            refine hK.out _ _ ?_ (fun hHeld => ?_)
            · ((try dsimp only); (refine World.rangeAt_setCells_apart hHeld b _ _ (.inl hsbb)))
            clear hK K
            try simp only [Act.put, List.getElem_toArray, List.getElem_cons_succ, List.getElem_cons_zero, List.setIfInBounds_toArray, List.set_cons_zero, List.set_cons_succ]
            refine wpAnyH_take (i := 10) (v := ?_) rfl (by kernel_rfl) (by kernel_rfl) (by kernel_rfl) (fun _ _ _ h => h) (Or.inl ⟨by rfl, ?_⟩) (by assumption) ?_
            rotate_left
            · (intro w hSw; (try dsimp only at hSw); first | (go_simp; done) | (go_simp; with_reducible rfl))
            try simp only [Act.put, List.getElem_toArray, List.getElem_cons_succ, List.getElem_cons_zero, List.setIfInBounds_toArray, List.set_cons_zero, List.set_cons_succ]
            refine wpAnyH_ready (rs := [11]) (by kernel_rfl) (by simp) ?_
            refine AllReadyH.cons rfl (fun K hK => ?_) AllReadyH.nil
            rw [if_pos (by rfl)]
            (have hW8 := WAt.setL hW7 (x); refine wp_store_midV _ _ rfl b 34 (x) rfl rfl (WAt.there hW7 _ _ (by decide)) ?_)
            refine hK.out _ _ ?_ (fun hHeld => ?_)
            · ((try dsimp only); (refine World.rangeAt_setCells_apart hHeld b _ _ (.inl hsbb)))
            clear hK K
            try simp only [Act.put, List.getElem_toArray, List.getElem_cons_succ, List.getElem_cons_zero, List.setIfInBounds_toArray, List.set_cons_zero, List.set_cons_succ]
            refine wpAnyH_take (i := 12) (v := ?_) rfl (by kernel_rfl) (by kernel_rfl) (by kernel_rfl) (fun _ _ _ h => h) (Or.inl ⟨by rfl, ?_⟩) (by assumption) ?_
            rotate_left
            · (intro w hSw; (try dsimp only at hSw); first | (go_simp; done) | (go_simp; with_reducible rfl))
            try simp only [Act.put, List.getElem_toArray, List.getElem_cons_succ, List.getElem_cons_zero, List.setIfInBounds_toArray, List.set_cons_zero, List.set_cons_succ]
            refine wpAnyH_done (by kernel_rfl) ?_ _
            refine NoPanic.normal ?_
            go_wp2
            all_goals go_meet
            all_goals first
              | exact ⟨_, cap - 1, x, zs, rfl, Hs.hid (Sums32.tail HSX.out), HSD, hW8, HE1.out.drew.trans' (Ext.setCells (.inl (List.mem_singleton.2 rfl)) _ _ _ (Ext.setCells (.inl (List.mem_singleton.2 rfl)) _ _ _ (Ext.refl [b] _)))⟩
              | exact ⟨_, 0, x, zs, rfl, Hs.hid ⟨by omega, by decide, .inl (List.eq_nil_of_length_eq_zero (by omega))⟩, HSD, hW8, HE1.out.drew.trans' (Ext.setCells (.inl (List.mem_singleton.2 rfl)) _ _ _ (Ext.setCells (.inl (List.mem_singleton.2 rfl)) _ _ _ (Ext.refl [b] _)))⟩
      case rest =>
        clear hW hA hAm q0 hSc
        obtain ⟨ao', cap', x, zs, rfl, HZ, HSD, hW, hE1⟩ := hcut
        have hmax' := HZ.out.2.1
        have hlen : (zs.length : Int) ≤ 9223372036854775807 := by have := HZ.out.1; omega
        have HFN := Hs.hid (HFIN.out x xs zs HSD.out)
        rw [HC.out] at HFN
        go_wp2_with fail
        go_loopw [97] (fun iv wr => ∃ (k : Nat) (s : WSt S32), iv = .int .i64 k ∧ k ≤ zs.length ∧ WAt wr.heap b s ∧ Hid (s = (zs.take k).foldl (WSt.take nodeS) ⟨c1, c2, x, x, false⟩) ∧ Hid (s.a ≤ 1000 ∧ s.e ≤ 1000) ∧ Ext [b] W1 wr) (fun iv _ => zs.length - (intOf iv).toNat)
        case atStart => exact ⟨0, _, rfl, Nat.zero_le _, hW, Hs.hid rfl, Hs.hid (by have h1 := HCL.out.2.2; rw [HC.out] at h1; have h2 := HN.out; constructor <;> simp only [] at h1 ⊢ <;> omega), hE1⟩
        case round =>
          clear hW hE1
          obtain ⟨k, s, rfl, hk, hW, HS, HB, hEb⟩ := hrel
          have hEw := (HK.out.1.mono (F' := [b]) (fun _ h => by cases h)).trans' hEb
          by_cases hkl : k < zs.length
          · have hkl' : (k : Int) < zs.length := by omega
            obtain ⟨y, hx⟩ : ∃ y, zs[k]? = some y := ⟨_, List.getElem?_eq_getElem hkl⟩
            have HX := Hs.hid hx
            clear hx
            obtain ⟨sb, so, rfl, hsb, hrg⟩ := (HZ.out.ext hEw (by have := HABb.out; simp; omega)).at HX.out
            have HW := Hs.hid hW
            clear hW hEw
            go_wp2_with (first
              | (refine wpList_yield (.agg y.V) (by rfl) (exec_load_midV (.tmp 99) rfl sb _ rfl y _ hrg) ?_)
              | (refine wpList_store_row rfl 46 (.tmp 9) (.tmp 100) rfl wr.heap.size y.V rfl rfl _ _ (heap_new _ _) (by rw [y.size]; exact infoSum) (by rw [y.size]; rfl) y.one ?_)
              | (refine wpList_yield (.agg y.V) (by rfl) (exec_load_rowV (.tmp 9) rfl wr.heap.size rfl y _ ⟨_, setRow_heap _ _ _ _ _ _ (heap_new _ _)⟩) ?_)
              | (go_at_call 44; refine (take_any b s HB.out y _ (HW.out.ext (boxExt _ _) List.not_mem_nil)).mono ?_; rintro e w5 ⟨rfl, hW5, hx5⟩))
            go_round
            case rel =>
              refine ⟨k + 1, s.take nodeS y, by go_num, by omega, hW5, Hs.hid ?_, Hs.hid (take_le HB.out), ?_⟩
              · rw [List.take_add_one, HX.out, HS.out]; simp
              · exact hEb.trans' (((boxExt _ _).mono (fun _ h => by cases h)).trans' hx5)
            case measure => simp [intOf]; omega
          · have hkl' : ¬ (k : Int) < zs.length := by omega
            obtain rfl : k = zs.length := by omega
            have h66 := hW.st
            have hce := hW.e
            have hWo := hW.o
            have hWl := hW.l
            have hA : wr.heap[A]? = _ := hEb.same HK.out.2.1 (by have := HABb.out; simp; omega)
            have hB : wr.heap[B]? = _ := hEb.same HK.out.2.2 (by have := HABb.out; simp; omega)
            have hAm := head_n hA
            have HR := Hs.hid (HFN.out s (by rw [HS.out, List.take_length]))
            have HEE := Hs.hid hEw.drew
            clear hEw
            cases hst : s.st with
            | true =>
              rw [hst] at h66
              have HST := Hs.hid hst
              clear hst
              go_upto_region 20 with fail
              refine wp_region_stl_tail 24 (by kernel_rfl) (by kernel_rfl) ?_
              simp only [List.take_succ_cons, List.take_zero, List.drop_succ_cons, List.drop_zero]
              refine still_val (v := ?_) (by rfl) ?_ ?_
              rotate_left
              · first | (go_simp; done) | (go_simp; with_reducible rfl)
              try simp only [Act.put, List.getElem_toArray, List.getElem_cons_succ, List.getElem_cons_zero, List.setIfInBounds_toArray, List.set_cons_zero, List.set_cons_succ]
              refine still_val (v := ?_) (by rfl) ?_ ?_
              rotate_left
              · first | (go_simp; done) | (go_simp; with_reducible rfl)
              try simp only [Act.put, List.getElem_toArray, List.getElem_cons_succ, List.getElem_cons_zero, List.setIfInBounds_toArray, List.set_cons_zero, List.set_cons_succ]
              refine still_val (v := ?_) (by rfl) ?_ ?_
              rotate_left
              · first | (go_simp; done) | (go_simp; with_reducible rfl)
              try simp only [Act.put, List.getElem_toArray, List.getElem_cons_succ, List.getElem_cons_zero, List.setIfInBounds_toArray, List.set_cons_zero, List.set_cons_succ]
              refine still_val (v := ?_) (by rfl) ?_ ?_
              rotate_left
              · first | (go_simp; done) | (go_simp; with_reducible rfl)
              try simp only [Act.put, List.getElem_toArray, List.getElem_cons_succ, List.getElem_cons_zero, List.setIfInBounds_toArray, List.set_cons_zero, List.set_cons_succ]
              refine still_val (v := ?_) (by rfl) ?_ ?_
              rotate_left
              · first | (go_simp; done) | (go_simp; with_reducible rfl)
              try simp only [Act.put, List.getElem_toArray, List.getElem_cons_succ, List.getElem_cons_zero, List.setIfInBounds_toArray, List.set_cons_zero, List.set_cons_succ]
              refine still_val (v := ?_) (by rfl) ?_ ?_
              rotate_left
              · first | (go_simp; done) | (go_simp; with_reducible rfl)
              try simp only [Act.put, List.getElem_toArray, List.getElem_cons_succ, List.getElem_cons_zero, List.setIfInBounds_toArray, List.set_cons_zero, List.set_cons_succ]
              refine still_not (by rfl) ?_
              try simp only [Act.put, List.getElem_toArray, List.getElem_cons_succ, List.getElem_cons_zero, List.setIfInBounds_toArray, List.set_cons_zero, List.set_cons_succ]
              refine still_not (by rfl) ?_
              try simp only [Act.put, List.getElem_toArray, List.getElem_cons_succ, List.getElem_cons_zero, List.setIfInBounds_toArray, List.set_cons_zero, List.set_cons_succ]
              refine still_not (by rfl) ?_
              try simp only [Act.put, List.getElem_toArray, List.getElem_cons_succ, List.getElem_cons_zero, List.setIfInBounds_toArray, List.set_cons_zero, List.set_cons_succ]
              refine still_val (v := ?_) (by rfl) ?_ ?_
              rotate_left
              · first | (go_simp; done) | (go_simp; with_reducible rfl)
              try simp only [Act.put, List.getElem_toArray, List.getElem_cons_succ, List.getElem_cons_zero, List.setIfInBounds_toArray, List.set_cons_zero, List.set_cons_succ]
              refine still_val (v := ?_) (by rfl) ?_ ?_
              rotate_left
              · first | (go_simp; done) | (go_simp; with_reducible rfl)
              try simp only [Act.put, List.getElem_toArray, List.getElem_cons_succ, List.getElem_cons_zero, List.setIfInBounds_toArray, List.set_cons_zero, List.set_cons_succ]
              refine still_not (by rfl) ?_
              try simp only [Act.put, List.getElem_toArray, List.getElem_cons_succ, List.getElem_cons_zero, List.setIfInBounds_toArray, List.set_cons_zero, List.set_cons_succ]
              refine still_not (by rfl) ?_
              try simp only [Act.put, List.getElem_toArray, List.getElem_cons_succ, List.getElem_cons_zero, List.setIfInBounds_toArray, List.set_cons_zero, List.set_cons_succ]
              refine still_not (by rfl) ?_
              try simp only [Act.put, List.getElem_toArray, List.getElem_cons_succ, List.getElem_cons_zero, List.setIfInBounds_toArray, List.set_cons_zero, List.set_cons_succ]
              refine still_not (by rfl) ?_
              try simp only [Act.put, List.getElem_toArray, List.getElem_cons_succ, List.getElem_cons_zero, List.setIfInBounds_toArray, List.set_cons_zero, List.set_cons_succ]
              refine still_not (by rfl) ?_
              try simp only [Act.put, List.getElem_toArray, List.getElem_cons_succ, List.getElem_cons_zero, List.setIfInBounds_toArray, List.set_cons_zero, List.set_cons_succ]
              refine still_val (v := ?_) (by rfl) ?_ ?_
              rotate_left
              · first | (go_simp; done) | (go_simp; with_reducible rfl)
              try simp only [Act.put, List.getElem_toArray, List.getElem_cons_succ, List.getElem_cons_zero, List.setIfInBounds_toArray, List.set_cons_zero, List.set_cons_succ]
              refine still_val (v := ?_) (by rfl) ?_ ?_
              rotate_left
              · first | (go_simp; done) | (go_simp; with_reducible rfl)
              try simp only [Act.put, List.getElem_toArray, List.getElem_cons_succ, List.getElem_cons_zero, List.setIfInBounds_toArray, List.set_cons_zero, List.set_cons_succ]
              refine still_not (by rfl) ?_
              try simp only [Act.put, List.getElem_toArray, List.getElem_cons_succ, List.getElem_cons_zero, List.setIfInBounds_toArray, List.set_cons_zero, List.set_cons_succ]
              refine still_not (by rfl) ?_
              try simp only [Act.put, List.getElem_toArray, List.getElem_cons_succ, List.getElem_cons_zero, List.setIfInBounds_toArray, List.set_cons_zero, List.set_cons_succ]
              refine still_not (by rfl) ?_
              try simp only [Act.put, List.getElem_toArray, List.getElem_cons_succ, List.getElem_cons_zero, List.setIfInBounds_toArray, List.set_cons_zero, List.set_cons_succ]
              refine still_not (by rfl) ?_
              try simp only [Act.put, List.getElem_toArray, List.getElem_cons_succ, List.getElem_cons_zero, List.setIfInBounds_toArray, List.set_cons_zero, List.set_cons_succ]
              refine still_not (by rfl) ?_
              try simp only [Act.put, List.getElem_toArray, List.getElem_cons_succ, List.getElem_cons_zero, List.setIfInBounds_toArray, List.set_cons_zero, List.set_cons_succ]
              refine still_val (v := ?_) (by rfl) ?_ ?_
              rotate_left
              · first | (go_simp; done) | (go_simp; with_reducible rfl)
              try simp only [Act.put, List.getElem_toArray, List.getElem_cons_succ, List.getElem_cons_zero, List.setIfInBounds_toArray, List.set_cons_zero, List.set_cons_succ]
              refine still_end ?_
              go_wp2_with (go_at_call 45; refine (told_any ⟨#[112, 114, 101, 102, 105, 120]⟩ (I : Int) false _).mono ?_; rintro e w1 ⟨v, rfl, hv, hx1⟩)
              go_ret
              exact ⟨_, rfl, by rw [HR.out, if_neg (fun q => by rw [HST.out] at q; cases q.1)]; exact hv, (HEE.out.trans0 hx1).mono (fun g hg => .inr (by have := HABb.out; simp at hg; omega))⟩
            | false =>
              rw [hst] at h66
              have HST := Hs.hid hst
              clear hst
              by_cases he : s.e = 0
              · have he' : (s.e : Int) = 0 := by omega
                have HE0 := Hs.hid he
                clear he
                by_cases ho : s.o = old
                · have HO := Hs.hid ho
                  have hdo : decide (s.o = old) = true := decide_eq_true ho
                  clear ho
                  have HR2 : Hid (consN I M old root xs = if decide (s.l = root) = true then 0 else 12) := Hs.hid (by
                    rw [HR.out]
                    by_cases h : s.l = root
                    · rw [if_pos ⟨HST.out, HE0.out, HO.out, h⟩, if_pos (by simpa using h)]
                    · rw [if_neg (fun q => h q.2.2.2), if_neg (by simpa using h)])
                  go_upto_region 20 with fail
                  refine wp_region_stl_tail 24 (by kernel_rfl) (by kernel_rfl) ?_
                  simp only [List.take_succ_cons, List.take_zero, List.drop_succ_cons, List.drop_zero]
                  refine still_val (v := ?_) (by rfl) ?_ ?_
                  rotate_left
                  · first | (go_simp; done) | (go_simp; with_reducible rfl)
                  try simp only [Act.put, List.getElem_toArray, List.getElem_cons_succ, List.getElem_cons_zero, List.setIfInBounds_toArray, List.set_cons_zero, List.set_cons_succ]
                  refine still_val (v := ?_) (by rfl) ?_ ?_
                  rotate_left
                  · first | (go_simp; done) | (go_simp; with_reducible rfl)
                  try simp only [Act.put, List.getElem_toArray, List.getElem_cons_succ, List.getElem_cons_zero, List.setIfInBounds_toArray, List.set_cons_zero, List.set_cons_succ]
                  refine still_val (v := ?_) (by rfl) ?_ ?_
                  rotate_left
                  · first | (go_simp; done) | (go_simp; with_reducible rfl)
                  try simp only [Act.put, List.getElem_toArray, List.getElem_cons_succ, List.getElem_cons_zero, List.setIfInBounds_toArray, List.set_cons_zero, List.set_cons_succ]
                  refine still_val (v := ?_) (by rfl) ?_ ?_
                  rotate_left
                  · first | (go_simp; done) | (go_simp; with_reducible rfl)
                  try simp only [Act.put, List.getElem_toArray, List.getElem_cons_succ, List.getElem_cons_zero, List.setIfInBounds_toArray, List.set_cons_zero, List.set_cons_succ]
                  refine still_val (v := ?_) (by rfl) ?_ ?_
                  rotate_left
                  · first | (go_simp; done) | (go_simp; with_reducible rfl)
                  try simp only [Act.put, List.getElem_toArray, List.getElem_cons_succ, List.getElem_cons_zero, List.setIfInBounds_toArray, List.set_cons_zero, List.set_cons_succ]
                  refine still_val (v := ?_) (by rfl) ?_ ?_
                  rotate_left
                  · first | (go_simp; done) | (go_simp; with_reducible rfl)
                  try simp only [Act.put, List.getElem_toArray, List.getElem_cons_succ, List.getElem_cons_zero, List.setIfInBounds_toArray, List.set_cons_zero, List.set_cons_succ]
                  refine still_val (v := ?_) (by rfl) ?_ ?_
                  rotate_left
                  · first | (go_simp; done) | (go_simp; with_reducible rfl)
                  try simp only [Act.put, List.getElem_toArray, List.getElem_cons_succ, List.getElem_cons_zero, List.setIfInBounds_toArray, List.set_cons_zero, List.set_cons_succ]
                  refine still_val (v := ?_) (by rfl) ?_ ?_
                  rotate_left
                  · first | (go_simp; done) | (go_simp; with_reducible rfl)
                  try simp only [Act.put, List.getElem_toArray, List.getElem_cons_succ, List.getElem_cons_zero, List.setIfInBounds_toArray, List.set_cons_zero, List.set_cons_succ]
                  refine still_val (v := ?_) (by rfl) ?_ ?_
                  rotate_left
                  · first | (go_simp; done) | (go_simp; with_reducible rfl)
                  try simp only [Act.put, List.getElem_toArray, List.getElem_cons_succ, List.getElem_cons_zero, List.setIfInBounds_toArray, List.set_cons_zero, List.set_cons_succ]
                  refine still_val (v := ?_) (by rfl) ?_ ?_
                  rotate_left
                  · first | (go_simp; done) | (go_simp; with_reducible rfl)
                  try simp only [Act.put, List.getElem_toArray, List.getElem_cons_succ, List.getElem_cons_zero, List.setIfInBounds_toArray, List.set_cons_zero, List.set_cons_succ]
                  refine still_val (v := ?_) (by rfl) ?_ ?_
                  rotate_left
                  · first | (go_simp; done) | (go_simp; with_reducible rfl)
                  try simp only [Act.put, List.getElem_toArray, List.getElem_cons_succ, List.getElem_cons_zero, List.setIfInBounds_toArray, List.set_cons_zero, List.set_cons_succ]
                  refine still_val (v := ?_) (by rfl) ?_ ?_
                  rotate_left
                  · first | (go_simp; done) | (go_simp; with_reducible rfl)
                  try simp only [Act.put, List.getElem_toArray, List.getElem_cons_succ, List.getElem_cons_zero, List.setIfInBounds_toArray, List.set_cons_zero, List.set_cons_succ]
                  refine still_val (v := (.agg s.o.V)) (by rfl) (exec_load_midV (.tmp 115) rfl b 2 rfl s.o _ hWo) ?_
                  try simp only [Act.put, List.getElem_toArray, List.getElem_cons_succ, List.getElem_cons_zero, List.setIfInBounds_toArray, List.set_cons_zero, List.set_cons_succ]
                  refine still_val (v := ?_) (by rfl) ?_ ?_
                  rotate_left
                  · first | (go_simp; done) | (go_simp; with_reducible rfl)
                  try simp only [Act.put, List.getElem_toArray, List.getElem_cons_succ, List.getElem_cons_zero, List.setIfInBounds_toArray, List.set_cons_zero, List.set_cons_succ]
                  refine still_val (v := (.agg old.V)) (by rfl) (exec_load_midV (.tmp 117) rfl A 1 rfl old _ (head_root hA)) ?_
                  try simp only [Act.put, List.getElem_toArray, List.getElem_cons_succ, List.getElem_cons_zero, List.setIfInBounds_toArray, List.set_cons_zero, List.set_cons_succ]
                  refine still_val (v := (.bool (decide (s.o = old)))) (by rfl) (exec_eq_V (.tmp 116) (.tmp 118) _ rfl s.o old rfl rfl _) ?_
                  try simp only [Act.put, List.getElem_toArray, List.getElem_cons_succ, List.getElem_cons_zero, List.setIfInBounds_toArray, List.set_cons_zero, List.set_cons_succ]
                  refine still_val (v := ?_) (by rfl) ?_ ?_
                  rotate_left
                  · first | (go_simp; done) | (go_simp; with_reducible rfl)
                  try simp only [Act.put, List.getElem_toArray, List.getElem_cons_succ, List.getElem_cons_zero, List.setIfInBounds_toArray, List.set_cons_zero, List.set_cons_succ]
                  refine still_val (v := ?_) (by rfl) ?_ ?_
                  rotate_left
                  · first | (go_simp; done) | (go_simp; with_reducible rfl)
                  try simp only [Act.put, List.getElem_toArray, List.getElem_cons_succ, List.getElem_cons_zero, List.setIfInBounds_toArray, List.set_cons_zero, List.set_cons_succ]
                  refine still_val (v := ?_) (by rfl) ?_ ?_
                  rotate_left
                  · first | (go_simp; done) | (go_simp; with_reducible rfl)
                  try simp only [Act.put, List.getElem_toArray, List.getElem_cons_succ, List.getElem_cons_zero, List.setIfInBounds_toArray, List.set_cons_zero, List.set_cons_succ]
                  refine still_val (v := (.agg s.l.V)) (by rfl) (exec_load_midV (.tmp 122) rfl b 34 rfl s.l _ hWl) ?_
                  try simp only [Act.put, List.getElem_toArray, List.getElem_cons_succ, List.getElem_cons_zero, List.setIfInBounds_toArray, List.set_cons_zero, List.set_cons_succ]
                  refine still_val (v := ?_) (by rfl) ?_ ?_
                  rotate_left
                  · first | (go_simp; done) | (go_simp; with_reducible rfl)
                  try simp only [Act.put, List.getElem_toArray, List.getElem_cons_succ, List.getElem_cons_zero, List.setIfInBounds_toArray, List.set_cons_zero, List.set_cons_succ]
                  refine still_val (v := (.agg root.V)) (by rfl) (exec_load_midV (.tmp 124) rfl B 1 rfl root _ (head_root hB)) ?_
                  try simp only [Act.put, List.getElem_toArray, List.getElem_cons_succ, List.getElem_cons_zero, List.setIfInBounds_toArray, List.set_cons_zero, List.set_cons_succ]
                  refine still_val (v := (.bool (decide (s.l = root)))) (by rfl) (exec_eq_V (.tmp 123) (.tmp 125) _ rfl s.l root rfl rfl _) ?_
                  try simp only [Act.put, List.getElem_toArray, List.getElem_cons_succ, List.getElem_cons_zero, List.setIfInBounds_toArray, List.set_cons_zero, List.set_cons_succ]
                  refine still_val (v := ?_) (by rfl) ?_ ?_
                  rotate_left
                  · first | (go_simp; done) | (go_simp; with_reducible rfl)
                  try simp only [Act.put, List.getElem_toArray, List.getElem_cons_succ, List.getElem_cons_zero, List.setIfInBounds_toArray, List.set_cons_zero, List.set_cons_succ]
                  refine still_end ?_
                  go_wp2_with (go_at_call 45; refine (told_any ⟨#[112, 114, 101, 102, 105, 120]⟩ (I : Int) (decide (s.l = root)) _).mono ?_; rintro e w1 ⟨v, rfl, hv, hx1⟩)
                  go_ret
                  exact ⟨_, rfl, by rw [HR2.out]; exact hv, (HEE.out.trans0 hx1).mono (fun g hg => .inr (by have := HABb.out; simp at hg; omega))⟩
                · have HO := Hs.hid ho
                  have hdo : decide (s.o = old) = false := decide_eq_false ho
                  clear ho
                  go_upto_region 20 with fail
                  refine wp_region_stl_tail 24 (by kernel_rfl) (by kernel_rfl) ?_
                  simp only [List.take_succ_cons, List.take_zero, List.drop_succ_cons, List.drop_zero]
                  refine still_val (v := ?_) (by rfl) ?_ ?_
                  rotate_left
                  · first | (go_simp; done) | (go_simp; with_reducible rfl)
                  try simp only [Act.put, List.getElem_toArray, List.getElem_cons_succ, List.getElem_cons_zero, List.setIfInBounds_toArray, List.set_cons_zero, List.set_cons_succ]
                  refine still_val (v := ?_) (by rfl) ?_ ?_
                  rotate_left
                  · first | (go_simp; done) | (go_simp; with_reducible rfl)
                  try simp only [Act.put, List.getElem_toArray, List.getElem_cons_succ, List.getElem_cons_zero, List.setIfInBounds_toArray, List.set_cons_zero, List.set_cons_succ]
                  refine still_val (v := ?_) (by rfl) ?_ ?_
                  rotate_left
                  · first | (go_simp; done) | (go_simp; with_reducible rfl)
                  try simp only [Act.put, List.getElem_toArray, List.getElem_cons_succ, List.getElem_cons_zero, List.setIfInBounds_toArray, List.set_cons_zero, List.set_cons_succ]
                  refine still_val (v := ?_) (by rfl) ?_ ?_
                  rotate_left
                  · first | (go_simp; done) | (go_simp; with_reducible rfl)
                  try simp only [Act.put, List.getElem_toArray, List.getElem_cons_succ, List.getElem_cons_zero, List.setIfInBounds_toArray, List.set_cons_zero, List.set_cons_succ]
                  refine still_val (v := ?_) (by rfl) ?_ ?_
                  rotate_left
                  · first | (go_simp; done) | (go_simp; with_reducible rfl)
                  try simp only [Act.put, List.getElem_toArray, List.getElem_cons_succ, List.getElem_cons_zero, List.setIfInBounds_toArray, List.set_cons_zero, List.set_cons_succ]
                  refine still_val (v := ?_) (by rfl) ?_ ?_
                  rotate_left
                  · first | (go_simp; done) | (go_simp; with_reducible rfl)
                  try simp only [Act.put, List.getElem_toArray, List.getElem_cons_succ, List.getElem_cons_zero, List.setIfInBounds_toArray, List.set_cons_zero, List.set_cons_succ]
                  refine still_val (v := ?_) (by rfl) ?_ ?_
                  rotate_left
                  · first | (go_simp; done) | (go_simp; with_reducible rfl)
                  try simp only [Act.put, List.getElem_toArray, List.getElem_cons_succ, List.getElem_cons_zero, List.setIfInBounds_toArray, List.set_cons_zero, List.set_cons_succ]
                  refine still_val (v := ?_) (by rfl) ?_ ?_
                  rotate_left
                  · first | (go_simp; done) | (go_simp; with_reducible rfl)
                  try simp only [Act.put, List.getElem_toArray, List.getElem_cons_succ, List.getElem_cons_zero, List.setIfInBounds_toArray, List.set_cons_zero, List.set_cons_succ]
                  refine still_val (v := ?_) (by rfl) ?_ ?_
                  rotate_left
                  · first | (go_simp; done) | (go_simp; with_reducible rfl)
                  try simp only [Act.put, List.getElem_toArray, List.getElem_cons_succ, List.getElem_cons_zero, List.setIfInBounds_toArray, List.set_cons_zero, List.set_cons_succ]
                  refine still_val (v := ?_) (by rfl) ?_ ?_
                  rotate_left
                  · first | (go_simp; done) | (go_simp; with_reducible rfl)
                  try simp only [Act.put, List.getElem_toArray, List.getElem_cons_succ, List.getElem_cons_zero, List.setIfInBounds_toArray, List.set_cons_zero, List.set_cons_succ]
                  refine still_val (v := ?_) (by rfl) ?_ ?_
                  rotate_left
                  · first | (go_simp; done) | (go_simp; with_reducible rfl)
                  try simp only [Act.put, List.getElem_toArray, List.getElem_cons_succ, List.getElem_cons_zero, List.setIfInBounds_toArray, List.set_cons_zero, List.set_cons_succ]
                  refine still_val (v := ?_) (by rfl) ?_ ?_
                  rotate_left
                  · first | (go_simp; done) | (go_simp; with_reducible rfl)
                  try simp only [Act.put, List.getElem_toArray, List.getElem_cons_succ, List.getElem_cons_zero, List.setIfInBounds_toArray, List.set_cons_zero, List.set_cons_succ]
                  refine still_val (v := (.agg s.o.V)) (by rfl) (exec_load_midV (.tmp 115) rfl b 2 rfl s.o _ hWo) ?_
                  try simp only [Act.put, List.getElem_toArray, List.getElem_cons_succ, List.getElem_cons_zero, List.setIfInBounds_toArray, List.set_cons_zero, List.set_cons_succ]
                  refine still_val (v := ?_) (by rfl) ?_ ?_
                  rotate_left
                  · first | (go_simp; done) | (go_simp; with_reducible rfl)
                  try simp only [Act.put, List.getElem_toArray, List.getElem_cons_succ, List.getElem_cons_zero, List.setIfInBounds_toArray, List.set_cons_zero, List.set_cons_succ]
                  refine still_val (v := (.agg old.V)) (by rfl) (exec_load_midV (.tmp 117) rfl A 1 rfl old _ (head_root hA)) ?_
                  try simp only [Act.put, List.getElem_toArray, List.getElem_cons_succ, List.getElem_cons_zero, List.setIfInBounds_toArray, List.set_cons_zero, List.set_cons_succ]
                  refine still_val (v := (.bool (decide (s.o = old)))) (by rfl) (exec_eq_V (.tmp 116) (.tmp 118) _ rfl s.o old rfl rfl _) ?_
                  try simp only [Act.put, List.getElem_toArray, List.getElem_cons_succ, List.getElem_cons_zero, List.setIfInBounds_toArray, List.set_cons_zero, List.set_cons_succ]
                  refine still_val (v := ?_) (by rfl) ?_ ?_
                  rotate_left
                  · first | (go_simp; done) | (go_simp; with_reducible rfl)
                  try simp only [Act.put, List.getElem_toArray, List.getElem_cons_succ, List.getElem_cons_zero, List.setIfInBounds_toArray, List.set_cons_zero, List.set_cons_succ]
                  refine still_val (v := ?_) (by rfl) ?_ ?_
                  rotate_left
                  · first | (go_simp; done) | (go_simp; with_reducible rfl)
                  try simp only [Act.put, List.getElem_toArray, List.getElem_cons_succ, List.getElem_cons_zero, List.setIfInBounds_toArray, List.set_cons_zero, List.set_cons_succ]
                  refine still_not (by rfl) ?_
                  try simp only [Act.put, List.getElem_toArray, List.getElem_cons_succ, List.getElem_cons_zero, List.setIfInBounds_toArray, List.set_cons_zero, List.set_cons_succ]
                  refine still_not (by rfl) ?_
                  try simp only [Act.put, List.getElem_toArray, List.getElem_cons_succ, List.getElem_cons_zero, List.setIfInBounds_toArray, List.set_cons_zero, List.set_cons_succ]
                  refine still_not (by rfl) ?_
                  try simp only [Act.put, List.getElem_toArray, List.getElem_cons_succ, List.getElem_cons_zero, List.setIfInBounds_toArray, List.set_cons_zero, List.set_cons_succ]
                  refine still_not (by rfl) ?_
                  try simp only [Act.put, List.getElem_toArray, List.getElem_cons_succ, List.getElem_cons_zero, List.setIfInBounds_toArray, List.set_cons_zero, List.set_cons_succ]
                  refine still_not (by rfl) ?_
                  try simp only [Act.put, List.getElem_toArray, List.getElem_cons_succ, List.getElem_cons_zero, List.setIfInBounds_toArray, List.set_cons_zero, List.set_cons_succ]
                  refine still_val (v := ?_) (by rfl) ?_ ?_
                  rotate_left
                  · first | (go_simp; done) | (go_simp; with_reducible rfl)
                  try simp only [Act.put, List.getElem_toArray, List.getElem_cons_succ, List.getElem_cons_zero, List.setIfInBounds_toArray, List.set_cons_zero, List.set_cons_succ]
                  refine still_end ?_
                  go_wp2_with (go_at_call 45; refine (told_any ⟨#[112, 114, 101, 102, 105, 120]⟩ (I : Int) false _).mono ?_; rintro e w1 ⟨v, rfl, hv, hx1⟩)
                  go_ret
                  exact ⟨_, rfl, by rw [HR.out, if_neg (fun q => HO.out q.2.2.1)]; exact hv, (HEE.out.trans0 hx1).mono (fun g hg => .inr (by have := HABb.out; simp at hg; omega))⟩
              · have he' : ¬ (s.e : Int) = 0 := by omega
                have HE0 := Hs.hid he
                clear he
                have hbe : ((s.e : Int) == 0) = false := by simpa using he'
                go_upto_region 20 with fail
                refine wp_region_stl_tail 24 (by kernel_rfl) (by kernel_rfl) ?_
                simp only [List.take_succ_cons, List.take_zero, List.drop_succ_cons, List.drop_zero]
                refine still_val (v := ?_) (by rfl) ?_ ?_
                rotate_left
                · first | (go_simp; done) | (go_simp; with_reducible rfl)
                try simp only [Act.put, List.getElem_toArray, List.getElem_cons_succ, List.getElem_cons_zero, List.setIfInBounds_toArray, List.set_cons_zero, List.set_cons_succ]
                refine still_val (v := ?_) (by rfl) ?_ ?_
                rotate_left
                · first | (go_simp; done) | (go_simp; with_reducible rfl)
                try simp only [Act.put, List.getElem_toArray, List.getElem_cons_succ, List.getElem_cons_zero, List.setIfInBounds_toArray, List.set_cons_zero, List.set_cons_succ]
                refine still_val (v := ?_) (by rfl) ?_ ?_
                rotate_left
                · first | (go_simp; done) | (go_simp; with_reducible rfl)
                try simp only [Act.put, List.getElem_toArray, List.getElem_cons_succ, List.getElem_cons_zero, List.setIfInBounds_toArray, List.set_cons_zero, List.set_cons_succ]
                refine still_val (v := ?_) (by rfl) ?_ ?_
                rotate_left
                · first | (go_simp; done) | (go_simp; with_reducible rfl)
                try simp only [Act.put, List.getElem_toArray, List.getElem_cons_succ, List.getElem_cons_zero, List.setIfInBounds_toArray, List.set_cons_zero, List.set_cons_succ]
                refine still_val (v := ?_) (by rfl) ?_ ?_
                rotate_left
                · first | (go_simp; done) | (go_simp; with_reducible rfl)
                try simp only [Act.put, List.getElem_toArray, List.getElem_cons_succ, List.getElem_cons_zero, List.setIfInBounds_toArray, List.set_cons_zero, List.set_cons_succ]
                refine still_val (v := ?_) (by rfl) ?_ ?_
                rotate_left
                · first | (go_simp; done) | (go_simp; with_reducible rfl)
                try simp only [Act.put, List.getElem_toArray, List.getElem_cons_succ, List.getElem_cons_zero, List.setIfInBounds_toArray, List.set_cons_zero, List.set_cons_succ]
                refine still_val (v := ?_) (by rfl) ?_ ?_
                rotate_left
                · first | (go_simp; done) | (go_simp; with_reducible rfl)
                try simp only [Act.put, List.getElem_toArray, List.getElem_cons_succ, List.getElem_cons_zero, List.setIfInBounds_toArray, List.set_cons_zero, List.set_cons_succ]
                refine still_val (v := ?_) (by rfl) ?_ ?_
                rotate_left
                · first | (go_simp; done) | (go_simp; with_reducible rfl)
                try simp only [Act.put, List.getElem_toArray, List.getElem_cons_succ, List.getElem_cons_zero, List.setIfInBounds_toArray, List.set_cons_zero, List.set_cons_succ]
                refine still_val (v := ?_) (by rfl) ?_ ?_
                rotate_left
                · first | (go_simp; done) | (go_simp; with_reducible rfl)
                try simp only [Act.put, List.getElem_toArray, List.getElem_cons_succ, List.getElem_cons_zero, List.setIfInBounds_toArray, List.set_cons_zero, List.set_cons_succ]
                refine still_val (v := ?_) (by rfl) ?_ ?_
                rotate_left
                · first | (go_simp; done) | (go_simp; with_reducible rfl)
                try simp only [Act.put, List.getElem_toArray, List.getElem_cons_succ, List.getElem_cons_zero, List.setIfInBounds_toArray, List.set_cons_zero, List.set_cons_succ]
                refine still_val (v := ?_) (by rfl) ?_ ?_
                rotate_left
                · first | (go_simp; done) | (go_simp; with_reducible rfl)
                try simp only [Act.put, List.getElem_toArray, List.getElem_cons_succ, List.getElem_cons_zero, List.setIfInBounds_toArray, List.set_cons_zero, List.set_cons_succ]
                refine still_not (by rfl) ?_
                try simp only [Act.put, List.getElem_toArray, List.getElem_cons_succ, List.getElem_cons_zero, List.setIfInBounds_toArray, List.set_cons_zero, List.set_cons_succ]
                refine still_not (by rfl) ?_
                try simp only [Act.put, List.getElem_toArray, List.getElem_cons_succ, List.getElem_cons_zero, List.setIfInBounds_toArray, List.set_cons_zero, List.set_cons_succ]
                refine still_not (by rfl) ?_
                try simp only [Act.put, List.getElem_toArray, List.getElem_cons_succ, List.getElem_cons_zero, List.setIfInBounds_toArray, List.set_cons_zero, List.set_cons_succ]
                refine still_not (by rfl) ?_
                try simp only [Act.put, List.getElem_toArray, List.getElem_cons_succ, List.getElem_cons_zero, List.setIfInBounds_toArray, List.set_cons_zero, List.set_cons_succ]
                refine still_not (by rfl) ?_
                try simp only [Act.put, List.getElem_toArray, List.getElem_cons_succ, List.getElem_cons_zero, List.setIfInBounds_toArray, List.set_cons_zero, List.set_cons_succ]
                refine still_val (v := ?_) (by rfl) ?_ ?_
                rotate_left
                · first | (go_simp; done) | (go_simp; with_reducible rfl)
                try simp only [Act.put, List.getElem_toArray, List.getElem_cons_succ, List.getElem_cons_zero, List.setIfInBounds_toArray, List.set_cons_zero, List.set_cons_succ]
                refine still_val (v := ?_) (by rfl) ?_ ?_
                rotate_left
                · first | (go_simp; done) | (go_simp; with_reducible rfl)
                try simp only [Act.put, List.getElem_toArray, List.getElem_cons_succ, List.getElem_cons_zero, List.setIfInBounds_toArray, List.set_cons_zero, List.set_cons_succ]
                refine still_not (by rfl) ?_
                try simp only [Act.put, List.getElem_toArray, List.getElem_cons_succ, List.getElem_cons_zero, List.setIfInBounds_toArray, List.set_cons_zero, List.set_cons_succ]
                refine still_not (by rfl) ?_
                try simp only [Act.put, List.getElem_toArray, List.getElem_cons_succ, List.getElem_cons_zero, List.setIfInBounds_toArray, List.set_cons_zero, List.set_cons_succ]
                refine still_not (by rfl) ?_
                try simp only [Act.put, List.getElem_toArray, List.getElem_cons_succ, List.getElem_cons_zero, List.setIfInBounds_toArray, List.set_cons_zero, List.set_cons_succ]
                refine still_not (by rfl) ?_
                try simp only [Act.put, List.getElem_toArray, List.getElem_cons_succ, List.getElem_cons_zero, List.setIfInBounds_toArray, List.set_cons_zero, List.set_cons_succ]
                refine still_not (by rfl) ?_
                try simp only [Act.put, List.getElem_toArray, List.getElem_cons_succ, List.getElem_cons_zero, List.setIfInBounds_toArray, List.set_cons_zero, List.set_cons_succ]
                refine still_val (v := ?_) (by rfl) ?_ ?_
                rotate_left
                · first | (go_simp; done) | (go_simp; with_reducible rfl)
                try simp only [Act.put, List.getElem_toArray, List.getElem_cons_succ, List.getElem_cons_zero, List.setIfInBounds_toArray, List.set_cons_zero, List.set_cons_succ]
                refine still_end ?_
                go_wp2_with (go_at_call 45; refine (told_any ⟨#[112, 114, 101, 102, 105, 120]⟩ (I : Int) false _).mono ?_; rintro e w1 ⟨v, rfl, hv, hx1⟩)
                go_ret
                exact ⟨_, rfl, by rw [HR.out, if_neg (fun q => HE0.out q.2.1)]; exact hv, (HEE.out.trans0 hx1).mono (fun g hg => .inr (by have := HABb.out; simp at hg; omega))⟩
end Go.Proofs.YtnjjbolbemlceaaDoor
set_option linter.unusedSimpArgs false
set_option linter.unusedVariables false
set_option maxHeartbeats 2000000
set_option maxRecDepth 100000
namespace Go.Proofs.YtnjjbolbemlceaaDoor
open Go.RowKit Go.Hs Go.Dg

/-- A head's cells. -/
def headV (n : Int) (y : S32) : Array Value := #[.int .i64 n] ++ y.V
theorem headV_size (n : Int) (y : S32) : (headV n y).size = 33 := by unfold headV; rw [Array.size_append, y.size]; rfl
theorem headV_one (n : Int) (y : S32) : (headV n y).all (·.oneCell') = true := by
  rw [Array.all_eq_true']
  intro u hu
  unfold headV at hu
  rcases Array.mem_append.1 hu with h | h
  · simp at h; subst h; rfl
  · exact S32.ones y u (Array.mem_toList_iff.2 h)
def head0 : Array Value := headV 0 zeroS
theorem infoHead : (Tryd.prog.info? 52).map (fun i => (i.zero, i.size)) = some (some (.agg head0), 33) := by kernel_rfl
theorem headPlaces : (Tryd.prog.info? 52).bind (fun it => (Tryd.prog.underlying 52).bind fun d => match d with
    | .struct fields => (fields.toList.mapM (fun f => (Tryd.prog.info? f.type).map fun i => (f.offset, i.size))).map fun p => (it.zero, p)
    | _ => none) = some (some (.agg head0), [(0, 1), (1, 32)]) := by kernel_rfl
theorem fill_head (n : Int) (y : S32) : Instr.fill ([(0, 1), (1, 32)].toArray[·]?) head0 [(0, .int .i64 n), (1, .agg y.V)] = some (headV n y) := by
  have e1 : Instr.fill ([(0, 1), (1, 32)].toArray[·]?) head0 [(0, .int .i64 n), (1, .agg y.V)]
      = Instr.fill ([(0, 1), (1, 32)].toArray[·]?) (headV n zeroS) [(1, .agg y.V)] := by
    have hpl0 : ([(0, 1), (1, 32)].toArray : Array (Nat × Nat))[0]? = some (0, 1) := rfl
    have hc0 : (Value.int .i64 n).cells = #[.int .i64 n] := rfl
    have hz0 : head0.size = 33 := headV_size 0 zeroS
    have hs0 : head0.setIfInBounds 0 (.int .i64 n) = headV n zeroS := by
      apply Array.ext_getElem?
      intro i
      rw [Array.getElem?_setIfInBounds, hz0]
      unfold head0 headV
      by_cases hi : 0 = i
      · subst hi
        rw [if_pos rfl, if_pos (by decide), Array.getElem?_append_left (by simp)]; rfl
      · rw [if_neg hi, Array.getElem?_append_right (by simp; omega), Array.getElem?_append_right (by simp; omega)]; rfl
    rw [Instr.fill]
    simp only [hpl0, hc0, hz0]
    rw [if_neg (by simp)]
    have hfo : (#[Value.int IntKind.i64 n].zipIdx.foldl (fun cs (x : Value × Nat) => match x with | (c, j) => cs.setIfInBounds (0 + j) c) head0) = head0.setIfInBounds 0 (.int .i64 n) := rfl
    rw [hfo, hs0]
  rw [e1]
  have hc : (Value.agg y.V).cells = y.V := rfl
  have hpl : ([(0, 1), (1, 32)].toArray : Array (Nat × Nat))[1]? = some (1, 32) := rfl
  simp only [Instr.fill, hpl, hc, headV_size, y.size]
  rw [if_neg (by decide)]
  congr 1
  have hf : y.V.zipIdx.foldl (fun cs (p : Value × Nat) => cs.setIfInBounds (1 + p.2) p.1) (headV n zeroS) = (y.V.toList.zipIdx 0).foldl (fun a (p : Value × Nat) => a.setIfInBounds (1 + p.2) p.1) (headV n zeroS) := by
    rw [← Array.foldl_toList, Array.toList_zipIdx]
  have hf' : y.V.zipIdx.foldl (fun cs (x : Value × Nat) => match x with | (c, j) => cs.setIfInBounds (1 + j) c) (headV n zeroS) = (y.V.toList.zipIdx 0).foldl (fun a (p : Value × Nat) => a.setIfInBounds (1 + p.2) p.1) (headV n zeroS) := hf
  rw [hf']
  obtain ⟨h1, h2⟩ := fold_at 1 y.V.toList 0 (headV n zeroS)
  apply Array.ext_getElem?
  intro i
  rw [h2 i, headV_size, S32.tlen y]
  unfold headV
  by_cases hi : i = 0
  · subst hi
    rw [if_neg (by omega), Array.getElem?_append_left (by simp), Array.getElem?_append_left (by simp)]
  · by_cases h3 : i < 33
    · rw [if_pos (by omega), Array.getElem?_append_right (by simp; omega)]
      simp
    · rw [if_neg (by omega), Array.getElem?_eq_none (by rw [Array.size_append, zeroS.size]; simp; omega), Array.getElem?_eq_none (by rw [Array.size_append, y.size]; simp; omega)]
theorem head_built (n : Int) (y : S32) : Tryd.prog.built 52 [(0, .int .i64 n), (1, .agg y.V)] = some (headV n y) := by
  have hp := headPlaces
  have hf := fill_head n y
  unfold Program.built
  cases hi : Tryd.prog.info? 52 with
  | none => rw [hi] at hp; simp at hp
  | some it =>
    cases hu : Tryd.prog.underlying 52 with
    | none => rw [hi, hu] at hp; simp at hp
    | some d =>
      rw [hi, hu] at hp
      cases d with
      | struct fields =>
        simp only [Option.bind_some, Option.map_eq_some_iff] at hp
        obtain ⟨pl, h1, h2⟩ := hp
        have h3 := (Prod.mk.inj h2).1
        have h4 := (Prod.mk.inj h2).2
        subst h4
        simp only [h1, h3]
        exact hf
      | _ => simp at hp
theorem exec_load_rowHd {a : Act} {o : Oper} (y : Operand) (ho : o.op = Op.load 52 y) (g : Nat) (hy : a.eval y = .pointer (some ⟨g, 0, none⟩)) (n : Int) (x : S32) (w : World) (h : ∃ fr, w.heap[g]? = some (.cells (headV n x) 52 fr)) :
    (execOp a.eval o).run Tryd.prog w = .ok (.value (.agg (headV n x))) w := by
  obtain ⟨fr, h⟩ := h
  unfold execOp
  have := run_loadVar_row (P := Tryd.prog) w g 52 52 (headV n x) fr _ h Tryd.underlying52 rfl (by rw [headV_size]; exact (zero_of_info (P := Tryd.prog) infoHead).2)
  simp only [ho, hy, Instr.loadAt, Instr.sureAddr, Sem.run_bind, Sem.run_pure, Result.andThen_ok, this]
theorem leafS_any (s : ByteArray) (hs : s.size ≤ 99999999) (w : World) : Calls Tryd.prog 23 #[.string s] w fun e w' => ∃ y : S32, e = .returned (.agg y.V) ∧ Hid (y = dig (leaf2 s)) ∧ Ext [] w w' :=
  (leaf_any s hs w).mono fun e w' ⟨cs, h1, h2, h3⟩ => ⟨dig (leaf2 s), by rw [h1, h2.out, leaf2, dig_V], Hs.hid rfl, h3⟩
theorem of_nil (w : World) : Calls Tryd.prog 17 #[.nilIface] w fun e w' => e = .returned (.int .i64 0) ∧ Ext [] w w' := by
  go_enter Tryd.func17, Tryd.ntmps17
  go_wp2
  go_ret
  exact ⟨rfl, Ext.refl _ _⟩
theorem ofE_any (r : Int) (step : ByteArray) (a : Int) (v : Value) (w : World) (hg : Gd w) (hv : ErrIs w.heap r step a v) : Calls Tryd.prog 17 #[v] w fun e w' => e = .returned (.int .i64 r) ∧ Ext [] w w' := by
  rcases hv with ⟨rfl, rfl⟩ | ⟨h1, h2⟩
  · exact of_nil w
  · exact faultOf_any r _ v w hg h2
theorem pInclH_any (leaf : ByteArray) (hs : leaf.size ≤ 1000) (i n : Int) (hn : n ≤ 1000) (root : S32) (xs : List S32) (L : Nat) (hL : xs.length = L) (ao : Option Addr) (cap : Nat) (w : World) (hS : Sums32 w.heap ao cap xs) :
    Calls Tryd.prog 26 #[.string leaf, .int .i64 i, .agg (headV n root), .slice ao L cap] w fun e w' => ∃ v, e = .returned v ∧
      Hid (ErrIs w'.heap (inclN (dig (leaf2 leaf)) i n root xs) ⟨#[108, 101, 97, 102]⟩ i v) ∧ Ext [] w w' := by
  subst hL
  exact pIncl_any leaf hs i n hn root xs ao cap w hS
theorem pConsH_any (m n : Int) (hn : n ≤ 1000) (old root : S32) (xs : List S32) (ao : Option Addr) (cap : Nat) (w : World) (hS : Sums32 w.heap ao cap xs) :
    Calls Tryd.prog 27 #[.agg (headV m old), .agg (headV n root), .slice ao xs.length cap] w fun e w' => ∃ v, e = .returned v ∧
      Hid (ErrIs w'.heap (consN m n old root xs) ⟨#[112, 114, 101, 102, 105, 120]⟩ m v) ∧ Ext [] w w' := by
  by_cases h : m ≤ 0 ∨ n ≤ m
  · exact pConsA_any m n hn h old root xs ao cap w hS
  · obtain ⟨I, rfl⟩ : ∃ I : Nat, m = I := ⟨m.toNat, by omega⟩
    obtain ⟨M, rfl⟩ : ∃ M : Nat, n = M := ⟨n.toNat, by omega⟩
    exact pConsB_any I M (by omega) (by omega) (by omega) old root xs ao cap w hS
theorem pInclNil (leaf : ByteArray) (hs : leaf.size ≤ 1000) (i n : Int) (hn : n ≤ 1000) (root : S32) (xs : List S32) (hr : inclN (dig (leaf2 leaf)) i n root xs = 0) (L : Nat) (hL : xs.length = L) (ao : Option Addr) (cap : Nat) (w : World) (hS : Sums32 w.heap ao cap xs) :
    Calls Tryd.prog 26 #[.string leaf, .int .i64 i, .agg (headV n root), .slice ao L cap] w fun e w' => e = .returned .nilIface ∧ Ext [] w w' :=
  (pInclH_any leaf hs i n hn root xs L hL ao cap w hS).mono fun e w' ⟨v, h1, h2, h3⟩ => by
    rw [hr] at h2
    rcases h2.out with ⟨_, h⟩ | ⟨h, _⟩
    · exact ⟨by rw [h1, h], h3⟩
    · exact absurd rfl h
theorem pInclErr (r : Int) (h0 : r ≠ 0) (leaf : ByteArray) (hs : leaf.size ≤ 1000) (i n : Int) (hn : n ≤ 1000) (root : S32) (xs : List S32) (hr : inclN (dig (leaf2 leaf)) i n root xs = r) (L : Nat) (hL : xs.length = L) (ao : Option Addr) (cap : Nat) (w : World) (hS : Sums32 w.heap ao cap xs) :
    Calls Tryd.prog 26 #[.string leaf, .int .i64 i, .agg (headV n root), .slice ao L cap] w fun e w' => ∃ p, e = .returned (.iface 66 p) ∧ Hid (ErrIs w'.heap r ⟨#[108, 101, 97, 102]⟩ i (.iface 66 p)) ∧ Ext [] w w' :=
  (pInclH_any leaf hs i n hn root xs L hL ao cap w hS).mono fun e w' ⟨v, h1, h2, h3⟩ => by
    rw [hr] at h2
    rcases h2.out with ⟨h, _⟩ | ⟨h, h4⟩
    · exact absurd h h0
    · have h5 := h4
      obtain ⟨b, u, rfl, _, _⟩ := h4
      exact ⟨_, h1, Hs.hid (.inr ⟨h, h5⟩), h3⟩
/-- A slice of one sum, made where it is written, behind a guard. -/
theorem wpList_sumG {ops : Array Oper} {rest : List Oper} {o : Oper} {a : Act} {w : World} {Q : Exit → Act → World → Prop} (hw : Region.wanted o (yielded ops a.tmps) = true) (y : Operand) (ho : o.op = .buildSlice 42 1 #[(0, y)])
    (x : S32) (hy : a.eval y = .agg x.V)
    (h : wpList Tryd.prog ops Q rest (a.put o.dst (.slice (some ⟨w.heap.size, 0, none⟩) 1 1)) (w.alloc (.cells x.V 46))) : wpList Tryd.prog ops Q (o :: rest) a w := by
  obtain ⟨i0, hi, hz0, hz1, hz2⟩ := info_parts infoSumY
  refine wpList_step fun K' hK' => ?_
  rw [if_pos hw]
  refine wp_buildSlice 42 46 1 _ ho x.V i0 _ Tryd.underlying42 hi hz0 (by rw [hz1]; decide) (by rw [hz1]; decide) ?_ (hK' _ _ h)
  rw [hz1]
  have : (#[(0, y)].map fun (p : Nat × Operand) => (p.1, a.eval p.2)).toList = [(0, Value.agg x.V)] := by simp [hy]
  show Instr.fill _ _ (#[(0, y)].map fun (p : Nat × Operand) => (p.1, a.eval p.2)).toList = _
  rw [this]
  exact fill_sumV x _ (by simp)
/-- Two rows made one behind the other, each filled. -/
theorem row2_at (w : World) (o o' : Obj) (x : Array Value) : ((((w.alloc o).alloc o').setRow w.heap.size x)).heap[w.heap.size + 1]? = some o' := by
  rw [setRow_other _ _ _ _ (by omega)]
  have := heap_new (w.alloc o) o'
  rwa [show (w.alloc o).heap.size = w.heap.size + 1 by simp] at this
theorem row2_two (w : World) (z z' x y : Array Value) (t t' : TypeId) :
    ((((w.alloc (.cells z t)).alloc (.cells z' t')).setRow w.heap.size x).setRow (w.heap.size + 1) y).heap[w.heap.size]? = some (.cells x t (0, 0)) ∧
    ((((w.alloc (.cells z t)).alloc (.cells z' t')).setRow w.heap.size x).setRow (w.heap.size + 1) y).heap[w.heap.size + 1]? = some (.cells y t' (0, 0)) ∧
    Ext [] w ((((w.alloc (.cells z t)).alloc (.cells z' t')).setRow w.heap.size x).setRow (w.heap.size + 1) y) := by
  refine ⟨?_, ?_, ?_⟩
  · rw [setRow_other _ _ _ _ (by omega)]
    exact setRow_heap _ _ _ _ _ _ (heap_old' _ _ (heap_new w _))
  · exact setRow_heap _ _ _ _ _ _ (row2_at w _ _ x)
  · exact ((((Ext.refl [] w).alloc _).alloc _).trans (setRow_ext _ _) (fun g hg => .inr (by simp at hg; omega))).trans (setRow_ext _ _) (fun g hg => .inr (by simp at hg; omega))
/-- A sums' slice of one. -/
theorem sums_one {w : World} {R : Nat} {x : S32} {t : TypeId} {fr : Nat × Nat} (h : w.heap[R]? = some (.cells x.V t fr)) : Sums32 w.heap (some ⟨R, 0, none⟩) 1 [x] :=
  ⟨Nat.le_refl _, by decide, .inr ⟨R, 0, x.V, t, fr, rfl, h, fun k y hy j v hj => by
    cases k with
    | zero => simp at hy; subst hy; simpa using hj
    | succ k => simp at hy⟩⟩
/-- The call's own slice of sums, as an argument. -/
theorem sums_own {h : Array Obj} {ao : Option Addr} {cap : Nat} {xs : List S32} (o : OwnV h (.slice ao xs.length cap) xs) : Sums32 h ao cap xs := by
  rcases o.2 with ⟨h1, h0⟩ | ⟨g, cap', cur, h1, _, hg, hnc, hn, hs, ht⟩
  · simp at h1
    exact ⟨by omega, by omega, .inl (List.eq_nil_of_length_eq_zero h0)⟩
  · simp at h1
    obtain ⟨rfl, rfl⟩ := h1
    refine ⟨hnc, by unfold maxLen at hn; omega, .inr ⟨g, 0, cur, _, _, rfl, hg, fun k x hk j v hj => ?_⟩⟩
    have hjl := (List.getElem?_eq_some_iff.1 hj).1
    rw [S32.tlen] at hjl
    have hkl := (List.getElem?_eq_some_iff.1 hk).1
    have hsv : ∀ (xs : List S32) (k : Nat), xs[k]? = some x → (sumsV xs)[k * 32 + j]? = some v := by
      intro xs
      induction xs with
      | nil => intro k h; simp at h
      | cons y ys ih =>
        intro k h
        have hl : y.V.toList.length = 32 := S32.tlen y
        unfold sumsV
        rw [List.flatMap_cons]
        cases k with
        | zero =>
          simp at h; subst h
          rw [List.getElem?_append_left (by omega)]
          simpa using hj
        | succ k =>
          rw [List.getElem?_append_right (by omega), hl, show (k + 1) * 32 + j - 32 = k * 32 + j by omega]
          exact ih k (by simpa using h)
    have := hsv xs k hk
    rw [← ht, List.getElem?_take] at this
    split at this
    · rw [Nat.zero_add, ← Array.getElem?_toList]; exact this
    · cases this
theorem txts_own {h : Array Obj} {ao : Option Addr} {cap : Nat} {xs : List S32} (o : OwnX h (.slice ao xs.length cap) xs) : Txts h ao cap xs := by
  rcases o.2 with ⟨h1, h0⟩ | ⟨g, cap', cur, h1, _, hg, hnc, hn, hs, ht⟩
  · simp at h1
    exact ⟨by omega, by omega, .inl (List.eq_nil_of_length_eq_zero h0)⟩
  · simp at h1
    obtain ⟨rfl, rfl⟩ := h1
    refine ⟨hnc, by unfold maxLen at hn; omega, .inr ⟨g, cur, _, _, rfl, hg, fun k x hk => ?_⟩⟩
    have hkl := (List.getElem?_eq_some_iff.1 hk).1
    have : (cur.toList.take (xs.length * 1))[k]? = some (.string x.s) := by rw [ht, List.getElem?_map, hk]; rfl
    rw [List.getElem?_take, if_pos (by omega)] at this
    simpa using this
end Go.Proofs.YtnjjbolbemlceaaDoor
set_option linter.unusedSimpArgs false
set_option linter.unusedVariables false
set_option maxHeartbeats 4000000
set_option maxRecDepth 100000
namespace Go.Proofs.YtnjjbolbemlceaaDoor
open Go.RowKit Go.Hs Go.Dg

theorem dirs02 : dirs 0 2 = [false] := by
  have h : halfN 2 = 1 := by decide +kernel
  rw [dirs, dif_neg (by omega), h, if_pos (by omega), dirs, dif_pos (by omega)]; rfl
theorem dirs12 : dirs 1 2 = [true] := by
  have h : halfN 2 = 1 := by decide +kernel
  rw [dirs, dif_neg (by omega), h, if_neg (by omega), dirs, dif_pos (by omega)]; rfl
def laW : S32 := dig (leaf2 ⟨#[97]⟩)
def lbW : S32 := dig (leaf2 ⟨#[98]⟩)
theorem nodesApart : (nodeS lbW laW).l ≠ (nodeS laW lbW).l := by decide +kernel
theorem inc0 (la lb : S32) : inclN la 0 2 (nodeS la lb) [lb] = 0 := by
  unfold inclN
  rw [if_neg (by omega)]
  have h : dirs (Int.toNat 0) (Int.toNat 2) = [false] := dirs02
  simp only [h]
  rw [if_pos ⟨rfl, rfl⟩]
theorem inc1 : inclN laW 1 2 (nodeS laW lbW) [lbW] = 12 := by
  unfold inclN
  rw [if_neg (by omega)]
  have h : dirs (Int.toNat 1) (Int.toNat 2) = [true] := dirs12
  simp only [h]
  rw [if_neg (fun h => nodesApart (congrArg S32.l h.2))]
theorem inc2 (la rt : S32) (xs : List S32) : inclN la 2 2 rt xs = 6 := by
  unfold inclN
  rw [if_pos (by omega)]
theorem awake10_any (w : World) (hg : Gd w) : Calls Tryd.prog 19 #[] w fun e w' => e = .returned (.bool true) ∧ Ext [] w w' := by
  have HZ := Hs.hid (show zeroS.V = #[.int .u8 0, .int .u8 0, .int .u8 0, .int .u8 0, .int .u8 0, .int .u8 0, .int .u8 0, .int .u8 0, .int .u8 0, .int .u8 0, .int .u8 0, .int .u8 0, .int .u8 0, .int .u8 0, .int .u8 0, .int .u8 0, .int .u8 0, .int .u8 0, .int .u8 0, .int .u8 0, .int .u8 0, .int .u8 0, .int .u8 0, .int .u8 0, .int .u8 0, .int .u8 0, .int .u8 0, .int .u8 0, .int .u8 0, .int .u8 0, .int .u8 0, .int .u8 0] from rfl)
  go_enter Tryd.func19, Tryd.ntmps19
  go_upto_region 2 with (first
    | (go_at_call 23; refine (leafS_any ⟨#[97]⟩ (by decide) _).mono ?_; rintro e w1 ⟨la, rfl, hla, hx1⟩)
    | (go_at_call 23; refine (leafS_any ⟨#[98]⟩ (by decide) _).mono ?_; rintro e w2 ⟨lb, rfl, hlb, hx2⟩)
    | (refine wpList_store_row rfl 46 (.tmp 1) (.tmp 4) rfl w2.heap.size la.V rfl rfl _ _ (heap_old' _ _ (heap_new w2 _)) (by rw [la.size]; exact infoSum) (by rw [la.size]; rfl) la.one ?_)
    | (refine wpList_store_row rfl 46 (.tmp 2) (.tmp 5) rfl (w2.heap.size + 1) lb.V rfl rfl _ _ (row2_at w2 _ _ la.V) (by rw [lb.size]; exact infoSum) (by rw [lb.size]; rfl) lb.one ?_))
  obtain ⟨hA, hB, hx3⟩ := row2_two w2 zeroS.V zeroS.V la.V lb.V 46 46
  rw [HZ.out] at hA hB hx3
  generalize (((w2.alloc _).alloc _).setRow w2.heap.size la.V).setRow (w2.heap.size + 1) lb.V = W3 at hA hB hx3 ⊢
  obtain ⟨A, hAA⟩ : ∃ A, w2.heap.size = A := ⟨_, rfl⟩
  rw [hAA] at hA hB ⊢
  have HE3 := Hs.hid ((hx1.trans0 hx2).trans0 hx3)
  clear hAA hx1 hx2 hx3
  have HH := Hs.hid (head_built 2)
  have hz33 := (zero_of_info (P := Tryd.prog) infoHead)
  go_upto_region 3 with (first
    | (refine wpList_yield (.agg la.V) (by rfl) (exec_load_rowV (.tmp 1) rfl A rfl la _ ⟨_, hA⟩) ?_)
    | (refine wpList_yield (.agg lb.V) (by rfl) (exec_load_rowV (.tmp 2) rfl (A + 1) rfl lb _ ⟨_, hB⟩) ?_)
    | (go_at_call 40; refine (nodeY_any la lb _).mono ?_; rintro e w4 ⟨nd, rfl, hnd, hx4⟩)
    | (refine wpList_yield (.agg (headV 2 nd)) (by rfl) (exec_build _ rfl [(0, .int .i64 2), (1, .agg nd.V)] _ _ (by first | (go_simp; done) | (go_simp; rfl) | (simp [Act.eval]; done)) (head_built 2 nd)) ?_)
    | (refine wpList_store_row rfl 52 (.tmp 3) (.tmp 9) rfl w4.heap.size (headV 2 nd) rfl rfl _ _ (heap_new _ _) (by rw [headV_size]; exact hz33.2) (by rw [headV_size]; rfl) (headV_one _ _) ?_))
  have hH := setRow_heap _ _ _ (headV 2 nd) _ _ (heap_new w4 (.cells head0 52))
  have hx5 := hx4.trans0 (boxExt (w := w4) (.cells head0 52) (headV 2 nd))
  generalize (w4.alloc (.cells head0 52)).setRow w4.heap.size (headV 2 nd) = W5 at hH hx5 ⊢
  obtain ⟨H, hHH⟩ : ∃ H, w4.heap.size = H := ⟨_, rfl⟩
  rw [hHH] at hH ⊢
  clear hHH
  have hB5 := hx5.same hB List.not_mem_nil
  have HE5 := Hs.hid (HE3.out.trans0 hx5)
  have e0 : inclN (dig (leaf2 ⟨#[97]⟩)) 0 2 nd [lb] = 0 := by rw [← hla.out, hnd.out]; exact inc0 la lb
  have e1 : inclN (dig (leaf2 ⟨#[97]⟩)) 1 2 nd [lb] = 12 := by
    have q1 : la = laW := hla.out
    have q2 : lb = lbW := hlb.out
    rw [← hla.out, hnd.out, q1, q2]; exact inc1
  have I0 := Hs.hid (fun (w : World) (ao : Option Addr) (h : Sums32 w.heap ao 1 [lb]) => pInclNil ⟨#[97]⟩ (by decide) 0 2 (by decide) nd [lb] e0 1 rfl ao 1 w h)
  have I1 := Hs.hid (fun (w : World) (ao : Option Addr) (h : Sums32 w.heap ao 1 [lb]) => pInclErr 12 (by decide) ⟨#[97]⟩ (by decide) 1 2 (by decide) nd [lb] e1 1 rfl ao 1 w h)
  have I2 := Hs.hid (fun (w : World) (ao : Option Addr) (h : Sums32 w.heap ao 1 [lb]) => pInclErr 6 (by decide) ⟨#[97]⟩ (by decide) 2 2 (by decide) nd [lb] (inc2 _ _ _) 1 rfl ao 1 w h)
  have HG := Hs.hid hg
  clear e0 e1 hg hla hlb hnd hA hB hx5 hx4 HH hz33 HE3
  try simp only [Act.put, List.getElem_toArray, List.getElem_cons_succ, List.getElem_cons_zero, List.setIfInBounds_toArray, List.set_cons_zero, List.set_cons_succ]
  go_wp2_with (first
    | (refine wpList_yield (.agg (headV 2 nd)) (by rfl) (exec_load_rowHd (.tmp 3) rfl H rfl 2 nd _ ⟨_, hH⟩) ?_)
    | (refine wpList_yield (.agg lb.V) (by rfl) (exec_load_rowV (.tmp 2) rfl (A + 1) rfl lb _ ⟨_, hB5⟩) ?_)
    | (refine wpList_sumV rfl (.tmp 11) rfl lb rfl ?_)
    | (go_at_call 26; with_reducible refine (I0.out _ _ (sums_one (heap_new W5 _))).mono ?_; rintro e w6 ⟨rfl, hx6⟩; replace hx6 := ((Ext.refl [] W5).alloc (.cells lb.V 46)).trans0 hx6; have hH6 := hx6.same hH List.not_mem_nil; have hB6 := hx6.same hB5 List.not_mem_nil)
    | (refine wpList_yield (.agg (headV 2 nd)) (by rfl) (exec_load_rowHd (.tmp 3) rfl H rfl 2 nd _ ⟨_, hH6⟩) ?_)
    | (refine wpList_yield (.agg lb.V) (by rfl) (exec_load_rowV (.tmp 2) rfl (A + 1) rfl lb _ ⟨_, hB6⟩) ?_)
    | (refine wpList_sumG (by rfl) (.tmp 17) rfl lb rfl ?_)
    | (go_at_call 26; with_reducible refine (I1.out _ _ (sums_one (heap_new w6 _))).mono ?_; rintro e w7 ⟨p7, rfl, hv7, hx7⟩; replace hx7 := ((hx6).alloc (.cells lb.V 46)).trans0 hx7)
    | (go_at_call 17; with_reducible refine (ofE_any 12 _ _ _ _ (HG.out.ext (HE5.out.trans0 hx7) List.not_mem_nil) hv7.out).mono ?_; rintro e w8 ⟨rfl, hx8⟩; replace hx8 := hx7.trans0 hx8; have hH8 := hx8.same hH List.not_mem_nil; have hB8 := hx8.same hB5 List.not_mem_nil)
    | (refine wpList_yield (.agg (headV 2 nd)) (by rfl) (exec_load_rowHd (.tmp 3) rfl H rfl 2 nd _ ⟨_, hH8⟩) ?_)
    | (refine wpList_yield (.agg lb.V) (by rfl) (exec_load_rowV (.tmp 2) rfl (A + 1) rfl lb _ ⟨_, hB8⟩) ?_)
    | (refine wpList_sumG (by rfl) (.tmp 25) rfl lb rfl ?_)
    | (go_at_call 26; with_reducible refine (I2.out _ _ (sums_one (heap_new w8 _))).mono ?_; rintro e w9 ⟨p9, rfl, hv9, hx9⟩; replace hx9 := ((hx8).alloc (.cells lb.V 46)).trans0 hx9)
    | (go_at_call 17; with_reducible refine (ofE_any 6 _ _ _ _ (HG.out.ext (HE5.out.trans0 hx9) List.not_mem_nil) hv9.out).mono ?_; rintro e w10 ⟨rfl, hx10⟩; replace hx10 := hx9.trans0 hx10))
  go_ret
  exact ⟨rfl, HE5.out.trans0 hx10⟩
end Go.Proofs.YtnjjbolbemlceaaDoor
set_option linter.unusedSimpArgs false
set_option linter.unusedVariables false
set_option maxHeartbeats 4000000
set_option maxRecDepth 100000
namespace Go.Proofs.YtnjjbolbemlceaaDoor
open Go.RowKit Go.Hs Go.Dg

theorem exec_convV {a : Act} {o : Oper} (y : Operand) (ho : o.op = Op.convert 50 9 y) (R : Nat) (hy : a.eval y = .slice (some ⟨R, 0, none⟩) 32 32) (x : S32) (w : World) (h : ∃ fr, w.heap[R]? = some (.cells x.V 46 fr)) :
    (execOp a.eval o).run Tryd.prog w = .ok (.value (.string x.s)) w := by
  obtain ⟨fr, h⟩ := h
  unfold execOp
  simp only [ho, hy, Sem.run_bind, conv_V h, Result.andThen_ok, Sem.run_pure]
theorem proofAny_any (leaf : ByteArray) (i m n : Int) (old root : ByteArray) (ao : Option Addr) (len cap : Nat) (w : World) (hg : Gd w) (h0 : leaf.size ≤ maxLen) (h1 : old.size ≤ maxLen) (h2 : root.size ≤ maxLen) (hL : StrArg w ao len) :
    Calls Tryd.prog 5 #[.string leaf, .int .i64 i, .int .i64 m, .int .i64 n, .string old, .string root, .slice ao len cap] w fun e w' => e = .returned (.bool true) ∧ Ext [] w w' := by
  have HZ := Hs.hid (show zeroS.V = #[.int .u8 0, .int .u8 0, .int .u8 0, .int .u8 0, .int .u8 0, .int .u8 0, .int .u8 0, .int .u8 0, .int .u8 0, .int .u8 0, .int .u8 0, .int .u8 0, .int .u8 0, .int .u8 0, .int .u8 0, .int .u8 0, .int .u8 0, .int .u8 0, .int .u8 0, .int .u8 0, .int .u8 0, .int .u8 0, .int .u8 0, .int .u8 0, .int .u8 0, .int .u8 0, .int .u8 0, .int .u8 0, .int .u8 0, .int .u8 0, .int .u8 0, .int .u8 0] from rfl)
  have HG := Hs.hid hg
  have HL := Hs.hid hL
  have HS := Hs.hid (And.intro h0 (And.intro h1 h2))
  have hmx := hL.1
  clear hg hL h0 h1 h2
  go_enter Tryd.func5, Tryd.ntmps5
  go_upto_region 5 with (first
    | (go_at_call 19; with_reducible refine (awake10_any _ HG.out).mono ?_; rintro e w0 ⟨rfl, hx0⟩)
    | (go_at_call 20; refine (cutE_any leaf 20 (by decide) _ HS.out.1).mono ?_; rintro e w1 ⟨lf, rfl, hlf, hw1⟩; subst w1; have HLF := Hs.hid hlf; clear hlf)
    | (go_at_call 21; refine (few_any i _).mono ?_; rintro e w1 ⟨i1, rfl, hi1, hw1⟩; subst w1)
    | (go_at_call 21; refine (few_any m _).mono ?_; rintro e w1 ⟨m1, rfl, hm1, hw1⟩; subst w1)
    | (go_at_call 21; refine (few_any n _).mono ?_; rintro e w1 ⟨n1, rfl, hn1, hw1⟩; subst w1))
  go_upto_region 6 with (first
    | (go_at_call 25; refine (sum32_any old HS.out.2.1 _).mono ?_; rintro e w2 ⟨x, rfl, hxx, hx2⟩)
    | (go_at_call 25; refine (sum32_any root HS.out.2.2 _).mono ?_; rintro e w3 ⟨y, rfl, hyy, hx3⟩)
    | (refine wpList_store_row rfl 46 (.tmp 15) (.tmp 33) rfl w3.heap.size x.V rfl rfl _ _ (heap_old' _ _ (heap_new w3 _)) (by rw [x.size]; exact infoSum) (by rw [x.size]; rfl) x.one ?_)
    | (refine wpList_store_row rfl 46 (.tmp 16) (.tmp 35) rfl (w3.heap.size + 1) y.V rfl rfl _ _ (row2_at w3 _ _ x.V) (by rw [y.size]; exact infoSum) (by rw [y.size]; rfl) y.one ?_))
  obtain ⟨hX, hY, hx4⟩ := row2_two w3 zeroS.V zeroS.V x.V y.V 46 46
  rw [HZ.out] at hX hY hx4
  generalize (((w3.alloc _).alloc _).setRow w3.heap.size x.V).setRow (w3.heap.size + 1) y.V = W4 at hX hY hx4 ⊢
  obtain ⟨X, hXX⟩ : ∃ X, w3.heap.size = X := ⟨_, rfl⟩
  obtain ⟨Y, hYY⟩ : ∃ Y, X + 1 = Y := ⟨_, rfl⟩
  rw [hXX, hYY] at hY
  rw [hXX] at hX
  rw [hXX, hYY]
  have HE4 := Hs.hid (((hx0.trans0 hx2).trans0 hx3).trans0 hx4)
  clear hXX hYY hx0 hx2 hx3 hx4 hxx hyy HZ HS
  try simp only [Act.put, List.getElem_toArray, List.getElem_cons_succ, List.getElem_cons_zero, List.setIfInBounds_toArray, List.set_cons_zero, List.set_cons_succ]
  go_upto_region 7 with (go_at_call 22; with_reducible refine (sums_any ao len cap _ (HL.out.ext HE4.out)).mono ?_; rintro e w5 ⟨xs, ao1, cap1, ao2, cap2, rfl, hxs, hx5⟩)
  replace hX := hx5.same hX List.not_mem_nil
  replace hY := hx5.same hY List.not_mem_nil
  have HE5 := Hs.hid (HE4.out.trans0 hx5)
  clear hx5 HE4
  have hz33 := (zero_of_info (P := Tryd.prog) infoHead)
  go_upto_region 8 with (first
    | (refine wpList_yield (.agg y.V) (by rfl) (exec_load_rowV (.tmp 16) rfl Y rfl y _ ⟨_, hY⟩) ?_)
    | (refine wpList_yield (.agg (headV n1 y)) (by rfl) (exec_build _ rfl [(0, .int .i64 n1), (1, .agg y.V)] _ _ (by first | (go_simp; done) | (go_simp; rfl) | (simp [Act.eval]; done)) (head_built n1 y)) ?_)
    | (refine wpList_store_row rfl 52 (.tmp 19) (.tmp 43) rfl w5.heap.size (headV n1 y) rfl rfl _ _ (heap_new _ _) (by rw [headV_size]; exact hz33.2) (by rw [headV_size]; rfl) (headV_one _ _) ?_))
  have hH := setRow_heap _ _ _ (headV n1 y) _ _ (heap_new w5 (.cells head0 52))
  have hx6 := boxExt (w := w5) (.cells head0 52) (headV n1 y)
  generalize (w5.alloc (.cells head0 52)).setRow w5.heap.size (headV n1 y) = W6 at hH hx6 ⊢
  obtain ⟨H, hHH⟩ : ∃ H, w5.heap.size = H := ⟨_, rfl⟩
  rw [hHH] at hH ⊢
  clear hHH
  have HE6 := Hs.hid (HE5.out.trans0 hx6)
  have hX6 := hx6.same hX List.not_mem_nil
  have hY6 := hx6.same hY List.not_mem_nil
  have HV6 := Hs.hid (And.intro (hxs.out.2.1.ext hx6 (fun _ _ => List.not_mem_nil)) (hxs.out.2.2.1.ext hx6 (fun _ _ => List.not_mem_nil)))
  have b1 := hi1.out
  have b2 := hm1.out
  have b3 := hn1.out
  have HPI := Hs.hid (fun w (h : Sums32 w.heap ao1 cap1 xs) => pInclH_any lf (by have := HLF.out; omega) i1 n1 (by omega) y xs xs.length rfl ao1 cap1 w h)
  have HRI := Hs.hid (fun w (h : Txts w.heap ao2 cap2 xs) => refIncl_any lf (by have := HLF.out; omega) i1 n1 (by omega) y xs ao2 cap2 w h)
  have HPC := Hs.hid (fun w (h : Sums32 w.heap ao1 cap1 xs) => pConsH_any m1 n1 (by omega) x y xs ao1 cap1 w h)
  have HRC := Hs.hid (fun w (h : Txts w.heap ao2 cap2 xs) => refCons_any m1 n1 (by omega) x y xs ao2 cap2 w h)
  generalize inclN (dig (leaf2 lf)) i1 n1 y xs = r1 at HPI HRI
  generalize consN m1 n1 x y xs = r2 at HPC HRC
  clear b1 b2 b3 hi1 hm1 hn1 hx6 hX hY hz33 hxs HE5
  try simp only [Act.put, List.getElem_toArray, List.getElem_cons_succ, List.getElem_cons_zero, List.setIfInBounds_toArray, List.set_cons_zero, List.set_cons_succ]
  go_upto_region 9 with (first
    | (refine wpList_yield (.agg (headV n1 y)) (by rfl) (exec_load_rowHd (.tmp 19) rfl H rfl n1 y _ ⟨_, hH⟩) ?_)
    | (go_at_call 26; with_reducible refine (HPI.out _ (sums_own HV6.out.1)).mono ?_; rintro e w7 ⟨v1, rfl, hv1, hx7⟩))
  have hX7 := hx7.same hX6 List.not_mem_nil
  have hH7 := hx7.same hH List.not_mem_nil
  have HV7 := Hs.hid (HV6.out.1.ext hx7 (fun _ _ => List.not_mem_nil))
  go_upto_region 10 with (first
    | (refine wpList_yield (.agg x.V) (by rfl) (exec_load_rowV (.tmp 15) rfl X rfl x _ ⟨_, hX7⟩) ?_)
    | (refine wpList_yield (.agg (headV m1 x)) (by rfl) (exec_build _ rfl [(0, .int .i64 m1), (1, .agg x.V)] _ _ (by first | (go_simp; done) | (go_simp; rfl) | (simp [Act.eval]; done)) (head_built m1 x)) ?_)
    | (refine wpList_yield (.agg (headV n1 y)) (by rfl) (exec_load_rowHd (.tmp 19) rfl H rfl n1 y _ ⟨_, hH7⟩) ?_)
    | (go_at_call 27; with_reducible refine (HPC.out _ (sums_own HV7.out)).mono ?_; rintro e W ⟨v2, rfl, hv2, hx8⟩))
  have hX := hx8.same hX7 List.not_mem_nil
  have hY := (hx7.trans0 hx8).same hY6 List.not_mem_nil
  have HEW := Hs.hid ((HE6.out.trans0 hx7).trans0 hx8)
  have HT := Hs.hid (txts_own (HV6.out.2.ext (hx7.trans0 hx8) (fun _ _ => List.not_mem_nil)))
  have hv1' := Hs.hid (hv1.out.ext hx8)
  have OF1 := Hs.hid (fun w' (h : Ext [] W w') => ofE_any r1 _ _ _ w' (HG.out.ext (HEW.out.trans0 h) List.not_mem_nil) (hv1'.out.ext h))
  have OF2 := Hs.hid (fun w' (h : Ext [] W w') => ofE_any r2 _ _ _ w' (HG.out.ext (HEW.out.trans0 h) List.not_mem_nil) (hv2.out.ext h))
  have RI : Hid (∀ w', Ext [] W w' → Calls Tryd.prog 28 #[.string lf, .int .i64 i1, .int .i64 n1, .string y.s, .slice ao2 xs.length cap2] w' fun e w'' => e = .returned (.int .i64 r1) ∧ Ext [] w' w'') :=
    Hs.hid (fun w' h => (HRI.out w' (HT.out.ext h)).mono fun e w'' ⟨r, h1, h2, h3⟩ => ⟨by rw [h1, h2.out], h3⟩)
  have RC : Hid (∀ w', Ext [] W w' → Calls Tryd.prog 29 #[.int .i64 m1, .string x.s, .int .i64 n1, .string y.s, .slice ao2 xs.length cap2] w' fun e w'' => e = .returned (.int .i64 r2) ∧ Ext [] w' w'') :=
    Hs.hid (fun w' h => (HRC.out w' (HT.out.ext h)).mono fun e w'' ⟨r, h1, h2, h3⟩ => ⟨by rw [h1, h2.out], h3⟩)
  clear hv1 hv2 hv1' hx7 hx8 hX7 hH7 HV7 hX6 hY6 hH HPI HRI HPC HRC
  refine wp_region_noPanic ?_
  refine wp_region_held_drew (S := (fun w' => Ext [] W w')) (by kernel_rfl) ?_ (fun hHeld => ?_)
  · ((try dsimp only); exact (Ext.refl [] W).drew)
  refine wpAnyH_take (i := 0) (v := ?_) rfl (by kernel_rfl) (by kernel_rfl) (by kernel_rfl) (fun _ _ _ h => h) (Or.inl ⟨by rfl, ?_⟩) (by assumption) ?_
  rotate_left
  · (intro w hSw; (try dsimp only at hSw); first | (go_simp; done) | (go_simp; with_reducible rfl))
  try simp only [Act.put, List.getElem_toArray, List.getElem_cons_succ, List.getElem_cons_zero, List.setIfInBounds_toArray, List.set_cons_zero, List.set_cons_succ]
  refine wpAnyH_take (i := 2) (v := ?_) rfl (by kernel_rfl) (by kernel_rfl) (by kernel_rfl) (fun _ _ _ h => h) (Or.inl ⟨by rfl, ?_⟩) (by assumption) ?_
  rotate_left
  · (intro w hSw; (try dsimp only at hSw); first | (go_simp; done) | (go_simp; with_reducible rfl))
  try simp only [Act.put, List.getElem_toArray, List.getElem_cons_succ, List.getElem_cons_zero, List.setIfInBounds_toArray, List.set_cons_zero, List.set_cons_succ]
  refine wpAnyH_take (i := 3) (v := ?_) rfl (by kernel_rfl) (by kernel_rfl) (by kernel_rfl) (fun _ _ _ h => h) (Or.inl ⟨by rfl, ?_⟩) (by assumption) ?_
  rotate_left
  · (intro w hSw; (try dsimp only at hSw); first | (go_simp; done) | (go_simp; with_reducible rfl))
  try simp only [Act.put, List.getElem_toArray, List.getElem_cons_succ, List.getElem_cons_zero, List.setIfInBounds_toArray, List.set_cons_zero, List.set_cons_succ]
  refine wpAnyH_take (i := 4) (v := ?_) rfl (by kernel_rfl) (by kernel_rfl) (by kernel_rfl) (fun _ _ _ h => h) (Or.inl ⟨by rfl, ?_⟩) (by assumption) ?_
  rotate_left
  · (intro w hSw; (try dsimp only at hSw); first | (go_simp; done) | (go_simp; with_reducible rfl))
  try simp only [Act.put, List.getElem_toArray, List.getElem_cons_succ, List.getElem_cons_zero, List.setIfInBounds_toArray, List.set_cons_zero, List.set_cons_succ]
  refine wpAnyH_take (i := 5) (v := ?_) rfl (by kernel_rfl) (by kernel_rfl) (by kernel_rfl) (fun _ _ _ h => h) (Or.inl ⟨by rfl, ?_⟩) (by assumption) ?_
  rotate_left
  · (intro w hSw; (try dsimp only at hSw); first | (go_simp; done) | (go_simp; with_reducible rfl))
  try simp only [Act.put, List.getElem_toArray, List.getElem_cons_succ, List.getElem_cons_zero, List.setIfInBounds_toArray, List.set_cons_zero, List.set_cons_succ]
  refine wpAnyH_take (i := 6) (v := _) rfl (by kernel_rfl) (by kernel_rfl) (by kernel_rfl) (fun _ _ _ h => h) (yieldsIf_of (.string y.s) (by rfl) (fun w' hw => exec_convV _ rfl Y rfl y w' ⟨_, hw.same hY List.not_mem_nil⟩)) (by assumption) ?_
  try simp only [Act.put, List.getElem_toArray, List.getElem_cons_succ, List.getElem_cons_zero, List.setIfInBounds_toArray, List.set_cons_zero, List.set_cons_succ]
  refine wpAnyH_take (i := 7) (v := ?_) rfl (by kernel_rfl) (by kernel_rfl) (by kernel_rfl) (fun _ _ _ h => h) (Or.inl ⟨by rfl, ?_⟩) (by assumption) ?_
  rotate_left
  · (intro w hSw; (try dsimp only at hSw); first | (go_simp; done) | (go_simp; with_reducible rfl))
  try simp only [Act.put, List.getElem_toArray, List.getElem_cons_succ, List.getElem_cons_zero, List.setIfInBounds_toArray, List.set_cons_zero, List.set_cons_succ]
  refine wpAnyH_ready (rs := [1]) (by kernel_rfl) (by simp) ?_
  refine AllReadyH.cons rfl (fun K hK => ?_) AllReadyH.nil
  go_simp
  (go_at_call 17; with_reducible refine (OF1.out _ hHeld).mono ?_; rintro e w11 ⟨rfl, hx11⟩)
  go_wp2_with fail
  refine hK.out _ _ ?_ (fun hHeld => ?_)
  · ((try dsimp only); exact hHeld.trans0 hx11)
  clear hK K
  try simp only [Act.put, List.getElem_toArray, List.getElem_cons_succ, List.getElem_cons_zero, List.setIfInBounds_toArray, List.set_cons_zero, List.set_cons_succ]
  refine wpAnyH_ready (rs := [8]) (by kernel_rfl) (by simp) ?_
  refine AllReadyH.cons rfl (fun K hK => ?_) AllReadyH.nil
  go_simp
  (go_at_call 28; with_reducible refine (RI.out _ hHeld).mono ?_; rintro e w12 ⟨rfl, hx12⟩)
  go_wp2_with fail
  refine hK.out _ _ ?_ (fun hHeld => ?_)
  · ((try dsimp only); exact hHeld.trans0 hx12)
  clear hK K
  try simp only [Act.put, List.getElem_toArray, List.getElem_cons_succ, List.getElem_cons_zero, List.setIfInBounds_toArray, List.set_cons_zero, List.set_cons_succ]
  refine wpAnyH_take (i := 9) (v := ?_) rfl (by kernel_rfl) (by kernel_rfl) (by kernel_rfl) (fun _ _ _ h => h) (Or.inl ⟨by rfl, ?_⟩) (by assumption) ?_
  rotate_left
  · (intro w hSw; (try dsimp only at hSw); first | (go_simp; done) | (go_simp; with_reducible rfl))
  try simp only [Act.put, List.getElem_toArray, List.getElem_cons_succ, List.getElem_cons_zero, List.setIfInBounds_toArray, List.set_cons_zero, List.set_cons_succ]
  refine wpAnyH_take (i := 10) (v := ?_) rfl (by kernel_rfl) (by kernel_rfl) (by kernel_rfl) (fun _ _ _ h => h) (Or.inl ⟨by rfl, ?_⟩) (by assumption) ?_
  rotate_left
  · (intro w hSw; (try dsimp only at hSw); first | (go_simp; done) | (go_simp; with_reducible rfl))
  try simp only [Act.put, List.getElem_toArray, List.getElem_cons_succ, List.getElem_cons_zero, List.setIfInBounds_toArray, List.set_cons_zero, List.set_cons_succ]
  refine wpAnyH_take (i := 11) (v := ?_) rfl (by kernel_rfl) (by kernel_rfl) (by kernel_rfl) (fun _ _ _ h => h) (Or.inl ⟨by rfl, ?_⟩) (by assumption) ?_
  rotate_left
  · (intro w hSw; (try dsimp only at hSw); first | (go_simp; done) | (go_simp; with_reducible rfl))
  try simp only [Act.put, List.getElem_toArray, List.getElem_cons_succ, List.getElem_cons_zero, List.setIfInBounds_toArray, List.set_cons_zero, List.set_cons_succ]
  refine wpAnyH_take (i := 13) (v := ?_) rfl (by kernel_rfl) (by kernel_rfl) (by kernel_rfl) (fun _ _ _ h => h) (Or.inl ⟨by rfl, ?_⟩) (by assumption) ?_
  rotate_left
  · (intro w hSw; (try dsimp only at hSw); first | (go_simp; done) | (go_simp; with_reducible rfl))
  try simp only [Act.put, List.getElem_toArray, List.getElem_cons_succ, List.getElem_cons_zero, List.setIfInBounds_toArray, List.set_cons_zero, List.set_cons_succ]
  refine wpAnyH_take (i := 14) (v := ?_) rfl (by kernel_rfl) (by kernel_rfl) (by kernel_rfl) (fun _ _ _ h => h) (Or.inl ⟨by rfl, ?_⟩) (by assumption) ?_
  rotate_left
  · (intro w hSw; (try dsimp only at hSw); first | (go_simp; done) | (go_simp; with_reducible rfl))
  try simp only [Act.put, List.getElem_toArray, List.getElem_cons_succ, List.getElem_cons_zero, List.setIfInBounds_toArray, List.set_cons_zero, List.set_cons_succ]
  refine wpAnyH_take (i := 15) (v := _) rfl (by kernel_rfl) (by kernel_rfl) (by kernel_rfl) (fun _ _ _ h => h) (yieldsIf_of (.string x.s) (by rfl) (fun w' hw => exec_convV _ rfl X rfl x w' ⟨_, hw.same hX List.not_mem_nil⟩)) (by assumption) ?_
  try simp only [Act.put, List.getElem_toArray, List.getElem_cons_succ, List.getElem_cons_zero, List.setIfInBounds_toArray, List.set_cons_zero, List.set_cons_succ]
  refine wpAnyH_take (i := 16) (v := ?_) rfl (by kernel_rfl) (by kernel_rfl) (by kernel_rfl) (fun _ _ _ h => h) (Or.inl ⟨by rfl, ?_⟩) (by assumption) ?_
  rotate_left
  · (intro w hSw; (try dsimp only at hSw); first | (go_simp; done) | (go_simp; with_reducible rfl))
  try simp only [Act.put, List.getElem_toArray, List.getElem_cons_succ, List.getElem_cons_zero, List.setIfInBounds_toArray, List.set_cons_zero, List.set_cons_succ]
  refine wpAnyH_take (i := 17) (v := ?_) rfl (by kernel_rfl) (by kernel_rfl) (by kernel_rfl) (fun _ _ _ h => h) (Or.inl ⟨by rfl, ?_⟩) (by assumption) ?_
  rotate_left
  · (intro w hSw; (try dsimp only at hSw); first | (go_simp; done) | (go_simp; with_reducible rfl))
  try simp only [Act.put, List.getElem_toArray, List.getElem_cons_succ, List.getElem_cons_zero, List.setIfInBounds_toArray, List.set_cons_zero, List.set_cons_succ]
  refine wpAnyH_take (i := 18) (v := _) rfl (by kernel_rfl) (by kernel_rfl) (by kernel_rfl) (fun _ _ _ h => h) (yieldsIf_of (.string y.s) (by rfl) (fun w' hw => exec_convV _ rfl Y rfl y w' ⟨_, hw.same hY List.not_mem_nil⟩)) (by assumption) ?_
  try simp only [Act.put, List.getElem_toArray, List.getElem_cons_succ, List.getElem_cons_zero, List.setIfInBounds_toArray, List.set_cons_zero, List.set_cons_succ]
  refine wpAnyH_take (i := 19) (v := ?_) rfl (by kernel_rfl) (by kernel_rfl) (by kernel_rfl) (fun _ _ _ h => h) (Or.inl ⟨by rfl, ?_⟩) (by assumption) ?_
  rotate_left
  · (intro w hSw; (try dsimp only at hSw); first | (go_simp; done) | (go_simp; with_reducible rfl))
  try simp only [Act.put, List.getElem_toArray, List.getElem_cons_succ, List.getElem_cons_zero, List.setIfInBounds_toArray, List.set_cons_zero, List.set_cons_succ]
  refine wpAnyH_ready (rs := [12]) (by kernel_rfl) (by simp) ?_
  refine AllReadyH.cons rfl (fun K hK => ?_) AllReadyH.nil
  go_simp
  (go_at_call 17; with_reducible refine (OF2.out _ hHeld).mono ?_; rintro e w13 ⟨rfl, hx13⟩)
  go_wp2_with fail
  refine hK.out _ _ ?_ (fun hHeld => ?_)
  · ((try dsimp only); exact hHeld.trans0 hx13)
  clear hK K
  try simp only [Act.put, List.getElem_toArray, List.getElem_cons_succ, List.getElem_cons_zero, List.setIfInBounds_toArray, List.set_cons_zero, List.set_cons_succ]
  refine wpAnyH_ready (rs := [20]) (by kernel_rfl) (by simp) ?_
  refine AllReadyH.cons rfl (fun K hK => ?_) AllReadyH.nil
  go_simp
  (go_at_call 29; with_reducible refine (RC.out _ hHeld).mono ?_; rintro e w14 ⟨rfl, hx14⟩)
  go_wp2_with fail
  refine hK.out _ _ ?_ (fun hHeld => ?_)
  · ((try dsimp only); exact hHeld.trans0 hx14)
  clear hK K
  try simp only [Act.put, List.getElem_toArray, List.getElem_cons_succ, List.getElem_cons_zero, List.setIfInBounds_toArray, List.set_cons_zero, List.set_cons_succ]
  refine wpAnyH_take (i := 21) (v := ?_) rfl (by kernel_rfl) (by kernel_rfl) (by kernel_rfl) (fun _ _ _ h => h) (Or.inl ⟨by rfl, ?_⟩) (by assumption) ?_
  rotate_left
  · (intro w hSw; (try dsimp only at hSw); first | (go_simp; done) | (go_simp; with_reducible rfl))
  try simp only [Act.put, List.getElem_toArray, List.getElem_cons_succ, List.getElem_cons_zero, List.setIfInBounds_toArray, List.set_cons_zero, List.set_cons_succ]
  refine wpAnyH_take (i := 22) (v := ?_) rfl (by kernel_rfl) (by kernel_rfl) (by kernel_rfl) (fun _ _ _ h => h) (Or.inl ⟨by rfl, ?_⟩) (by assumption) ?_
  rotate_left
  · (intro w hSw; (try dsimp only at hSw); first | (go_simp; done) | (go_simp; with_reducible rfl))
  try simp only [Act.put, List.getElem_toArray, List.getElem_cons_succ, List.getElem_cons_zero, List.setIfInBounds_toArray, List.set_cons_zero, List.set_cons_succ]
  refine wpAnyH_take (i := 23) (v := ?_) rfl (by kernel_rfl) (by kernel_rfl) (by kernel_rfl) (fun _ _ _ h => h) (Or.inl ⟨by rfl, ?_⟩) (by assumption) ?_
  rotate_left
  · (intro w hSw; (try dsimp only at hSw); first | (go_simp; done) | (go_simp; with_reducible rfl))
  try simp only [Act.put, List.getElem_toArray, List.getElem_cons_succ, List.getElem_cons_zero, List.setIfInBounds_toArray, List.set_cons_zero, List.set_cons_succ]
  refine wpAnyH_done (by kernel_rfl) ?_ _
  refine NoPanic.normal ?_
  go_wp2
  go_ret
  exact ⟨rfl, HEW.out.trans0 hHeld⟩
end Go.Proofs.YtnjjbolbemlceaaDoor
set_option linter.unusedSimpArgs false
set_option linter.unusedVariables false
namespace Go.Proofs.YtnjjbolbemlceaaDoor
open Go.ChangeShapes Go.WideShapes Go.Deep Go.RowKit Go.Hs

theorem cell_lt' {w : World} {a : Addr} {v : Value} (h : w.cell? a = some v) : a.block < w.heap.size := by
  by_cases hb : a.block < w.heap.size
  · exact hb
  · have : w.heap[a.block]? = none := Array.getElem?_eq_none (by omega)
    unfold World.cell? at h
    simp [this] at h
theorem open_strs {H : Type} {enc : TypeId × Value → H} {w : World} {base : Nat} {spare : Nat → Bool} {held : Bool} {ao : Option Addr} {len cap : Nat} {d : DataW H} {p : List MemPlace}
    (h : DataW.Trod enc Tryd.prog w base spare held 34 (.slice ao len cap) d p) : StrArg w ao len := by
  obtain ⟨fuel, hf⟩ := h
  rcases open_strings Tryd.underlying34 Tryd.underlying9 (by kernel_rfl) hf with ⟨hcs, hx⟩ | ⟨a, len', cap', ss, hcs, hb, hl, hm, hss, hx, hi, hsz⟩
  · simp [Value.cells] at hcs
    obtain ⟨rfl, rfl, rfl⟩ := hcs
    exact ⟨by decide, fun k hk => by omega⟩
  · simp [Value.cells] at hcs
    obtain ⟨rfl, rfl, rfl⟩ := hcs
    have hle : len ≤ ss.length := by rw [hss]; split <;> omega
    refine ⟨by unfold maxLen at hm; omega, fun k hk => ⟨a, ss.getD k ByteArray.empty, rfl, ?_, hi k (by omega), ?_⟩⟩
    · have := cell_lt' (hi k (by omega))
      rwa [addr_block] at this
    · have hk' : k < ss.length := by omega
      rw [List.getD_eq_getElem?_getD, List.getElem?_eq_getElem hk']
      exact hsz _ (List.getElem_mem hk')
end Go.Proofs.YtnjjbolbemlceaaDoor
