/-
  Texts of this claim, put together: Sep, Append, TreeS, Sum, FoldAt, Sums, Path, Steps, TreeA, SideP, CRoot, StrA, WayW.
-/
import Derived.Deep.RegionHeld3
import Derived.Laws.ResultCell
import Derived.Test.YtjicjadibaomkaaMCw1
set_option linter.unusedSimpArgs false
set_option linter.unusedVariables false
set_option maxHeartbeats 1000000
namespace Go.Hs
open Go Go.RowKit
section
variable {P : Program} {ops : Array Oper} {Q : Exit → Act → World → Prop} {md : Region.Mode} {S : World → Prop}
/-- Every edge leads back. -/
def backB (md : Region.Mode) (ops : Array Oper) : Bool := (List.range ops.size).all fun i => ((ops[i]?).map (·.after.all fun e => !Region.binds md e || decide (e.on < i))).getD true
theorem getD_tf {l : Array Bool} {i : Nat} (h : i < l.size) : l.getD i true = l.getD i false := by simp [Array.getD, h]
theorem ready_nil (hb : backB md ops = true) {listed : Array Bool} (hsz : listed.size = ops.size) (h : Region.ready md ops listed = []) : ∀ i, i < ops.size → listed.getD i true = true := by
  intro i
  induction i using Nat.strongRecOn with
  | _ i ih =>
    intro hi
    cases hl : listed.getD i true with
    | true => rfl
    | false =>
      exfalso
      have hm : i ∈ Region.ready md ops listed := by
        unfold Region.ready
        refine List.mem_filter.2 ⟨List.mem_range.2 hi, ?_⟩
        simp only [hl, Bool.not_false, Bool.true_and]
        have ho : ops[i]? = some ops[i] := Array.getElem?_eq_getElem hi
        simp only [ho, Option.map_some, Option.getD_some]
        rw [Array.all_eq_true_iff_forall_mem]
        intro e he
        have hbb := (List.all_eq_true.1 hb) i (List.mem_range.2 hi)
        simp only [ho, Option.map_some, Option.getD_some] at hbb
        have := (Array.all_eq_true_iff_forall_mem.1 hbb) e he
        simp only [Bool.or_eq_true, Bool.not_eq_true', decide_eq_true_eq] at this
        rcases this with h1 | h1
        · simp [h1]
        · rw [← getD_tf (by omega), ih e.on h1 (by omega)]; simp
      rw [h] at hm; cases hm
def openN (l : Array Bool) : Nat := (l.toList.filter (! ·)).length
theorem openL_set : ∀ (l : List Bool) (i : Nat), l[i]? = some false → ((l.set i true).filter (! ·)).length + 1 = (l.filter (! ·)).length
  | [], i, h => by simp at h
  | b :: l, 0, h => by simp at h; subst h; simp
  | b :: l, i + 1, h => by
    have := openL_set l i (by simpa using h)
    simp only [List.set_cons_succ, List.filter_cons]
    cases b <;> simp <;> simpa using this
theorem openN_set {l : Array Bool} {i : Nat} (hi : i < l.size) (h : l.getD i true = false) : openN (l.setIfInBounds i true) + 1 = openN l := by
  unfold openN
  rw [Array.toList_setIfInBounds]
  refine openL_set _ _ ?_
  simp only [Array.getD, hi, dif_pos] at h
  simp only [Array.getElem?_toList, Array.getElem?_eq_getElem hi, Option.some.injEq]
  exact h
theorem openN_zero {l : Array Bool} (h : openN l = 0) {i : Nat} (hi : i < l.size) : l.getD i true = true := by
  unfold openN at h
  have h1 := List.eq_nil_of_length_eq_zero h
  rw [List.filter_eq_nil_iff] at h1
  have h2 := h1 l[i] (by simp)
  simp only [Array.getD, hi, dif_pos]
  simpa using h2
theorem wpAnyH_bits (hb : backB md ops = true) (I : Array Bool → Act → World → Prop) (hS : ∀ listed a w, I listed a w → S w)
    (hstep : ∀ i listed a w, listed.size = ops.size → i ∈ Region.ready md ops listed → I listed a w → wpOp P ops Q i (fun a' w' => I (listed.setIfInBounds i true) a' w') a w)
    (hend : ∀ listed a w, listed.size = ops.size → (∀ i, i < ops.size → listed.getD i true = true) → I listed a w → Q .normal a w) :
    ∀ (fuel : Nat) (listed : Array Bool) (a : Act) (w : World), listed.size = ops.size → openN listed ≤ fuel → I listed a w → wpAnyH P md ops Q S fuel listed a w
  | 0, listed, a, w, hsz, hf, hI => by
    have hall : ∀ i, i < ops.size → listed.getD i true = true := fun i hi => openN_zero (by omega) (by omega)
    refine ⟨?_, hend listed a w hsz hall hI⟩
    rw [List.eq_nil_iff_forall_not_mem]
    intro i hi
    have h1 := (mem_ready.1 hi).1
    have h2 := hall i (List.mem_range.1 (List.mem_filter.1 hi).1)
    rw [h2] at h1; cases h1
  | fuel + 1, listed, a, w, hsz, hf, hI => by
    refine ⟨fun hn => hend listed a w hsz (ready_nil hb hsz hn) hI, fun i hi => ?_⟩
    have h1 := (mem_ready.1 hi).1
    have h2 := List.mem_range.1 (List.mem_filter.1 hi).1
    have h3 := openN_set (l := listed) (i := i) (by omega) h1
    exact wpOp_mono (fun a' w' hI' => ⟨hS _ _ _ hI', wpAnyH_bits hb I hS hstep hend fuel _ a' w' (by simpa using hsz) (by omega) hI'⟩) (hstep i listed a w hsz hi hI)
/-- Operation i waits for operation j. -/
def waitsB (md : Region.Mode) (ops : Array Oper) (i j : Nat) : Bool := ((ops[i]?).map (·.after.any fun e => Region.binds md e && e.on == j)).getD false
theorem waitsB_spec {listed : Array Bool} {i j : Nat} (h : waitsB md ops i j = true) (hi : i ∈ Region.ready md ops listed) : listed.getD j false = true := by
  obtain ⟨_, o, ho, hall⟩ := mem_ready.1 hi
  unfold waitsB at h
  simp only [ho, Option.map_some, Option.getD_some] at h
  obtain ⟨e, he, hb⟩ := Array.any_eq_true'.1 h
  simp only [Bool.and_eq_true, beq_iff_eq] at hb
  rw [← hb.2]; exact hall e he hb.1
theorem getD_set_ne' {l : Array Bool} {i j : Nat} (h : i ≠ j) (d : Bool) : (l.setIfInBounds i true).getD j d = l.getD j d := getD_set_ne d h
theorem getD_set_eq {l : Array Bool} {i : Nat} (d : Bool) (h : i < l.size) : (l.setIfInBounds i true).getD i d = true := by simp [Array.getD, h]
theorem wpAnyH_sep2 {fuel : Nat} {listed : Array Bool} {a : Act} {w : World} (i1 i2 : Nat) {o1 o2 : Oper} (D : List (List Nat)) (J : Bool → Bool → Act → World → Prop)
    (hi : ops[i1]? = some o1 ∧ ops[i2]? = some o2) (hb : backB md ops = true) (hsz : listed.size = ops.size)
    (hcov : ((List.range ops.size).all fun i => [i1, i2].contains i == !listed.getD i true) = true) (hne : ([i1, i2] : List Nat).Nodup) (hfuel : openN listed ≤ fuel)
    (hD : ((List.range 2).all fun j => (D.getD j []).all fun d => waitsB md ops ([i1, i2].getD j 0) ([i1, i2].getD d 0) && decide (d < 2)) = true)
    (hS : ∀ b1 b2 a w, J b1 b2 a w → S w) (h0 : J false false  a w)
    (s1 : ∀ b2 a w, (D.getD 0 []).all ([false, b2].getD · false) = true → J false b2 a w → ∀ K : Act → World → Prop, Shut (∀ a w, J true b2 a w → K a w) → if Region.wanted o1 (yielded ops a.tmps) = true then Oper.wp P o1 a w K Q else K (a.put o1.dst undef) w)
    (s2 : ∀ b1 a w, (D.getD 1 []).all ([b1, false].getD · false) = true → J b1 false a w → ∀ K : Act → World → Prop, Shut (∀ a w, J b1 true a w → K a w) → if Region.wanted o2 (yielded ops a.tmps) = true then Oper.wp P o2 a w K Q else K (a.put o2.dst undef) w)
    (hend : ∀ a w, J true true  a w → Q .normal a w) : wpAnyH P md ops Q S fuel listed a w := by
  obtain ⟨hi1, hi2⟩ := hi
  have hx : ∀ i l, ops[i]? = some l → i < ops.size := fun i l h => (Array.getElem?_eq_some_iff.1 h).1
  have hl1 := hx _ _ hi1
  have hl2 := hx _ _ hi2
  have hcov' : ∀ i, i < ops.size → ([i1, i2].contains i = !listed.getD i true) := fun i h => by simpa using (List.all_eq_true.1 hcov) i (List.mem_range.2 h)
  simp only [List.nodup_cons, List.mem_cons, List.not_mem_nil, not_or, or_false, not_false_iff, List.nodup_nil, and_true] at hne
  refine wpAnyH_bits hb (fun ls a w => (∀ i, i < ops.size → [i1, i2].contains i = false → ls.getD i true = true) ∧ J (ls.getD i1 true) (ls.getD i2 true) a w) (fun ls a w h => hS _ _  a w h.2) ?_ ?_ fuel listed a w hsz hfuel ?_
  · intro i ls a w hlsz hr hI
    obtain ⟨hI1, hI2⟩ := hI
    obtain ⟨hun, o, ho, _⟩ := mem_ready.1 hr
    have hin : [i1, i2].contains i = true := by
      cases hc : [i1, i2].contains i with
      | true => rfl
      | false => rw [hI1 i (hx _ _ ho) hc] at hun; cases hun
    have hD' : ∀ j, j < 2 → (D.getD j []).all (fun d => waitsB md ops ([i1, i2].getD j 0) ([i1, i2].getD d 0) && decide (d < 2)) = true := fun j h => (List.all_eq_true.1 hD) j (List.mem_range.2 h)
    have hget : ∀ d, d < 2 → [ls.getD i1 true, ls.getD i2 true].getD d false = ls.getD ([i1, i2].getD d 0) true := by
      intro d hd
      match d, hd with
      | 0, _ => rfl
      | 1, _ => rfl
    have hlt : ∀ d, d < 2 → [i1, i2].getD d 0 < ls.size := by
      intro d hd
      match d, hd with
      | 0, _ => exact hlsz.symm ▸ hl1
      | 1, _ => exact hlsz.symm ▸ hl2
    have hdeps : ∀ j, j < 2 → [i1, i2].getD j 0 = i → (D.getD j []).all ([ls.getD i1 true, ls.getD i2 true].getD · false) = true := by
      intro j hj hji
      rw [List.all_eq_true]
      intro d hd
      have h1 := (List.all_eq_true.1 (hD' j hj)) d hd
      simp only [Bool.and_eq_true, decide_eq_true_eq] at h1
      rw [hget d h1.2, getD_tf (hlt d h1.2)]
      rw [hji] at h1
      exact waitsB_spec h1.1 hr
    have hkeep : ∀ j, j < ops.size → [i1, i2].contains j = false → (ls.setIfInBounds i true).getD j true = true := fun j hj hc => by
      by_cases e : i = j
      · subst e; exact getD_set_eq true (by omega)
      · rw [getD_set_ne' e]; exact hI1 j hj hc
    simp only [List.contains_cons, Bool.or_eq_true, beq_iff_eq, List.contains_nil, Bool.false_eq_true, or_false] at hin
    rcases hin with rfl | rfl
    · have hdj := hdeps 0 (by omega) rfl
      rw [hun] at hI2 hdj
      refine wpOp_step hi1 fun K hK => s1 _ a w hdj hI2 K (fun a' w' hJ => hK a' w' ⟨hkeep, ?_⟩)
      rw [getD_set_eq true (by omega)]
      rw [getD_set_ne' (by omega)]
      exact hJ
    · have hdj := hdeps 1 (by omega) rfl
      rw [hun] at hI2 hdj
      refine wpOp_step hi2 fun K hK => s2 _ a w hdj hI2 K (fun a' w' hJ => hK a' w' ⟨hkeep, ?_⟩)
      rw [getD_set_eq true (by omega)]
      rw [getD_set_ne' (by omega)]
      exact hJ
  · intro ls a w hlsz hall hI
    have := hI.2
    rw [hall _ hl1, hall _ hl2] at this
    exact hend a w this
  · refine ⟨fun i hi hc => by have := hcov' i hi; rw [hc] at this; simpa using this.symm, ?_⟩
    have g1 : listed.getD i1 true = false := by have := hcov' i1 hl1; simpa using this.symm
    have g2 : listed.getD i2 true = false := by have := hcov' i2 hl2; simpa using this.symm
    rw [g1, g2]
    exact h0
theorem wpAnyH_sep3 {fuel : Nat} {listed : Array Bool} {a : Act} {w : World} (i1 i2 i3 : Nat) {o1 o2 o3 : Oper} (D : List (List Nat)) (J : Bool → Bool → Bool → Act → World → Prop)
    (hi : ops[i1]? = some o1 ∧ ops[i2]? = some o2 ∧ ops[i3]? = some o3) (hb : backB md ops = true) (hsz : listed.size = ops.size)
    (hcov : ((List.range ops.size).all fun i => [i1, i2, i3].contains i == !listed.getD i true) = true) (hne : ([i1, i2, i3] : List Nat).Nodup) (hfuel : openN listed ≤ fuel)
    (hD : ((List.range 3).all fun j => (D.getD j []).all fun d => waitsB md ops ([i1, i2, i3].getD j 0) ([i1, i2, i3].getD d 0) && decide (d < 3)) = true)
    (hS : ∀ b1 b2 b3 a w, J b1 b2 b3 a w → S w) (h0 : J false false false  a w)
    (s1 : ∀ b2 b3 a w, (D.getD 0 []).all ([false, b2, b3].getD · false) = true → J false b2 b3 a w → ∀ K : Act → World → Prop, Shut (∀ a w, J true b2 b3 a w → K a w) → if Region.wanted o1 (yielded ops a.tmps) = true then Oper.wp P o1 a w K Q else K (a.put o1.dst undef) w)
    (s2 : ∀ b1 b3 a w, (D.getD 1 []).all ([b1, false, b3].getD · false) = true → J b1 false b3 a w → ∀ K : Act → World → Prop, Shut (∀ a w, J b1 true b3 a w → K a w) → if Region.wanted o2 (yielded ops a.tmps) = true then Oper.wp P o2 a w K Q else K (a.put o2.dst undef) w)
    (s3 : ∀ b1 b2 a w, (D.getD 2 []).all ([b1, b2, false].getD · false) = true → J b1 b2 false a w → ∀ K : Act → World → Prop, Shut (∀ a w, J b1 b2 true a w → K a w) → if Region.wanted o3 (yielded ops a.tmps) = true then Oper.wp P o3 a w K Q else K (a.put o3.dst undef) w)
    (hend : ∀ a w, J true true true  a w → Q .normal a w) : wpAnyH P md ops Q S fuel listed a w := by
  obtain ⟨hi1, hi2, hi3⟩ := hi
  have hx : ∀ i l, ops[i]? = some l → i < ops.size := fun i l h => (Array.getElem?_eq_some_iff.1 h).1
  have hl1 := hx _ _ hi1
  have hl2 := hx _ _ hi2
  have hl3 := hx _ _ hi3
  have hcov' : ∀ i, i < ops.size → ([i1, i2, i3].contains i = !listed.getD i true) := fun i h => by simpa using (List.all_eq_true.1 hcov) i (List.mem_range.2 h)
  simp only [List.nodup_cons, List.mem_cons, List.not_mem_nil, not_or, or_false, not_false_iff, List.nodup_nil, and_true] at hne
  refine wpAnyH_bits hb (fun ls a w => (∀ i, i < ops.size → [i1, i2, i3].contains i = false → ls.getD i true = true) ∧ J (ls.getD i1 true) (ls.getD i2 true) (ls.getD i3 true) a w) (fun ls a w h => hS _ _ _  a w h.2) ?_ ?_ fuel listed a w hsz hfuel ?_
  · intro i ls a w hlsz hr hI
    obtain ⟨hI1, hI2⟩ := hI
    obtain ⟨hun, o, ho, _⟩ := mem_ready.1 hr
    have hin : [i1, i2, i3].contains i = true := by
      cases hc : [i1, i2, i3].contains i with
      | true => rfl
      | false => rw [hI1 i (hx _ _ ho) hc] at hun; cases hun
    have hD' : ∀ j, j < 3 → (D.getD j []).all (fun d => waitsB md ops ([i1, i2, i3].getD j 0) ([i1, i2, i3].getD d 0) && decide (d < 3)) = true := fun j h => (List.all_eq_true.1 hD) j (List.mem_range.2 h)
    have hget : ∀ d, d < 3 → [ls.getD i1 true, ls.getD i2 true, ls.getD i3 true].getD d false = ls.getD ([i1, i2, i3].getD d 0) true := by
      intro d hd
      match d, hd with
      | 0, _ => rfl
      | 1, _ => rfl
      | 2, _ => rfl
    have hlt : ∀ d, d < 3 → [i1, i2, i3].getD d 0 < ls.size := by
      intro d hd
      match d, hd with
      | 0, _ => exact hlsz.symm ▸ hl1
      | 1, _ => exact hlsz.symm ▸ hl2
      | 2, _ => exact hlsz.symm ▸ hl3
    have hdeps : ∀ j, j < 3 → [i1, i2, i3].getD j 0 = i → (D.getD j []).all ([ls.getD i1 true, ls.getD i2 true, ls.getD i3 true].getD · false) = true := by
      intro j hj hji
      rw [List.all_eq_true]
      intro d hd
      have h1 := (List.all_eq_true.1 (hD' j hj)) d hd
      simp only [Bool.and_eq_true, decide_eq_true_eq] at h1
      rw [hget d h1.2, getD_tf (hlt d h1.2)]
      rw [hji] at h1
      exact waitsB_spec h1.1 hr
    have hkeep : ∀ j, j < ops.size → [i1, i2, i3].contains j = false → (ls.setIfInBounds i true).getD j true = true := fun j hj hc => by
      by_cases e : i = j
      · subst e; exact getD_set_eq true (by omega)
      · rw [getD_set_ne' e]; exact hI1 j hj hc
    simp only [List.contains_cons, Bool.or_eq_true, beq_iff_eq, List.contains_nil, Bool.false_eq_true, or_false] at hin
    rcases hin with rfl | rfl | rfl
    · have hdj := hdeps 0 (by omega) rfl
      rw [hun] at hI2 hdj
      refine wpOp_step hi1 fun K hK => s1 _ _ a w hdj hI2 K (fun a' w' hJ => hK a' w' ⟨hkeep, ?_⟩)
      rw [getD_set_eq true (by omega)]
      rw [getD_set_ne' (by omega)]
      rw [getD_set_ne' (by omega)]
      exact hJ
    · have hdj := hdeps 1 (by omega) rfl
      rw [hun] at hI2 hdj
      refine wpOp_step hi2 fun K hK => s2 _ _ a w hdj hI2 K (fun a' w' hJ => hK a' w' ⟨hkeep, ?_⟩)
      rw [getD_set_eq true (by omega)]
      rw [getD_set_ne' (by omega)]
      rw [getD_set_ne' (by omega)]
      exact hJ
    · have hdj := hdeps 2 (by omega) rfl
      rw [hun] at hI2 hdj
      refine wpOp_step hi3 fun K hK => s3 _ _ a w hdj hI2 K (fun a' w' hJ => hK a' w' ⟨hkeep, ?_⟩)
      rw [getD_set_eq true (by omega)]
      rw [getD_set_ne' (by omega)]
      rw [getD_set_ne' (by omega)]
      exact hJ
  · intro ls a w hlsz hall hI
    have := hI.2
    rw [hall _ hl1, hall _ hl2, hall _ hl3] at this
    exact hend a w this
  · refine ⟨fun i hi hc => by have := hcov' i hi; rw [hc] at this; simpa using this.symm, ?_⟩
    have g1 : listed.getD i1 true = false := by have := hcov' i1 hl1; simpa using this.symm
    have g2 : listed.getD i2 true = false := by have := hcov' i2 hl2; simpa using this.symm
    have g3 : listed.getD i3 true = false := by have := hcov' i3 hl3; simpa using this.symm
    rw [g1, g2, g3]
    exact h0
theorem wpAnyH_sep4 {fuel : Nat} {listed : Array Bool} {a : Act} {w : World} (i1 i2 i3 i4 : Nat) {o1 o2 o3 o4 : Oper} (D : List (List Nat)) (J : Bool → Bool → Bool → Bool → Act → World → Prop)
    (hi : ops[i1]? = some o1 ∧ ops[i2]? = some o2 ∧ ops[i3]? = some o3 ∧ ops[i4]? = some o4) (hb : backB md ops = true) (hsz : listed.size = ops.size)
    (hcov : ((List.range ops.size).all fun i => [i1, i2, i3, i4].contains i == !listed.getD i true) = true) (hne : ([i1, i2, i3, i4] : List Nat).Nodup) (hfuel : openN listed ≤ fuel)
    (hD : ((List.range 4).all fun j => (D.getD j []).all fun d => waitsB md ops ([i1, i2, i3, i4].getD j 0) ([i1, i2, i3, i4].getD d 0) && decide (d < 4)) = true)
    (hS : ∀ b1 b2 b3 b4 a w, J b1 b2 b3 b4 a w → S w) (h0 : J false false false false  a w)
    (s1 : ∀ b2 b3 b4 a w, (D.getD 0 []).all ([false, b2, b3, b4].getD · false) = true → J false b2 b3 b4 a w → ∀ K : Act → World → Prop, Shut (∀ a w, J true b2 b3 b4 a w → K a w) → if Region.wanted o1 (yielded ops a.tmps) = true then Oper.wp P o1 a w K Q else K (a.put o1.dst undef) w)
    (s2 : ∀ b1 b3 b4 a w, (D.getD 1 []).all ([b1, false, b3, b4].getD · false) = true → J b1 false b3 b4 a w → ∀ K : Act → World → Prop, Shut (∀ a w, J b1 true b3 b4 a w → K a w) → if Region.wanted o2 (yielded ops a.tmps) = true then Oper.wp P o2 a w K Q else K (a.put o2.dst undef) w)
    (s3 : ∀ b1 b2 b4 a w, (D.getD 2 []).all ([b1, b2, false, b4].getD · false) = true → J b1 b2 false b4 a w → ∀ K : Act → World → Prop, Shut (∀ a w, J b1 b2 true b4 a w → K a w) → if Region.wanted o3 (yielded ops a.tmps) = true then Oper.wp P o3 a w K Q else K (a.put o3.dst undef) w)
    (s4 : ∀ b1 b2 b3 a w, (D.getD 3 []).all ([b1, b2, b3, false].getD · false) = true → J b1 b2 b3 false a w → ∀ K : Act → World → Prop, Shut (∀ a w, J b1 b2 b3 true a w → K a w) → if Region.wanted o4 (yielded ops a.tmps) = true then Oper.wp P o4 a w K Q else K (a.put o4.dst undef) w)
    (hend : ∀ a w, J true true true true  a w → Q .normal a w) : wpAnyH P md ops Q S fuel listed a w := by
  obtain ⟨hi1, hi2, hi3, hi4⟩ := hi
  have hx : ∀ i l, ops[i]? = some l → i < ops.size := fun i l h => (Array.getElem?_eq_some_iff.1 h).1
  have hl1 := hx _ _ hi1
  have hl2 := hx _ _ hi2
  have hl3 := hx _ _ hi3
  have hl4 := hx _ _ hi4
  have hcov' : ∀ i, i < ops.size → ([i1, i2, i3, i4].contains i = !listed.getD i true) := fun i h => by simpa using (List.all_eq_true.1 hcov) i (List.mem_range.2 h)
  simp only [List.nodup_cons, List.mem_cons, List.not_mem_nil, not_or, or_false, not_false_iff, List.nodup_nil, and_true] at hne
  refine wpAnyH_bits hb (fun ls a w => (∀ i, i < ops.size → [i1, i2, i3, i4].contains i = false → ls.getD i true = true) ∧ J (ls.getD i1 true) (ls.getD i2 true) (ls.getD i3 true) (ls.getD i4 true) a w) (fun ls a w h => hS _ _ _ _  a w h.2) ?_ ?_ fuel listed a w hsz hfuel ?_
  · intro i ls a w hlsz hr hI
    obtain ⟨hI1, hI2⟩ := hI
    obtain ⟨hun, o, ho, _⟩ := mem_ready.1 hr
    have hin : [i1, i2, i3, i4].contains i = true := by
      cases hc : [i1, i2, i3, i4].contains i with
      | true => rfl
      | false => rw [hI1 i (hx _ _ ho) hc] at hun; cases hun
    have hD' : ∀ j, j < 4 → (D.getD j []).all (fun d => waitsB md ops ([i1, i2, i3, i4].getD j 0) ([i1, i2, i3, i4].getD d 0) && decide (d < 4)) = true := fun j h => (List.all_eq_true.1 hD) j (List.mem_range.2 h)
    have hget : ∀ d, d < 4 → [ls.getD i1 true, ls.getD i2 true, ls.getD i3 true, ls.getD i4 true].getD d false = ls.getD ([i1, i2, i3, i4].getD d 0) true := by
      intro d hd
      match d, hd with
      | 0, _ => rfl
      | 1, _ => rfl
      | 2, _ => rfl
      | 3, _ => rfl
    have hlt : ∀ d, d < 4 → [i1, i2, i3, i4].getD d 0 < ls.size := by
      intro d hd
      match d, hd with
      | 0, _ => exact hlsz.symm ▸ hl1
      | 1, _ => exact hlsz.symm ▸ hl2
      | 2, _ => exact hlsz.symm ▸ hl3
      | 3, _ => exact hlsz.symm ▸ hl4
    have hdeps : ∀ j, j < 4 → [i1, i2, i3, i4].getD j 0 = i → (D.getD j []).all ([ls.getD i1 true, ls.getD i2 true, ls.getD i3 true, ls.getD i4 true].getD · false) = true := by
      intro j hj hji
      rw [List.all_eq_true]
      intro d hd
      have h1 := (List.all_eq_true.1 (hD' j hj)) d hd
      simp only [Bool.and_eq_true, decide_eq_true_eq] at h1
      rw [hget d h1.2, getD_tf (hlt d h1.2)]
      rw [hji] at h1
      exact waitsB_spec h1.1 hr
    have hkeep : ∀ j, j < ops.size → [i1, i2, i3, i4].contains j = false → (ls.setIfInBounds i true).getD j true = true := fun j hj hc => by
      by_cases e : i = j
      · subst e; exact getD_set_eq true (by omega)
      · rw [getD_set_ne' e]; exact hI1 j hj hc
    simp only [List.contains_cons, Bool.or_eq_true, beq_iff_eq, List.contains_nil, Bool.false_eq_true, or_false] at hin
    rcases hin with rfl | rfl | rfl | rfl
    · have hdj := hdeps 0 (by omega) rfl
      rw [hun] at hI2 hdj
      refine wpOp_step hi1 fun K hK => s1 _ _ _ a w hdj hI2 K (fun a' w' hJ => hK a' w' ⟨hkeep, ?_⟩)
      rw [getD_set_eq true (by omega)]
      rw [getD_set_ne' (by omega)]
      rw [getD_set_ne' (by omega)]
      rw [getD_set_ne' (by omega)]
      exact hJ
    · have hdj := hdeps 1 (by omega) rfl
      rw [hun] at hI2 hdj
      refine wpOp_step hi2 fun K hK => s2 _ _ _ a w hdj hI2 K (fun a' w' hJ => hK a' w' ⟨hkeep, ?_⟩)
      rw [getD_set_eq true (by omega)]
      rw [getD_set_ne' (by omega)]
      rw [getD_set_ne' (by omega)]
      rw [getD_set_ne' (by omega)]
      exact hJ
    · have hdj := hdeps 2 (by omega) rfl
      rw [hun] at hI2 hdj
      refine wpOp_step hi3 fun K hK => s3 _ _ _ a w hdj hI2 K (fun a' w' hJ => hK a' w' ⟨hkeep, ?_⟩)
      rw [getD_set_eq true (by omega)]
      rw [getD_set_ne' (by omega)]
      rw [getD_set_ne' (by omega)]
      rw [getD_set_ne' (by omega)]
      exact hJ
    · have hdj := hdeps 3 (by omega) rfl
      rw [hun] at hI2 hdj
      refine wpOp_step hi4 fun K hK => s4 _ _ _ a w hdj hI2 K (fun a' w' hJ => hK a' w' ⟨hkeep, ?_⟩)
      rw [getD_set_eq true (by omega)]
      rw [getD_set_ne' (by omega)]
      rw [getD_set_ne' (by omega)]
      rw [getD_set_ne' (by omega)]
      exact hJ
  · intro ls a w hlsz hall hI
    have := hI.2
    rw [hall _ hl1, hall _ hl2, hall _ hl3, hall _ hl4] at this
    exact hend a w this
  · refine ⟨fun i hi hc => by have := hcov' i hi; rw [hc] at this; simpa using this.symm, ?_⟩
    have g1 : listed.getD i1 true = false := by have := hcov' i1 hl1; simpa using this.symm
    have g2 : listed.getD i2 true = false := by have := hcov' i2 hl2; simpa using this.symm
    have g3 : listed.getD i3 true = false := by have := hcov' i3 hl3; simpa using this.symm
    have g4 : listed.getD i4 true = false := by have := hcov' i4 hl4; simpa using this.symm
    rw [g1, g2, g3, g4]
    exact h0
theorem wpAnyH_sep5 {fuel : Nat} {listed : Array Bool} {a : Act} {w : World} (i1 i2 i3 i4 i5 : Nat) {o1 o2 o3 o4 o5 : Oper} (D : List (List Nat)) (J : Bool → Bool → Bool → Bool → Bool → Act → World → Prop)
    (hi : ops[i1]? = some o1 ∧ ops[i2]? = some o2 ∧ ops[i3]? = some o3 ∧ ops[i4]? = some o4 ∧ ops[i5]? = some o5) (hb : backB md ops = true) (hsz : listed.size = ops.size)
    (hcov : ((List.range ops.size).all fun i => [i1, i2, i3, i4, i5].contains i == !listed.getD i true) = true) (hne : ([i1, i2, i3, i4, i5] : List Nat).Nodup) (hfuel : openN listed ≤ fuel)
    (hD : ((List.range 5).all fun j => (D.getD j []).all fun d => waitsB md ops ([i1, i2, i3, i4, i5].getD j 0) ([i1, i2, i3, i4, i5].getD d 0) && decide (d < 5)) = true)
    (hS : ∀ b1 b2 b3 b4 b5 a w, J b1 b2 b3 b4 b5 a w → S w) (h0 : J false false false false false  a w)
    (s1 : ∀ b2 b3 b4 b5 a w, (D.getD 0 []).all ([false, b2, b3, b4, b5].getD · false) = true → J false b2 b3 b4 b5 a w → ∀ K : Act → World → Prop, Shut (∀ a w, J true b2 b3 b4 b5 a w → K a w) → if Region.wanted o1 (yielded ops a.tmps) = true then Oper.wp P o1 a w K Q else K (a.put o1.dst undef) w)
    (s2 : ∀ b1 b3 b4 b5 a w, (D.getD 1 []).all ([b1, false, b3, b4, b5].getD · false) = true → J b1 false b3 b4 b5 a w → ∀ K : Act → World → Prop, Shut (∀ a w, J b1 true b3 b4 b5 a w → K a w) → if Region.wanted o2 (yielded ops a.tmps) = true then Oper.wp P o2 a w K Q else K (a.put o2.dst undef) w)
    (s3 : ∀ b1 b2 b4 b5 a w, (D.getD 2 []).all ([b1, b2, false, b4, b5].getD · false) = true → J b1 b2 false b4 b5 a w → ∀ K : Act → World → Prop, Shut (∀ a w, J b1 b2 true b4 b5 a w → K a w) → if Region.wanted o3 (yielded ops a.tmps) = true then Oper.wp P o3 a w K Q else K (a.put o3.dst undef) w)
    (s4 : ∀ b1 b2 b3 b5 a w, (D.getD 3 []).all ([b1, b2, b3, false, b5].getD · false) = true → J b1 b2 b3 false b5 a w → ∀ K : Act → World → Prop, Shut (∀ a w, J b1 b2 b3 true b5 a w → K a w) → if Region.wanted o4 (yielded ops a.tmps) = true then Oper.wp P o4 a w K Q else K (a.put o4.dst undef) w)
    (s5 : ∀ b1 b2 b3 b4 a w, (D.getD 4 []).all ([b1, b2, b3, b4, false].getD · false) = true → J b1 b2 b3 b4 false a w → ∀ K : Act → World → Prop, Shut (∀ a w, J b1 b2 b3 b4 true a w → K a w) → if Region.wanted o5 (yielded ops a.tmps) = true then Oper.wp P o5 a w K Q else K (a.put o5.dst undef) w)
    (hend : ∀ a w, J true true true true true  a w → Q .normal a w) : wpAnyH P md ops Q S fuel listed a w := by
  obtain ⟨hi1, hi2, hi3, hi4, hi5⟩ := hi
  have hx : ∀ i l, ops[i]? = some l → i < ops.size := fun i l h => (Array.getElem?_eq_some_iff.1 h).1
  have hl1 := hx _ _ hi1
  have hl2 := hx _ _ hi2
  have hl3 := hx _ _ hi3
  have hl4 := hx _ _ hi4
  have hl5 := hx _ _ hi5
  have hcov' : ∀ i, i < ops.size → ([i1, i2, i3, i4, i5].contains i = !listed.getD i true) := fun i h => by simpa using (List.all_eq_true.1 hcov) i (List.mem_range.2 h)
  simp only [List.nodup_cons, List.mem_cons, List.not_mem_nil, not_or, or_false, not_false_iff, List.nodup_nil, and_true] at hne
  refine wpAnyH_bits hb (fun ls a w => (∀ i, i < ops.size → [i1, i2, i3, i4, i5].contains i = false → ls.getD i true = true) ∧ J (ls.getD i1 true) (ls.getD i2 true) (ls.getD i3 true) (ls.getD i4 true) (ls.getD i5 true) a w) (fun ls a w h => hS _ _ _ _ _  a w h.2) ?_ ?_ fuel listed a w hsz hfuel ?_
  · intro i ls a w hlsz hr hI
    obtain ⟨hI1, hI2⟩ := hI
    obtain ⟨hun, o, ho, _⟩ := mem_ready.1 hr
    have hin : [i1, i2, i3, i4, i5].contains i = true := by
      cases hc : [i1, i2, i3, i4, i5].contains i with
      | true => rfl
      | false => rw [hI1 i (hx _ _ ho) hc] at hun; cases hun
    have hD' : ∀ j, j < 5 → (D.getD j []).all (fun d => waitsB md ops ([i1, i2, i3, i4, i5].getD j 0) ([i1, i2, i3, i4, i5].getD d 0) && decide (d < 5)) = true := fun j h => (List.all_eq_true.1 hD) j (List.mem_range.2 h)
    have hget : ∀ d, d < 5 → [ls.getD i1 true, ls.getD i2 true, ls.getD i3 true, ls.getD i4 true, ls.getD i5 true].getD d false = ls.getD ([i1, i2, i3, i4, i5].getD d 0) true := by
      intro d hd
      match d, hd with
      | 0, _ => rfl
      | 1, _ => rfl
      | 2, _ => rfl
      | 3, _ => rfl
      | 4, _ => rfl
    have hlt : ∀ d, d < 5 → [i1, i2, i3, i4, i5].getD d 0 < ls.size := by
      intro d hd
      match d, hd with
      | 0, _ => exact hlsz.symm ▸ hl1
      | 1, _ => exact hlsz.symm ▸ hl2
      | 2, _ => exact hlsz.symm ▸ hl3
      | 3, _ => exact hlsz.symm ▸ hl4
      | 4, _ => exact hlsz.symm ▸ hl5
    have hdeps : ∀ j, j < 5 → [i1, i2, i3, i4, i5].getD j 0 = i → (D.getD j []).all ([ls.getD i1 true, ls.getD i2 true, ls.getD i3 true, ls.getD i4 true, ls.getD i5 true].getD · false) = true := by
      intro j hj hji
      rw [List.all_eq_true]
      intro d hd
      have h1 := (List.all_eq_true.1 (hD' j hj)) d hd
      simp only [Bool.and_eq_true, decide_eq_true_eq] at h1
      rw [hget d h1.2, getD_tf (hlt d h1.2)]
      rw [hji] at h1
      exact waitsB_spec h1.1 hr
    have hkeep : ∀ j, j < ops.size → [i1, i2, i3, i4, i5].contains j = false → (ls.setIfInBounds i true).getD j true = true := fun j hj hc => by
      by_cases e : i = j
      · subst e; exact getD_set_eq true (by omega)
      · rw [getD_set_ne' e]; exact hI1 j hj hc
    simp only [List.contains_cons, Bool.or_eq_true, beq_iff_eq, List.contains_nil, Bool.false_eq_true, or_false] at hin
    rcases hin with rfl | rfl | rfl | rfl | rfl
    · have hdj := hdeps 0 (by omega) rfl
      rw [hun] at hI2 hdj
      refine wpOp_step hi1 fun K hK => s1 _ _ _ _ a w hdj hI2 K (fun a' w' hJ => hK a' w' ⟨hkeep, ?_⟩)
      rw [getD_set_eq true (by omega)]
      rw [getD_set_ne' (by omega)]
      rw [getD_set_ne' (by omega)]
      rw [getD_set_ne' (by omega)]
      rw [getD_set_ne' (by omega)]
      exact hJ
    · have hdj := hdeps 1 (by omega) rfl
      rw [hun] at hI2 hdj
      refine wpOp_step hi2 fun K hK => s2 _ _ _ _ a w hdj hI2 K (fun a' w' hJ => hK a' w' ⟨hkeep, ?_⟩)
      rw [getD_set_eq true (by omega)]
      rw [getD_set_ne' (by omega)]
      rw [getD_set_ne' (by omega)]
      rw [getD_set_ne' (by omega)]
      rw [getD_set_ne' (by omega)]
      exact hJ
    · have hdj := hdeps 2 (by omega) rfl
      rw [hun] at hI2 hdj
      refine wpOp_step hi3 fun K hK => s3 _ _ _ _ a w hdj hI2 K (fun a' w' hJ => hK a' w' ⟨hkeep, ?_⟩)
      rw [getD_set_eq true (by omega)]
      rw [getD_set_ne' (by omega)]
      rw [getD_set_ne' (by omega)]
      rw [getD_set_ne' (by omega)]
      rw [getD_set_ne' (by omega)]
      exact hJ
    · have hdj := hdeps 3 (by omega) rfl
      rw [hun] at hI2 hdj
      refine wpOp_step hi4 fun K hK => s4 _ _ _ _ a w hdj hI2 K (fun a' w' hJ => hK a' w' ⟨hkeep, ?_⟩)
      rw [getD_set_eq true (by omega)]
      rw [getD_set_ne' (by omega)]
      rw [getD_set_ne' (by omega)]
      rw [getD_set_ne' (by omega)]
      rw [getD_set_ne' (by omega)]
      exact hJ
    · have hdj := hdeps 4 (by omega) rfl
      rw [hun] at hI2 hdj
      refine wpOp_step hi5 fun K hK => s5 _ _ _ _ a w hdj hI2 K (fun a' w' hJ => hK a' w' ⟨hkeep, ?_⟩)
      rw [getD_set_eq true (by omega)]
      rw [getD_set_ne' (by omega)]
      rw [getD_set_ne' (by omega)]
      rw [getD_set_ne' (by omega)]
      rw [getD_set_ne' (by omega)]
      exact hJ
  · intro ls a w hlsz hall hI
    have := hI.2
    rw [hall _ hl1, hall _ hl2, hall _ hl3, hall _ hl4, hall _ hl5] at this
    exact hend a w this
  · refine ⟨fun i hi hc => by have := hcov' i hi; rw [hc] at this; simpa using this.symm, ?_⟩
    have g1 : listed.getD i1 true = false := by have := hcov' i1 hl1; simpa using this.symm
    have g2 : listed.getD i2 true = false := by have := hcov' i2 hl2; simpa using this.symm
    have g3 : listed.getD i3 true = false := by have := hcov' i3 hl3; simpa using this.symm
    have g4 : listed.getD i4 true = false := by have := hcov' i4 hl4; simpa using this.symm
    have g5 : listed.getD i5 true = false := by have := hcov' i5 hl5; simpa using this.symm
    rw [g1, g2, g3, g4, g5]
    exact h0
theorem wpAnyH_sep6 {fuel : Nat} {listed : Array Bool} {a : Act} {w : World} (i1 i2 i3 i4 i5 i6 : Nat) {o1 o2 o3 o4 o5 o6 : Oper} (D : List (List Nat)) (J : Bool → Bool → Bool → Bool → Bool → Bool → Act → World → Prop)
    (hi : ops[i1]? = some o1 ∧ ops[i2]? = some o2 ∧ ops[i3]? = some o3 ∧ ops[i4]? = some o4 ∧ ops[i5]? = some o5 ∧ ops[i6]? = some o6) (hb : backB md ops = true) (hsz : listed.size = ops.size)
    (hcov : ((List.range ops.size).all fun i => [i1, i2, i3, i4, i5, i6].contains i == !listed.getD i true) = true) (hne : ([i1, i2, i3, i4, i5, i6] : List Nat).Nodup) (hfuel : openN listed ≤ fuel)
    (hD : ((List.range 6).all fun j => (D.getD j []).all fun d => waitsB md ops ([i1, i2, i3, i4, i5, i6].getD j 0) ([i1, i2, i3, i4, i5, i6].getD d 0) && decide (d < 6)) = true)
    (hS : ∀ b1 b2 b3 b4 b5 b6 a w, J b1 b2 b3 b4 b5 b6 a w → S w) (h0 : J false false false false false false  a w)
    (s1 : ∀ b2 b3 b4 b5 b6 a w, (D.getD 0 []).all ([false, b2, b3, b4, b5, b6].getD · false) = true → J false b2 b3 b4 b5 b6 a w → ∀ K : Act → World → Prop, Shut (∀ a w, J true b2 b3 b4 b5 b6 a w → K a w) → if Region.wanted o1 (yielded ops a.tmps) = true then Oper.wp P o1 a w K Q else K (a.put o1.dst undef) w)
    (s2 : ∀ b1 b3 b4 b5 b6 a w, (D.getD 1 []).all ([b1, false, b3, b4, b5, b6].getD · false) = true → J b1 false b3 b4 b5 b6 a w → ∀ K : Act → World → Prop, Shut (∀ a w, J b1 true b3 b4 b5 b6 a w → K a w) → if Region.wanted o2 (yielded ops a.tmps) = true then Oper.wp P o2 a w K Q else K (a.put o2.dst undef) w)
    (s3 : ∀ b1 b2 b4 b5 b6 a w, (D.getD 2 []).all ([b1, b2, false, b4, b5, b6].getD · false) = true → J b1 b2 false b4 b5 b6 a w → ∀ K : Act → World → Prop, Shut (∀ a w, J b1 b2 true b4 b5 b6 a w → K a w) → if Region.wanted o3 (yielded ops a.tmps) = true then Oper.wp P o3 a w K Q else K (a.put o3.dst undef) w)
    (s4 : ∀ b1 b2 b3 b5 b6 a w, (D.getD 3 []).all ([b1, b2, b3, false, b5, b6].getD · false) = true → J b1 b2 b3 false b5 b6 a w → ∀ K : Act → World → Prop, Shut (∀ a w, J b1 b2 b3 true b5 b6 a w → K a w) → if Region.wanted o4 (yielded ops a.tmps) = true then Oper.wp P o4 a w K Q else K (a.put o4.dst undef) w)
    (s5 : ∀ b1 b2 b3 b4 b6 a w, (D.getD 4 []).all ([b1, b2, b3, b4, false, b6].getD · false) = true → J b1 b2 b3 b4 false b6 a w → ∀ K : Act → World → Prop, Shut (∀ a w, J b1 b2 b3 b4 true b6 a w → K a w) → if Region.wanted o5 (yielded ops a.tmps) = true then Oper.wp P o5 a w K Q else K (a.put o5.dst undef) w)
    (s6 : ∀ b1 b2 b3 b4 b5 a w, (D.getD 5 []).all ([b1, b2, b3, b4, b5, false].getD · false) = true → J b1 b2 b3 b4 b5 false a w → ∀ K : Act → World → Prop, Shut (∀ a w, J b1 b2 b3 b4 b5 true a w → K a w) → if Region.wanted o6 (yielded ops a.tmps) = true then Oper.wp P o6 a w K Q else K (a.put o6.dst undef) w)
    (hend : ∀ a w, J true true true true true true  a w → Q .normal a w) : wpAnyH P md ops Q S fuel listed a w := by
  obtain ⟨hi1, hi2, hi3, hi4, hi5, hi6⟩ := hi
  have hx : ∀ i l, ops[i]? = some l → i < ops.size := fun i l h => (Array.getElem?_eq_some_iff.1 h).1
  have hl1 := hx _ _ hi1
  have hl2 := hx _ _ hi2
  have hl3 := hx _ _ hi3
  have hl4 := hx _ _ hi4
  have hl5 := hx _ _ hi5
  have hl6 := hx _ _ hi6
  have hcov' : ∀ i, i < ops.size → ([i1, i2, i3, i4, i5, i6].contains i = !listed.getD i true) := fun i h => by simpa using (List.all_eq_true.1 hcov) i (List.mem_range.2 h)
  simp only [List.nodup_cons, List.mem_cons, List.not_mem_nil, not_or, or_false, not_false_iff, List.nodup_nil, and_true] at hne
  refine wpAnyH_bits hb (fun ls a w => (∀ i, i < ops.size → [i1, i2, i3, i4, i5, i6].contains i = false → ls.getD i true = true) ∧ J (ls.getD i1 true) (ls.getD i2 true) (ls.getD i3 true) (ls.getD i4 true) (ls.getD i5 true) (ls.getD i6 true) a w) (fun ls a w h => hS _ _ _ _ _ _  a w h.2) ?_ ?_ fuel listed a w hsz hfuel ?_
  · intro i ls a w hlsz hr hI
    obtain ⟨hI1, hI2⟩ := hI
    obtain ⟨hun, o, ho, _⟩ := mem_ready.1 hr
    have hin : [i1, i2, i3, i4, i5, i6].contains i = true := by
      cases hc : [i1, i2, i3, i4, i5, i6].contains i with
      | true => rfl
      | false => rw [hI1 i (hx _ _ ho) hc] at hun; cases hun
    have hD' : ∀ j, j < 6 → (D.getD j []).all (fun d => waitsB md ops ([i1, i2, i3, i4, i5, i6].getD j 0) ([i1, i2, i3, i4, i5, i6].getD d 0) && decide (d < 6)) = true := fun j h => (List.all_eq_true.1 hD) j (List.mem_range.2 h)
    have hget : ∀ d, d < 6 → [ls.getD i1 true, ls.getD i2 true, ls.getD i3 true, ls.getD i4 true, ls.getD i5 true, ls.getD i6 true].getD d false = ls.getD ([i1, i2, i3, i4, i5, i6].getD d 0) true := by
      intro d hd
      match d, hd with
      | 0, _ => rfl
      | 1, _ => rfl
      | 2, _ => rfl
      | 3, _ => rfl
      | 4, _ => rfl
      | 5, _ => rfl
    have hlt : ∀ d, d < 6 → [i1, i2, i3, i4, i5, i6].getD d 0 < ls.size := by
      intro d hd
      match d, hd with
      | 0, _ => exact hlsz.symm ▸ hl1
      | 1, _ => exact hlsz.symm ▸ hl2
      | 2, _ => exact hlsz.symm ▸ hl3
      | 3, _ => exact hlsz.symm ▸ hl4
      | 4, _ => exact hlsz.symm ▸ hl5
      | 5, _ => exact hlsz.symm ▸ hl6
    have hdeps : ∀ j, j < 6 → [i1, i2, i3, i4, i5, i6].getD j 0 = i → (D.getD j []).all ([ls.getD i1 true, ls.getD i2 true, ls.getD i3 true, ls.getD i4 true, ls.getD i5 true, ls.getD i6 true].getD · false) = true := by
      intro j hj hji
      rw [List.all_eq_true]
      intro d hd
      have h1 := (List.all_eq_true.1 (hD' j hj)) d hd
      simp only [Bool.and_eq_true, decide_eq_true_eq] at h1
      rw [hget d h1.2, getD_tf (hlt d h1.2)]
      rw [hji] at h1
      exact waitsB_spec h1.1 hr
    have hkeep : ∀ j, j < ops.size → [i1, i2, i3, i4, i5, i6].contains j = false → (ls.setIfInBounds i true).getD j true = true := fun j hj hc => by
      by_cases e : i = j
      · subst e; exact getD_set_eq true (by omega)
      · rw [getD_set_ne' e]; exact hI1 j hj hc
    simp only [List.contains_cons, Bool.or_eq_true, beq_iff_eq, List.contains_nil, Bool.false_eq_true, or_false] at hin
    rcases hin with rfl | rfl | rfl | rfl | rfl | rfl
    · have hdj := hdeps 0 (by omega) rfl
      rw [hun] at hI2 hdj
      refine wpOp_step hi1 fun K hK => s1 _ _ _ _ _ a w hdj hI2 K (fun a' w' hJ => hK a' w' ⟨hkeep, ?_⟩)
      rw [getD_set_eq true (by omega)]
      rw [getD_set_ne' (by omega)]
      rw [getD_set_ne' (by omega)]
      rw [getD_set_ne' (by omega)]
      rw [getD_set_ne' (by omega)]
      rw [getD_set_ne' (by omega)]
      exact hJ
    · have hdj := hdeps 1 (by omega) rfl
      rw [hun] at hI2 hdj
      refine wpOp_step hi2 fun K hK => s2 _ _ _ _ _ a w hdj hI2 K (fun a' w' hJ => hK a' w' ⟨hkeep, ?_⟩)
      rw [getD_set_eq true (by omega)]
      rw [getD_set_ne' (by omega)]
      rw [getD_set_ne' (by omega)]
      rw [getD_set_ne' (by omega)]
      rw [getD_set_ne' (by omega)]
      rw [getD_set_ne' (by omega)]
      exact hJ
    · have hdj := hdeps 2 (by omega) rfl
      rw [hun] at hI2 hdj
      refine wpOp_step hi3 fun K hK => s3 _ _ _ _ _ a w hdj hI2 K (fun a' w' hJ => hK a' w' ⟨hkeep, ?_⟩)
      rw [getD_set_eq true (by omega)]
      rw [getD_set_ne' (by omega)]
      rw [getD_set_ne' (by omega)]
      rw [getD_set_ne' (by omega)]
      rw [getD_set_ne' (by omega)]
      rw [getD_set_ne' (by omega)]
      exact hJ
    · have hdj := hdeps 3 (by omega) rfl
      rw [hun] at hI2 hdj
      refine wpOp_step hi4 fun K hK => s4 _ _ _ _ _ a w hdj hI2 K (fun a' w' hJ => hK a' w' ⟨hkeep, ?_⟩)
      rw [getD_set_eq true (by omega)]
      rw [getD_set_ne' (by omega)]
      rw [getD_set_ne' (by omega)]
      rw [getD_set_ne' (by omega)]
      rw [getD_set_ne' (by omega)]
      rw [getD_set_ne' (by omega)]
      exact hJ
    · have hdj := hdeps 4 (by omega) rfl
      rw [hun] at hI2 hdj
      refine wpOp_step hi5 fun K hK => s5 _ _ _ _ _ a w hdj hI2 K (fun a' w' hJ => hK a' w' ⟨hkeep, ?_⟩)
      rw [getD_set_eq true (by omega)]
      rw [getD_set_ne' (by omega)]
      rw [getD_set_ne' (by omega)]
      rw [getD_set_ne' (by omega)]
      rw [getD_set_ne' (by omega)]
      rw [getD_set_ne' (by omega)]
      exact hJ
    · have hdj := hdeps 5 (by omega) rfl
      rw [hun] at hI2 hdj
      refine wpOp_step hi6 fun K hK => s6 _ _ _ _ _ a w hdj hI2 K (fun a' w' hJ => hK a' w' ⟨hkeep, ?_⟩)
      rw [getD_set_eq true (by omega)]
      rw [getD_set_ne' (by omega)]
      rw [getD_set_ne' (by omega)]
      rw [getD_set_ne' (by omega)]
      rw [getD_set_ne' (by omega)]
      rw [getD_set_ne' (by omega)]
      exact hJ
  · intro ls a w hlsz hall hI
    have := hI.2
    rw [hall _ hl1, hall _ hl2, hall _ hl3, hall _ hl4, hall _ hl5, hall _ hl6] at this
    exact hend a w this
  · refine ⟨fun i hi hc => by have := hcov' i hi; rw [hc] at this; simpa using this.symm, ?_⟩
    have g1 : listed.getD i1 true = false := by have := hcov' i1 hl1; simpa using this.symm
    have g2 : listed.getD i2 true = false := by have := hcov' i2 hl2; simpa using this.symm
    have g3 : listed.getD i3 true = false := by have := hcov' i3 hl3; simpa using this.symm
    have g4 : listed.getD i4 true = false := by have := hcov' i4 hl4; simpa using this.symm
    have g5 : listed.getD i5 true = false := by have := hcov' i5 hl5; simpa using this.symm
    have g6 : listed.getD i6 true = false := by have := hcov' i6 hl6; simpa using this.symm
    rw [g1, g2, g3, g4, g5, g6]
    exact h0

/-- A value in its temporary, if its operation has come up. -/
def putB (b : Bool) (d : Option Nat) (v : Value) (a : Act) : Act := bif b then a.put d v else a
/-- b only behind c. -/
def impB (b c : Bool) : Prop := b = true → c = true
theorem impB_true (b : Bool) : impB b true := fun _ => rfl
theorem impB_false (c : Bool) : impB false c := fun h => by cases h
theorem putB_none (b : Bool) (v : Value) (a : Act) : putB b none v a = a := by cases b <;> rfl
theorem putB_some (b : Bool) (d : Nat) (v : Value) (l : List Value) (df : List Deferred) (h : d < l.length) : putB b (some d) v ⟨l.toArray, df⟩ = ⟨(l.set d (bif b then v else l.getD d undef)).toArray, df⟩ := by
  cases b
  · simp only [putB, cond_false]
    congr 1
    apply Array.toList_inj.1
    simp only []
    apply List.ext_getElem?
    intro i
    rw [List.getElem?_set]
    split
    · rename_i e; subst e; simp [h]
    · rfl
  · simp [putB, Act.put]
def dstsApart (o o' : Option Nat) : Bool := match o, o' with
  | some x, some y => x != y
  | _, _ => true
theorem put_apart {o o' : Option Nat} (h : dstsApart o o' = true) (a : Act) (v u : Value) : (a.put o v).put o' u = (a.put o' u).put o v := by
  cases o <;> cases o' <;> try rfl
  rename_i x y
  simp only [dstsApart, bne_iff_ne] at h
  simp only [Act.put, Act.mk.injEq, and_true]
  exact Array.setIfInBounds_comm _ _ h
theorem putB_apart {b : Bool} {o o' : Option Nat} (h : dstsApart o o' = true) (a : Act) (v u : Value) : (putB b o v a).put o' u = putB b o v (a.put o' u) := by
  cases b
  · rfl
  · exact put_apart h a v u
theorem putB_false (o : Option Nat) (v : Value) (a : Act) : putB false o v a = a := rfl
theorem putB_true (o : Option Nat) (v : Value) (a : Act) : putB true o v a = a.put o v := rfl
theorem wpAnyH_put2 {fuel : Nat} {listed : Array Bool} {a : Act} {w : World} (i1 i2 : Nat) {o1 o2 : Oper} (D : List (List Nat)) (J : Bool → Bool → Value → Value → World → Prop)
    (hi : ops[i1]? = some o1 ∧ ops[i2]? = some o2) (hb : backB md ops = true) (hsz : listed.size = ops.size)
    (hcov : ((List.range ops.size).all fun i => [i1, i2].contains i == !listed.getD i true) = true) (hne : ([i1, i2] : List Nat).Nodup) (hfuel : openN listed ≤ fuel)
    (hD : ((List.range 2).all fun j => (D.getD j []).all fun d => waitsB md ops ([i1, i2].getD j 0) ([i1, i2].getD d 0) && decide (d < 2)) = true)
    (hap : dstsApart o1.dst o2.dst = true)
    (hS : ∀ b1 b2 v1 v2 w, J b1 b2 v1 v2 w → S w) (h0 : J false false  undef undef  w)
    (s1 : ∀ b2 v1 v2 w, (D.getD 0 []).all ([false, b2].getD · false) = true → J false b2 v1 v2 w → ∀ K : Act → World → Prop, Shut (∀ v w, J true b2 v v2 w → K ((putB b2 o2.dst v2 a).put o1.dst v) w) → if Region.wanted o1 (yielded ops (putB b2 o2.dst v2 a).tmps) = true then Oper.wp P o1 (putB b2 o2.dst v2 a) w K Q else K ((putB b2 o2.dst v2 a).put o1.dst undef) w)
    (s2 : ∀ b1 v1 v2 w, (D.getD 1 []).all ([b1, false].getD · false) = true → J b1 false v1 v2 w → ∀ K : Act → World → Prop, Shut (∀ v w, J b1 true v1 v w → K ((putB b1 o1.dst v1 a).put o2.dst v) w) → if Region.wanted o2 (yielded ops (putB b1 o1.dst v1 a).tmps) = true then Oper.wp P o2 (putB b1 o1.dst v1 a) w K Q else K ((putB b1 o1.dst v1 a).put o2.dst undef) w)
    (hend : ∀ v1 v2 w, J true true  v1 v2 w → Q .normal (putB true o1.dst v1 (putB true o2.dst v2 a)) w) : wpAnyH P md ops Q S fuel listed a w := by
  try simp only [Bool.and_eq_true] at hap
  have a1_2 := hap
  refine wpAnyH_sep2 i1 i2 D (fun b1 b2 a' w => ∃ v1 v2, a' = (putB b1 o1.dst v1 (putB b2 o2.dst v2 a)) ∧ J b1 b2 v1 v2 w) hi hb hsz hcov hne hfuel hD (fun b1 b2 a w h => by obtain ⟨v1, v2, _, h⟩ := h; exact hS _ _  _ _  w h) ⟨undef, undef, rfl, h0⟩ ?_ ?_  ?_
  · rintro b2 a' w hd ⟨v1, v2, rfl, hJ⟩ K hK
    refine s1 b2 v1 v2 w hd hJ K (fun v w' hJ' => hK.out _ _ ⟨v, v2, ?_, hJ'⟩)
    rfl
  · rintro b1 a' w hd ⟨v1, v2, rfl, hJ⟩ K hK
    refine s2 b1 v1 v2 w hd hJ K (fun v w' hJ' => hK.out _ _ ⟨v1, v, ?_, hJ'⟩)
    rw [putB_apart a1_2]; rfl
  · rintro a' w ⟨v1, v2, rfl, hJ⟩
    exact hend v1 v2 w hJ
theorem wpAnyH_put3 {fuel : Nat} {listed : Array Bool} {a : Act} {w : World} (i1 i2 i3 : Nat) {o1 o2 o3 : Oper} (D : List (List Nat)) (J : Bool → Bool → Bool → Value → Value → Value → World → Prop)
    (hi : ops[i1]? = some o1 ∧ ops[i2]? = some o2 ∧ ops[i3]? = some o3) (hb : backB md ops = true) (hsz : listed.size = ops.size)
    (hcov : ((List.range ops.size).all fun i => [i1, i2, i3].contains i == !listed.getD i true) = true) (hne : ([i1, i2, i3] : List Nat).Nodup) (hfuel : openN listed ≤ fuel)
    (hD : ((List.range 3).all fun j => (D.getD j []).all fun d => waitsB md ops ([i1, i2, i3].getD j 0) ([i1, i2, i3].getD d 0) && decide (d < 3)) = true)
    (hap : (dstsApart o1.dst o2.dst && dstsApart o1.dst o3.dst && dstsApart o2.dst o3.dst) = true)
    (hS : ∀ b1 b2 b3 v1 v2 v3 w, J b1 b2 b3 v1 v2 v3 w → S w) (h0 : J false false false  undef undef undef  w)
    (s1 : ∀ b2 b3 v1 v2 v3 w, (D.getD 0 []).all ([false, b2, b3].getD · false) = true → J false b2 b3 v1 v2 v3 w → ∀ K : Act → World → Prop, Shut (∀ v w, J true b2 b3 v v2 v3 w → K ((putB b2 o2.dst v2 (putB b3 o3.dst v3 a)).put o1.dst v) w) → if Region.wanted o1 (yielded ops (putB b2 o2.dst v2 (putB b3 o3.dst v3 a)).tmps) = true then Oper.wp P o1 (putB b2 o2.dst v2 (putB b3 o3.dst v3 a)) w K Q else K ((putB b2 o2.dst v2 (putB b3 o3.dst v3 a)).put o1.dst undef) w)
    (s2 : ∀ b1 b3 v1 v2 v3 w, (D.getD 1 []).all ([b1, false, b3].getD · false) = true → J b1 false b3 v1 v2 v3 w → ∀ K : Act → World → Prop, Shut (∀ v w, J b1 true b3 v1 v v3 w → K ((putB b1 o1.dst v1 (putB b3 o3.dst v3 a)).put o2.dst v) w) → if Region.wanted o2 (yielded ops (putB b1 o1.dst v1 (putB b3 o3.dst v3 a)).tmps) = true then Oper.wp P o2 (putB b1 o1.dst v1 (putB b3 o3.dst v3 a)) w K Q else K ((putB b1 o1.dst v1 (putB b3 o3.dst v3 a)).put o2.dst undef) w)
    (s3 : ∀ b1 b2 v1 v2 v3 w, (D.getD 2 []).all ([b1, b2, false].getD · false) = true → J b1 b2 false v1 v2 v3 w → ∀ K : Act → World → Prop, Shut (∀ v w, J b1 b2 true v1 v2 v w → K ((putB b1 o1.dst v1 (putB b2 o2.dst v2 a)).put o3.dst v) w) → if Region.wanted o3 (yielded ops (putB b1 o1.dst v1 (putB b2 o2.dst v2 a)).tmps) = true then Oper.wp P o3 (putB b1 o1.dst v1 (putB b2 o2.dst v2 a)) w K Q else K ((putB b1 o1.dst v1 (putB b2 o2.dst v2 a)).put o3.dst undef) w)
    (hend : ∀ v1 v2 v3 w, J true true true  v1 v2 v3 w → Q .normal (putB true o1.dst v1 (putB true o2.dst v2 (putB true o3.dst v3 a))) w) : wpAnyH P md ops Q S fuel listed a w := by
  try simp only [Bool.and_eq_true] at hap
  obtain ⟨⟨a1_2, a1_3⟩, a2_3⟩ := hap
  refine wpAnyH_sep3 i1 i2 i3 D (fun b1 b2 b3 a' w => ∃ v1 v2 v3, a' = (putB b1 o1.dst v1 (putB b2 o2.dst v2 (putB b3 o3.dst v3 a))) ∧ J b1 b2 b3 v1 v2 v3 w) hi hb hsz hcov hne hfuel hD (fun b1 b2 b3 a w h => by obtain ⟨v1, v2, v3, _, h⟩ := h; exact hS _ _ _  _ _ _  w h) ⟨undef, undef, undef, rfl, h0⟩ ?_ ?_ ?_  ?_
  · rintro b2 b3 a' w hd ⟨v1, v2, v3, rfl, hJ⟩ K hK
    refine s1 b2 b3 v1 v2 v3 w hd hJ K (fun v w' hJ' => hK.out _ _ ⟨v, v2, v3, ?_, hJ'⟩)
    rfl
  · rintro b1 b3 a' w hd ⟨v1, v2, v3, rfl, hJ⟩ K hK
    refine s2 b1 b3 v1 v2 v3 w hd hJ K (fun v w' hJ' => hK.out _ _ ⟨v1, v, v3, ?_, hJ'⟩)
    rw [putB_apart a1_2]; rfl
  · rintro b1 b2 a' w hd ⟨v1, v2, v3, rfl, hJ⟩ K hK
    refine s3 b1 b2 v1 v2 v3 w hd hJ K (fun v w' hJ' => hK.out _ _ ⟨v1, v2, v, ?_, hJ'⟩)
    rw [putB_apart a1_3, putB_apart a2_3]; rfl
  · rintro a' w ⟨v1, v2, v3, rfl, hJ⟩
    exact hend v1 v2 v3 w hJ
theorem wpAnyH_put4 {fuel : Nat} {listed : Array Bool} {a : Act} {w : World} (i1 i2 i3 i4 : Nat) {o1 o2 o3 o4 : Oper} (D : List (List Nat)) (J : Bool → Bool → Bool → Bool → Value → Value → Value → Value → World → Prop)
    (hi : ops[i1]? = some o1 ∧ ops[i2]? = some o2 ∧ ops[i3]? = some o3 ∧ ops[i4]? = some o4) (hb : backB md ops = true) (hsz : listed.size = ops.size)
    (hcov : ((List.range ops.size).all fun i => [i1, i2, i3, i4].contains i == !listed.getD i true) = true) (hne : ([i1, i2, i3, i4] : List Nat).Nodup) (hfuel : openN listed ≤ fuel)
    (hD : ((List.range 4).all fun j => (D.getD j []).all fun d => waitsB md ops ([i1, i2, i3, i4].getD j 0) ([i1, i2, i3, i4].getD d 0) && decide (d < 4)) = true)
    (hap : (dstsApart o1.dst o2.dst && dstsApart o1.dst o3.dst && dstsApart o1.dst o4.dst && dstsApart o2.dst o3.dst && dstsApart o2.dst o4.dst && dstsApart o3.dst o4.dst) = true)
    (hS : ∀ b1 b2 b3 b4 v1 v2 v3 v4 w, J b1 b2 b3 b4 v1 v2 v3 v4 w → S w) (h0 : J false false false false  undef undef undef undef  w)
    (s1 : ∀ b2 b3 b4 v1 v2 v3 v4 w, (D.getD 0 []).all ([false, b2, b3, b4].getD · false) = true → J false b2 b3 b4 v1 v2 v3 v4 w → ∀ K : Act → World → Prop, Shut (∀ v w, J true b2 b3 b4 v v2 v3 v4 w → K ((putB b2 o2.dst v2 (putB b3 o3.dst v3 (putB b4 o4.dst v4 a))).put o1.dst v) w) → if Region.wanted o1 (yielded ops (putB b2 o2.dst v2 (putB b3 o3.dst v3 (putB b4 o4.dst v4 a))).tmps) = true then Oper.wp P o1 (putB b2 o2.dst v2 (putB b3 o3.dst v3 (putB b4 o4.dst v4 a))) w K Q else K ((putB b2 o2.dst v2 (putB b3 o3.dst v3 (putB b4 o4.dst v4 a))).put o1.dst undef) w)
    (s2 : ∀ b1 b3 b4 v1 v2 v3 v4 w, (D.getD 1 []).all ([b1, false, b3, b4].getD · false) = true → J b1 false b3 b4 v1 v2 v3 v4 w → ∀ K : Act → World → Prop, Shut (∀ v w, J b1 true b3 b4 v1 v v3 v4 w → K ((putB b1 o1.dst v1 (putB b3 o3.dst v3 (putB b4 o4.dst v4 a))).put o2.dst v) w) → if Region.wanted o2 (yielded ops (putB b1 o1.dst v1 (putB b3 o3.dst v3 (putB b4 o4.dst v4 a))).tmps) = true then Oper.wp P o2 (putB b1 o1.dst v1 (putB b3 o3.dst v3 (putB b4 o4.dst v4 a))) w K Q else K ((putB b1 o1.dst v1 (putB b3 o3.dst v3 (putB b4 o4.dst v4 a))).put o2.dst undef) w)
    (s3 : ∀ b1 b2 b4 v1 v2 v3 v4 w, (D.getD 2 []).all ([b1, b2, false, b4].getD · false) = true → J b1 b2 false b4 v1 v2 v3 v4 w → ∀ K : Act → World → Prop, Shut (∀ v w, J b1 b2 true b4 v1 v2 v v4 w → K ((putB b1 o1.dst v1 (putB b2 o2.dst v2 (putB b4 o4.dst v4 a))).put o3.dst v) w) → if Region.wanted o3 (yielded ops (putB b1 o1.dst v1 (putB b2 o2.dst v2 (putB b4 o4.dst v4 a))).tmps) = true then Oper.wp P o3 (putB b1 o1.dst v1 (putB b2 o2.dst v2 (putB b4 o4.dst v4 a))) w K Q else K ((putB b1 o1.dst v1 (putB b2 o2.dst v2 (putB b4 o4.dst v4 a))).put o3.dst undef) w)
    (s4 : ∀ b1 b2 b3 v1 v2 v3 v4 w, (D.getD 3 []).all ([b1, b2, b3, false].getD · false) = true → J b1 b2 b3 false v1 v2 v3 v4 w → ∀ K : Act → World → Prop, Shut (∀ v w, J b1 b2 b3 true v1 v2 v3 v w → K ((putB b1 o1.dst v1 (putB b2 o2.dst v2 (putB b3 o3.dst v3 a))).put o4.dst v) w) → if Region.wanted o4 (yielded ops (putB b1 o1.dst v1 (putB b2 o2.dst v2 (putB b3 o3.dst v3 a))).tmps) = true then Oper.wp P o4 (putB b1 o1.dst v1 (putB b2 o2.dst v2 (putB b3 o3.dst v3 a))) w K Q else K ((putB b1 o1.dst v1 (putB b2 o2.dst v2 (putB b3 o3.dst v3 a))).put o4.dst undef) w)
    (hend : ∀ v1 v2 v3 v4 w, J true true true true  v1 v2 v3 v4 w → Q .normal (putB true o1.dst v1 (putB true o2.dst v2 (putB true o3.dst v3 (putB true o4.dst v4 a)))) w) : wpAnyH P md ops Q S fuel listed a w := by
  try simp only [Bool.and_eq_true] at hap
  obtain ⟨⟨⟨⟨⟨a1_2, a1_3⟩, a1_4⟩, a2_3⟩, a2_4⟩, a3_4⟩ := hap
  refine wpAnyH_sep4 i1 i2 i3 i4 D (fun b1 b2 b3 b4 a' w => ∃ v1 v2 v3 v4, a' = (putB b1 o1.dst v1 (putB b2 o2.dst v2 (putB b3 o3.dst v3 (putB b4 o4.dst v4 a)))) ∧ J b1 b2 b3 b4 v1 v2 v3 v4 w) hi hb hsz hcov hne hfuel hD (fun b1 b2 b3 b4 a w h => by obtain ⟨v1, v2, v3, v4, _, h⟩ := h; exact hS _ _ _ _  _ _ _ _  w h) ⟨undef, undef, undef, undef, rfl, h0⟩ ?_ ?_ ?_ ?_  ?_
  · rintro b2 b3 b4 a' w hd ⟨v1, v2, v3, v4, rfl, hJ⟩ K hK
    refine s1 b2 b3 b4 v1 v2 v3 v4 w hd hJ K (fun v w' hJ' => hK.out _ _ ⟨v, v2, v3, v4, ?_, hJ'⟩)
    rfl
  · rintro b1 b3 b4 a' w hd ⟨v1, v2, v3, v4, rfl, hJ⟩ K hK
    refine s2 b1 b3 b4 v1 v2 v3 v4 w hd hJ K (fun v w' hJ' => hK.out _ _ ⟨v1, v, v3, v4, ?_, hJ'⟩)
    rw [putB_apart a1_2]; rfl
  · rintro b1 b2 b4 a' w hd ⟨v1, v2, v3, v4, rfl, hJ⟩ K hK
    refine s3 b1 b2 b4 v1 v2 v3 v4 w hd hJ K (fun v w' hJ' => hK.out _ _ ⟨v1, v2, v, v4, ?_, hJ'⟩)
    rw [putB_apart a1_3, putB_apart a2_3]; rfl
  · rintro b1 b2 b3 a' w hd ⟨v1, v2, v3, v4, rfl, hJ⟩ K hK
    refine s4 b1 b2 b3 v1 v2 v3 v4 w hd hJ K (fun v w' hJ' => hK.out _ _ ⟨v1, v2, v3, v, ?_, hJ'⟩)
    rw [putB_apart a1_4, putB_apart a2_4, putB_apart a3_4]; rfl
  · rintro a' w ⟨v1, v2, v3, v4, rfl, hJ⟩
    exact hend v1 v2 v3 v4 w hJ
theorem wpAnyH_put5 {fuel : Nat} {listed : Array Bool} {a : Act} {w : World} (i1 i2 i3 i4 i5 : Nat) {o1 o2 o3 o4 o5 : Oper} (D : List (List Nat)) (J : Bool → Bool → Bool → Bool → Bool → Value → Value → Value → Value → Value → World → Prop)
    (hi : ops[i1]? = some o1 ∧ ops[i2]? = some o2 ∧ ops[i3]? = some o3 ∧ ops[i4]? = some o4 ∧ ops[i5]? = some o5) (hb : backB md ops = true) (hsz : listed.size = ops.size)
    (hcov : ((List.range ops.size).all fun i => [i1, i2, i3, i4, i5].contains i == !listed.getD i true) = true) (hne : ([i1, i2, i3, i4, i5] : List Nat).Nodup) (hfuel : openN listed ≤ fuel)
    (hD : ((List.range 5).all fun j => (D.getD j []).all fun d => waitsB md ops ([i1, i2, i3, i4, i5].getD j 0) ([i1, i2, i3, i4, i5].getD d 0) && decide (d < 5)) = true)
    (hap : (dstsApart o1.dst o2.dst && dstsApart o1.dst o3.dst && dstsApart o1.dst o4.dst && dstsApart o1.dst o5.dst && dstsApart o2.dst o3.dst && dstsApart o2.dst o4.dst && dstsApart o2.dst o5.dst && dstsApart o3.dst o4.dst && dstsApart o3.dst o5.dst && dstsApart o4.dst o5.dst) = true)
    (hS : ∀ b1 b2 b3 b4 b5 v1 v2 v3 v4 v5 w, J b1 b2 b3 b4 b5 v1 v2 v3 v4 v5 w → S w) (h0 : J false false false false false  undef undef undef undef undef  w)
    (s1 : ∀ b2 b3 b4 b5 v1 v2 v3 v4 v5 w, (D.getD 0 []).all ([false, b2, b3, b4, b5].getD · false) = true → J false b2 b3 b4 b5 v1 v2 v3 v4 v5 w → ∀ K : Act → World → Prop, Shut (∀ v w, J true b2 b3 b4 b5 v v2 v3 v4 v5 w → K ((putB b2 o2.dst v2 (putB b3 o3.dst v3 (putB b4 o4.dst v4 (putB b5 o5.dst v5 a)))).put o1.dst v) w) → if Region.wanted o1 (yielded ops (putB b2 o2.dst v2 (putB b3 o3.dst v3 (putB b4 o4.dst v4 (putB b5 o5.dst v5 a)))).tmps) = true then Oper.wp P o1 (putB b2 o2.dst v2 (putB b3 o3.dst v3 (putB b4 o4.dst v4 (putB b5 o5.dst v5 a)))) w K Q else K ((putB b2 o2.dst v2 (putB b3 o3.dst v3 (putB b4 o4.dst v4 (putB b5 o5.dst v5 a)))).put o1.dst undef) w)
    (s2 : ∀ b1 b3 b4 b5 v1 v2 v3 v4 v5 w, (D.getD 1 []).all ([b1, false, b3, b4, b5].getD · false) = true → J b1 false b3 b4 b5 v1 v2 v3 v4 v5 w → ∀ K : Act → World → Prop, Shut (∀ v w, J b1 true b3 b4 b5 v1 v v3 v4 v5 w → K ((putB b1 o1.dst v1 (putB b3 o3.dst v3 (putB b4 o4.dst v4 (putB b5 o5.dst v5 a)))).put o2.dst v) w) → if Region.wanted o2 (yielded ops (putB b1 o1.dst v1 (putB b3 o3.dst v3 (putB b4 o4.dst v4 (putB b5 o5.dst v5 a)))).tmps) = true then Oper.wp P o2 (putB b1 o1.dst v1 (putB b3 o3.dst v3 (putB b4 o4.dst v4 (putB b5 o5.dst v5 a)))) w K Q else K ((putB b1 o1.dst v1 (putB b3 o3.dst v3 (putB b4 o4.dst v4 (putB b5 o5.dst v5 a)))).put o2.dst undef) w)
    (s3 : ∀ b1 b2 b4 b5 v1 v2 v3 v4 v5 w, (D.getD 2 []).all ([b1, b2, false, b4, b5].getD · false) = true → J b1 b2 false b4 b5 v1 v2 v3 v4 v5 w → ∀ K : Act → World → Prop, Shut (∀ v w, J b1 b2 true b4 b5 v1 v2 v v4 v5 w → K ((putB b1 o1.dst v1 (putB b2 o2.dst v2 (putB b4 o4.dst v4 (putB b5 o5.dst v5 a)))).put o3.dst v) w) → if Region.wanted o3 (yielded ops (putB b1 o1.dst v1 (putB b2 o2.dst v2 (putB b4 o4.dst v4 (putB b5 o5.dst v5 a)))).tmps) = true then Oper.wp P o3 (putB b1 o1.dst v1 (putB b2 o2.dst v2 (putB b4 o4.dst v4 (putB b5 o5.dst v5 a)))) w K Q else K ((putB b1 o1.dst v1 (putB b2 o2.dst v2 (putB b4 o4.dst v4 (putB b5 o5.dst v5 a)))).put o3.dst undef) w)
    (s4 : ∀ b1 b2 b3 b5 v1 v2 v3 v4 v5 w, (D.getD 3 []).all ([b1, b2, b3, false, b5].getD · false) = true → J b1 b2 b3 false b5 v1 v2 v3 v4 v5 w → ∀ K : Act → World → Prop, Shut (∀ v w, J b1 b2 b3 true b5 v1 v2 v3 v v5 w → K ((putB b1 o1.dst v1 (putB b2 o2.dst v2 (putB b3 o3.dst v3 (putB b5 o5.dst v5 a)))).put o4.dst v) w) → if Region.wanted o4 (yielded ops (putB b1 o1.dst v1 (putB b2 o2.dst v2 (putB b3 o3.dst v3 (putB b5 o5.dst v5 a)))).tmps) = true then Oper.wp P o4 (putB b1 o1.dst v1 (putB b2 o2.dst v2 (putB b3 o3.dst v3 (putB b5 o5.dst v5 a)))) w K Q else K ((putB b1 o1.dst v1 (putB b2 o2.dst v2 (putB b3 o3.dst v3 (putB b5 o5.dst v5 a)))).put o4.dst undef) w)
    (s5 : ∀ b1 b2 b3 b4 v1 v2 v3 v4 v5 w, (D.getD 4 []).all ([b1, b2, b3, b4, false].getD · false) = true → J b1 b2 b3 b4 false v1 v2 v3 v4 v5 w → ∀ K : Act → World → Prop, Shut (∀ v w, J b1 b2 b3 b4 true v1 v2 v3 v4 v w → K ((putB b1 o1.dst v1 (putB b2 o2.dst v2 (putB b3 o3.dst v3 (putB b4 o4.dst v4 a)))).put o5.dst v) w) → if Region.wanted o5 (yielded ops (putB b1 o1.dst v1 (putB b2 o2.dst v2 (putB b3 o3.dst v3 (putB b4 o4.dst v4 a)))).tmps) = true then Oper.wp P o5 (putB b1 o1.dst v1 (putB b2 o2.dst v2 (putB b3 o3.dst v3 (putB b4 o4.dst v4 a)))) w K Q else K ((putB b1 o1.dst v1 (putB b2 o2.dst v2 (putB b3 o3.dst v3 (putB b4 o4.dst v4 a)))).put o5.dst undef) w)
    (hend : ∀ v1 v2 v3 v4 v5 w, J true true true true true  v1 v2 v3 v4 v5 w → Q .normal (putB true o1.dst v1 (putB true o2.dst v2 (putB true o3.dst v3 (putB true o4.dst v4 (putB true o5.dst v5 a))))) w) : wpAnyH P md ops Q S fuel listed a w := by
  try simp only [Bool.and_eq_true] at hap
  obtain ⟨⟨⟨⟨⟨⟨⟨⟨⟨a1_2, a1_3⟩, a1_4⟩, a1_5⟩, a2_3⟩, a2_4⟩, a2_5⟩, a3_4⟩, a3_5⟩, a4_5⟩ := hap
  refine wpAnyH_sep5 i1 i2 i3 i4 i5 D (fun b1 b2 b3 b4 b5 a' w => ∃ v1 v2 v3 v4 v5, a' = (putB b1 o1.dst v1 (putB b2 o2.dst v2 (putB b3 o3.dst v3 (putB b4 o4.dst v4 (putB b5 o5.dst v5 a))))) ∧ J b1 b2 b3 b4 b5 v1 v2 v3 v4 v5 w) hi hb hsz hcov hne hfuel hD (fun b1 b2 b3 b4 b5 a w h => by obtain ⟨v1, v2, v3, v4, v5, _, h⟩ := h; exact hS _ _ _ _ _  _ _ _ _ _  w h) ⟨undef, undef, undef, undef, undef, rfl, h0⟩ ?_ ?_ ?_ ?_ ?_  ?_
  · rintro b2 b3 b4 b5 a' w hd ⟨v1, v2, v3, v4, v5, rfl, hJ⟩ K hK
    refine s1 b2 b3 b4 b5 v1 v2 v3 v4 v5 w hd hJ K (fun v w' hJ' => hK.out _ _ ⟨v, v2, v3, v4, v5, ?_, hJ'⟩)
    rfl
  · rintro b1 b3 b4 b5 a' w hd ⟨v1, v2, v3, v4, v5, rfl, hJ⟩ K hK
    refine s2 b1 b3 b4 b5 v1 v2 v3 v4 v5 w hd hJ K (fun v w' hJ' => hK.out _ _ ⟨v1, v, v3, v4, v5, ?_, hJ'⟩)
    rw [putB_apart a1_2]; rfl
  · rintro b1 b2 b4 b5 a' w hd ⟨v1, v2, v3, v4, v5, rfl, hJ⟩ K hK
    refine s3 b1 b2 b4 b5 v1 v2 v3 v4 v5 w hd hJ K (fun v w' hJ' => hK.out _ _ ⟨v1, v2, v, v4, v5, ?_, hJ'⟩)
    rw [putB_apart a1_3, putB_apart a2_3]; rfl
  · rintro b1 b2 b3 b5 a' w hd ⟨v1, v2, v3, v4, v5, rfl, hJ⟩ K hK
    refine s4 b1 b2 b3 b5 v1 v2 v3 v4 v5 w hd hJ K (fun v w' hJ' => hK.out _ _ ⟨v1, v2, v3, v, v5, ?_, hJ'⟩)
    rw [putB_apart a1_4, putB_apart a2_4, putB_apart a3_4]; rfl
  · rintro b1 b2 b3 b4 a' w hd ⟨v1, v2, v3, v4, v5, rfl, hJ⟩ K hK
    refine s5 b1 b2 b3 b4 v1 v2 v3 v4 v5 w hd hJ K (fun v w' hJ' => hK.out _ _ ⟨v1, v2, v3, v4, v, ?_, hJ'⟩)
    rw [putB_apart a1_5, putB_apart a2_5, putB_apart a3_5, putB_apart a4_5]; rfl
  · rintro a' w ⟨v1, v2, v3, v4, v5, rfl, hJ⟩
    exact hend v1 v2 v3 v4 v5 w hJ
theorem wpAnyH_put6 {fuel : Nat} {listed : Array Bool} {a : Act} {w : World} (i1 i2 i3 i4 i5 i6 : Nat) {o1 o2 o3 o4 o5 o6 : Oper} (D : List (List Nat)) (J : Bool → Bool → Bool → Bool → Bool → Bool → Value → Value → Value → Value → Value → Value → World → Prop)
    (hi : ops[i1]? = some o1 ∧ ops[i2]? = some o2 ∧ ops[i3]? = some o3 ∧ ops[i4]? = some o4 ∧ ops[i5]? = some o5 ∧ ops[i6]? = some o6) (hb : backB md ops = true) (hsz : listed.size = ops.size)
    (hcov : ((List.range ops.size).all fun i => [i1, i2, i3, i4, i5, i6].contains i == !listed.getD i true) = true) (hne : ([i1, i2, i3, i4, i5, i6] : List Nat).Nodup) (hfuel : openN listed ≤ fuel)
    (hD : ((List.range 6).all fun j => (D.getD j []).all fun d => waitsB md ops ([i1, i2, i3, i4, i5, i6].getD j 0) ([i1, i2, i3, i4, i5, i6].getD d 0) && decide (d < 6)) = true)
    (hap : (dstsApart o1.dst o2.dst && dstsApart o1.dst o3.dst && dstsApart o1.dst o4.dst && dstsApart o1.dst o5.dst && dstsApart o1.dst o6.dst && dstsApart o2.dst o3.dst && dstsApart o2.dst o4.dst && dstsApart o2.dst o5.dst && dstsApart o2.dst o6.dst && dstsApart o3.dst o4.dst && dstsApart o3.dst o5.dst && dstsApart o3.dst o6.dst && dstsApart o4.dst o5.dst && dstsApart o4.dst o6.dst && dstsApart o5.dst o6.dst) = true)
    (hS : ∀ b1 b2 b3 b4 b5 b6 v1 v2 v3 v4 v5 v6 w, J b1 b2 b3 b4 b5 b6 v1 v2 v3 v4 v5 v6 w → S w) (h0 : J false false false false false false  undef undef undef undef undef undef  w)
    (s1 : ∀ b2 b3 b4 b5 b6 v1 v2 v3 v4 v5 v6 w, (D.getD 0 []).all ([false, b2, b3, b4, b5, b6].getD · false) = true → J false b2 b3 b4 b5 b6 v1 v2 v3 v4 v5 v6 w → ∀ K : Act → World → Prop, Shut (∀ v w, J true b2 b3 b4 b5 b6 v v2 v3 v4 v5 v6 w → K ((putB b2 o2.dst v2 (putB b3 o3.dst v3 (putB b4 o4.dst v4 (putB b5 o5.dst v5 (putB b6 o6.dst v6 a))))).put o1.dst v) w) → if Region.wanted o1 (yielded ops (putB b2 o2.dst v2 (putB b3 o3.dst v3 (putB b4 o4.dst v4 (putB b5 o5.dst v5 (putB b6 o6.dst v6 a))))).tmps) = true then Oper.wp P o1 (putB b2 o2.dst v2 (putB b3 o3.dst v3 (putB b4 o4.dst v4 (putB b5 o5.dst v5 (putB b6 o6.dst v6 a))))) w K Q else K ((putB b2 o2.dst v2 (putB b3 o3.dst v3 (putB b4 o4.dst v4 (putB b5 o5.dst v5 (putB b6 o6.dst v6 a))))).put o1.dst undef) w)
    (s2 : ∀ b1 b3 b4 b5 b6 v1 v2 v3 v4 v5 v6 w, (D.getD 1 []).all ([b1, false, b3, b4, b5, b6].getD · false) = true → J b1 false b3 b4 b5 b6 v1 v2 v3 v4 v5 v6 w → ∀ K : Act → World → Prop, Shut (∀ v w, J b1 true b3 b4 b5 b6 v1 v v3 v4 v5 v6 w → K ((putB b1 o1.dst v1 (putB b3 o3.dst v3 (putB b4 o4.dst v4 (putB b5 o5.dst v5 (putB b6 o6.dst v6 a))))).put o2.dst v) w) → if Region.wanted o2 (yielded ops (putB b1 o1.dst v1 (putB b3 o3.dst v3 (putB b4 o4.dst v4 (putB b5 o5.dst v5 (putB b6 o6.dst v6 a))))).tmps) = true then Oper.wp P o2 (putB b1 o1.dst v1 (putB b3 o3.dst v3 (putB b4 o4.dst v4 (putB b5 o5.dst v5 (putB b6 o6.dst v6 a))))) w K Q else K ((putB b1 o1.dst v1 (putB b3 o3.dst v3 (putB b4 o4.dst v4 (putB b5 o5.dst v5 (putB b6 o6.dst v6 a))))).put o2.dst undef) w)
    (s3 : ∀ b1 b2 b4 b5 b6 v1 v2 v3 v4 v5 v6 w, (D.getD 2 []).all ([b1, b2, false, b4, b5, b6].getD · false) = true → J b1 b2 false b4 b5 b6 v1 v2 v3 v4 v5 v6 w → ∀ K : Act → World → Prop, Shut (∀ v w, J b1 b2 true b4 b5 b6 v1 v2 v v4 v5 v6 w → K ((putB b1 o1.dst v1 (putB b2 o2.dst v2 (putB b4 o4.dst v4 (putB b5 o5.dst v5 (putB b6 o6.dst v6 a))))).put o3.dst v) w) → if Region.wanted o3 (yielded ops (putB b1 o1.dst v1 (putB b2 o2.dst v2 (putB b4 o4.dst v4 (putB b5 o5.dst v5 (putB b6 o6.dst v6 a))))).tmps) = true then Oper.wp P o3 (putB b1 o1.dst v1 (putB b2 o2.dst v2 (putB b4 o4.dst v4 (putB b5 o5.dst v5 (putB b6 o6.dst v6 a))))) w K Q else K ((putB b1 o1.dst v1 (putB b2 o2.dst v2 (putB b4 o4.dst v4 (putB b5 o5.dst v5 (putB b6 o6.dst v6 a))))).put o3.dst undef) w)
    (s4 : ∀ b1 b2 b3 b5 b6 v1 v2 v3 v4 v5 v6 w, (D.getD 3 []).all ([b1, b2, b3, false, b5, b6].getD · false) = true → J b1 b2 b3 false b5 b6 v1 v2 v3 v4 v5 v6 w → ∀ K : Act → World → Prop, Shut (∀ v w, J b1 b2 b3 true b5 b6 v1 v2 v3 v v5 v6 w → K ((putB b1 o1.dst v1 (putB b2 o2.dst v2 (putB b3 o3.dst v3 (putB b5 o5.dst v5 (putB b6 o6.dst v6 a))))).put o4.dst v) w) → if Region.wanted o4 (yielded ops (putB b1 o1.dst v1 (putB b2 o2.dst v2 (putB b3 o3.dst v3 (putB b5 o5.dst v5 (putB b6 o6.dst v6 a))))).tmps) = true then Oper.wp P o4 (putB b1 o1.dst v1 (putB b2 o2.dst v2 (putB b3 o3.dst v3 (putB b5 o5.dst v5 (putB b6 o6.dst v6 a))))) w K Q else K ((putB b1 o1.dst v1 (putB b2 o2.dst v2 (putB b3 o3.dst v3 (putB b5 o5.dst v5 (putB b6 o6.dst v6 a))))).put o4.dst undef) w)
    (s5 : ∀ b1 b2 b3 b4 b6 v1 v2 v3 v4 v5 v6 w, (D.getD 4 []).all ([b1, b2, b3, b4, false, b6].getD · false) = true → J b1 b2 b3 b4 false b6 v1 v2 v3 v4 v5 v6 w → ∀ K : Act → World → Prop, Shut (∀ v w, J b1 b2 b3 b4 true b6 v1 v2 v3 v4 v v6 w → K ((putB b1 o1.dst v1 (putB b2 o2.dst v2 (putB b3 o3.dst v3 (putB b4 o4.dst v4 (putB b6 o6.dst v6 a))))).put o5.dst v) w) → if Region.wanted o5 (yielded ops (putB b1 o1.dst v1 (putB b2 o2.dst v2 (putB b3 o3.dst v3 (putB b4 o4.dst v4 (putB b6 o6.dst v6 a))))).tmps) = true then Oper.wp P o5 (putB b1 o1.dst v1 (putB b2 o2.dst v2 (putB b3 o3.dst v3 (putB b4 o4.dst v4 (putB b6 o6.dst v6 a))))) w K Q else K ((putB b1 o1.dst v1 (putB b2 o2.dst v2 (putB b3 o3.dst v3 (putB b4 o4.dst v4 (putB b6 o6.dst v6 a))))).put o5.dst undef) w)
    (s6 : ∀ b1 b2 b3 b4 b5 v1 v2 v3 v4 v5 v6 w, (D.getD 5 []).all ([b1, b2, b3, b4, b5, false].getD · false) = true → J b1 b2 b3 b4 b5 false v1 v2 v3 v4 v5 v6 w → ∀ K : Act → World → Prop, Shut (∀ v w, J b1 b2 b3 b4 b5 true v1 v2 v3 v4 v5 v w → K ((putB b1 o1.dst v1 (putB b2 o2.dst v2 (putB b3 o3.dst v3 (putB b4 o4.dst v4 (putB b5 o5.dst v5 a))))).put o6.dst v) w) → if Region.wanted o6 (yielded ops (putB b1 o1.dst v1 (putB b2 o2.dst v2 (putB b3 o3.dst v3 (putB b4 o4.dst v4 (putB b5 o5.dst v5 a))))).tmps) = true then Oper.wp P o6 (putB b1 o1.dst v1 (putB b2 o2.dst v2 (putB b3 o3.dst v3 (putB b4 o4.dst v4 (putB b5 o5.dst v5 a))))) w K Q else K ((putB b1 o1.dst v1 (putB b2 o2.dst v2 (putB b3 o3.dst v3 (putB b4 o4.dst v4 (putB b5 o5.dst v5 a))))).put o6.dst undef) w)
    (hend : ∀ v1 v2 v3 v4 v5 v6 w, J true true true true true true  v1 v2 v3 v4 v5 v6 w → Q .normal (putB true o1.dst v1 (putB true o2.dst v2 (putB true o3.dst v3 (putB true o4.dst v4 (putB true o5.dst v5 (putB true o6.dst v6 a)))))) w) : wpAnyH P md ops Q S fuel listed a w := by
  try simp only [Bool.and_eq_true] at hap
  obtain ⟨⟨⟨⟨⟨⟨⟨⟨⟨⟨⟨⟨⟨⟨a1_2, a1_3⟩, a1_4⟩, a1_5⟩, a1_6⟩, a2_3⟩, a2_4⟩, a2_5⟩, a2_6⟩, a3_4⟩, a3_5⟩, a3_6⟩, a4_5⟩, a4_6⟩, a5_6⟩ := hap
  refine wpAnyH_sep6 i1 i2 i3 i4 i5 i6 D (fun b1 b2 b3 b4 b5 b6 a' w => ∃ v1 v2 v3 v4 v5 v6, a' = (putB b1 o1.dst v1 (putB b2 o2.dst v2 (putB b3 o3.dst v3 (putB b4 o4.dst v4 (putB b5 o5.dst v5 (putB b6 o6.dst v6 a)))))) ∧ J b1 b2 b3 b4 b5 b6 v1 v2 v3 v4 v5 v6 w) hi hb hsz hcov hne hfuel hD (fun b1 b2 b3 b4 b5 b6 a w h => by obtain ⟨v1, v2, v3, v4, v5, v6, _, h⟩ := h; exact hS _ _ _ _ _ _  _ _ _ _ _ _  w h) ⟨undef, undef, undef, undef, undef, undef, rfl, h0⟩ ?_ ?_ ?_ ?_ ?_ ?_  ?_
  · rintro b2 b3 b4 b5 b6 a' w hd ⟨v1, v2, v3, v4, v5, v6, rfl, hJ⟩ K hK
    refine s1 b2 b3 b4 b5 b6 v1 v2 v3 v4 v5 v6 w hd hJ K (fun v w' hJ' => hK.out _ _ ⟨v, v2, v3, v4, v5, v6, ?_, hJ'⟩)
    rfl
  · rintro b1 b3 b4 b5 b6 a' w hd ⟨v1, v2, v3, v4, v5, v6, rfl, hJ⟩ K hK
    refine s2 b1 b3 b4 b5 b6 v1 v2 v3 v4 v5 v6 w hd hJ K (fun v w' hJ' => hK.out _ _ ⟨v1, v, v3, v4, v5, v6, ?_, hJ'⟩)
    rw [putB_apart a1_2]; rfl
  · rintro b1 b2 b4 b5 b6 a' w hd ⟨v1, v2, v3, v4, v5, v6, rfl, hJ⟩ K hK
    refine s3 b1 b2 b4 b5 b6 v1 v2 v3 v4 v5 v6 w hd hJ K (fun v w' hJ' => hK.out _ _ ⟨v1, v2, v, v4, v5, v6, ?_, hJ'⟩)
    rw [putB_apart a1_3, putB_apart a2_3]; rfl
  · rintro b1 b2 b3 b5 b6 a' w hd ⟨v1, v2, v3, v4, v5, v6, rfl, hJ⟩ K hK
    refine s4 b1 b2 b3 b5 b6 v1 v2 v3 v4 v5 v6 w hd hJ K (fun v w' hJ' => hK.out _ _ ⟨v1, v2, v3, v, v5, v6, ?_, hJ'⟩)
    rw [putB_apart a1_4, putB_apart a2_4, putB_apart a3_4]; rfl
  · rintro b1 b2 b3 b4 b6 a' w hd ⟨v1, v2, v3, v4, v5, v6, rfl, hJ⟩ K hK
    refine s5 b1 b2 b3 b4 b6 v1 v2 v3 v4 v5 v6 w hd hJ K (fun v w' hJ' => hK.out _ _ ⟨v1, v2, v3, v4, v, v6, ?_, hJ'⟩)
    rw [putB_apart a1_5, putB_apart a2_5, putB_apart a3_5, putB_apart a4_5]; rfl
  · rintro b1 b2 b3 b4 b5 a' w hd ⟨v1, v2, v3, v4, v5, v6, rfl, hJ⟩ K hK
    refine s6 b1 b2 b3 b4 b5 v1 v2 v3 v4 v5 v6 w hd hJ K (fun v w' hJ' => hK.out _ _ ⟨v1, v2, v3, v4, v5, v, ?_, hJ'⟩)
    rw [putB_apart a1_6, putB_apart a2_6, putB_apart a3_6, putB_apart a4_6, putB_apart a5_6]; rfl
  · rintro a' w ⟨v1, v2, v3, v4, v5, v6, rfl, hJ⟩
    exact hend v1 v2 v3 v4 v5 v6 w hJ
end
end Go.Hs
set_option linter.unusedSimpArgs false
set_option linter.unusedVariables false
set_option maxHeartbeats 2000000
set_option maxRecDepth 100000
namespace Go.Proofs.Ytjicjadibaomkaa
open Go.RowKit Go.Hs Go.Dg

/-- A slice of texts, which is only read. -/
def Strs (h : Array Obj) (v : Value) (ls : List ByteArray) : Prop :=
  ls = [] ∧ (∃ ao cap, v = .slice ao 0 cap) ∨ ∃ b off cap cs t fr, v = .slice (some ⟨b, off, none⟩) ls.length cap ∧ h[b]? = some (.cells cs t fr) ∧ ∀ (k : Nat) s, ls[k]? = some s → cs[off + k]? = some (.string s)
theorem Strs.form {h : Array Obj} {v : Value} {ls : List ByteArray} (s : Strs h v ls) : ∃ ao cap, v = .slice ao ls.length cap := by
  rcases s with ⟨rfl, ao, cap, rfl⟩ | ⟨b, off, cap, cs, t, fr, rfl, _⟩
  · exact ⟨ao, cap, rfl⟩
  · exact ⟨_, _, rfl⟩
theorem Strs.ext {w w' : World} {F : List Nat} {v : Value} {ls : List ByteArray} (s : Strs w.heap v ls) (x : Ext F w w') (hF : ∀ g ∈ F, ∀ cs t fr, w.heap[g]? = some (.cells cs t fr) → ∀ (k : Nat) u, cs[k]? ≠ some (.string u)) : Strs w'.heap v ls := by
  rcases s with h | ⟨b, off, cap, cs, t, fr, rfl, hb, hc⟩
  · exact .inl h
  · by_cases hl : ls = []
    · subst hl; exact .inl ⟨rfl, _, _, rfl⟩
    · refine .inr ⟨b, off, cap, cs, t, fr, rfl, x.same hb fun hm => ?_, hc⟩
      obtain ⟨a, l, rfl⟩ := List.exists_cons_of_ne_nil hl
      exact hF b hm _ _ _ hb _ _ (hc 0 a rfl)
theorem TAt.noStr {w : World} {T M n floor : Nat} {l : List (Pl × ByteArray)} (t : TAt w.heap T M n floor l) : ∀ g ∈ [T, M], ∀ cs ty fr, w.heap[g]? = some (.cells cs ty fr) → ∀ (k : Nat) u, cs[k]? ≠ some (.string u) := by
  intro g hg cs ty fr hb k u
  simp only [List.mem_cons, List.not_mem_nil, or_false] at hg
  rcases hg with rfl | rfl
  · rw [t.cells] at hb
    simp only [Option.some.injEq, Obj.cells.injEq] at hb
    rw [← hb.1]
    match k with
    | 0 => simp
    | 1 => simp
    | 2 => simp
    | k + 3 => simp
  · exact absurd rfl (t.map.ne hb)
theorem and1 (n : Int) : Go.bits .and .i64 n 1 = n % 2 := by
  have h127 : (BitVec.ofInt 64 1).toNat = 2 ^ 1 - 1 := by decide
  have key : (BitVec.ofInt 64 n &&& BitVec.ofInt 64 1).toNat = (n % ((2 ^ 64 : Nat) : Int)).toNat % 2 ^ 1 := by
    rw [BitVec.toNat_and, BitVec.toNat_ofInt, h127, Nat.and_two_pow_sub_one_eq_mod]
  show IntKind.i64.wrap ((BitVec.ofInt 64 n &&& BitVec.ofInt 64 1).toNat : Nat) = n % 2
  rw [key, IntKind.wrap_i64]
  omega
theorem zeroSumV (w : World) : (zeroValue 35).run Try.prog w = .ok (.agg (bytesL fun _ => 0)) w := by rw [← zeroLit]; kernel_rfl
def indexAt (w : World) (P : Nat) : Nat := match w.cell? ⟨P, 1, none⟩ with
  | some (.int _ z) => z.toNat
  | _ => 0
theorem append_any {w : World} {T M n floor : Nat} {L : List ByteArray} {l : List (Pl × ByteArray)} (t : TAt w.heap T M n floor l) (hI : Hid (TInv L n floor l ∧ n = L.length ∧ floor ≤ n)) {v : Value} {ls : List ByteArray} (hs : Strs w.heap v ls)
    (hsz : Hid (∀ s ∈ ls, s.size ≤ 1000)) (hn : n + ls.length ≤ 2 ^ 30) : Calls Try.prog 8 #[.pointer (some ⟨T, 0, none⟩), v] w fun e w' =>
    e = .returned (.tuple #[]) ∧ (∃ l', TAt w'.heap T M (n + ls.length) floor l' ∧ Hid (TInv (L ++ ls) (n + ls.length) floor l')) ∧ Ext [T, M] w w' := by
  obtain ⟨ao, cap, rfl⟩ := hs.form
  have hlen : (ls.length : Int) ≤ 1073741824 := by omega
  have hn30 : n ≤ 1073741824 := by omega
  have HN := Hs.hid hn
  clear hn
  have HS := Hs.hid hs
  clear hs
  have HT := Hs.hid t
  clear t
  go_enter Try.func8, Try.ntmps8
  go_wp2_with fail
  go_loopw [10] (fun ti wr => ∃ k : Nat, ti = .int .i64 k ∧ k ≤ ls.length ∧ Hid (∃ l', TAt wr.heap T M (n + k) floor l' ∧ TInv (L ++ ls.take k) (n + k) floor l') ∧ Ext [T, M] w wr) (fun ti _ => ls.length - (intOf ti).toNat)
  case atStart => exact ⟨0, rfl, by omega, Hs.hid ⟨l, HT.out, by simpa using hI.out.1⟩, Ext.refl _ _⟩
  case round =>
    obtain ⟨k, rfl, hk, HK, hE⟩ := hrel
    by_cases hlt : k < ls.length
    · obtain ⟨l', t', hI'⟩ := HK.out
      obtain ⟨s, hsk⟩ : ∃ s, ls[k]? = some s := ⟨_, List.getElem?_eq_getElem hlt⟩
      have hstr := HS.out.ext hE (HT.out.noStr)
      rcases hstr with ⟨h0, _⟩ | ⟨b, off, cap', cs, ty, fr, hv, hb, hc⟩
      · subst h0; simp at hlt
      · obtain ⟨rfl, rfl⟩ : ao = some ⟨b, off, none⟩ ∧ cap = cap' := by simpa using hv
        have hcell : wr.cell? ⟨b, off + k, none⟩ = some (.string s) := by rw [cellAt hb]; exact hc k s hsk
        clear hv hc hb
        obtain ⟨c0, c1, c2⟩ := t'.get
        have HI' := Hs.hid (And.intro t' (And.intro hI' hsk))
        clear t' hI' hsk
        have hz : wr.heap.size = wr.heap.size := rfl
        clear hz
        go_upto_region 3 with fail
        have hssz : s.size ≤ 99999999 := by
          have := hsz.out s (List.mem_of_getElem? HI'.out.2.2); omega
        have HSS := Hs.hid hssz
        clear hssz
        go_cut [6, 7] (fun s6 s7 wx => ∃ P X, s6 = .pointer (some ⟨P, 0, none⟩) ∧ s7 = .pointer (some ⟨X, 0, none⟩) ∧ wx.heap[P]? = some (.cells #[.int .i64 0, .int .i64 (n + k : Nat)] 63 (0, 0)) ∧ wx.heap[X]? = some (.cells (digV (leafT s)) 35 (0, 0)) ∧ Ext [] wr wx ∧ wr.heap.size ≤ P ∧ wr.heap.size ≤ X)
        case first =>
          refine wp_region_noPanic ?_
          refine wp_region_held_drew (S := (fun w' => w'.cell? ⟨T, 1, none⟩ = some (.int .i64 (n + k : Nat)))) (by kernel_rfl) ?_ (fun hHeld => ?_)
          · ((try dsimp only); exact c1)
          refine wpAnyH_take (i := 0) (v := ?_) rfl (by kernel_rfl) (by kernel_rfl) (by kernel_rfl) (fun _ _ _ h => h) (Or.inl ⟨by rfl, ?_⟩) (by assumption) ?_
          rotate_left
          · (intro w hSw; (try dsimp only at hSw); first | (go_simp; done) | (go_simp; with_reducible rfl))
          try simp only [Act.put, List.getElem_toArray, List.getElem_cons_succ, List.getElem_cons_zero, List.setIfInBounds_toArray, List.set_cons_zero, List.set_cons_succ]
          refine wpAnyH_take (i := 1) (v := ?_) rfl (by kernel_rfl) (by kernel_rfl) (by kernel_rfl) (fun _ _ _ h => h) (Or.inl ⟨by rfl, ?_⟩) (by assumption) ?_
          rotate_left
          · (intro w hSw; (try dsimp only at hSw); first | (go_simp; done) | (go_simp; with_reducible rfl))
          try simp only [Act.put, List.getElem_toArray, List.getElem_cons_succ, List.getElem_cons_zero, List.setIfInBounds_toArray, List.set_cons_zero, List.set_cons_succ]
          refine wpAnyH_take (i := 2) (v := ?_) rfl (by kernel_rfl) (by kernel_rfl) (by kernel_rfl) (fun _ _ _ h => h) (Or.inl ⟨by rfl, ?_⟩) (by assumption) ?_
          rotate_left
          · (intro w hSw; (try dsimp only at hSw); first | (go_simp; done) | (go_simp; with_reducible rfl))
          try simp only [Act.put, List.getElem_toArray, List.getElem_cons_succ, List.getElem_cons_zero, List.setIfInBounds_toArray, List.set_cons_zero, List.set_cons_succ]
          refine wpAnyH_take (i := 3) (v := ?_) rfl (by kernel_rfl) (by kernel_rfl) (by kernel_rfl) (fun _ _ _ h => h) (Or.inl ⟨by rfl, ?_⟩) (by assumption) ?_
          rotate_left
          · (intro w hSw; (try dsimp only at hSw); first | (go_simp; done) | (go_simp; with_reducible rfl))
          try simp only [Act.put, List.getElem_toArray, List.getElem_cons_succ, List.getElem_cons_zero, List.setIfInBounds_toArray, List.set_cons_zero, List.set_cons_succ]
          refine wpAnyH_take (i := 4) (v := ?_) rfl (by kernel_rfl) (by kernel_rfl) (by kernel_rfl) (fun _ _ _ h => h) (Or.inl ⟨by rfl, ?_⟩) (by assumption) ?_
          rotate_left
          · (intro w hSw; (try dsimp only at hSw); first | (go_simp; done) | (go_simp; with_reducible rfl))
          try simp only [Act.put, List.getElem_toArray, List.getElem_cons_succ, List.getElem_cons_zero, List.setIfInBounds_toArray, List.set_cons_zero, List.set_cons_succ]
          refine wpAnyH_take (i := 5) (v := ?_) rfl (by kernel_rfl) (by kernel_rfl) (by kernel_rfl) (fun _ _ _ h => h) (Or.inl ⟨by rfl, ?_⟩) (by assumption) ?_
          rotate_left
          · (intro w hSw; (try dsimp only at hSw); first | (go_simp; done) | (go_simp; with_reducible rfl))
          try simp only [Act.put, List.getElem_toArray, List.getElem_cons_succ, List.getElem_cons_zero, List.setIfInBounds_toArray, List.set_cons_zero, List.set_cons_succ]
          refine wpAnyH_put5 6 7 8 9 10 [[], [], [], [1, 0], [2, 0, 3]] (fun b1 b2 b3 b4 b5 v1 v2 v3 v4 v5 w => Ext [] wr w ∧ Hid (impB b4 b2 ∧ impB b5 b3) ∧ (b1 = true → ∃ cs, v1 = .agg cs ∧ Hid (cs = digV (leafT s))) ∧ (b2 = true → ∃ P, v2 = .pointer (some ⟨P, 0, none⟩) ∧ wr.heap.size ≤ P ∧ Hid (w.heap[P]? = some (.cells (bif b4 then #[.int .i64 0, .int .i64 (n + k : Nat)] else #[.int .i64 0, .int .i64 0]) 63 (0, 0)))) ∧ (b3 = true → ∃ X, v3 = .pointer (some ⟨X, 0, none⟩) ∧ wr.heap.size ≤ X ∧ Hid (w.heap[X]? = some (.cells (bif b5 then digV (leafT s) else bytesL fun _ => 0) 35 (0, 0))))) ⟨rfl, rfl, rfl, rfl, rfl⟩ (by kernel_rfl) (by kernel_rfl) (by kernel_rfl) (by decide) (by decide) (by kernel_rfl) (by rfl) ?_ ?_ ?_ ?_ ?_ ?_ ?_ ?_
          · intro b1 b2 b3 b4 b5 v1 v2 v3 v4 v5 wx hJ
            rw [cellAt (hJ.1.same HI'.out.1.cells (by simp))]; rfl
          · exact ⟨(Ext.refl _ _).drew, Hs.hid ⟨impB_false _, impB_false _⟩, fun h => by simp at h, fun h => by simp at h, fun h => by simp at h⟩
          · intro b2 b3 b4 b5 v1 v2 v3 v4 v5 wx hd hJ K hK
            clear hd
            (try dsimp only at hK ⊢)
            simp only [List.getElem_toArray, List.getElem_cons_succ, List.getElem_cons_zero, putB_some, putB_none, Act.put, List.setIfInBounds_toArray, List.set_cons_zero, List.set_cons_succ, List.getD_cons_zero, List.getD_cons_succ, List.length_cons, List.length_nil, Nat.reduceAdd, Nat.reduceLT, cond_true, cond_false] at hK ⊢
            rw [if_pos (by rfl)]
            obtain ⟨hE1, h0, h1, h2, h3⟩ := hJ
            go_simp
            (go_at_call 23; refine (leaf_any s HSS.out _).mono ?_; rintro e w4 ⟨cs, rfl, hcs, hx4⟩)
            go_wp2_with fail
            refine hK.out _ _ ⟨hE1.trans0 hx4, h0, fun _ => ⟨cs, rfl, hcs⟩, fun hb => ?_, fun hb => ?_⟩
            · obtain ⟨P, hv, hP, hh⟩ := h2 hb; exact ⟨P, hv, hP, Hs.hid (hx4.same hh.out (by simp))⟩
            · obtain ⟨X, hv, hX, hh⟩ := h3 hb; exact ⟨X, hv, hX, Hs.hid (hx4.same hh.out (by simp))⟩
          · intro b1 b3 b4 b5 v1 v2 v3 v4 v5 wx hd hJ K hK
            clear hd
            (try dsimp only at hK ⊢)
            simp only [List.getElem_toArray, List.getElem_cons_succ, List.getElem_cons_zero, putB_some, putB_none, Act.put, List.setIfInBounds_toArray, List.set_cons_zero, List.set_cons_succ, List.getD_cons_zero, List.getD_cons_succ, List.length_cons, List.length_nil, Nat.reduceAdd, Nat.reduceLT, cond_true, cond_false] at hK ⊢
            rw [if_pos (by rfl)]
            obtain ⟨hE1, h0, h1, h2, h3⟩ := hJ
            obtain rfl : b4 = false := by cases b4; rfl; exact absurd (h0.out.1 rfl) (by simp)
            go_simp
            refine hK.out _ _ ⟨hE1.alloc _, Hs.hid ⟨impB_true _, h0.out.2⟩, h1, fun _ => ⟨_, rfl, hE1.size, Hs.hid (heap_new _ _)⟩, fun hb => ?_⟩
            obtain ⟨X, hv, hX, hh⟩ := h3 hb; exact ⟨X, hv, hX, Hs.hid (heap_old' _ _ hh.out)⟩
          · intro b1 b2 b4 b5 v1 v2 v3 v4 v5 wx hd hJ K hK
            clear hd
            (try dsimp only at hK ⊢)
            simp only [List.getElem_toArray, List.getElem_cons_succ, List.getElem_cons_zero, putB_some, putB_none, Act.put, List.setIfInBounds_toArray, List.set_cons_zero, List.set_cons_succ, List.getD_cons_zero, List.getD_cons_succ, List.length_cons, List.length_nil, Nat.reduceAdd, Nat.reduceLT, cond_true, cond_false] at hK ⊢
            rw [if_pos (by rfl)]
            obtain ⟨hE1, h0, h1, h2, h3⟩ := hJ
            obtain rfl : b5 = false := by cases b5; rfl; exact absurd (h0.out.2 rfl) (by simp)
            go_simp
            refine hK.out _ _ ⟨hE1.alloc _, Hs.hid ⟨h0.out.1, impB_true _⟩, h1, fun hb => ?_, fun _ => ⟨_, rfl, hE1.size, Hs.hid (by rw [cond_false]; exact zeroSum _)⟩⟩
            obtain ⟨P, hv, hP, hh⟩ := h2 hb; exact ⟨P, hv, hP, Hs.hid (heap_old' _ _ hh.out)⟩
          · intro b1 b2 b3 b5 v1 v2 v3 v4 v5 wx hd hJ K hK
            simp only [List.getD_cons_zero, List.getD_cons_succ, List.all_cons, List.all_nil, Bool.and_true, Bool.and_eq_true] at hd
            obtain ⟨rfl, rfl⟩ := hd
            (try dsimp only at hK ⊢)
            simp only [List.getElem_toArray, List.getElem_cons_succ, List.getElem_cons_zero, putB_some, putB_none, Act.put, List.setIfInBounds_toArray, List.set_cons_zero, List.set_cons_succ, List.getD_cons_zero, List.getD_cons_succ, List.length_cons, List.length_nil, Nat.reduceAdd, Nat.reduceLT, cond_true, cond_false] at hK ⊢
            rw [if_pos (by rfl)]
            obtain ⟨hE1, h0, h1, h2, h3⟩ := hJ
            obtain ⟨P, rfl, hP, hh⟩ := h2 rfl
            refine wp_store_row 63 _ _ rfl P #[.int .i64 0, .int .i64 (n + k : Nat)] rfl rfl _ _ hh.out (by kernel_rfl) rfl (by simp [Value.oneCell']) ?_
            refine hK.out undef _ ⟨hE1.trans (setRow_ext P _) (fun g hg => .inr (by simp at hg; omega)), Hs.hid ⟨impB_true _, h0.out.2⟩, fun _ => h1 rfl, fun _ => ⟨P, rfl, hP, Hs.hid (setRow_heap _ _ _ _ _ _ hh.out)⟩, fun hb => ?_⟩
            obtain ⟨X, hv, hX, hg⟩ := h3 hb
            exact ⟨X, hv, hX, Hs.hid ((setRow_other _ _ _ _ (ne_block hg.out hh.out (by simp))).trans hg.out)⟩
          · intro b1 b2 b3 b4 v1 v2 v3 v4 v5 wx hd hJ K hK
            simp only [List.getD_cons_zero, List.getD_cons_succ, List.all_cons, List.all_nil, Bool.and_true, Bool.and_eq_true] at hd
            obtain ⟨rfl, rfl, rfl⟩ := hd
            (try dsimp only at hK ⊢)
            simp only [List.getElem_toArray, List.getElem_cons_succ, List.getElem_cons_zero, putB_some, putB_none, Act.put, List.setIfInBounds_toArray, List.set_cons_zero, List.set_cons_succ, List.getD_cons_zero, List.getD_cons_succ, List.length_cons, List.length_nil, Nat.reduceAdd, Nat.reduceLT, cond_true, cond_false] at hK ⊢
            rw [if_pos (by rfl)]
            obtain ⟨hE1, h0, h1, h2, h3⟩ := hJ
            obtain ⟨X, rfl, hX, hg⟩ := h3 rfl
            obtain ⟨cs, rfl, hcs⟩ := h1 rfl
            have hq := hcs.out
            subst hq
            refine wp_store_row 35 _ _ rfl X (digV (leafT s)) rfl rfl _ _ hg.out (by rw [digV_size]; exact infoSum) (by rw [digV_size]; exact bytesL_size _) (digV_one _) ?_
            refine hK.out undef _ ⟨hE1.trans (setRow_ext X _) (fun g hg => .inr (by simp at hg; omega)), Hs.hid ⟨h0.out.1, impB_true _⟩, fun _ => ⟨_, rfl, hcs⟩, fun hb => ?_, fun _ => ⟨X, rfl, hX, Hs.hid (setRow_heap _ _ _ _ _ _ hg.out)⟩⟩
            obtain ⟨P, hv, hP, hh⟩ := h2 hb
            exact ⟨P, hv, hP, Hs.hid ((setRow_other _ _ _ _ (ne_block hh.out hg.out (by simp))).trans hh.out)⟩
          · intro v1 v2 v3 v4 v5 wx hJ
            (try dsimp only)
            simp only [List.getElem_toArray, List.getElem_cons_succ, List.getElem_cons_zero, putB_some, putB_none, Act.put, List.setIfInBounds_toArray, List.set_cons_zero, List.set_cons_succ, List.getD_cons_zero, List.getD_cons_succ, List.length_cons, List.length_nil, Nat.reduceAdd, Nat.reduceLT, cond_true, cond_false]
            refine NoPanic.normal ?_
            obtain ⟨hE1, h0, h1, h2, h3⟩ := hJ
            obtain ⟨P, rfl, hP, hh⟩ := h2 rfl
            obtain ⟨X, rfl, hX, hg⟩ := h3 rfl
            go_wp2
            go_meet
            exact ⟨P, X, rfl, rfl, hh.out, hg.out, hE1, hP, hX⟩
        case rest =>
          obtain ⟨P, X, rfl, rfl, hP, hX, hE1, hP2, hX2⟩ := hcut
          have d0 : wc.cell? ⟨T, 0, none⟩ = some (.map (some M)) := by rw [cellAt (hE1.same HI'.out.1.cells (by simp))]; rfl
          have p0 : wc.cell? ⟨P, 0, none⟩ = some (.int .i64 0) := by rw [cellAt hP]; rfl
          have p1 : wc.cell? ⟨P, 1, none⟩ = some (.int .i64 ((n + k : Nat) : Int)) := by rw [cellAt hP]; rfl
          go_upto_region 4 with fail
          refine wp_region_tail 6 (by kernel_rfl) (by kernel_rfl) ?_
          simp only [List.take_succ_cons, List.take_zero, List.drop_succ_cons, List.drop_zero]
          iterate 5 still_step
          refine wpStill_load_row rfl 35 (.tmp 7) rfl X rfl 35 (digV (leafT s)) (0, 0) _ hX Try.underlying35 rfl (by rw [digV_size]; exact infoSum) ?_
          refine wpStill_nil ?_
          simp only [Act.put, List.setIfInBounds_toArray, List.set_cons_zero, List.set_cons_succ]
          have hmap : MapAt encP encS wc.drew.heap M l' := HI'.out.1.map.ext hE1.drew List.not_mem_nil
          refine wpList_mapUpdate rfl rfl (.tmp 24) (.tmp 25) (.tmp 26) rfl keyOK_place Try.underlying59 rfl hmap (plN 0 (n + k)) rfl (leafT s) rfl ?_
          intro wm hm5 hx5
          have hPM : P ≠ M := hmap.ne hP
          have hXM : X ≠ M := hmap.ne hX
          have hTM : T ≠ M := HI'.out.1.ne
          have hP5 : wm.heap[P]? = _ := hx5.same (w := wc.drew) hP (by simpa using hPM)
          have hX5 : wm.heap[X]? = _ := hx5.same (w := wc.drew) hX (by simpa using hXM)
          have hT5 : wm.heap[T]? = _ := hx5.same (w := wc.drew) (hE1.same HI'.out.1.cells (by simp)) (by simpa using hTM)
          have hE5 : Ext [T, M] wr wm := ((Ext.refl [T, M] wr).trans0 hE1.drew).trans hx5 (fun g hg => .inl (by simp at hg; simp [hg]))
          have HL : Hid (L ++ ls.take (k + 1) = L ++ ls.take k ++ [s]) := Hs.hid (by rw [List.take_add_one, HI'.out.2.2]; simp)
          have HM : Hid (TMid (L ++ ls.take (k + 1)) (n + k) floor 0 (mput l' (plN 0 (n + k)) (leafT s)) ∧ textP (L ++ ls.take (k + 1)) 0 (n + k) = leafT s) := Hs.hid (by
            have hlen : n + k = (L ++ ls.take k).length := by have := hI.out.2.1; simp; omega
            have htx : textP (L ++ ls.take (k + 1)) 0 (n + k) = leafT s := by
              rw [HL.out]; simp only [textP]; rw [hlen]; simp
            refine ⟨?_, htx⟩
            have := TInv.first HI'.out.2.1 hlen HI'.out.1.map.nodup (by have := hI.out.2.2; omega) s
            rw [← HL.out, htx] at this
            exact this)
          clear p0 p1 d0
          go_wp2_with fail
          obtain ⟨wo, rfl⟩ : ∃ wo : World, wo = wr := ⟨_, rfl⟩
          go_loopw [] (fun wq => ∃ (v i : Nat) (l2 : List (Pl × ByteArray)), wq.heap[P]? = some (.cells #[.int .i64 v, .int .i64 i] 63 (0, 0)) ∧ wq.heap[X]? = some (.cells (digV (textP (L ++ ls.take (k + 1)) v i)) 35 (0, 0)) ∧ TAt wq.heap T M (n + k) floor l2 ∧ Hid (TMid (L ++ ls.take (k + 1)) (n + k) floor v l2 ∧ (i + 1) * 2 ^ v = n + k + 1) ∧ Ext [T, M] wo wq) (fun wq => indexAt wq P)
          case atStart => exact ⟨0, n + k, _, hP5, by rw [HM.out.2]; exact hX5, ⟨hT5, hm5⟩, Hs.hid ⟨HM.out.1, by simp⟩, hE5⟩
          case round =>
            clear hP5 hX5 hT5 hE5 hm5 hx5 hmap hP hX
            obtain ⟨v, i, l2, hP, hX, tq, HQ, hEq⟩ := hrel
            have p0 : wr.cell? ⟨P, 0, none⟩ = some (.int .i64 v) := by rw [cellAt hP]; rfl
            have p1 : wr.cell? ⟨P, 1, none⟩ = some (.int .i64 i) := by rw [cellAt hP]; rfl
            have HIX : Hid (indexAt wr P = i) := Hs.hid (by unfold indexAt; rw [cellAt hP]; simp)
            obtain ⟨t0, t1, t2⟩ := tq.get
            have tf1 := freeAt tq.cells 1
            have hib : i + 1 ≤ 2 ^ 40 := by
              have h1 : i + 1 ≤ (i + 1) * 2 ^ v := Nat.le_mul_of_pos_right _ (Nat.two_pow_pos _)
              have h2 := HQ.out.2
              have h3 : (2 : Nat) ^ 40 = 1099511627776 := by decide
              have h4 := HN.out
              have h5 : (2 : Nat) ^ 30 = 1073741824 := by decide
              omega
            have hvb : v ≤ 40 := by
              have h1 : 2 ^ v ≤ (i + 1) * 2 ^ v := Nat.le_mul_of_pos_left _ (by omega)
              have h2 := HQ.out.2
              have h4 := HN.out
              exact (Nat.pow_le_pow_iff_right (a := 2) (by omega)).1 (by
                have h3 : (2 : Nat) ^ 40 = 1099511627776 := by decide
                have h5 : (2 : Nat) ^ 30 = 1073741824 := by decide
                omega)
            have hib2 : (i : Int) ≤ 1099511627776 := by
              have h3 : (2 : Nat) ^ 40 = 1099511627776 := by decide
              omega
            clear hib
            by_cases ho : i % 2 = 1
            · have hb1 : Go.bits .and .i64 (i : Int) 1 = 1 := by rw [and1]; omega
              have hi1 : IntKind.i64.wrap ((i : Int) - 1) = (i : Int) - 1 := IntWalk.i64_in _ (by omega)
              obtain ⟨g1, g2, g3, g4⟩ := HQ.out.1.next tq.map.nodup (by have := hI.out.2.2; omega) ho HQ.out.2
              have hpl : Value.agg #[.int .i64 v, .int .i64 ((i : Int) - 1)] = encP (plN v (i - 1)) := by
                unfold encP plN; rw [show ((i - 1 : Nat) : Int) = (i : Int) - 1 by omega]
              have HPL := Hs.hid hpl
              have HG := Hs.hid (And.intro g1 (And.intro g2 (And.intro g3 g4)))
              clear g1 g2 g3 g4 hpl
              have hho := Hs.hid ho
              clear ho
              go_upto_region 6 with fail
              refine wp_region_tail 12 (by kernel_rfl) (by kernel_rfl) ?_
              simp only [List.take_succ_cons, List.take_zero, List.drop_succ_cons, List.drop_zero]
              iterate 10 still_step
              refine wpStill_lookup rfl (.tmp 34) (.tmp 40) false rfl keyOK_place Try.underlying59 (zeroSumV _) rfl (w := wr.drew) tq.map (plN v (i - 1)) HPL.out (.agg (digV (textP (L ++ ls.take (k + 1)) v (i - 1)))) (by rw [HG.out.1]; rfl) ?_
              simp only [Act.put, List.setIfInBounds_toArray, List.set_cons_zero, List.set_cons_succ]
              refine wpStill_load_row rfl 35 (.tmp 7) rfl X rfl 35 (digV (textP (L ++ ls.take (k + 1)) v i)) (0, 0) _ hX Try.underlying35 rfl (by rw [digV_size]; exact infoSum) ?_
              refine wpStill_nil ?_
              simp only [Act.put, List.setIfInBounds_toArray, List.set_cons_zero, List.set_cons_succ]
              have hP' : wr.drew.heap[P]? = _ := hP
              have hX' : wr.drew.heap[X]? = _ := hX
              have tq' := tq.ext0 (Ext.refl [] wr).drew
              have hEq' := hEq.drew
              clear hP hX tq hEq p0 p1 t0 t1 t2 tf1
              generalize wr.drew = wd at hP' hX' tq' hEq' ⊢
              obtain ⟨tx, htx⟩ : ∃ tx, nodeT (textP (L ++ ls.take (k + 1)) v (i - 1)) (textP (L ++ ls.take (k + 1)) v i) = tx := ⟨_, rfl⟩
              have HTX := Hs.hid htx
              clear htx
              have hw1 : IntKind.i64.wrap ((v : Int) + 1) = (v : Int) + 1 := IntWalk.i64_in _ (by omega)
              go_wp2_with (first
                | (go_at_call 24; refine (dignode_any (textP (L ++ ls.take (k + 1)) v (i - 1)) (textP (L ++ ls.take (k + 1)) v i) _).mono ?_; rintro e w7 ⟨cs, rfl, hcs, hx7⟩; rw [HTX.out] at hcs; have hcs' := hcs.out; subst hcs'; have hP7 := hx7.same hP' (by simp); have hX7 := hx7.same hX' (by simp); have tq7 := tq'.ext0 hx7; have hE7 := hEq'.trans0 hx7; clear hP' hX' tq' hEq' hcs)
                | (refine wpList_store_row rfl 35 (.tmp 7) (.tmp 43) rfl X (digV tx) rfl rfl _ _ hX7 (by rw [digV_size]; exact infoSum) (by rw [digV_size, digV_size]) (digV_one _) ?_; have hX8 := setRow_heap _ _ _ (digV tx) _ _ hX7; have hxs := setRow_ext (w := w7) X (digV tx); have hP8 := hxs.same hP7 (by simpa using ne_block hP7 hX7 (by simp)); have tq8 := tq7.ext hxs (by simpa using ne_block tq7.cells hX7 (by simp)) (by simpa using (tq7.map.ne hX7).symm); have hE8 := hE7.trans hxs (fun g hg => .inr (by simp at hg; subst hg; exact hX2)); clear hX7 hP7 tq7 hE7 hxs; generalize w7.setRow X (digV tx) = w8 at hX8 hP8 tq8 hE8 ⊢; have p0 := (show w8.cell? ⟨P, 0, none⟩ = some (.int .i64 v) by rw [cellAt hP8]; rfl); have p1 := (show w8.cell? ⟨P, 1, none⟩ = some (.int .i64 i) by rw [cellAt hP8]; rfl))
                | (refine wpList_store_row rfl 63 (.tmp 6) (.tmp 50) rfl P #[.int .i64 ((v : Int) + 1), .int .i64 ((i : Int) / 2)] rfl rfl _ _ hP8 (by kernel_rfl) rfl (by simp [Value.oneCell']) ?_; have hP9 := setRow_heap _ _ _ #[.int .i64 ((v : Int) + 1), .int .i64 ((i : Int) / 2)] _ _ hP8; have hxs := setRow_ext (w := w8) P #[.int .i64 ((v : Int) + 1), .int .i64 ((i : Int) / 2)]; have hX9 := hxs.same hX8 (by simpa using ne_block hX8 hP8 (by simp)); have tq9 := tq8.ext hxs (by simpa using ne_block tq8.cells hP8 (by simp)) (by simpa using (tq8.map.ne hP8).symm); have hE9 := hE8.trans hxs (fun g hg => .inr (by simp at hg; subst hg; exact hP2)); clear hX8 hP8 tq8 hE8 hxs p0 p1; generalize w8.setRow P _ = w9 at hX9 hP9 tq9 hE9 ⊢))
              have p0 : w9.cell? ⟨P, 0, none⟩ = some (.int .i64 ((v : Int) + 1)) := by rw [cellAt hP9]; rfl
              have p1 : w9.cell? ⟨P, 1, none⟩ = some (.int .i64 ((i : Int) / 2)) := by rw [cellAt hP9]; rfl
              obtain ⟨t0, t1, t2⟩ := tq9.get
              clear t1 t2
              go_upto_region 8 with fail
              refine wp_region_tail 6 (by kernel_rfl) (by kernel_rfl) ?_
              simp only [List.take_succ_cons, List.take_zero, List.drop_succ_cons, List.drop_zero]
              iterate 5 still_step
              refine wpStill_load_row rfl 35 (.tmp 7) rfl X rfl 35 (digV tx) (0, 0) _ hX9 Try.underlying35 rfl (by rw [digV_size]; exact infoSum) ?_
              refine wpStill_nil ?_
              simp only [Act.put, List.setIfInBounds_toArray, List.set_cons_zero, List.set_cons_succ]
              refine wpList_mapUpdate (w := w9.drew) rfl rfl (.tmp 54) (.tmp 55) (.tmp 56) rfl keyOK_place Try.underlying59 rfl tq9.map (plN (v + 1) (i / 2)) (by simp [encP, plN, Act.eval]) tx rfl ?_
              intro wn hm6 hx6
              go_wp2_with fail
              go_round
              case rel =>
                have hgt : tx = textP (L ++ ls.take (k + 1)) (v + 1) (i / 2) := by rw [← HTX.out]; exact HG.out.2.1
                refine ⟨v + 1, i / 2, mput l2 (plN (v + 1) (i / 2)) tx, ?_, ?_, ⟨?_, hm6⟩, Hs.hid ⟨by rw [hgt]; exact HG.out.2.2.2, HG.out.2.2.1⟩, ?_⟩
                · rw [hx6.same (w := w9.drew) hP9 (by simpa using tq9.map.ne hP9)]; simp
                · rw [hx6.same (w := w9.drew) hX9 (by simpa using tq9.map.ne hX9), hgt]
                · exact hx6.same (w := w9.drew) tq9.cells (by simpa using hTM)
                · exact hE9.drew.trans hx6 (fun g hg => .inl (by simp at hg; simp [hg]))
              case measure =>
                have h1 : wn.heap[P]? = _ := hx6.same (w := w9.drew) hP9 (by simpa using tq9.map.ne hP9)
                have h2 : indexAt wn P = i / 2 := by
                  unfold indexAt; rw [cellAt h1]; simp; omega
                have h3 : indexAt wr P = i := HIX.out
                rw [h2, h3]
                have := hho.out; omega
            · have hb1 : Go.bits .and .i64 (i : Int) 1 = 0 := by rw [and1]; omega
              have hho := Hs.hid ho
              clear ho
              go_wp2_with fail
              go_round
              case rel =>
                refine ⟨k + 1, by go_num, by omega, Hs.hid ⟨l2, ⟨?_, ?_⟩, ?_⟩, ?_⟩
                · have := heap_set tq.cells 1 (.int .i64 ((n : Int) + k + 1))
                  rw [this]
                  simp [Int.add_assoc]
                · exact tq.map.same (heap_set_ne _ _ _ hTM)
                · rw [← Nat.add_assoc]
                  exact HQ.out.1.done (by have := hho.out; omega) HQ.out.2
                · exact ((hE.trans' hEq)).set' (by simp) _ _
              case measure => simp [intOf]; omega
    · have hkl : k = ls.length := by omega
      have HKL := Hs.hid hkl
      clear hkl
      obtain ⟨l', t', hI'⟩ := HK.out
      have HI' := Hs.hid (And.intro t' hI')
      clear t' hI'
      go_wp2_with (go_at_call 25; refine (trim_any HI'.out.1 (HI'.out.2.small (by have := HN.out; have h3 : (2 : Nat) ^ 40 = 1099511627776 := (by decide); have h5 : (2 : Nat) ^ 30 = 1073741824 := (by decide); omega))).mono ?_; rintro e w9 ⟨rfl, t9, hx9⟩)
      refine bodyPost_end (v := .tuple #[]) (by simp [results, Try.results8, go_sem]) rfl ⟨rfl, ⟨l', ?_, Hs.hid ?_⟩, hE.trans hx9 (fun g hg => .inl (by simp at hg; simp [hg]))⟩
      · rw [HI'.out.2.trim_same] at t9
        rw [← HKL.out]; exact t9
      · have := HI'.out.2
        rw [HKL.out, List.take_length] at this; exact this
end Go.Proofs.Ytjicjadibaomkaa
set_option linter.unusedSimpArgs false
set_option linter.unusedVariables false
namespace Go.Proofs.Ytjicjadibaomkaa
open Go.RowKit Go.Hs Go.Dg

theorem bits_and_nat (n m : Nat) (hn : n < 2 ^ 62) (hm : m < 2 ^ 62) : Go.bits .and .i64 (n : Int) (m : Int) = ((n &&& m : Nat) : Int) := by
  have h1 : ∀ n : Nat, n < 2 ^ 62 → (BitVec.ofInt 64 (n : Int)).toNat = n := fun n h => by
    rw [BitVec.toNat_ofInt]
    have : (2 : Nat) ^ 62 = 4611686018427387904 := by decide
    omega
  show IntKind.i64.wrap ((BitVec.ofInt 64 (n : Int) &&& BitVec.ofInt 64 (m : Int)).toNat : Nat) = _
  rw [BitVec.toNat_and, h1 n hn, h1 m hm, IntKind.wrap_i64]
  have h2 : n &&& m ≤ n := Nat.and_le_left
  have : (2 : Nat) ^ 62 = 4611686018427387904 := by decide
  omega
theorem pow_and (v : Nat) : 2 ^ v &&& (2 ^ v - 1) = 0 := by
  rw [Nat.and_two_pow_sub_one_eq_mod, Nat.mod_self]
theorem nopow_and {v n : Nat} (h1 : 2 ^ v < n) (h2 : n < 2 ^ (v + 1)) : n &&& (n - 1) ≠ 0 := by
  intro h
  have hp := Nat.two_pow_pos v
  rw [Nat.pow_succ] at h2
  have hb : ∀ x, 2 ^ v ≤ x → x < 2 ^ v * 2 → Nat.testBit x v = true := fun x h3 h4 => by
    rw [Nat.testBit_eq_decide_div_mod_eq]
    have : x / 2 ^ v = 1 := Nat.div_eq_of_lt_le (by omega) (by omega)
    rw [this]; decide
  have h5 : Nat.testBit (n &&& (n - 1)) v = true := by
    rw [Nat.testBit_and, hb n (by omega) (by omega), hb (n - 1) (by omega) (by omega)]; rfl
  rw [h] at h5; simp at h5
theorem halfN_eq {v n : Nat} (h1 : 2 ^ v < n) (h2 : n ≤ 2 ^ (v + 1)) : halfN n = 2 ^ v := by
  unfold halfN
  have hp := Nat.two_pow_pos v
  have h3 : (n - 1).log2 = v := (Nat.log2_eq_iff (by omega)).2 ⟨by omega, by omega⟩
  rw [h3]
/-- Between two powers. -/
theorem exists_pow (n : Nat) (h : 2 ≤ n) : ∃ v, 2 ^ v < n ∧ n ≤ 2 ^ (v + 1) := by
  refine ⟨(n - 1).log2, ?_, ?_⟩
  · have := Nat.log2_self_le (n := n - 1) (by omega); omega
  · have := Nat.lt_log2_self (n := n - 1); omega
/-- The text over so many leaves from one on. -/
def mthT (L : List ByteArray) (n from' : Nat) : ByteArray :=
  if h : 2 ≤ n then nodeT (mthT L (halfN n) from') (mthT L (n - halfN n) (from' + halfN n)) else leafT (L.getD from' textP.noB)
termination_by n
decreasing_by
  · exact halfN_lt h
  · have := halfN_pos n; omega
theorem mthT_one (L : List ByteArray) (f : Nat) : mthT L 1 f = leafT (L.getD f textP.noB) := by rw [mthT, dif_neg (by omega)]
theorem mthT_node {L : List ByteArray} {n f : Nat} (h : 2 ≤ n) : mthT L n f = nodeT (mthT L (halfN n) f) (mthT L (n - halfN n) (f + halfN n)) := by rw [mthT, dif_pos h]
theorem mthT_pow (L : List ByteArray) : ∀ v i, mthT L (2 ^ v) (i * 2 ^ v) = textP L v i
  | 0, i => by simp only [Nat.pow_zero, Nat.mul_one, mthT_one, textP]
  | v + 1, i => by
    have hp := Nat.two_pow_pos v
    have h2 : 2 ^ (v + 1) = 2 * 2 ^ v := by rw [Nat.pow_succ, Nat.mul_comm]
    rw [mthT_node (by omega), halfN_eq (v := v) (by omega) (Nat.le_refl _)]
    simp only [textP]
    rw [show 2 ^ (v + 1) - 2 ^ v = 2 ^ v by omega, ← mthT_pow L v (2 * i), ← mthT_pow L v (2 * i + 1)]
    have e1 : i * 2 ^ (v + 1) = 2 * i * 2 ^ v := by rw [h2, ← Nat.mul_assoc, Nat.mul_comm i 2]
    have e2 : i * 2 ^ (v + 1) + 2 ^ v = (2 * i + 1) * 2 ^ v := by rw [e1, Nat.add_mul, Nat.one_mul]
    rw [e1] at e2 ⊢
    rw [e2]
/-- A tree of that floor knows the sum over so many leaves from one on. -/
inductive SumOK (floor : Nat) : Nat → Nat → Prop
  | look (v i : Nat) : floor < upEnd (plN v i) → SumOK floor (2 ^ v) (i * 2 ^ v)
  | node (v n f : Nat) : 2 ^ v < n → n < 2 ^ (v + 1) → SumOK floor (2 ^ v) f → SumOK floor (n - 2 ^ v) (f + 2 ^ v) → SumOK floor n f
theorem upEnd_even {c v j : Nat} (h : v < c) : upEnd (plN v (j * 2 ^ c / 2 ^ v)) = j * 2 ^ c + 2 ^ (v + 1) ∧ j * 2 ^ c / 2 ^ v * 2 ^ v = j * 2 ^ c := by
  obtain ⟨d, rfl⟩ : ∃ d, c = v + (d + 1) := ⟨c - v - 1, by omega⟩
  have hp := Nat.two_pow_pos v
  have e1 : j * 2 ^ (v + (d + 1)) = (2 * (j * 2 ^ d)) * 2 ^ v := by
    rw [Nat.pow_add, Nat.pow_succ]; simp only [Nat.mul_assoc, Nat.mul_comm, Nat.mul_left_comm]
  rw [e1, Nat.mul_div_cancel _ hp]
  refine ⟨?_, rfl⟩
  rw [upEnd_N, show 2 * (j * 2 ^ d) / 2 = j * 2 ^ d by omega, Nat.add_mul, Nat.one_mul, Nat.pow_succ]
  congr 1
  simp only [Nat.mul_assoc, Nat.mul_comm, Nat.mul_left_comm]
theorem sumOK_left {floor c v j : Nat} (h : v < c) (hf : floor < j * 2 ^ c + 2 ^ (v + 1)) : SumOK floor (2 ^ v) (j * 2 ^ c) := by
  obtain ⟨h1, h2⟩ := upEnd_even (j := j) h
  have := SumOK.look (floor := floor) v (j * 2 ^ c / 2 ^ v) (by rw [h1]; exact hf)
  rwa [h2] at this
/-- What begins at a multiple of a power that it doesn't reach, and ends at the floor or behind. -/
theorem sumOK_of {floor : Nat} : ∀ (c n j : Nat), 1 ≤ n → n < 2 ^ c → floor ≤ j * 2 ^ c + n → SumOK floor n (j * 2 ^ c)
  | c, n, j, h1, h2, hf => by
    by_cases hn : n = 1
    · subst hn
      have hc : 0 < c := by
        rcases Nat.eq_zero_or_pos c with rfl | h
        · simp at h2
        · exact h
      have := sumOK_left (floor := floor) (c := c) (v := 0) (j := j) hc (by simp; omega)
      simpa using this
    · obtain ⟨v, hv1, hv2⟩ := exists_pow n (by omega)
      have hvc : v < c := (Nat.pow_lt_pow_iff_right (a := 2) (by omega)).1 (by omega)
      by_cases he : n = 2 ^ (v + 1)
      · have hvc2 : v + 1 < c := (Nat.pow_lt_pow_iff_right (a := 2) (by omega)).1 (by omega)
        rw [he]
        refine sumOK_left hvc2 ?_
        have := Nat.two_pow_pos (v + 1)
        rw [Nat.pow_succ (n := 2) (m := v + 1)]
        omega
      · refine SumOK.node v n _ hv1 (by omega) (sumOK_left hvc (by omega)) ?_
        obtain ⟨d, rfl⟩ : ∃ d, c = v + (d + 1) := ⟨c - v - 1, by omega⟩
        have e1 : j * 2 ^ (v + (d + 1)) + 2 ^ v = (2 * (j * 2 ^ d) + 1) * 2 ^ v := by
          rw [Nat.add_mul, Nat.one_mul, Nat.pow_add, Nat.pow_succ]; simp only [Nat.mul_assoc, Nat.mul_comm, Nat.mul_left_comm]
        rw [e1]
        rw [Nat.pow_succ] at hv2 he
        exact sumOK_of v (n - 2 ^ v) _ (by omega) (by omega) (by omega)
termination_by c n => n
decreasing_by have := Nat.two_pow_pos v; omega
/-- .. the power itself, in front of the floor. -/
theorem sumOK_right {floor c n j : Nat} (h1 : 1 ≤ n) (h2 : n ≤ 2 ^ c) (hf : floor < j * 2 ^ c + n) : SumOK floor n (j * 2 ^ c) := by
  by_cases h : n = 2 ^ c
  · subst h
    refine SumOK.look c j ?_
    have := up_le c j
    rw [Nat.add_mul, Nat.one_mul] at this
    omega
  · exact sumOK_of c n j h1 (by omega) (by omega)
theorem sumOK_root {floor n : Nat} (h1 : 1 ≤ n) (hf : floor ≤ n) : SumOK floor n 0 := by
  have := sumOK_of (floor := floor) n n 0 h1 n.lt_two_pow_self (by omega)
  simpa using this
end Go.Proofs.Ytjicjadibaomkaa
set_option linter.unusedSimpArgs false
set_option linter.unusedVariables false
set_option maxHeartbeats 2000000
set_option maxRecDepth 100000
namespace Go.Proofs.Ytjicjadibaomkaa
open Go.RowKit Go.Hs Go.Dg

theorem results_sum_tmp {fn : Func} {p u : Tmp} (h : fn.results = #[.cell p 35, .tmp u]) (tmps : Array Value) {w : World} {g : Nat} {cs : Array Value} {fr : Nat × Nat} {x : Value}
    (hp : tmps.getD p undef = .pointer (some ⟨g, 0, none⟩)) (hx : tmps.getD u undef = x) (hg : w.heap[g]? = some (.cells cs 35 fr)) (h32 : cs.size = 32) :
    (results fn tmps).run Try.prog w = .ok (.tuple #[.agg cs, x]) w := by
  rw [results_cell_tmp h, hp, hx]
  simp [asAddr, load_sum hg h32]
theorem yieldsIf_lookup {κ ν : Type} [DecidableEq κ] {enc : κ → Value} {venc : ν → Value} {l : List (κ × ν)} {b : Nat} {P : Program} {kt et t : TypeId} {ops : Array Oper} {S : World → Prop} {o : Oper} {a : Act}
    (hw : Region.wanted o (yielded ops a.tmps) = true) (mo x : Operand) (ok : Bool) (ho : o.op = Op.lookup t mo x ok) (K : KeyOK P kt enc) (ht : P.underlying t = some (.map kt et)) {z : Value} (hz : ∀ w, (zeroValue et).run P w = .ok z w)
    (hm : a.eval mo = .map (some b)) (m : ∀ w, S w → MapAt enc venc w.heap b l) (k : κ) (hx : a.eval x = enc k) (v : Value) (hv : lookV venc z (mlook l k) ok = v) : YieldsIf P ops S o v a :=
  .inl ⟨hw, fun w hS => by
    have hrun := run_lookup_z K ht (hz w) (m w hS) k ok
    rw [hv] at hrun
    simp only [execOp, ho, hm, hx, Sem.run_bind, hrun, Result.andThen_ok, Sem.run_pure]⟩
theorem sum_look {floor : Nat} (v i : Nat) (hu : floor < upEnd (plN v i)) {w : World} {T M N : Nat} {l : List (Pl × ByteArray)} {L : List ByteArray} (t : TAt w.heap T M N floor l) (hI : Hid (TInv L N floor l)) (hN : N ≤ 2 ^ 30) (hfn : i * 2 ^ v + 2 ^ v ≤ N)
    (n f tt : Nat) (hn : n = 2 ^ v) (hf : f = i * 2 ^ v) (htt : tt = f + n) :
    Calls Try.prog 29 #[.pointer (some ⟨T, 0, none⟩), .int .i64 f, .int .i64 tt] w fun e w' => ∃ cs, e = .returned (.tuple #[.agg cs, .int .i64 0]) ∧ Hid (cs = digV (mthT L n f)) ∧ Ext [] w w' := by
  have hp30 : (2 : Nat) ^ 30 = 1073741824 := by decide
  have hp := Nat.two_pow_pos v
  have hv : v ≤ 30 := (Nat.pow_le_pow_iff_right (a := 2) (by omega)).1 (by omega)
  have hmth : mthT L n f = textP L v i := by rw [hn, hf, mthT_pow]
  have hL : Lib.bitLen (n : Int).toNat = v + 1 := by
    rw [Int.toNat_natCast, bitLen_log (by omega) (by have : (2 : Nat) ^ 64 = 18446744073709551616 := (by decide); omega), hn, Nat.log2_two_pow]
  have hand : Go.bits .and .i64 (n : Int) ((n : Int) - 1) = 0 := by
    have := bits_and_nat n (n - 1) (by have : (2 : Nat) ^ 62 = 4611686018427387904 := (by decide); omega) (by have : (2 : Nat) ^ 62 = 4611686018427387904 := (by decide); omega)
    rw [show ((n - 1 : Nat) : Int) = (n : Int) - 1 by omega] at this
    rw [this, hn, pow_and]; rfl
  have hfm : f % n = 0 := by rw [hf, hn, Nat.mul_mod_left]
  have hfd : f / n = i := by rw [hf, hn, Nat.mul_div_cancel _ hp]
  have hmod : (f : Int) % (n : Int) = 0 := by exact_mod_cast congrArg (Nat.cast (R := Int)) hfm
  have hdiv : (f : Int) / (n : Int) = (i : Int) := by exact_mod_cast congrArg (Nat.cast (R := Int)) hfd
  have hdiv2 : (f : Int).tdiv (n : Int) = (i : Int) := by rw [Int.tdiv_eq_ediv_of_nonneg (by omega)]; exact hdiv
  have hsub : (tt : Int) - (f : Int) = (n : Int) := by omega
  have hlook : lookV encS (.agg (bytesL fun _ => 0)) (mlook l (plN v i)) true = .tuple #[.agg (digV (textP L v i)), .bool true] := by
    rw [hI.out.get t.map.nodup, if_pos ⟨by rw [Nat.add_mul, Nat.one_mul]; omega, hu⟩]; rfl
  have HLK := Hs.hid hlook
  have hw1 : IntKind.i64.wrap (v : Int) = (v : Int) := IntWalk.i64_in _ (by omega)
  have hw2 : IntKind.i64.wrap ((n : Int) - 1) = (n : Int) - 1 := IntWalk.i64_in _ (by omega)
  have hn0 : ¬ n = 0 := by omega
  have hwu : IntKind.u64.wrap (n : Int) = n := by rw [IntKind.wrap_u64]; omega
  have hif : i ≤ f := by rw [hf]; exact Nat.le_mul_of_pos_right _ hp
  have hwi : IntKind.i64.wrap (i : Int) = i := IntWalk.i64_in _ (by omega)
  have hB : (0 : Int) ≤ n ∧ (1 : Int) ≤ n ∧ (n : Int) ≤ 1073741824 ∧ (0 : Int) ≤ f ∧ (f : Int) ≤ 1073741824 ∧ (v : Int) ≤ 30 ∧ (tt : Int) ≤ 1073741824 := by omega
  obtain ⟨b1, b2, b3, b4, b5, b6, b7⟩ := hB
  have HM := Hs.hid hmth
  have HL := Hs.hid hL
  obtain ⟨c0, c1, c2⟩ := t.get
  have ht := t.map
  have HT := Hs.hid t
  clear t hmth hL hlook hfn hn hf htt hfm hfd hu hp hv hif hp30 hN
  have hR := zeroSum w
  have hx0 := (Ext.refl [] w).alloc (.cells #[.int .u8 0, .int .u8 0, .int .u8 0, .int .u8 0, .int .u8 0, .int .u8 0, .int .u8 0, .int .u8 0, .int .u8 0, .int .u8 0, .int .u8 0, .int .u8 0, .int .u8 0, .int .u8 0, .int .u8 0, .int .u8 0, .int .u8 0, .int .u8 0, .int .u8 0, .int .u8 0, .int .u8 0, .int .u8 0, .int .u8 0, .int .u8 0, .int .u8 0, .int .u8 0, .int .u8 0, .int .u8 0, .int .u8 0, .int .u8 0, .int .u8 0, .int .u8 0] 35)
  have hTW := HT.out.ext0 hx0
  go_enter Try.func29, Try.ntmps29
  go_upto_region 3 with fail
  generalize w.alloc (.cells #[.int .u8 0, .int .u8 0, .int .u8 0, .int .u8 0, .int .u8 0, .int .u8 0, .int .u8 0, .int .u8 0, .int .u8 0, .int .u8 0, .int .u8 0, .int .u8 0, .int .u8 0, .int .u8 0, .int .u8 0, .int .u8 0, .int .u8 0, .int .u8 0, .int .u8 0, .int .u8 0, .int .u8 0, .int .u8 0, .int .u8 0, .int .u8 0, .int .u8 0, .int .u8 0, .int .u8 0, .int .u8 0, .int .u8 0, .int .u8 0, .int .u8 0, .int .u8 0] 35) = W at hR hx0 hTW ⊢
  obtain ⟨R, hRR⟩ : ∃ R, w.heap.size = R := ⟨_, rfl⟩
  rw [hRR] at hR ⊢
  have HRR := Hs.hid (show w.heap.size ≤ R from Nat.le_of_eq hRR)
  clear hRR c0 c1 c2 ht
  go_cut [9, 10] (fun s9 s10 wx => ∃ C, s9 = .pointer (some ⟨C, 0, none⟩) ∧ s10 = .bool true ∧ wx.heap[C]? = some (.cells (digV (textP L v i)) 35 (0, 0)) ∧ Ext [] W wx)
  case first =>
    refine wp_region_noPanic ?_
    refine wp_region_held_drew (S := (fun w' => TAt w'.heap T M N floor l)) (by kernel_rfl) ?_ (fun hHeld => ?_)
    · ((try dsimp only); exact hTW)
    refine wpAnyH_take (i := 0) (v := ?_) rfl (by kernel_rfl) (by kernel_rfl) (by kernel_rfl) (fun _ _ _ h => h) (Or.inl ⟨by rfl, ?_⟩) (by assumption) ?_
    rotate_left
    · (intro w hSw; (try dsimp only at hSw); first | (go_simp; done) | (go_simp; with_reducible rfl))
    try simp only [Act.put, List.getElem_toArray, List.getElem_cons_succ, List.getElem_cons_zero, List.setIfInBounds_toArray, List.set_cons_zero, List.set_cons_succ]
    refine wpAnyH_take (i := 1) (v := ?_) rfl (by kernel_rfl) (by kernel_rfl) (by kernel_rfl) (fun _ _ _ h => h) (Or.inl ⟨by rfl, ?_⟩) (by assumption) ?_
    rotate_left
    · (intro w hSw; (try dsimp only at hSw); first | (go_simp; done) | (go_simp; with_reducible rfl))
    try simp only [Act.put, List.getElem_toArray, List.getElem_cons_succ, List.getElem_cons_zero, List.setIfInBounds_toArray, List.set_cons_zero, List.set_cons_succ]
    refine wpAnyH_take (i := 2) (v := ?_) rfl (by kernel_rfl) (by kernel_rfl) (by kernel_rfl) (fun _ _ _ h => h) (Or.inl ⟨by rfl, ?_⟩) (by assumption) ?_
    rotate_left
    · (intro w hSw; (try dsimp only at hSw); first | (go_simp; done) | (go_simp; with_reducible rfl))
    try simp only [Act.put, List.getElem_toArray, List.getElem_cons_succ, List.getElem_cons_zero, List.setIfInBounds_toArray, List.set_cons_zero, List.set_cons_succ]
    refine wpAnyH_take (i := 3) (v := ?_) rfl (by kernel_rfl) (by kernel_rfl) (by kernel_rfl) (fun _ _ _ h => h) (Or.inl ⟨by rfl, ?_⟩) (by assumption) ?_
    rotate_left
    · (intro w hSw; (try dsimp only at hSw); have hq : w.cell? ⟨T, 0, none⟩ = some (.map (some M)) := (TAt.get hSw).1; first | (go_simp; done) | (go_simp; with_reducible rfl))
    try simp only [Act.put, List.getElem_toArray, List.getElem_cons_succ, List.getElem_cons_zero, List.setIfInBounds_toArray, List.set_cons_zero, List.set_cons_succ]
    refine wpAnyH_take (i := 4) (v := ?_) rfl (by kernel_rfl) (by kernel_rfl) (by kernel_rfl) (fun _ _ _ h => h) (Or.inl ⟨by rfl, ?_⟩) (by assumption) ?_
    rotate_left
    · (intro w hSw; (try dsimp only at hSw); first | (go_simp; done) | (go_simp; with_reducible rfl))
    try simp only [Act.put, List.getElem_toArray, List.getElem_cons_succ, List.getElem_cons_zero, List.setIfInBounds_toArray, List.set_cons_zero, List.set_cons_succ]
    refine wpAnyH_take (i := 5) (v := ?_) rfl (by kernel_rfl) (by kernel_rfl) (by kernel_rfl) (fun _ _ _ h => h) (Or.inl ⟨by rfl, ?_⟩) (by assumption) ?_
    rotate_left
    · (intro w hSw; (try dsimp only at hSw); first | (go_simp; done) | (go_simp; with_reducible rfl))
    try simp only [Act.put, List.getElem_toArray, List.getElem_cons_succ, List.getElem_cons_zero, List.setIfInBounds_toArray, List.set_cons_zero, List.set_cons_succ]
    refine wpAnyH_take (i := 8) (v := ?_) rfl (by kernel_rfl) (by kernel_rfl) (by kernel_rfl) (fun _ _ _ h => h) (Or.inl ⟨by rfl, ?_⟩) (by assumption) ?_
    rotate_left
    · (intro w hSw; (try dsimp only at hSw); first | (go_simp; done) | (go_simp; with_reducible rfl))
    try simp only [Act.put, List.getElem_toArray, List.getElem_cons_succ, List.getElem_cons_zero, List.setIfInBounds_toArray, List.set_cons_zero, List.set_cons_succ]
    refine wpAnyH_take (i := 9) (v := ?_) rfl (by kernel_rfl) (by kernel_rfl) (by kernel_rfl) (fun _ _ _ h => h) (Or.inl ⟨by rfl, ?_⟩) (by assumption) ?_
    rotate_left
    · (intro w hSw; (try dsimp only at hSw); first | (go_simp; done) | (go_simp; with_reducible rfl))
    try simp only [Act.put, List.getElem_toArray, List.getElem_cons_succ, List.getElem_cons_zero, List.setIfInBounds_toArray, List.set_cons_zero, List.set_cons_succ]
    refine wpAnyH_take (i := 10) (v := ?_) rfl (by kernel_rfl) (by kernel_rfl) (by kernel_rfl) (fun _ _ _ h => h) (Or.inl ⟨by rfl, ?_⟩) (by assumption) ?_
    rotate_left
    · (intro w hSw; (try dsimp only at hSw); first | (go_simp; done) | (go_simp; with_reducible rfl))
    try simp only [Act.put, List.getElem_toArray, List.getElem_cons_succ, List.getElem_cons_zero, List.setIfInBounds_toArray, List.set_cons_zero, List.set_cons_succ]
    refine wpAnyH_ready (rs := [6, 16]) (by kernel_rfl) (by simp) ?_
    refine AllReadyH.cons rfl (fun K hK => ?_) (AllReadyH.cons rfl (fun K hK => ?_) AllReadyH.nil)
    · go_simp
      (go_at_call 45; refine (Try.bits_Len (n : Int) _ (by omega) (by omega)).mono ?_; rintro e w1 ⟨rfl, rfl⟩; rw [HL.out])
      go_wp2_with fail
      refine hK.out _ _ ?_ (fun hHeld => ?_)
      · ((try dsimp only); exact hHeld)
      clear hK K
      try simp only [Act.put, List.getElem_toArray, List.getElem_cons_succ, List.getElem_cons_zero, List.setIfInBounds_toArray, List.set_cons_zero, List.set_cons_succ]
      refine wpAnyH_take (i := 7) (v := ?_) rfl (by kernel_rfl) (by kernel_rfl) (by kernel_rfl) (fun _ _ _ h => h) (Or.inl ⟨by rfl, ?_⟩) (by assumption) ?_
      rotate_left
      · (intro w hSw; (try dsimp only at hSw); first | (go_simp; done) | (go_simp; with_reducible rfl))
      try simp only [Act.put, List.getElem_toArray, List.getElem_cons_succ, List.getElem_cons_zero, List.setIfInBounds_toArray, List.set_cons_zero, List.set_cons_succ]
      refine wpAnyH_take (i := 11) (v := ?_) rfl (by kernel_rfl) (by kernel_rfl) (by kernel_rfl) (fun _ _ _ h => h) (Or.inl ⟨by rfl, ?_⟩) (by assumption) ?_
      rotate_left
      · (intro w hSw; (try dsimp only at hSw); first | (go_simp; done) | (go_simp; with_reducible rfl))
      try simp only [Act.put, List.getElem_toArray, List.getElem_cons_succ, List.getElem_cons_zero, List.setIfInBounds_toArray, List.set_cons_zero, List.set_cons_succ]
      refine wpAnyH_take (i := 12) (v := _) rfl (by kernel_rfl) (by kernel_rfl) (by kernel_rfl) (fun _ _ _ h => h) (yieldsIf_lookup (by rfl) _ _ true rfl keyOK_place Try.underlying59 zeroSumV rfl (fun w h => TAt.map h) (plN v i) (by simp [encP, plN, Act.eval, hdiv, hdiv2]) _ HLK.out) (by assumption) ?_
      try simp only [Act.put, List.getElem_toArray, List.getElem_cons_succ, List.getElem_cons_zero, List.setIfInBounds_toArray, List.set_cons_zero, List.set_cons_succ]
      refine wpAnyH_take (i := 13) (v := ?_) rfl (by kernel_rfl) (by kernel_rfl) (by kernel_rfl) (fun _ _ _ h => h) (Or.inl ⟨by rfl, ?_⟩) (by assumption) ?_
      rotate_left
      · (intro w hSw; (try dsimp only at hSw); first | (go_simp; done) | (go_simp; with_reducible rfl))
      try simp only [Act.put, List.getElem_toArray, List.getElem_cons_succ, List.getElem_cons_zero, List.setIfInBounds_toArray, List.set_cons_zero, List.set_cons_succ]
      refine wpAnyH_take (i := 14) (v := ?_) rfl (by kernel_rfl) (by kernel_rfl) (by kernel_rfl) (fun _ _ _ h => h) (Or.inl ⟨by rfl, ?_⟩) (by assumption) ?_
      rotate_left
      · (intro w hSw; (try dsimp only at hSw); first | (go_simp; done) | (go_simp; with_reducible rfl))
      try simp only [Act.put, List.getElem_toArray, List.getElem_cons_succ, List.getElem_cons_zero, List.setIfInBounds_toArray, List.set_cons_zero, List.set_cons_succ]
      refine wpAnyH_take (i := 15) (v := ?_) rfl (by kernel_rfl) (by kernel_rfl) (by kernel_rfl) (fun _ _ _ h => h) (Or.inl ⟨by rfl, ?_⟩) (by assumption) ?_
      rotate_left
      · (intro w hSw; (try dsimp only at hSw); first | (go_simp; done) | (go_simp; with_reducible rfl))
      try simp only [Act.put, List.getElem_toArray, List.getElem_cons_succ, List.getElem_cons_zero, List.setIfInBounds_toArray, List.set_cons_zero, List.set_cons_succ]
      refine wpAnyH_ready (rs := [16]) (by kernel_rfl) (by simp) ?_
      refine AllReadyH.cons rfl (fun K hK => ?_) AllReadyH.nil
      rw [if_pos (by rfl)]
      go_simp
      refine hK.out _ _ ?_ (fun hHeld => ?_)
      · ((try dsimp only); exact TAt.ext0 hHeld ((Ext.refl [] _).alloc _))
      clear hK K
      try simp only [Act.put, List.getElem_toArray, List.getElem_cons_succ, List.getElem_cons_zero, List.setIfInBounds_toArray, List.set_cons_zero, List.set_cons_succ]
      refine wpAnyH_ready (rs := [17]) (by kernel_rfl) (by simp) ?_
      refine AllReadyH.cons rfl (fun K hK => ?_) AllReadyH.nil
      rw [if_pos (by rfl)]
      refine wp_store_row 35 _ _ rfl _ (digV (textP L v i)) rfl rfl _ _ (zeroSum _) (by rw [digV_size]; exact infoSum) (by rw [digV_size]; exact bytesL_size _) (digV_one _) ?_
      refine hK.out _ _ ?_ (fun hHeld => ?_)
      · ((try dsimp only); exact TAt.ext hHeld (setRow_ext _ _) (by simpa using ne_block (TAt.cells hHeld) (zeroSum _) (by simp)) (by simpa using (MapAt.ne (TAt.map hHeld) (zeroSum _)).symm))
      clear hK K
      try simp only [Act.put, List.getElem_toArray, List.getElem_cons_succ, List.getElem_cons_zero, List.setIfInBounds_toArray, List.set_cons_zero, List.set_cons_succ]
      refine wpAnyH_take (i := 18) (v := ?_) rfl (by kernel_rfl) (by kernel_rfl) (by kernel_rfl) (fun _ _ _ h => h) (Or.inl ⟨by rfl, ?_⟩) (by assumption) ?_
      rotate_left
      · (intro w hSw; (try dsimp only at hSw); first | (go_simp; done) | (go_simp; with_reducible rfl))
      try simp only [Act.put, List.getElem_toArray, List.getElem_cons_succ, List.getElem_cons_zero, List.setIfInBounds_toArray, List.set_cons_zero, List.set_cons_succ]
      refine wpAnyH_done (by kernel_rfl) ?_ _
      refine NoPanic.normal ?_
      go_wp2; go_meet; exact ⟨_, rfl, rfl, setRow_heap _ _ _ _ _ _ (zeroSum _), (((Ext.refl [] W).drew).alloc _).trans (setRow_ext _ _) (fun g hg => .inr (by simp at hg; omega))⟩
    · rw [if_pos (by rfl)]
      go_simp
      refine hK.out _ _ ?_ (fun hHeld => ?_)
      · ((try dsimp only); exact TAt.ext0 hHeld ((Ext.refl [] _).alloc _))
      clear hK K
      try simp only [Act.put, List.getElem_toArray, List.getElem_cons_succ, List.getElem_cons_zero, List.setIfInBounds_toArray, List.set_cons_zero, List.set_cons_succ]
      refine wpAnyH_ready (rs := [6]) (by kernel_rfl) (by simp) ?_
      refine AllReadyH.cons rfl (fun K hK => ?_) AllReadyH.nil
      go_simp
      (go_at_call 45; refine (Try.bits_Len (n : Int) _ (by omega) (by omega)).mono ?_; rintro e w1 ⟨rfl, rfl⟩; rw [HL.out])
      go_wp2_with fail
      refine hK.out _ _ ?_ (fun hHeld => ?_)
      · ((try dsimp only); exact hHeld)
      clear hK K
      try simp only [Act.put, List.getElem_toArray, List.getElem_cons_succ, List.getElem_cons_zero, List.setIfInBounds_toArray, List.set_cons_zero, List.set_cons_succ]
      refine wpAnyH_take (i := 7) (v := ?_) rfl (by kernel_rfl) (by kernel_rfl) (by kernel_rfl) (fun _ _ _ h => h) (Or.inl ⟨by rfl, ?_⟩) (by assumption) ?_
      rotate_left
      · (intro w hSw; (try dsimp only at hSw); first | (go_simp; done) | (go_simp; with_reducible rfl))
      try simp only [Act.put, List.getElem_toArray, List.getElem_cons_succ, List.getElem_cons_zero, List.setIfInBounds_toArray, List.set_cons_zero, List.set_cons_succ]
      refine wpAnyH_take (i := 11) (v := ?_) rfl (by kernel_rfl) (by kernel_rfl) (by kernel_rfl) (fun _ _ _ h => h) (Or.inl ⟨by rfl, ?_⟩) (by assumption) ?_
      rotate_left
      · (intro w hSw; (try dsimp only at hSw); first | (go_simp; done) | (go_simp; with_reducible rfl))
      try simp only [Act.put, List.getElem_toArray, List.getElem_cons_succ, List.getElem_cons_zero, List.setIfInBounds_toArray, List.set_cons_zero, List.set_cons_succ]
      refine wpAnyH_take (i := 12) (v := _) rfl (by kernel_rfl) (by kernel_rfl) (by kernel_rfl) (fun _ _ _ h => h) (yieldsIf_lookup (by rfl) _ _ true rfl keyOK_place Try.underlying59 zeroSumV rfl (fun w h => TAt.map h) (plN v i) (by simp [encP, plN, Act.eval, hdiv, hdiv2]) _ HLK.out) (by assumption) ?_
      try simp only [Act.put, List.getElem_toArray, List.getElem_cons_succ, List.getElem_cons_zero, List.setIfInBounds_toArray, List.set_cons_zero, List.set_cons_succ]
      refine wpAnyH_take (i := 13) (v := ?_) rfl (by kernel_rfl) (by kernel_rfl) (by kernel_rfl) (fun _ _ _ h => h) (Or.inl ⟨by rfl, ?_⟩) (by assumption) ?_
      rotate_left
      · (intro w hSw; (try dsimp only at hSw); first | (go_simp; done) | (go_simp; with_reducible rfl))
      try simp only [Act.put, List.getElem_toArray, List.getElem_cons_succ, List.getElem_cons_zero, List.setIfInBounds_toArray, List.set_cons_zero, List.set_cons_succ]
      refine wpAnyH_take (i := 14) (v := ?_) rfl (by kernel_rfl) (by kernel_rfl) (by kernel_rfl) (fun _ _ _ h => h) (Or.inl ⟨by rfl, ?_⟩) (by assumption) ?_
      rotate_left
      · (intro w hSw; (try dsimp only at hSw); first | (go_simp; done) | (go_simp; with_reducible rfl))
      try simp only [Act.put, List.getElem_toArray, List.getElem_cons_succ, List.getElem_cons_zero, List.setIfInBounds_toArray, List.set_cons_zero, List.set_cons_succ]
      refine wpAnyH_take (i := 15) (v := ?_) rfl (by kernel_rfl) (by kernel_rfl) (by kernel_rfl) (fun _ _ _ h => h) (Or.inl ⟨by rfl, ?_⟩) (by assumption) ?_
      rotate_left
      · (intro w hSw; (try dsimp only at hSw); first | (go_simp; done) | (go_simp; with_reducible rfl))
      try simp only [Act.put, List.getElem_toArray, List.getElem_cons_succ, List.getElem_cons_zero, List.setIfInBounds_toArray, List.set_cons_zero, List.set_cons_succ]
      refine wpAnyH_ready (rs := [17]) (by kernel_rfl) (by simp) ?_
      refine AllReadyH.cons rfl (fun K hK => ?_) AllReadyH.nil
      rw [if_pos (by rfl)]
      refine wp_store_row 35 _ _ rfl _ (digV (textP L v i)) rfl rfl _ _ (zeroSum _) (by rw [digV_size]; exact infoSum) (by rw [digV_size]; exact bytesL_size _) (digV_one _) ?_
      refine hK.out _ _ ?_ (fun hHeld => ?_)
      · ((try dsimp only); exact TAt.ext hHeld (setRow_ext _ _) (by simpa using ne_block (TAt.cells hHeld) (zeroSum _) (by simp)) (by simpa using (MapAt.ne (TAt.map hHeld) (zeroSum _)).symm))
      clear hK K
      try simp only [Act.put, List.getElem_toArray, List.getElem_cons_succ, List.getElem_cons_zero, List.setIfInBounds_toArray, List.set_cons_zero, List.set_cons_succ]
      refine wpAnyH_take (i := 18) (v := ?_) rfl (by kernel_rfl) (by kernel_rfl) (by kernel_rfl) (fun _ _ _ h => h) (Or.inl ⟨by rfl, ?_⟩) (by assumption) ?_
      rotate_left
      · (intro w hSw; (try dsimp only at hSw); first | (go_simp; done) | (go_simp; with_reducible rfl))
      try simp only [Act.put, List.getElem_toArray, List.getElem_cons_succ, List.getElem_cons_zero, List.setIfInBounds_toArray, List.set_cons_zero, List.set_cons_succ]
      refine wpAnyH_done (by kernel_rfl) ?_ _
      refine NoPanic.normal ?_
      go_wp2; go_meet; exact ⟨_, rfl, rfl, setRow_heap _ _ _ _ _ _ (zeroSum _), (((Ext.refl [] W).drew).alloc _).trans (setRow_ext _ _) (fun g hg => .inr (by simp at hg; omega))⟩
  case rest =>
    obtain ⟨C, rfl, rfl, hC, hxc⟩ := hcut
    have hRc := hxc.same hR (by simp)
    go_wp2_with (first
      | (refine wpList_load_row rfl 35 (.tmp 9) rfl C rfl 35 (digV (textP L v i)) (0, 0) _ hC Try.underlying35 rfl (by rw [digV_size]; exact infoSum) ?_)
      | (refine wpList_store_row rfl 35 (.tmp 6) (.tmp 48) rfl R (digV (textP L v i)) rfl rfl _ _ hRc (by rw [digV_size]; exact infoSum) (by rw [digV_size]; exact bytesL_size _) (digV_one _) ?_))
    refine bodyPost_ret (v := .tuple #[.agg (digV (textP L v i)), .int .i64 0]) (results_sum_tmp Try.results29 _ rfl rfl (setRow_heap _ _ _ _ _ _ hRc) (digV_size _)) rfl ⟨_, rfl, Hs.hid (by rw [HM.out]), ?_⟩
    exact (hx0.trans0 hxc).trans (setRow_ext _ _) (fun g hg => .inr (by simp at hg; have := HRR.out; omega))
theorem sum_node {floor : Nat} (v n f : Nat) (h1 : 2 ^ v < n) (h2 : n < 2 ^ (v + 1)) {w : World} {T M N : Nat} {l : List (Pl × ByteArray)} {L : List ByteArray} (t : TAt w.heap T M N floor l) (hI : Hid (TInv L N floor l)) (hN : N ≤ 2 ^ 30) (hfn : f + n ≤ N)
    (ih1 : ∀ (w : World) (y z : Int), TAt w.heap T M N floor l → y = f → z = (f : Int) + (2 ^ v : Nat) → Calls Try.prog 29 #[.pointer (some ⟨T, 0, none⟩), .int .i64 y, .int .i64 z] w fun e w' => ∃ cs, e = .returned (.tuple #[.agg cs, .int .i64 0]) ∧ Hid (cs = digV (mthT L (2 ^ v) f)) ∧ Ext [] w w')
    (ih2 : ∀ (w : World) (y z : Int), TAt w.heap T M N floor l → y = (f : Int) + (2 ^ v : Nat) → z = (f : Int) + n → Calls Try.prog 29 #[.pointer (some ⟨T, 0, none⟩), .int .i64 y, .int .i64 z] w fun e w' => ∃ cs, e = .returned (.tuple #[.agg cs, .int .i64 0]) ∧ Hid (cs = digV (mthT L (n - 2 ^ v) (f + 2 ^ v))) ∧ Ext [] w w')
    (tt : Nat) (htt : tt = f + n) :
    Calls Try.prog 29 #[.pointer (some ⟨T, 0, none⟩), .int .i64 f, .int .i64 tt] w fun e w' => ∃ cs, e = .returned (.tuple #[.agg cs, .int .i64 0]) ∧ Hid (cs = digV (mthT L n f)) ∧ Ext [] w w' := by
  have hp30 : (2 : Nat) ^ 30 = 1073741824 := by decide
  have hp := Nat.two_pow_pos v
  have hhalf : halfN n = 2 ^ v := halfN_eq h1 (Nat.le_of_lt h2)
  have hmth : mthT L n f = nodeT (mthT L (2 ^ v) f) (mthT L (n - 2 ^ v) (f + 2 ^ v)) := by rw [mthT_node (by omega), hhalf]
  obtain ⟨c, hand, hc0⟩ : ∃ c : Int, Go.bits .and .i64 (n : Int) ((n : Int) - 1) = c ∧ (c == 0) = false := by
    have := bits_and_nat n (n - 1) (by have : (2 : Nat) ^ 62 = 4611686018427387904 := (by decide); omega) (by have : (2 : Nat) ^ 62 = 4611686018427387904 := (by decide); omega)
    rw [show ((n - 1 : Nat) : Int) = (n : Int) - 1 by omega] at this
    have h3 := nopow_and h1 h2
    exact ⟨_, this, by simpa using h3⟩
  have hc1 : decide (c = 0) = false := by simpa using hc0
  obtain ⟨x, hx⟩ : ∃ x, x = mthT L (2 ^ v) f := ⟨_, rfl⟩
  obtain ⟨y, hy⟩ : ∃ y, y = mthT L (n - 2 ^ v) (f + 2 ^ v) := ⟨_, rfl⟩
  rw [← hx, ← hy] at hmth
  rw [← hx] at ih1
  rw [← hy] at ih2
  obtain ⟨hh, hhh⟩ : ∃ hh, hh = 2 ^ v := ⟨_, rfl⟩
  rw [← hhh] at h1 ih1 ih2 hhalf
  have hsub : (tt : Int) - (f : Int) = (n : Int) := by omega
  have hw2 : IntKind.i64.wrap ((n : Int) - 1) = (n : Int) - 1 := IntWalk.i64_in _ (by omega)
  have hB : (0 : Int) ≤ n ∧ (1 : Int) ≤ n ∧ (n : Int) ≤ 1073741824 ∧ (0 : Int) ≤ f ∧ (f : Int) ≤ 1073741824 ∧ (tt : Int) ≤ 1073741824 ∧ (0 : Int) ≤ hh ∧ (hh : Int) ≤ 1073741824 := by omega
  obtain ⟨b1, b2, b3, b4, b5, b7, b8, b9⟩ := hB
  have HC := Hs.hid (And.intro (show 2 ≤ n by omega) (And.intro (show n ≤ 2 ^ 50 by have : (2 : Nat) ^ 50 = 1125899906842624 := (by decide); omega) (And.intro hhalf (show (tt : Int) = (f : Int) + n by omega))))
  have HM := Hs.hid hmth
  have HT := Hs.hid t
  have IH1 := Hs.hid ih1
  have IH2 := Hs.hid ih2
  clear t hmth hfn htt hp hp30 hN hhh hx hy hhalf h1 h2 ih1 ih2
  have hR := zeroSum w
  have hx0 := (Ext.refl [] w).alloc (.cells #[.int .u8 0, .int .u8 0, .int .u8 0, .int .u8 0, .int .u8 0, .int .u8 0, .int .u8 0, .int .u8 0, .int .u8 0, .int .u8 0, .int .u8 0, .int .u8 0, .int .u8 0, .int .u8 0, .int .u8 0, .int .u8 0, .int .u8 0, .int .u8 0, .int .u8 0, .int .u8 0, .int .u8 0, .int .u8 0, .int .u8 0, .int .u8 0, .int .u8 0, .int .u8 0, .int .u8 0, .int .u8 0, .int .u8 0, .int .u8 0, .int .u8 0, .int .u8 0] 35)
  have hTW := HT.out.ext0 hx0
  go_enter Try.func29, Try.ntmps29
  go_upto_region 8 with (go_at_call 44; refine (half_any n HC.out.1 HC.out.2.1 _).mono ?_; rintro e w1 ⟨rfl, rfl⟩; rw [HC.out.2.2.1])
  generalize w.alloc (.cells #[.int .u8 0, .int .u8 0, .int .u8 0, .int .u8 0, .int .u8 0, .int .u8 0, .int .u8 0, .int .u8 0, .int .u8 0, .int .u8 0, .int .u8 0, .int .u8 0, .int .u8 0, .int .u8 0, .int .u8 0, .int .u8 0, .int .u8 0, .int .u8 0, .int .u8 0, .int .u8 0, .int .u8 0, .int .u8 0, .int .u8 0, .int .u8 0, .int .u8 0, .int .u8 0, .int .u8 0, .int .u8 0, .int .u8 0, .int .u8 0, .int .u8 0, .int .u8 0] 35) = W at hR hx0 hTW ⊢
  obtain ⟨R, hRR⟩ : ∃ R, w.heap.size = R := ⟨_, rfl⟩
  rw [hRR] at hR ⊢
  have HRR := Hs.hid (show w.heap.size ≤ R from Nat.le_of_eq hRR)
  clear hRR
  have HX := Hs.hid (@isSum_digV x)
  go_upto_region 9 with (first
    | (go_at_call 29; refine (IH1.out W _ _ hTW rfl rfl).mono ?_; rintro e w2 ⟨cs1, rfl, hcs1, hx2⟩; have hq := hcs1.out; subst hq; have hA2 := zeroSum w2; have hx3 := (Ext.refl [] w2).alloc (.cells #[.int .u8 0, .int .u8 0, .int .u8 0, .int .u8 0, .int .u8 0, .int .u8 0, .int .u8 0, .int .u8 0, .int .u8 0, .int .u8 0, .int .u8 0, .int .u8 0, .int .u8 0, .int .u8 0, .int .u8 0, .int .u8 0, .int .u8 0, .int .u8 0, .int .u8 0, .int .u8 0, .int .u8 0, .int .u8 0, .int .u8 0, .int .u8 0, .int .u8 0, .int .u8 0, .int .u8 0, .int .u8 0, .int .u8 0, .int .u8 0, .int .u8 0, .int .u8 0] 35))
    | (refine wpList_store_row rfl 35 (.tmp 12) (.tmp 58) rfl _ (digV x) rfl rfl _ _ hA2 (by rw [digV_size]; exact infoSum) (by rw [digV_size]; exact bytesL_size _) (digV_one _) ?_))
  have hA3 := setRow_heap _ _ _ (digV x) _ _ hA2
  have hx4 : Ext [] W ((w2.alloc (.cells #[.int .u8 0, .int .u8 0, .int .u8 0, .int .u8 0, .int .u8 0, .int .u8 0, .int .u8 0, .int .u8 0, .int .u8 0, .int .u8 0, .int .u8 0, .int .u8 0, .int .u8 0, .int .u8 0, .int .u8 0, .int .u8 0, .int .u8 0, .int .u8 0, .int .u8 0, .int .u8 0, .int .u8 0, .int .u8 0, .int .u8 0, .int .u8 0, .int .u8 0, .int .u8 0, .int .u8 0, .int .u8 0, .int .u8 0, .int .u8 0, .int .u8 0, .int .u8 0] 35)).setRow w2.heap.size (digV x)) := (hx2.trans0 hx3).trans (setRow_ext _ _) (fun g hg => .inr (by simp at hg; have := hx2.size; omega))
  generalize (w2.alloc (.cells #[.int .u8 0, .int .u8 0, .int .u8 0, .int .u8 0, .int .u8 0, .int .u8 0, .int .u8 0, .int .u8 0, .int .u8 0, .int .u8 0, .int .u8 0, .int .u8 0, .int .u8 0, .int .u8 0, .int .u8 0, .int .u8 0, .int .u8 0, .int .u8 0, .int .u8 0, .int .u8 0, .int .u8 0, .int .u8 0, .int .u8 0, .int .u8 0, .int .u8 0, .int .u8 0, .int .u8 0, .int .u8 0, .int .u8 0, .int .u8 0, .int .u8 0, .int .u8 0] 35)).setRow w2.heap.size (digV x) = W3 at hA3 hx4 ⊢
  clear hA2 hx3
  generalize w2.heap.size = A at hA3 ⊢
  clear hx2
  have hTW3 := hTW.ext0 hx4
  go_upto_region 12 with (first
    | (go_at_call 29; refine (IH2.out W3 _ _ hTW3 rfl HC.out.2.2.2).mono ?_; rintro e w5 ⟨cs2, rfl, hcs2, hx5⟩; have hq := hcs2.out; subst hq; have hB5 := zeroSum w5; have hx6 := (Ext.refl [] w5).alloc (.cells #[.int .u8 0, .int .u8 0, .int .u8 0, .int .u8 0, .int .u8 0, .int .u8 0, .int .u8 0, .int .u8 0, .int .u8 0, .int .u8 0, .int .u8 0, .int .u8 0, .int .u8 0, .int .u8 0, .int .u8 0, .int .u8 0, .int .u8 0, .int .u8 0, .int .u8 0, .int .u8 0, .int .u8 0, .int .u8 0, .int .u8 0, .int .u8 0, .int .u8 0, .int .u8 0, .int .u8 0, .int .u8 0, .int .u8 0, .int .u8 0, .int .u8 0, .int .u8 0] 35))
    | (refine wpList_store_row rfl 35 (.tmp 14) (.tmp 71) rfl _ (digV y) rfl rfl _ _ hB5 (by rw [digV_size]; exact infoSum) (by rw [digV_size]; exact bytesL_size _) (digV_one _) ?_))
  have hB6 := setRow_heap _ _ _ (digV y) _ _ hB5
  have hx7 : Ext [] W3 ((w5.alloc (.cells #[.int .u8 0, .int .u8 0, .int .u8 0, .int .u8 0, .int .u8 0, .int .u8 0, .int .u8 0, .int .u8 0, .int .u8 0, .int .u8 0, .int .u8 0, .int .u8 0, .int .u8 0, .int .u8 0, .int .u8 0, .int .u8 0, .int .u8 0, .int .u8 0, .int .u8 0, .int .u8 0, .int .u8 0, .int .u8 0, .int .u8 0, .int .u8 0, .int .u8 0, .int .u8 0, .int .u8 0, .int .u8 0, .int .u8 0, .int .u8 0, .int .u8 0, .int .u8 0] 35)).setRow w5.heap.size (digV y)) := (hx5.trans0 hx6).trans (setRow_ext _ _) (fun g hg => .inr (by simp at hg; have := hx5.size; omega))
  generalize (w5.alloc (.cells #[.int .u8 0, .int .u8 0, .int .u8 0, .int .u8 0, .int .u8 0, .int .u8 0, .int .u8 0, .int .u8 0, .int .u8 0, .int .u8 0, .int .u8 0, .int .u8 0, .int .u8 0, .int .u8 0, .int .u8 0, .int .u8 0, .int .u8 0, .int .u8 0, .int .u8 0, .int .u8 0, .int .u8 0, .int .u8 0, .int .u8 0, .int .u8 0, .int .u8 0, .int .u8 0, .int .u8 0, .int .u8 0, .int .u8 0, .int .u8 0, .int .u8 0, .int .u8 0] 35)).setRow w5.heap.size (digV y) = W6 at hB6 hx7 ⊢
  clear hB5 hx6
  generalize w5.heap.size = B at hB6 ⊢
  clear hx5
  have hA6 := hx7.same hA3 (by simp)
  have hR6 := (hx4.trans0 hx7).same hR (by simp)
  go_wp2_with (first
    | (refine wpList_load_row rfl 35 (.tmp 12) rfl A rfl 35 (digV x) (0, 0) _ hA6 Try.underlying35 rfl (by rw [digV_size]; exact infoSum) ?_)
    | (refine wpList_load_row rfl 35 (.tmp 14) rfl B rfl 35 (digV y) (0, 0) _ hB6 Try.underlying35 rfl (by rw [digV_size]; exact infoSum) ?_)
    | (go_at_call 24; refine (dignode_any x y _).mono ?_; rintro e w7 ⟨cs, rfl, hcs, hx8⟩; have hcs' := hcs.out; subst hcs'; have hR8 := hx8.same hR6 (by simp))
    | (refine wpList_store_row rfl 35 (.tmp 6) (.tmp 79) rfl R (digV (nodeT x y)) rfl rfl _ _ hR8 (by rw [digV_size]; exact infoSum) (by rw [digV_size]; exact bytesL_size _) (digV_one _) ?_))
  refine bodyPost_ret (v := .tuple #[.agg (digV (nodeT x y)), .int .i64 0]) (results_sum_tmp Try.results29 _ rfl rfl (setRow_heap _ _ _ _ _ _ hR8) (digV_size _)) rfl ⟨_, rfl, Hs.hid (by rw [HM.out]), ?_⟩
  exact (((hx0.trans0 hx4).trans0 hx7).trans0 hx8).trans (setRow_ext _ _) (fun g hg => .inr (by simp at hg; have := HRR.out; omega))
theorem sum_any {floor : Nat} {n f : Nat} (h : SumOK floor n f) {T M N : Nat} {l : List (Pl × ByteArray)} {L : List ByteArray} (hI : Hid (TInv L N floor l)) (hN : N ≤ 2 ^ 30) : f + n ≤ N →
    ∀ (w : World) (y z : Int), TAt w.heap T M N floor l → y = f → z = (f : Int) + n →
    Calls Try.prog 29 #[.pointer (some ⟨T, 0, none⟩), .int .i64 y, .int .i64 z] w fun e w' => ∃ cs, e = .returned (.tuple #[.agg cs, .int .i64 0]) ∧ Hid (cs = digV (mthT L n f)) ∧ Ext [] w w' := by
  induction h with
  | look v i hu =>
    intro hfn w y z t hy hz
    subst hy
    have : z = ((i * 2 ^ v + 2 ^ v : Nat) : Int) := by omega
    subst this
    exact sum_look v i hu t hI hN hfn (2 ^ v) (i * 2 ^ v) _ rfl rfl rfl
  | node v n f h1 h2 _ _ ih1 ih2 =>
    intro hfn w y z t hy hz
    subst hy
    have : z = ((f + n : Nat) : Int) := by omega
    subst this
    exact sum_node v n f h1 h2 t hI hN hfn (fun w y z t hy hz => ih1 (by omega) w y z t hy hz) (fun w y z t hy hz => ih2 (by omega) w y z t (by omega) (by omega)) _ rfl
end Go.Proofs.Ytjicjadibaomkaa
set_option linter.unusedSimpArgs false
set_option linter.unusedVariables false
namespace Go.Proofs.Ytjicjadibaomkaa
open Go.RowKit Go.Hs

theorem fold_at (off : Nat) : ∀ (l : List Value) (k : Nat) (b : Array Value), ((l.zipIdx k).foldl (fun a (p : Value × Nat) => a.setIfInBounds (off + p.2) p.1) b).size = b.size ∧
    ∀ i, ((l.zipIdx k).foldl (fun a (p : Value × Nat) => a.setIfInBounds (off + p.2) p.1) b)[i]? = if off + k ≤ i ∧ i < off + k + l.length ∧ i < b.size then l[i - (off + k)]? else b[i]?
  | [], k, b => ⟨rfl, fun i => by rw [if_neg (by simp; omega)]; rfl⟩
  | v :: l, k, b => by
    simp only [List.zipIdx_cons, List.foldl_cons]
    obtain ⟨h1, h2⟩ := fold_at off l (k + 1) (b.setIfInBounds (off + k) v)
    refine ⟨by rw [h1]; simp, fun i => ?_⟩
    rw [h2 i]
    simp only [Array.size_setIfInBounds, Array.getElem?_setIfInBounds, List.length_cons]
    by_cases hi : off + k = i
    · subst hi
      rw [if_neg (by omega)]
      by_cases hb : off + k < b.size
      · rw [if_pos rfl, if_pos hb, if_pos ⟨Nat.le_refl _, by omega, hb⟩]; simp
      · rw [if_pos rfl, if_neg hb, if_neg (by omega)]; simp; omega
    · by_cases hc : off + (k + 1) ≤ i ∧ i < off + (k + 1) + l.length ∧ i < b.size
      · rw [if_pos hc, if_pos ⟨by omega, by omega, hc.2.2⟩]
        rw [show i - (off + k) = (i - (off + (k + 1))) + 1 by omega, List.getElem?_cons_succ]
      · rw [if_neg hc, if_neg hi, if_neg (by omega)]
end Go.Proofs.Ytjicjadibaomkaa
set_option linter.unusedSimpArgs false
set_option linter.unusedVariables false
set_option maxHeartbeats 1000000
set_option maxRecDepth 100000
namespace Go.Proofs.Ytjicjadibaomkaa
open Go.RowKit Go.Hs Go.Dg

/-- The cells of sums, by their texts. -/
def sumsC (xs : List ByteArray) : List Value := xs.flatMap fun x => (digV x).toList
theorem sumsC_len (xs : List ByteArray) : (sumsC xs).length = xs.length * 32 := by
  unfold sumsC
  induction xs with
  | nil => rfl
  | cons x xs ih =>
    rw [List.flatMap_cons, List.length_append, ih, Array.length_toList, digV_size, List.length_cons]; omega
theorem sumsC_app (xs ys : List ByteArray) : sumsC (xs ++ ys) = sumsC xs ++ sumsC ys := by simp [sumsC]
theorem sumsC_one (xs : List ByteArray) : ∀ u ∈ sumsC xs, u.oneCell' = true := by
  intro u hu
  simp only [sumsC, List.mem_flatMap] at hu
  obtain ⟨x, _, hx⟩ := hu
  exact (Array.all_eq_true'.1 (digV_one x)) u (Array.mem_toList_iff.1 hx)
theorem infoSumZ : (Try.prog.info? 35).map (fun i => (i.zero, i.size, i.bytes)) = some (some (.agg #[.int .u8 0, .int .u8 0, .int .u8 0, .int .u8 0, .int .u8 0, .int .u8 0, .int .u8 0, .int .u8 0, .int .u8 0, .int .u8 0, .int .u8 0, .int .u8 0, .int .u8 0, .int .u8 0, .int .u8 0, .int .u8 0, .int .u8 0, .int .u8 0, .int .u8 0, .int .u8 0, .int .u8 0, .int .u8 0, .int .u8 0, .int .u8 0, .int .u8 0, .int .u8 0, .int .u8 0, .int .u8 0, .int .u8 0, .int .u8 0, .int .u8 0, .int .u8 0]), 32, 32) := by kernel_rfl
theorem fill_sums : ∀ (xs : List ByteArray) (k : Nat) (pre : List Value) (b : Array Value), pre.length = k * 32 → b.size = (k + xs.length) * 32 → b.toList.take (k * 32) = pre →
    Instr.fill (fun i => some (i * 32, 32)) b ((xs.zipIdx k).map fun p => (p.2, Value.agg (digV p.1))) = some (pre ++ sumsC xs).toArray
  | [], k, pre, b, hp, hb, ht => by
    simp only [List.zipIdx_nil, List.map_nil, Instr.fill, sumsC, List.flatMap_nil, List.append_nil]
    have : b.toList = pre := by rw [← ht, List.take_of_length_le (by simp at hb ⊢; omega)]
    rw [← this]
  | x :: xs, k, pre, b, hp, hb, ht => by
    simp only [List.zipIdx_cons, List.map_cons, Instr.fill]
    have hc : (Value.agg (digV x)).cells = digV x := rfl
    simp only [List.length_cons] at hb
    rw [hc, if_neg (by simp [digV_size]; omega)]
    have hf : (digV x).zipIdx.foldl (fun cs (p : Value × Nat) => cs.setIfInBounds (k * 32 + p.2) p.1) b = ((digV x).toList.zipIdx 0).foldl (fun a (p : Value × Nat) => a.setIfInBounds (k * 32 + p.2) p.1) b := by
      rw [← Array.foldl_toList, Array.toList_zipIdx]
    have hf' : (digV x).zipIdx.foldl (fun cs (x : Value × Nat) => match x with | (c, j) => cs.setIfInBounds (k * 32 + j) c) b = ((digV x).toList.zipIdx 0).foldl (fun a (p : Value × Nat) => a.setIfInBounds (k * 32 + p.2) p.1) b := hf
    rw [hf']
    obtain ⟨h1, h2⟩ := fold_at (k * 32) (digV x).toList 0 b
    have hlen : (digV x).toList.length = 32 := by rw [Array.length_toList, digV_size]
    generalize ((digV x).toList.zipIdx 0).foldl (fun a (p : Value × Nat) => a.setIfInBounds (k * 32 + p.2) p.1) b = b2 at h1 h2 ⊢
    have hb2 : b2.size = (k + 1 + xs.length) * 32 := by omega
    have hp2 : (pre ++ (digV x).toList).length = (k + 1) * 32 := by rw [List.length_append, hp, hlen]; omega
    have ht2 : b2.toList.take ((k + 1) * 32) = pre ++ (digV x).toList := by
      apply List.ext_getElem?
      intro i
      rw [List.getElem?_take]
      have h4 := h2 i
      rw [← Array.getElem?_toList] at h4
      by_cases hi : i < (k + 1) * 32
      · rw [if_pos hi, h4]
        by_cases hi2 : i < k * 32
        · rw [if_neg (by omega), List.getElem?_append_left (by omega), ← ht, List.getElem?_take, if_pos hi2, Array.getElem?_toList]
        · rw [if_pos ⟨by omega, by omega, by omega⟩, List.getElem?_append_right (by omega), hp]; congr 1
      · rw [if_neg hi, List.getElem?_eq_none]
        rw [List.length_append, hp, hlen]; omega
    have h3 := fill_sums xs (k + 1) (pre ++ (digV x).toList) b2 hp2 hb2 ht2
    rw [h3]
    simp [sumsC]
theorem fill_sum (x : ByteArray) (b : Array Value) (hb : b.size = 32) : Instr.fill (fun i => some (i * 32, 32)) b [(0, Value.agg (digV x))] = some (digV x) := by
  have := fill_sums [x] 0 [] b rfl (by simpa using hb) rfl
  simpa [sumsC] using this
/-- A slice of one sum, made where it is written. -/
theorem wpList_sum {ops : Array Oper} {rest : List Oper} {o : Oper} {a : Act} {w : World} {Q : Exit → Act → World → Prop} (hg : o.guard = none) (y : Operand) (ho : o.op = .buildSlice 28 1 #[(0, y)])
    (x : ByteArray) (hy : a.eval y = .agg (digV x))
    (h : wpList Try.prog ops Q rest (a.put o.dst (.slice (some ⟨w.heap.size, 0, none⟩) 1 1)) (w.alloc (.cells (digV x) 35))) : wpList Try.prog ops Q (o :: rest) a w := by
  obtain ⟨i0, hi, hz0, hz1, hz2⟩ := info_parts infoSumZ
  refine wpList_buildSlice hg 28 35 1 _ ho (digV x) i0 _ Try.underlying28 hi hz0 (by rw [hz1]; decide) (by rw [hz1]; decide) ?_ h
  rw [hz1]
  have : (#[(0, y)].map fun (p : Nat × Operand) => (p.1, a.eval p.2)).toList = [(0, Value.agg (digV x))] := by simp [hy]
  show Instr.fill _ _ (#[(0, y)].map fun (p : Nat × Operand) => (p.1, a.eval p.2)).toList = _
  rw [this]
  exact fill_sum x _ (by simp)
/-- A slice of sums that the call owns. -/
def OwnS (h : Array Obj) (v : Value) (xs : List ByteArray) : Prop := Own h 35 32 v xs.length (sumsC xs)
theorem OwnS.nil (h : Array Obj) : OwnS h (.slice none 0 0) [] := ⟨rfl, .inl ⟨rfl, rfl⟩⟩
theorem OwnS.form {w : World} {v : Value} {xs : List ByteArray} (o : OwnS w.heap v xs) : ∃ ao cap, v = .slice ao xs.length cap := Own.form o
theorem OwnS.ext {w w' : World} {F : List Nat} {v : Value} {xs : List ByteArray} (o : OwnS w.heap v xs) (x : Ext F w w') (hF : ∀ g, v.ownBlock = some g → g ∉ F) : OwnS w'.heap v xs :=
  Own.same o fun g hg => x.block g (Own.lt o hg) (hF g hg)
/-- One more, behind: the one sum's slice lies in block B. -/
theorem wpList_append_sum {ops : Array Oper} {rest : List Oper} {o : Oper} {a : Act} {w : World} {Q : Exit → Act → World → Prop}
    (hg : o.guard = none) (s y : Operand) (hop : o.op = Op.call { callee := Callee.builtin Builtin.append, args := #[s, y], argTypes := #[28, 28] })
    (v : Value) (xs : List ByteArray) (hs : a.eval s = v) (hown : OwnS w.heap v xs) (B m : Nat) (ys : List ByteArray) (fr : Nat × Nat) (hm : m = ys.length) (hy : a.eval y = .slice (some ⟨B, 0, none⟩) m m) (hB : w.heap[B]? = some (.cells (sumsC ys).toArray 35 fr))
    (hlen : xs.length + m ≤ 1000)
    (hK : ∀ ao cap w', OwnS w'.heap (.slice ao (xs.length + m) cap) (xs ++ ys) → Ext v.ownBlock.toList w w' → (∀ g, (Value.slice ao (xs.length + m) cap).ownBlock = some g → v.ownBlock = some g ∨ w.heap.size ≤ g) →
      wpList Try.prog ops Q rest (a.put o.dst (.slice ao (xs.length + m) cap)) w') : wpList Try.prog ops Q (o :: rest) a w := by
  obtain ⟨i0, hi, hz0, hz1, hz2⟩ := info_parts infoSumZ
  subst hm
  refine wpList_append hg s y 28 hop 35 i0 _ 32 32 Try.underlying28 hi hz0 hz1 hz2 (by kernel_rfl) (by decide) v xs.length (sumsC xs) hs hown ⟨B, 0, none⟩ ys.length ys.length (sumsC ys) hy (sumsC_len ys) (fun j u hj => ?_) (sumsC_one ys) (by unfold maxLen; omega) (by omega) fun ao cap w' h1 h2 h3 => hK ao cap w' ?_ h2 h3
  · rw [add_off', cellAt hB j]; simpa using hj
  · unfold OwnS; rw [sumsC_app, List.length_append]; exact h1
end Go.Proofs.Ytjicjadibaomkaa
set_option linter.unusedSimpArgs false
set_option linter.unusedVariables false
set_option maxHeartbeats 2000000
set_option maxRecDepth 100000
namespace Go.Proofs.Ytjicjadibaomkaa
open Go.RowKit Go.Hs Go.Dg

/-- The texts of a leaf's proof, from within out. -/
def pathT (L : List ByteArray) (i n f : Nat) : List ByteArray :=
  if h : 2 ≤ n then
    if i < f + halfN n then pathT L i (halfN n) f ++ [mthT L (n - halfN n) (f + halfN n)]
    else pathT L i (n - halfN n) (f + halfN n) ++ [mthT L (halfN n) f]
  else []
termination_by n
decreasing_by
  · exact halfN_lt h
  · have := halfN_pos n; omega
theorem pathT_one {L : List ByteArray} {i n f : Nat} (h : ¬ 2 ≤ n) : pathT L i n f = [] := by rw [pathT, dif_neg h]
theorem pathT_left {L : List ByteArray} {i n f k : Nat} (h : 2 ≤ n) (hk : halfN n = k) (hi : i < f + k) : pathT L i n f = pathT L i k f ++ [mthT L (n - k) (f + k)] := by rw [pathT, dif_pos h, hk, if_pos hi]
theorem pathT_right {L : List ByteArray} {i n f k : Nat} (h : 2 ≤ n) (hk : halfN n = k) (hi : ¬ i < f + k) : pathT L i n f = pathT L i (n - k) (f + k) ++ [mthT L k f] := by rw [pathT, dif_pos h, hk, if_neg hi]
theorem pathT_len (L : List ByteArray) : ∀ (c i n f : Nat), n ≤ 2 ^ c → (pathT L i n f).length ≤ c
  | 0, i, n, f, h => by rw [pathT_one (by simp at h; omega)]; simp
  | c + 1, i, n, f, h => by
    by_cases hn : 2 ≤ n
    · obtain ⟨v, h1, h2⟩ := exists_pow n hn
      have hv : v ≤ c := by
        have := (Nat.pow_lt_pow_iff_right (a := 2) (n := v) (m := c + 1) (by omega)).1 (by omega); omega
      have hh := halfN_eq h1 h2
      have hp : 2 ^ v ≤ 2 ^ c := Nat.pow_le_pow_right (by omega) hv
      rw [Nat.pow_succ] at h2
      by_cases hi : i < f + 2 ^ v
      · rw [pathT_left hn hh hi, List.length_append]
        have := pathT_len L c i (2 ^ v) f hp
        simp; exact this
      · rw [pathT_right hn hh hi, List.length_append]
        have := pathT_len L c i (n - 2 ^ v) (f + 2 ^ v) (by omega)
        simp; exact this
    · rw [pathT_one hn]; simp
/-- What a call of path does. -/
def PathC (T M N floor : Nat) (l : List (Pl × ByteArray)) (L : List ByteArray) (i n f : Nat) : Prop := ∀ (w : World) (y z1 z2 : Int), TAt w.heap T M N floor l → y = i → z1 = f → z2 = (f : Int) + n →
  Calls Try.prog 26 #[.pointer (some ⟨T, 0, none⟩), .int .i64 y, .int .i64 z1, .int .i64 z2] w fun e w' => ∃ v, e = .returned (.tuple #[v, .int .i64 0]) ∧ OwnS w'.heap v (pathT L i n f) ∧ (∀ g, v.ownBlock = some g → w.heap.size ≤ g) ∧ Ext [] w w'
def SumC (T M N floor : Nat) (l : List (Pl × ByteArray)) (L : List ByteArray) (n f : Nat) : Prop := ∀ (w : World) (y z : Int), TAt w.heap T M N floor l → y = f → z = (f : Int) + n →
  Calls Try.prog 29 #[.pointer (some ⟨T, 0, none⟩), .int .i64 y, .int .i64 z] w fun e w' => ∃ cs, e = .returned (.tuple #[.agg cs, .int .i64 0]) ∧ Hid (cs = digV (mthT L n f)) ∧ Ext [] w w'
theorem path_one {T M N floor : Nat} {l : List (Pl × ByteArray)} {L : List ByteArray} (i f : Nat) (hf : f ≤ 2 ^ 40) : PathC T M N floor l L i 1 f := by
  intro w y z1 z2 t hy hz1 hz2
  subst hy hz1 hz2
  have hs : (f : Int) + ((1 : Nat) : Int) - f = 1 := by omega
  have hs2 : (f : Int) + 1 - f = 1 := by omega
  have hb : (f : Int) ≤ 1099511627776 := by
    have : (2 : Nat) ^ 40 = 1099511627776 := by decide
    omega
  clear hf
  go_enter Try.func26, Try.ntmps26
  go_wp2
  go_ret2
  exact ⟨_, rfl, (by rw [pathT_one (by omega)]; exact OwnS.nil _), (fun g hg => by cases hg), Ext.refl _ _⟩
theorem path_left {T M N floor : Nat} {l : List (Pl × ByteArray)} {L : List ByteArray} (i n f hh : Nat) (hn : 2 ≤ n) (hhh : halfN n = hh) (hi : i < f + hh) (hlt : i < f + n) (hfi : f ≤ i) (hN : N ≤ 2 ^ 30) (hfn : f + n ≤ N)
    (ih : PathC T M N floor l L i hh f) (hsum : SumC T M N floor l L (n - hh) (f + hh)) : PathC T M N floor l L i n f := by
  intro w y z1 z2 t hy hz1 hz2
  subst hy hz1
  have hp30 : (2 : Nat) ^ 30 = 1073741824 := by decide
  have hhn := halfN_lt hn
  have hpt := pathT_left (L := L) hn hhh hi
  rw [hhh] at hhn
  obtain ⟨tt, htt⟩ : ∃ tt : Nat, z2 = (tt : Int) := ⟨f + n, by omega⟩
  subst htt
  have hsub : (tt : Int) - (f : Int) = (n : Int) := by omega
  have hplen := pathT_len L 40 i hh f (Nat.le_trans (show _ ≤ 2 ^ 30 by omega) (by decide))
  have hin : decide ((i : Int) < (f : Int) + (hh : Int)) = true := by simp; omega
  have hn1 : ((n : Int) == 1) = false := by simp; omega
  have hn2 : decide ((n : Int) = 1) = false := by simp; omega
  have hB : (0 : Int) ≤ n ∧ (2 : Int) ≤ n ∧ (n : Int) ≤ 1073741824 ∧ (0 : Int) ≤ f ∧ (f : Int) ≤ 1073741824 ∧ (tt : Int) ≤ 1073741824 ∧ (0 : Int) ≤ hh ∧ (hh : Int) ≤ 1073741824 ∧ (i : Int) ≤ 1073741824 := by omega
  obtain ⟨b1, b2, b3, b4, b5, b7, b8, b9, b10⟩ := hB
  have HC := Hs.hid (And.intro hn (And.intro (show n ≤ 2 ^ 50 by have : (2 : Nat) ^ 50 = 1125899906842624 := (by decide); omega) (And.intro hhh (And.intro hplen (show (tt : Int) = ((f + hh : Nat) : Int) + ((n - hh : Nat) : Int) by skip; omega)))))
  have HP := Hs.hid hpt
  have HT := Hs.hid t
  have IH := Hs.hid ih
  have HS := Hs.hid hsum
  clear t hpt hfn hz2 hp30 hN hhh hn ih hsum hhn hlt hfi hplen hi
  obtain ⟨p, hp⟩ : ∃ p, pathT L i hh f = p := ⟨_, rfl⟩
  obtain ⟨x, hx⟩ : ∃ x, mthT L (n - hh) (f + hh) = x := ⟨_, rfl⟩
  rw [hp, hx] at HP
  rw [hp] at HC
  have HPX := Hs.hid (And.intro hp hx)
  clear hp hx
  go_enter Try.func26, Try.ntmps26
  go_upto_region 8 with (go_at_call 44; refine (half_any n HC.out.1 HC.out.2.1 _).mono ?_; rintro e w1 ⟨rfl, hw1⟩; subst w1; rw [HC.out.2.2.1])
  have hX := zeroSum w
  have hx0 := (Ext.refl [] w).alloc (.cells #[.int .u8 0, .int .u8 0, .int .u8 0, .int .u8 0, .int .u8 0, .int .u8 0, .int .u8 0, .int .u8 0, .int .u8 0, .int .u8 0, .int .u8 0, .int .u8 0, .int .u8 0, .int .u8 0, .int .u8 0, .int .u8 0, .int .u8 0, .int .u8 0, .int .u8 0, .int .u8 0, .int .u8 0, .int .u8 0, .int .u8 0, .int .u8 0, .int .u8 0, .int .u8 0, .int .u8 0, .int .u8 0, .int .u8 0, .int .u8 0, .int .u8 0, .int .u8 0] 35)
  have hTW := HT.out.ext0 hx0
  have hXlt := lt_of_heap hX
  generalize w.alloc (.cells #[.int .u8 0, .int .u8 0, .int .u8 0, .int .u8 0, .int .u8 0, .int .u8 0, .int .u8 0, .int .u8 0, .int .u8 0, .int .u8 0, .int .u8 0, .int .u8 0, .int .u8 0, .int .u8 0, .int .u8 0, .int .u8 0, .int .u8 0, .int .u8 0, .int .u8 0, .int .u8 0, .int .u8 0, .int .u8 0, .int .u8 0, .int .u8 0, .int .u8 0, .int .u8 0, .int .u8 0, .int .u8 0, .int .u8 0, .int .u8 0, .int .u8 0, .int .u8 0] 35) = W at hX hx0 hTW hXlt ⊢
  obtain ⟨X, hXX⟩ : ∃ X, w.heap.size = X := ⟨_, rfl⟩
  rw [hXX] at hX hXlt ⊢
  have HXX := Hs.hid (show w.heap.size ≤ X from Nat.le_of_eq hXX)
  have HXL := Hs.hid hXlt
  clear hXX hXlt
  go_upto_region 9 with (go_at_call 26; refine (IH.out _ _ _ _ hTW (by omega) (by simp) (by push_cast; rfl)).mono ?_; rintro e w2 ⟨v, rfl, hO, hOg, hx2⟩)
  rw [HPX.out.1] at hO
  obtain ⟨ao, cap, rfl⟩ := hO.form
  have hX2 := hx2.same hX (by simp)
  have hT2 := hTW.ext0 hx2
  have HOG := Hs.hid hOg
  clear hOg
  go_upto_region 12 with (first
    | (go_at_call 29; refine (HS.out _ _ _ hT2 (by simp) (HC.out.2.2.2.2)).mono ?_; rintro e w3 ⟨cs, rfl, hcs, hx3⟩; rw [HPX.out.2] at hcs; have hq := hcs.out; subst hq; have hX3 := hx3.same hX2 (by simp); have hO3 := hO.ext hx3 (by simp))
    | (refine wpList_store_row rfl 35 (.tmp 12) (.tmp 41) rfl _ (digV x) rfl rfl _ _ hX3 (by rw [digV_size]; exact infoSum) (by rw [digV_size]; exact bytesL_size _) (digV_one _) ?_))
  have hX4 := setRow_heap _ _ _ (digV x) _ _ hX3
  have hxs := setRow_ext (w := w3) X (digV x)
  have hO4 := hO3.ext hxs (fun g hg => by have := HOG.out g hg; have := HXL.out; simp; omega)
  have hx4 : Ext [] w (w3.setRow X (digV x)) := ((hx0.trans0 hx2).trans0 hx3).trans hxs (fun g hg => .inr (by simp at hg; have := HXX.out; omega))
  have hsz : w.heap.size ≤ W.heap.size := hx0.size
  have HSZ := Hs.hid hsz
  generalize w3.setRow X (digV x) = W4 at hX4 hxs hO4 hx4 ⊢
  clear hX3 hO3 hX2 hO hT2 hX hxs hsz
  have hd : (digV x) = (sumsC [x]).toArray := by simp [sumsC]
  have HD := Hs.hid hd
  clear hd
  go_wp2_with (first
    | (refine wpList_load_row rfl 35 (.tmp 12) rfl X rfl 35 (digV x) (0, 0) _ hX4 Try.underlying35 rfl (by rw [digV_size]; exact infoSum) ?_)
    | (refine wpList_sum rfl (.tmp 65) rfl x rfl ?_; have hB5 := heap_new W4 (.cells (digV x) 35); have hO5 := hO4.ext ((Ext.refl [] W4).alloc (.cells (digV x) 35)) (by simp); have hx5 := hx4.alloc (.cells (digV x) 35); rw [HD.out] at hB5)
    | (refine wpList_append_sum rfl (.tmp 64) (.tmp 66) rfl (.slice ao p.length cap) p rfl hO5 _ 1 [x] (0, 0) rfl rfl hB5 (by have := HC.out.2.2.2.1; omega) ?_; intro ao6 cap6 w6 hO6 hx6 hg6))
  go_ret2
  refine ⟨_, rfl, by rw [HP.out]; simpa [OwnS] using hO6, fun g hg => ?_, hx5.trans hx6 (fun g hg => ?_)⟩
  · rcases hg6 g hg with h | h
    · have := HOG.out g h; have := HSZ.out; omega
    · have := hx5.size; omega
  · have := HOG.out g (by simpa using hg); have := HSZ.out; exact .inr (by omega)
theorem path_right {T M N floor : Nat} {l : List (Pl × ByteArray)} {L : List ByteArray} (i n f hh : Nat) (hn : 2 ≤ n) (hhh : halfN n = hh) (hi : ¬ i < f + hh) (hlt : i < f + n) (hfi : f ≤ i) (hN : N ≤ 2 ^ 30) (hfn : f + n ≤ N)
    (ih : PathC T M N floor l L i (n - hh) (f + hh)) (hsum : SumC T M N floor l L hh f) : PathC T M N floor l L i n f := by
  intro w y z1 z2 t hy hz1 hz2
  subst hy hz1
  have hp30 : (2 : Nat) ^ 30 = 1073741824 := by decide
  have hhn := halfN_lt hn
  have hpt := pathT_right (L := L) hn hhh hi
  rw [hhh] at hhn
  obtain ⟨tt, htt⟩ : ∃ tt : Nat, z2 = (tt : Int) := ⟨f + n, by omega⟩
  subst htt
  have hsub : (tt : Int) - (f : Int) = (n : Int) := by omega
  have hplen := pathT_len L 40 i (n - hh) (f + hh) (Nat.le_trans (show _ ≤ 2 ^ 30 by omega) (by decide))
  have hin : decide ((i : Int) < (f : Int) + (hh : Int)) = false := by simp; omega
  have hn1 : ((n : Int) == 1) = false := by simp; omega
  have hn2 : decide ((n : Int) = 1) = false := by simp; omega
  have hB : (0 : Int) ≤ n ∧ (2 : Int) ≤ n ∧ (n : Int) ≤ 1073741824 ∧ (0 : Int) ≤ f ∧ (f : Int) ≤ 1073741824 ∧ (tt : Int) ≤ 1073741824 ∧ (0 : Int) ≤ hh ∧ (hh : Int) ≤ 1073741824 ∧ (i : Int) ≤ 1073741824 := by omega
  obtain ⟨b1, b2, b3, b4, b5, b7, b8, b9, b10⟩ := hB
  have HC := Hs.hid (And.intro hn (And.intro (show n ≤ 2 ^ 50 by have : (2 : Nat) ^ 50 = 1125899906842624 := (by decide); omega) (And.intro hhh (And.intro hplen (show (tt : Int) = ((f + hh : Nat) : Int) + ((n - hh : Nat) : Int) by skip; omega)))))
  have HP := Hs.hid hpt
  have HT := Hs.hid t
  have IH := Hs.hid ih
  have HS := Hs.hid hsum
  clear t hpt hfn hz2 hp30 hN hhh hn ih hsum hhn hlt hfi hplen hi
  obtain ⟨p, hp⟩ : ∃ p, pathT L i (n - hh) (f + hh) = p := ⟨_, rfl⟩
  obtain ⟨x, hx⟩ : ∃ x, mthT L hh f = x := ⟨_, rfl⟩
  rw [hp, hx] at HP
  rw [hp] at HC
  have HPX := Hs.hid (And.intro hp hx)
  clear hp hx
  go_enter Try.func26, Try.ntmps26
  go_upto_region 10 with (go_at_call 44; refine (half_any n HC.out.1 HC.out.2.1 _).mono ?_; rintro e w1 ⟨rfl, hw1⟩; subst w1; rw [HC.out.2.2.1])
  have hX := zeroSum w
  have hx0 := (Ext.refl [] w).alloc (.cells #[.int .u8 0, .int .u8 0, .int .u8 0, .int .u8 0, .int .u8 0, .int .u8 0, .int .u8 0, .int .u8 0, .int .u8 0, .int .u8 0, .int .u8 0, .int .u8 0, .int .u8 0, .int .u8 0, .int .u8 0, .int .u8 0, .int .u8 0, .int .u8 0, .int .u8 0, .int .u8 0, .int .u8 0, .int .u8 0, .int .u8 0, .int .u8 0, .int .u8 0, .int .u8 0, .int .u8 0, .int .u8 0, .int .u8 0, .int .u8 0, .int .u8 0, .int .u8 0] 35)
  have hTW := HT.out.ext0 hx0
  have hXlt := lt_of_heap hX
  generalize w.alloc (.cells #[.int .u8 0, .int .u8 0, .int .u8 0, .int .u8 0, .int .u8 0, .int .u8 0, .int .u8 0, .int .u8 0, .int .u8 0, .int .u8 0, .int .u8 0, .int .u8 0, .int .u8 0, .int .u8 0, .int .u8 0, .int .u8 0, .int .u8 0, .int .u8 0, .int .u8 0, .int .u8 0, .int .u8 0, .int .u8 0, .int .u8 0, .int .u8 0, .int .u8 0, .int .u8 0, .int .u8 0, .int .u8 0, .int .u8 0, .int .u8 0, .int .u8 0, .int .u8 0] 35) = W at hX hx0 hTW hXlt ⊢
  obtain ⟨X, hXX⟩ : ∃ X, w.heap.size = X := ⟨_, rfl⟩
  rw [hXX] at hX hXlt ⊢
  have HXX := Hs.hid (show w.heap.size ≤ X from Nat.le_of_eq hXX)
  have HXL := Hs.hid hXlt
  clear hXX hXlt
  go_upto_region 11 with (go_at_call 26; refine (IH.out _ _ _ _ hTW (by omega) (by simp) (HC.out.2.2.2.2)).mono ?_; rintro e w2 ⟨v, rfl, hO, hOg, hx2⟩)
  rw [HPX.out.1] at hO
  obtain ⟨ao, cap, rfl⟩ := hO.form
  have hX2 := hx2.same hX (by simp)
  have hT2 := hTW.ext0 hx2
  have HOG := Hs.hid hOg
  clear hOg
  go_upto_region 12 with (first
    | (go_at_call 29; refine (HS.out _ _ _ hT2 (by simp) (by push_cast; rfl)).mono ?_; rintro e w3 ⟨cs, rfl, hcs, hx3⟩; rw [HPX.out.2] at hcs; have hq := hcs.out; subst hq; have hX3 := hx3.same hX2 (by simp); have hO3 := hO.ext hx3 (by simp))
    | (refine wpList_store_row rfl 35 (.tmp 12) (.tmp 56) rfl _ (digV x) rfl rfl _ _ hX3 (by rw [digV_size]; exact infoSum) (by rw [digV_size]; exact bytesL_size _) (digV_one _) ?_))
  have hX4 := setRow_heap _ _ _ (digV x) _ _ hX3
  have hxs := setRow_ext (w := w3) X (digV x)
  have hO4 := hO3.ext hxs (fun g hg => by have := HOG.out g hg; have := HXL.out; simp; omega)
  have hx4 : Ext [] w (w3.setRow X (digV x)) := ((hx0.trans0 hx2).trans0 hx3).trans hxs (fun g hg => .inr (by simp at hg; have := HXX.out; omega))
  have hsz : w.heap.size ≤ W.heap.size := hx0.size
  have HSZ := Hs.hid hsz
  generalize w3.setRow X (digV x) = W4 at hX4 hxs hO4 hx4 ⊢
  clear hX3 hO3 hX2 hO hT2 hX hxs hsz
  have hd : (digV x) = (sumsC [x]).toArray := by simp [sumsC]
  have HD := Hs.hid hd
  clear hd
  go_wp2_with (first
    | (refine wpList_load_row rfl 35 (.tmp 12) rfl X rfl 35 (digV x) (0, 0) _ hX4 Try.underlying35 rfl (by rw [digV_size]; exact infoSum) ?_)
    | (refine wpList_sum rfl (.tmp 65) rfl x rfl ?_; have hB5 := heap_new W4 (.cells (digV x) 35); have hO5 := hO4.ext ((Ext.refl [] W4).alloc (.cells (digV x) 35)) (by simp); have hx5 := hx4.alloc (.cells (digV x) 35); rw [HD.out] at hB5)
    | (refine wpList_append_sum rfl (.tmp 64) (.tmp 66) rfl (.slice ao p.length cap) p rfl hO5 _ 1 [x] (0, 0) rfl rfl hB5 (by have := HC.out.2.2.2.1; omega) ?_; intro ao6 cap6 w6 hO6 hx6 hg6))
  go_ret2
  refine ⟨_, rfl, by rw [HP.out]; simpa [OwnS] using hO6, fun g hg => ?_, hx5.trans hx6 (fun g hg => ?_)⟩
  · rcases hg6 g hg with h | h
    · have := HOG.out g h; have := HSZ.out; omega
    · have := hx5.size; omega
  · have := HOG.out g (by simpa using hg); have := HSZ.out; exact .inr (by omega)
theorem path_any {T M N floor : Nat} {l : List (Pl × ByteArray)} {L : List ByteArray} (hI : Hid (TInv L N floor l)) (hN : N ≤ 2 ^ 30) : ∀ (c n i j : Nat), 1 ≤ n → n ≤ 2 ^ c → j * 2 ^ c + n ≤ N → j * 2 ^ c ≤ i → i < j * 2 ^ c + n → floor ≤ i → PathC T M N floor l L i n (j * 2 ^ c) := by
  intro c n
  induction n using Nat.strongRecOn generalizing c with
  | _ n ih =>
    intro i j h1 h2 h3 h4 h5 h6
    have hp30 : (2 : Nat) ^ 30 = 1073741824 := by decide
    by_cases hn : 2 ≤ n
    · obtain ⟨v, hv1, hv2⟩ := exists_pow n hn
      have hvc : v < c := (Nat.pow_lt_pow_iff_right (a := 2) (by omega)).1 (by omega)
      have hh := halfN_eq hv1 hv2
      obtain ⟨d, rfl⟩ : ∃ d, c = v + (d + 1) := ⟨c - v - 1, by omega⟩
      have e0 : j * 2 ^ (v + (d + 1)) = 2 * (j * 2 ^ d) * 2 ^ v := by
        rw [Nat.pow_add, Nat.pow_succ]; simp only [Nat.mul_assoc, Nat.mul_comm, Nat.mul_left_comm]
      have e1 : j * 2 ^ (v + (d + 1)) + 2 ^ v = (2 * (j * 2 ^ d) + 1) * 2 ^ v := by rw [e0, Nat.add_mul, Nat.one_mul]
      have hp := Nat.two_pow_pos v
      have hv3 : n ≤ 2 ^ v * 2 := by rw [Nat.pow_succ] at hv2; exact hv2
      by_cases hi : i < j * 2 ^ (v + (d + 1)) + 2 ^ v
      · refine path_left i n _ (2 ^ v) hn hh hi h5 h4 hN h3 ?_ ?_
        · rw [e0]
          exact ih (2 ^ v) hv1 v i _ hp (Nat.le_refl _) (by omega) (by omega) (by omega) h6
        · rw [e1]
          intro w y z t hy hz
          exact sum_any (sumOK_right (by omega) (by omega) (by omega)) hI hN (by omega) w y z t hy hz
      · refine path_right i n _ (2 ^ v) hn hh hi h5 h4 hN h3 ?_ ?_
        · rw [e1]
          exact ih (n - 2 ^ v) (by omega) v i _ (by omega) (by omega) (by omega) (by omega) (by omega) h6
        · intro w y z t hy hz
          exact sum_any (sumOK_left (by omega) (by rw [Nat.pow_succ]; omega)) hI hN (by omega) w y z t hy hz
    · have : n = 1 := by omega
      subst this
      exact path_one i _ (by have : (2 : Nat) ^ 40 = 1099511627776 := (by decide); omega)
end Go.Proofs.Ytjicjadibaomkaa
set_option linter.unusedSimpArgs false
set_option linter.unusedVariables false
set_option maxHeartbeats 2000000
set_option maxRecDepth 100000
namespace Go.Proofs.Ytjicjadibaomkaa
open Go.RowKit Go.Hs Go.Dg

/-- The texts of the proof of the first leaves up to m, from within out; whole: their own sum is known. -/
def stepsT (L : List ByteArray) (m n f : Nat) (whole : Bool) : List ByteArray :=
  if m = f + n then (if whole then [] else [mthT L n f])
  else if h : 2 ≤ n then
    if m ≤ f + halfN n then stepsT L m (halfN n) f whole ++ [mthT L (n - halfN n) (f + halfN n)]
    else stepsT L m (n - halfN n) (f + halfN n) false ++ [mthT L (halfN n) f]
  else []
termination_by n
decreasing_by
  · exact halfN_lt h
  · have := halfN_pos n; omega
theorem stepsT_end {L : List ByteArray} {m n f : Nat} (w : Bool) (h : m = f + n) : stepsT L m n f w = if w then [] else [mthT L n f] := by rw [stepsT, if_pos h]
theorem stepsT_left {L : List ByteArray} {m n f k : Nat} (w : Bool) (hm : ¬ m = f + n) (h : 2 ≤ n) (hk : halfN n = k) (hi : m ≤ f + k) : stepsT L m n f w = stepsT L m k f w ++ [mthT L (n - k) (f + k)] := by rw [stepsT, if_neg hm, dif_pos h, hk, if_pos hi]
theorem stepsT_right {L : List ByteArray} {m n f k : Nat} (w : Bool) (hm : ¬ m = f + n) (h : 2 ≤ n) (hk : halfN n = k) (hi : ¬ m ≤ f + k) : stepsT L m n f w = stepsT L m (n - k) (f + k) false ++ [mthT L k f] := by rw [stepsT, if_neg hm, dif_pos h, hk, if_neg hi]
theorem stepsT_len (L : List ByteArray) : ∀ (c m n f : Nat) (w : Bool), n ≤ 2 ^ c → (stepsT L m n f w).length ≤ c + 1
  | c, m, n, f, w, h => by
    by_cases hm : m = f + n
    · rw [stepsT_end w hm]; cases w <;> simp
    · by_cases hn : 2 ≤ n
      · obtain ⟨v, h1, h2⟩ := exists_pow n hn
        have hv : v < c := (Nat.pow_lt_pow_iff_right (a := 2) (by omega)).1 (by omega)
        obtain ⟨c, rfl⟩ : ∃ d, c = d + 1 := ⟨c - 1, by omega⟩
        have hh := halfN_eq h1 h2
        have hp : 2 ^ v ≤ 2 ^ c := Nat.pow_le_pow_right (by omega) (by omega)
        rw [Nat.pow_succ] at h2
        by_cases hi : m ≤ f + 2 ^ v
        · rw [stepsT_left w hm hn hh hi, List.length_append]
          have := stepsT_len L c m (2 ^ v) f w hp
          simp; omega
        · rw [stepsT_right w hm hn hh hi, List.length_append]
          have := stepsT_len L c m (n - 2 ^ v) (f + 2 ^ v) false (by omega)
          simp; omega
      · rw [stepsT, if_neg hm, dif_neg hn]; simp
/-- What a call of steps does. -/
def StepsC (T M N floor : Nat) (l : List (Pl × ByteArray)) (L : List ByteArray) (m n f : Nat) (whole : Bool) : Prop := ∀ (w : World) (y z1 z2 : Int), TAt w.heap T M N floor l → y = m → z1 = f → z2 = (f : Int) + n →
  Calls Try.prog 33 #[.pointer (some ⟨T, 0, none⟩), .int .i64 y, .int .i64 z1, .int .i64 z2, .bool whole] w fun e w' => ∃ v, e = .returned (.tuple #[v, .int .i64 0]) ∧ OwnS w'.heap v (stepsT L m n f whole) ∧ (∀ g, v.ownBlock = some g → w.heap.size ≤ g) ∧ Ext [] w w'
theorem steps_whole {T M N floor : Nat} {l : List (Pl × ByteArray)} {L : List ByteArray} (m n f : Nat) (hm : m = f + n) (hb : f + n ≤ 2 ^ 40) : StepsC T M N floor l L m n f true := by
  intro w y z1 z2 t hy hz1 hz2
  subst hy hz1
  obtain rfl : z2 = (m : Int) := by omega
  have hs : ((m : Int) == m) = true := by simp
  have HM := Hs.hid hm
  clear hm hb hz2
  go_enter Try.func33, Try.ntmps33
  go_wp2
  go_ret2
  exact ⟨_, rfl, (by rw [stepsT_end _ HM.out]; exact OwnS.nil _), (fun g hg => by cases hg), Ext.refl _ _⟩
theorem steps_end {T M N floor : Nat} {l : List (Pl × ByteArray)} {L : List ByteArray} (m n f : Nat) (hm : m = f + n) (hb : f + n ≤ 2 ^ 40) (hsum : SumC T M N floor l L n f) : StepsC T M N floor l L m n f false := by
  intro w y z1 z2 t hy hz1 hz2
  subst hy hz1
  obtain rfl : z2 = (m : Int) := by omega
  have hs : ((m : Int) == m) = true := by simp
  have HM := Hs.hid (And.intro hm hz2)
  have HS := Hs.hid hsum
  have HT := Hs.hid t
  clear hm hb hz2 hsum t
  obtain ⟨x, hx⟩ : ∃ x, mthT L n f = x := ⟨_, rfl⟩
  have HX := Hs.hid hx
  clear hx
  go_enter Try.func33, Try.ntmps33
  go_upto_region 5 with (first
    | (go_at_call 29; refine (HS.out _ _ _ HT.out rfl HM.out.2).mono ?_; rintro e w2 ⟨cs1, rfl, hcs1, hx2⟩; rw [HX.out] at hcs1; have hq := hcs1.out; subst hq; have hA2 := zeroSum w2; have hx3 := (Ext.refl [] w2).alloc (.cells #[.int .u8 0, .int .u8 0, .int .u8 0, .int .u8 0, .int .u8 0, .int .u8 0, .int .u8 0, .int .u8 0, .int .u8 0, .int .u8 0, .int .u8 0, .int .u8 0, .int .u8 0, .int .u8 0, .int .u8 0, .int .u8 0, .int .u8 0, .int .u8 0, .int .u8 0, .int .u8 0, .int .u8 0, .int .u8 0, .int .u8 0, .int .u8 0, .int .u8 0, .int .u8 0, .int .u8 0, .int .u8 0, .int .u8 0, .int .u8 0, .int .u8 0, .int .u8 0] 35))
    | (refine wpList_store_row rfl 35 (.tmp 12) (.tmp 28) rfl _ (digV x) rfl rfl _ _ hA2 (by rw [digV_size]; exact infoSum) (by rw [digV_size]; exact bytesL_size _) (digV_one _) ?_))
  have hA3 := setRow_heap _ _ _ (digV x) _ _ hA2
  have hx4 : Ext [] w ((w2.alloc (.cells #[.int .u8 0, .int .u8 0, .int .u8 0, .int .u8 0, .int .u8 0, .int .u8 0, .int .u8 0, .int .u8 0, .int .u8 0, .int .u8 0, .int .u8 0, .int .u8 0, .int .u8 0, .int .u8 0, .int .u8 0, .int .u8 0, .int .u8 0, .int .u8 0, .int .u8 0, .int .u8 0, .int .u8 0, .int .u8 0, .int .u8 0, .int .u8 0, .int .u8 0, .int .u8 0, .int .u8 0, .int .u8 0, .int .u8 0, .int .u8 0, .int .u8 0, .int .u8 0] 35)).setRow w2.heap.size (digV x)) := (hx2.trans0 hx3).trans (setRow_ext _ _) (fun g hg => .inr (by simp at hg; have := hx2.size; omega))
  generalize (w2.alloc (.cells #[.int .u8 0, .int .u8 0, .int .u8 0, .int .u8 0, .int .u8 0, .int .u8 0, .int .u8 0, .int .u8 0, .int .u8 0, .int .u8 0, .int .u8 0, .int .u8 0, .int .u8 0, .int .u8 0, .int .u8 0, .int .u8 0, .int .u8 0, .int .u8 0, .int .u8 0, .int .u8 0, .int .u8 0, .int .u8 0, .int .u8 0, .int .u8 0, .int .u8 0, .int .u8 0, .int .u8 0, .int .u8 0, .int .u8 0, .int .u8 0, .int .u8 0, .int .u8 0] 35)).setRow w2.heap.size (digV x) = W3 at hA3 hx4 ⊢
  clear hA2 hx3
  generalize w2.heap.size = A at hA3 ⊢
  clear hx2
  have hd : (digV x) = (sumsC [x]).toArray := by simp [sumsC]
  have HD := Hs.hid hd
  clear hd
  go_wp2_with (first
    | (refine wpList_load_row rfl 35 (.tmp 12) rfl A rfl 35 (digV x) (0, 0) _ hA3 Try.underlying35 rfl (by rw [digV_size]; exact infoSum) ?_)
    | (refine wpList_sum rfl (.tmp 33) rfl x rfl ?_; have hB5 := heap_new W3 (.cells (digV x) 35); have hx5 := hx4.alloc (.cells (digV x) 35)))
  go_ret2
  refine ⟨_, rfl, ?_, fun g hg => ?_, hx5⟩
  · rw [stepsT_end _ HM.out.1, HX.out]
    exact ⟨sumsC_len _, .inr ⟨_, _, _, rfl, Nat.zero_le _, hB5, Nat.le_refl _, by decide, digV_size _, by rw [List.take_of_length_le (by rw [Array.length_toList, digV_size]; simp)]; simp [sumsC]⟩⟩
  · have hg' : W3.heap.size = g := by simpa [Value.ownBlock] using hg
    rw [← hg']; exact hx4.size
theorem steps_left {T M N floor : Nat} {l : List (Pl × ByteArray)} {L : List ByteArray} (i n f hh : Nat) (whole : Bool) (hn : 2 ≤ n) (hhh : halfN n = hh) (hi : i ≤ f + hh) (hlt : i < f + n) (hfi : f ≤ i) (hN : N ≤ 2 ^ 30) (hfn : f + n ≤ N)
    (ih : StepsC T M N floor l L i hh f whole) (hsum : SumC T M N floor l L (n - hh) (f + hh)) : StepsC T M N floor l L i n f whole := by
  intro w y z1 z2 t hy hz1 hz2
  subst hy hz1
  have hp30 : (2 : Nat) ^ 30 = 1073741824 := by decide
  have hhn := halfN_lt hn
  have hpt := stepsT_left (L := L) whole (by omega) hn hhh hi
  rw [hhh] at hhn
  obtain ⟨tt, htt⟩ : ∃ tt : Nat, z2 = (tt : Int) := ⟨f + n, by omega⟩
  subst htt
  have hsub : (tt : Int) - (f : Int) = (n : Int) := by omega
  have hplen := stepsT_len L 40 i hh f whole (Nat.le_trans (show _ ≤ 2 ^ 30 by omega) (by decide))
  have hin : decide ((i : Int) ≤ (f : Int) + (hh : Int)) = true := by simp; omega
  have hne1 : ((i : Int) == (tt : Int)) = false := by simp; omega
  have hne2 : decide (i = tt) = false := by simp; omega
  have hne3 : ¬ i = tt := by omega
  have hB : (0 : Int) ≤ n ∧ (2 : Int) ≤ n ∧ (n : Int) ≤ 1073741824 ∧ (0 : Int) ≤ f ∧ (f : Int) ≤ 1073741824 ∧ (tt : Int) ≤ 1073741824 ∧ (0 : Int) ≤ hh ∧ (hh : Int) ≤ 1073741824 ∧ (i : Int) ≤ 1073741824 := by omega
  obtain ⟨b1, b2, b3, b4, b5, b7, b8, b9, b10⟩ := hB
  have HC := Hs.hid (And.intro hn (And.intro (show n ≤ 2 ^ 50 by have : (2 : Nat) ^ 50 = 1125899906842624 := (by decide); omega) (And.intro hhh (And.intro hplen (show (tt : Int) = ((f + hh : Nat) : Int) + ((n - hh : Nat) : Int) by omega)))))
  have HP := Hs.hid hpt
  have HT := Hs.hid t
  have IH := Hs.hid ih
  have HS := Hs.hid hsum
  clear t hpt hfn hz2 hp30 hN hhh hn ih hsum hhn hlt hfi hplen hi
  obtain ⟨p, hp⟩ : ∃ p, stepsT L i hh f whole = p := ⟨_, rfl⟩
  obtain ⟨x, hx⟩ : ∃ x, mthT L (n - hh) (f + hh) = x := ⟨_, rfl⟩
  rw [hp, hx] at HP
  rw [hp] at HC
  have HPX := Hs.hid (And.intro hp hx)
  clear hp hx
  go_enter Try.func33, Try.ntmps33
  go_upto_region 13 with (go_at_call 44; refine (half_any n HC.out.1 HC.out.2.1 _).mono ?_; rintro e w1 ⟨rfl, hw1⟩; subst w1; rw [HC.out.2.2.1])
  have hX := zeroSum w
  have hx0 := (Ext.refl [] w).alloc (.cells #[.int .u8 0, .int .u8 0, .int .u8 0, .int .u8 0, .int .u8 0, .int .u8 0, .int .u8 0, .int .u8 0, .int .u8 0, .int .u8 0, .int .u8 0, .int .u8 0, .int .u8 0, .int .u8 0, .int .u8 0, .int .u8 0, .int .u8 0, .int .u8 0, .int .u8 0, .int .u8 0, .int .u8 0, .int .u8 0, .int .u8 0, .int .u8 0, .int .u8 0, .int .u8 0, .int .u8 0, .int .u8 0, .int .u8 0, .int .u8 0, .int .u8 0, .int .u8 0] 35)
  have hTW := HT.out.ext0 hx0
  have hXlt := lt_of_heap hX
  generalize w.alloc (.cells #[.int .u8 0, .int .u8 0, .int .u8 0, .int .u8 0, .int .u8 0, .int .u8 0, .int .u8 0, .int .u8 0, .int .u8 0, .int .u8 0, .int .u8 0, .int .u8 0, .int .u8 0, .int .u8 0, .int .u8 0, .int .u8 0, .int .u8 0, .int .u8 0, .int .u8 0, .int .u8 0, .int .u8 0, .int .u8 0, .int .u8 0, .int .u8 0, .int .u8 0, .int .u8 0, .int .u8 0, .int .u8 0, .int .u8 0, .int .u8 0, .int .u8 0, .int .u8 0] 35) = W at hX hx0 hTW hXlt ⊢
  obtain ⟨X, hXX⟩ : ∃ X, w.heap.size = X := ⟨_, rfl⟩
  rw [hXX] at hX hXlt ⊢
  have HXX := Hs.hid (show w.heap.size ≤ X from Nat.le_of_eq hXX)
  have HXL := Hs.hid hXlt
  clear hXX hXlt
  go_upto_region 14 with (go_at_call 33; refine (IH.out _ _ _ _ hTW (by omega) (by simp) (by push_cast; rfl)).mono ?_; rintro e w2 ⟨v, rfl, hO, hOg, hx2⟩)
  rw [HPX.out.1] at hO
  obtain ⟨ao, cap, rfl⟩ := hO.form
  have hX2 := hx2.same hX (by simp)
  have hT2 := hTW.ext0 hx2
  have HOG := Hs.hid hOg
  clear hOg
  go_upto_region 17 with (first
    | (go_at_call 29; refine (HS.out _ _ _ hT2 (by simp) (HC.out.2.2.2.2)).mono ?_; rintro e w3 ⟨cs, rfl, hcs, hx3⟩; rw [HPX.out.2] at hcs; have hq := hcs.out; subst hq; have hX3 := hx3.same hX2 (by simp); have hO3 := hO.ext hx3 (by simp))
    | (refine wpList_store_row rfl 35 (.tmp 16) (.tmp 58) rfl _ (digV x) rfl rfl _ _ hX3 (by rw [digV_size]; exact infoSum) (by rw [digV_size]; exact bytesL_size _) (digV_one _) ?_))
  have hX4 := setRow_heap _ _ _ (digV x) _ _ hX3
  have hxs := setRow_ext (w := w3) X (digV x)
  have hO4 := hO3.ext hxs (fun g hg => by have := HOG.out g hg; have := HXL.out; simp; omega)
  have hx4 : Ext [] w (w3.setRow X (digV x)) := ((hx0.trans0 hx2).trans0 hx3).trans hxs (fun g hg => .inr (by simp at hg; have := HXX.out; omega))
  have hsz : w.heap.size ≤ W.heap.size := hx0.size
  have HSZ := Hs.hid hsz
  generalize w3.setRow X (digV x) = W4 at hX4 hxs hO4 hx4 ⊢
  clear hX3 hO3 hX2 hO hT2 hX hxs hsz
  have hd : (digV x) = (sumsC [x]).toArray := by simp [sumsC]
  have HD := Hs.hid hd
  clear hd
  go_wp2_with (first
    | (refine wpList_load_row rfl 35 (.tmp 16) rfl X rfl 35 (digV x) (0, 0) _ hX4 Try.underlying35 rfl (by rw [digV_size]; exact infoSum) ?_)
    | (refine wpList_sum rfl (.tmp 82) rfl x rfl ?_; have hB5 := heap_new W4 (.cells (digV x) 35); have hO5 := hO4.ext ((Ext.refl [] W4).alloc (.cells (digV x) 35)) (by simp); have hx5 := hx4.alloc (.cells (digV x) 35); rw [HD.out] at hB5)
    | (refine wpList_append_sum rfl (.tmp 81) (.tmp 83) rfl (.slice ao p.length cap) p rfl hO5 _ 1 [x] (0, 0) rfl rfl hB5 (by have := HC.out.2.2.2.1; omega) ?_; intro ao6 cap6 w6 hO6 hx6 hg6))
  go_ret2
  refine ⟨_, rfl, by rw [HP.out]; simpa [OwnS] using hO6, fun g hg => ?_, hx5.trans hx6 (fun g hg => ?_)⟩
  · rcases hg6 g hg with h | h
    · have := HOG.out g h; have := HSZ.out; omega
    · have := hx5.size; omega
  · have := HOG.out g (by simpa using hg); have := HSZ.out; exact .inr (by omega)
theorem steps_right {T M N floor : Nat} {l : List (Pl × ByteArray)} {L : List ByteArray} (i n f hh : Nat) (whole : Bool) (hn : 2 ≤ n) (hhh : halfN n = hh) (hi : ¬ i ≤ f + hh) (hlt : i < f + n) (hfi : f ≤ i) (hN : N ≤ 2 ^ 30) (hfn : f + n ≤ N)
    (ih : StepsC T M N floor l L i (n - hh) (f + hh) false) (hsum : SumC T M N floor l L hh f) : StepsC T M N floor l L i n f whole := by
  intro w y z1 z2 t hy hz1 hz2
  subst hy hz1
  have hp30 : (2 : Nat) ^ 30 = 1073741824 := by decide
  have hhn := halfN_lt hn
  have hpt := stepsT_right (L := L) whole (by omega) hn hhh hi
  rw [hhh] at hhn
  obtain ⟨tt, htt⟩ : ∃ tt : Nat, z2 = (tt : Int) := ⟨f + n, by omega⟩
  subst htt
  have hsub : (tt : Int) - (f : Int) = (n : Int) := by omega
  have hplen := stepsT_len L 40 i (n - hh) (f + hh) false (Nat.le_trans (show _ ≤ 2 ^ 30 by omega) (by decide))
  have hin : decide ((i : Int) ≤ (f : Int) + (hh : Int)) = false := by simp; omega
  have hne1 : ((i : Int) == (tt : Int)) = false := by simp; omega
  have hne2 : decide (i = tt) = false := by simp; omega
  have hne3 : ¬ i = tt := by omega
  have hB : (0 : Int) ≤ n ∧ (2 : Int) ≤ n ∧ (n : Int) ≤ 1073741824 ∧ (0 : Int) ≤ f ∧ (f : Int) ≤ 1073741824 ∧ (tt : Int) ≤ 1073741824 ∧ (0 : Int) ≤ hh ∧ (hh : Int) ≤ 1073741824 ∧ (i : Int) ≤ 1073741824 := by omega
  obtain ⟨b1, b2, b3, b4, b5, b7, b8, b9, b10⟩ := hB
  have HC := Hs.hid (And.intro hn (And.intro (show n ≤ 2 ^ 50 by have : (2 : Nat) ^ 50 = 1125899906842624 := (by decide); omega) (And.intro hhh (And.intro hplen (show (tt : Int) = ((f + hh : Nat) : Int) + ((n - hh : Nat) : Int) by omega)))))
  have HP := Hs.hid hpt
  have HT := Hs.hid t
  have IH := Hs.hid ih
  have HS := Hs.hid hsum
  clear t hpt hfn hz2 hp30 hN hhh hn ih hsum hhn hlt hfi hplen hi
  obtain ⟨p, hp⟩ : ∃ p, stepsT L i (n - hh) (f + hh) false = p := ⟨_, rfl⟩
  obtain ⟨x, hx⟩ : ∃ x, mthT L hh f = x := ⟨_, rfl⟩
  rw [hp, hx] at HP
  rw [hp] at HC
  have HPX := Hs.hid (And.intro hp hx)
  clear hp hx
  go_enter Try.func33, Try.ntmps33
  go_upto_region 15 with (go_at_call 44; refine (half_any n HC.out.1 HC.out.2.1 _).mono ?_; rintro e w1 ⟨rfl, hw1⟩; subst w1; rw [HC.out.2.2.1])
  have hX := zeroSum w
  have hx0 := (Ext.refl [] w).alloc (.cells #[.int .u8 0, .int .u8 0, .int .u8 0, .int .u8 0, .int .u8 0, .int .u8 0, .int .u8 0, .int .u8 0, .int .u8 0, .int .u8 0, .int .u8 0, .int .u8 0, .int .u8 0, .int .u8 0, .int .u8 0, .int .u8 0, .int .u8 0, .int .u8 0, .int .u8 0, .int .u8 0, .int .u8 0, .int .u8 0, .int .u8 0, .int .u8 0, .int .u8 0, .int .u8 0, .int .u8 0, .int .u8 0, .int .u8 0, .int .u8 0, .int .u8 0, .int .u8 0] 35)
  have hTW := HT.out.ext0 hx0
  have hXlt := lt_of_heap hX
  generalize w.alloc (.cells #[.int .u8 0, .int .u8 0, .int .u8 0, .int .u8 0, .int .u8 0, .int .u8 0, .int .u8 0, .int .u8 0, .int .u8 0, .int .u8 0, .int .u8 0, .int .u8 0, .int .u8 0, .int .u8 0, .int .u8 0, .int .u8 0, .int .u8 0, .int .u8 0, .int .u8 0, .int .u8 0, .int .u8 0, .int .u8 0, .int .u8 0, .int .u8 0, .int .u8 0, .int .u8 0, .int .u8 0, .int .u8 0, .int .u8 0, .int .u8 0, .int .u8 0, .int .u8 0] 35) = W at hX hx0 hTW hXlt ⊢
  obtain ⟨X, hXX⟩ : ∃ X, w.heap.size = X := ⟨_, rfl⟩
  rw [hXX] at hX hXlt ⊢
  have HXX := Hs.hid (show w.heap.size ≤ X from Nat.le_of_eq hXX)
  have HXL := Hs.hid hXlt
  clear hXX hXlt
  go_upto_region 16 with (go_at_call 33; refine (IH.out _ _ _ _ hTW (by omega) (by simp) (HC.out.2.2.2.2)).mono ?_; rintro e w2 ⟨v, rfl, hO, hOg, hx2⟩)
  rw [HPX.out.1] at hO
  obtain ⟨ao, cap, rfl⟩ := hO.form
  have hX2 := hx2.same hX (by simp)
  have hT2 := hTW.ext0 hx2
  have HOG := Hs.hid hOg
  clear hOg
  go_upto_region 17 with (first
    | (go_at_call 29; refine (HS.out _ _ _ hT2 (by simp) (by push_cast; rfl)).mono ?_; rintro e w3 ⟨cs, rfl, hcs, hx3⟩; rw [HPX.out.2] at hcs; have hq := hcs.out; subst hq; have hX3 := hx3.same hX2 (by simp); have hO3 := hO.ext hx3 (by simp))
    | (refine wpList_store_row rfl 35 (.tmp 16) (.tmp 73) rfl _ (digV x) rfl rfl _ _ hX3 (by rw [digV_size]; exact infoSum) (by rw [digV_size]; exact bytesL_size _) (digV_one _) ?_))
  have hX4 := setRow_heap _ _ _ (digV x) _ _ hX3
  have hxs := setRow_ext (w := w3) X (digV x)
  have hO4 := hO3.ext hxs (fun g hg => by have := HOG.out g hg; have := HXL.out; simp; omega)
  have hx4 : Ext [] w (w3.setRow X (digV x)) := ((hx0.trans0 hx2).trans0 hx3).trans hxs (fun g hg => .inr (by simp at hg; have := HXX.out; omega))
  have hsz : w.heap.size ≤ W.heap.size := hx0.size
  have HSZ := Hs.hid hsz
  generalize w3.setRow X (digV x) = W4 at hX4 hxs hO4 hx4 ⊢
  clear hX3 hO3 hX2 hO hT2 hX hxs hsz
  have hd : (digV x) = (sumsC [x]).toArray := by simp [sumsC]
  have HD := Hs.hid hd
  clear hd
  go_wp2_with (first
    | (refine wpList_load_row rfl 35 (.tmp 16) rfl X rfl 35 (digV x) (0, 0) _ hX4 Try.underlying35 rfl (by rw [digV_size]; exact infoSum) ?_)
    | (refine wpList_sum rfl (.tmp 82) rfl x rfl ?_; have hB5 := heap_new W4 (.cells (digV x) 35); have hO5 := hO4.ext ((Ext.refl [] W4).alloc (.cells (digV x) 35)) (by simp); have hx5 := hx4.alloc (.cells (digV x) 35); rw [HD.out] at hB5)
    | (refine wpList_append_sum rfl (.tmp 81) (.tmp 83) rfl (.slice ao p.length cap) p rfl hO5 _ 1 [x] (0, 0) rfl rfl hB5 (by have := HC.out.2.2.2.1; omega) ?_; intro ao6 cap6 w6 hO6 hx6 hg6))
  go_ret2
  refine ⟨_, rfl, by rw [HP.out]; simpa [OwnS] using hO6, fun g hg => ?_, hx5.trans hx6 (fun g hg => ?_)⟩
  · rcases hg6 g hg with h | h
    · have := HOG.out g h; have := HSZ.out; omega
    · have := hx5.size; omega
  · have := HOG.out g (by simpa using hg); have := HSZ.out; exact .inr (by omega)
theorem steps_any {T M N floor : Nat} {l : List (Pl × ByteArray)} {L : List ByteArray} (hI : Hid (TInv L N floor l)) (hN : N ≤ 2 ^ 30) : ∀ (c n m j : Nat) (whole : Bool), 1 ≤ n → n ≤ 2 ^ c → j * 2 ^ c + n ≤ N → j * 2 ^ c < m → m ≤ j * 2 ^ c + n → floor ≤ m → (m = j * 2 ^ c + n → whole = true ∨ SumOK floor n (j * 2 ^ c)) → StepsC T M N floor l L m n (j * 2 ^ c) whole := by
  intro c n
  induction n using Nat.strongRecOn generalizing c with
  | _ n ih =>
    intro m j whole h1 h2 h3 h4 h5 h6 h7
    have hp30 : (2 : Nat) ^ 30 = 1073741824 := by decide
    have hp40 : (2 : Nat) ^ 40 = 1099511627776 := by decide
    by_cases hm : m = j * 2 ^ c + n
    · cases whole with
      | true => exact steps_whole m n _ hm (by omega)
      | false =>
        have hs := (h7 hm).resolve_left (by simp)
        exact steps_end m n _ hm (by omega) (fun w y z t hy hz => sum_any hs hI hN h3 w y z t hy hz)
    · have hn : 2 ≤ n := by omega
      obtain ⟨v, hv1, hv2⟩ := exists_pow n hn
      have hvc : v < c := (Nat.pow_lt_pow_iff_right (a := 2) (by omega)).1 (by omega)
      have hh := halfN_eq hv1 hv2
      have hleft : floor < j * 2 ^ c + 2 ^ (v + 1) → SumOK floor (2 ^ v) (j * 2 ^ c) := sumOK_left hvc
      obtain ⟨d, rfl⟩ : ∃ d, c = v + (d + 1) := ⟨c - v - 1, by omega⟩
      have e0 : j * 2 ^ (v + (d + 1)) = 2 * (j * 2 ^ d) * 2 ^ v := by
        rw [Nat.pow_add, Nat.pow_succ]; simp only [Nat.mul_assoc, Nat.mul_comm, Nat.mul_left_comm]
      have e1 : j * 2 ^ (v + (d + 1)) + 2 ^ v = (2 * (j * 2 ^ d) + 1) * 2 ^ v := by rw [e0, Nat.add_mul, Nat.one_mul]
      have hp := Nat.two_pow_pos v
      have hv3 : n ≤ 2 ^ v * 2 := by rw [Nat.pow_succ] at hv2; exact hv2
      have hv4 : 2 ^ (v + 1) = 2 ^ v * 2 := Nat.pow_succ ..
      by_cases hi : m ≤ j * 2 ^ (v + (d + 1)) + 2 ^ v
      · refine steps_left m n _ (2 ^ v) whole hn hh hi (by omega) (by omega) hN h3 ?_ ?_
        · have hq := hleft (by omega)
          rw [e0] at hq ⊢
          exact ih (2 ^ v) hv1 v m _ whole hp (Nat.le_refl _) (by omega) (by omega) (by omega) h6 (fun _ => .inr hq)
        · rw [e1]
          intro w y z t hy hz
          exact sum_any (sumOK_right (by omega) (by omega) (by omega)) hI hN (by omega) w y z t hy hz
      · refine steps_right m n _ (2 ^ v) whole hn hh hi (by omega) (by omega) hN h3 ?_ ?_
        · rw [e1]
          exact ih (n - 2 ^ v) (by omega) v m _ false (by omega) (by omega) (by omega) (by omega) (by omega) h6 (fun h => absurd h (by omega))
        · intro w y z t hy hz
          exact sum_any (hleft (by omega)) hI hN (by omega) w y z t hy hz
end Go.Proofs.Ytjicjadibaomkaa
set_option linter.unusedSimpArgs false
set_option linter.unusedVariables false
set_option maxHeartbeats 2000000
set_option maxRecDepth 100000
namespace Go.Proofs.Ytjicjadibaomkaa
open Go.RowKit Go.Hs Go.Dg

/-- A tree of leaves L, and of a floor, in block T, its map in block M. -/
def Tr (h : Array Obj) (T M : Nat) (L : List ByteArray) (floor : Nat) : Prop := ∃ l, TAt h T M L.length floor l ∧ TInv L L.length floor l ∧ floor ≤ L.length
theorem Tr.ext {w w' : World} {F : List Nat} {T M floor : Nat} {L : List ByteArray} (t : Tr w.heap T M L floor) (x : Ext F w w') (h1 : T ∉ F) (h2 : M ∉ F) : Tr w'.heap T M L floor := by
  obtain ⟨l, a, b, c⟩ := t; exact ⟨l, a.ext x h1 h2, b, c⟩
theorem Tr.ext0 {w w' : World} {T M floor : Nat} {L : List ByteArray} (t : Tr w.heap T M L floor) (x : Ext [] w w') : Tr w'.heap T M L floor := t.ext x (by simp) (by simp)
/-- The text of the root over the first m. -/
def rootT (L : List ByteArray) (m : Nat) : ByteArray := if m = 0 then ⟨#[]⟩ else mthT L m 0
theorem zeroLitB : (Value.agg #[.int .u8 0, .int .u8 0, .int .u8 0, .int .u8 0, .int .u8 0, .int .u8 0, .int .u8 0, .int .u8 0, .int .u8 0, .int .u8 0, .int .u8 0, .int .u8 0, .int .u8 0, .int .u8 0, .int .u8 0, .int .u8 0, .int .u8 0, .int .u8 0, .int .u8 0, .int .u8 0, .int .u8 0, .int .u8 0, .int .u8 0, .int .u8 0, .int .u8 0, .int .u8 0, .int .u8 0, .int .u8 0, .int .u8 0, .int .u8 0, .int .u8 0, .int .u8 0]) = .agg (bytesL fun _ => 0) := by rw [zeroLit]
theorem root_any {w : World} {T M floor : Nat} {L : List ByteArray} (m : Nat) (t : Tr w.heap T M L floor) (hN : L.length ≤ 2 ^ 30) (hm : m ≤ L.length) (hf : floor ≤ m) :
    Calls Try.prog 11 #[.pointer (some ⟨T, 0, none⟩), .int .i64 m] w fun e w' => ∃ cs, e = .returned (.tuple #[.agg cs, .int .i64 0]) ∧ Hid (cs = digV (rootT L m)) ∧ Ext [] w w' := by
  obtain ⟨l, t, hI, _⟩ := t
  have hR := zeroSum w
  have hx0 := (Ext.refl [] w).alloc (.cells #[.int .u8 0, .int .u8 0, .int .u8 0, .int .u8 0, .int .u8 0, .int .u8 0, .int .u8 0, .int .u8 0, .int .u8 0, .int .u8 0, .int .u8 0, .int .u8 0, .int .u8 0, .int .u8 0, .int .u8 0, .int .u8 0, .int .u8 0, .int .u8 0, .int .u8 0, .int .u8 0, .int .u8 0, .int .u8 0, .int .u8 0, .int .u8 0, .int .u8 0, .int .u8 0, .int .u8 0, .int .u8 0, .int .u8 0, .int .u8 0, .int .u8 0, .int .u8 0] 35)
  have hTW := t.ext0 hx0
  obtain ⟨c0, c1, c2⟩ := hTW.get
  have hp30 : (2 : Nat) ^ 30 = 1073741824 := by decide
  have hB : (0 : Int) ≤ m ∧ (m : Int) ≤ 1073741824 ∧ (L.length : Int) ≤ 1073741824 := by omega
  obtain ⟨b1, b2, b3⟩ := hB
  have d0 : decide ((m : Int) < 0) = false := by simp
  have d1 : decide (L.length < m) = false := by simp; omega
  have d2 : decide (m < floor) = false := by simp; omega
  by_cases h0 : m = 0
  · subst h0
    have HX := Hs.hid (show rootT L 0 = ⟨#[]⟩ from rfl)
    clear hN hp30 hm hf hI t
    go_enter Try.func11, Try.ntmps11
    go_upto_region 6 with fail
    generalize w.alloc (.cells #[.int .u8 0, .int .u8 0, .int .u8 0, .int .u8 0, .int .u8 0, .int .u8 0, .int .u8 0, .int .u8 0, .int .u8 0, .int .u8 0, .int .u8 0, .int .u8 0, .int .u8 0, .int .u8 0, .int .u8 0, .int .u8 0, .int .u8 0, .int .u8 0, .int .u8 0, .int .u8 0, .int .u8 0, .int .u8 0, .int .u8 0, .int .u8 0, .int .u8 0, .int .u8 0, .int .u8 0, .int .u8 0, .int .u8 0, .int .u8 0, .int .u8 0, .int .u8 0] 35) = W at hR hx0 hTW ⊢
    obtain ⟨R, hRR⟩ : ∃ R, w.heap.size = R := ⟨_, rfl⟩
    rw [hRR] at hR ⊢
    have HRR := Hs.hid (show w.heap.size ≤ R from Nat.le_of_eq hRR)
    clear hRR c0 c1 c2
    obtain ⟨x, hx⟩ : ∃ x : ByteArray, (⟨#[]⟩ : ByteArray) = x := ⟨_, rfl⟩
    have HXX := Hs.hid hx
    clear hx
    go_wp2_with (first
      | (go_at_call 12; refine (of_any ⟨#[]⟩ (by decide) _).mono ?_; rintro e w2 ⟨cs, rfl, hcs, hx2⟩; rw [HXX.out] at hcs; have hq := hcs.out; subst hq; have hR2 := hx2.same hR (by simp))
      | (refine wpList_store_row rfl 35 (.tmp 4) (.tmp 29) rfl R (digV x) rfl rfl _ _ hR2 (by rw [digV_size]; exact infoSum) (by rw [digV_size]; exact bytesL_size _) (digV_one _) ?_))
    refine bodyPost_ret (v := .tuple #[.agg (digV x), .int .i64 0]) (results_sum_tmp Try.results11 _ rfl rfl (setRow_heap _ _ _ _ _ _ hR2) (digV_size _)) rfl ⟨_, rfl, Hs.hid (by rw [HX.out, HXX.out]), ?_⟩
    exact (hx0.trans0 hx2).trans (setRow_ext _ _) (fun g hg => .inr (by simp at hg; have := HRR.out; omega))
  · have hsum := sum_any (T := T) (M := M) (L := L) (sumOK_root (floor := floor) (n := m) (by omega) hf) (Hs.hid hI) hN (by omega)
    have HX := Hs.hid (show rootT L m = mthT L m 0 from if_neg h0)
    have HS := Hs.hid hsum
    have d3 : ((m : Int) == 0) = false := by simp; omega
    clear hN hp30 hm hf hI t hsum
    go_enter Try.func11, Try.ntmps11
    go_upto_region 7 with fail
    generalize w.alloc (.cells #[.int .u8 0, .int .u8 0, .int .u8 0, .int .u8 0, .int .u8 0, .int .u8 0, .int .u8 0, .int .u8 0, .int .u8 0, .int .u8 0, .int .u8 0, .int .u8 0, .int .u8 0, .int .u8 0, .int .u8 0, .int .u8 0, .int .u8 0, .int .u8 0, .int .u8 0, .int .u8 0, .int .u8 0, .int .u8 0, .int .u8 0, .int .u8 0, .int .u8 0, .int .u8 0, .int .u8 0, .int .u8 0, .int .u8 0, .int .u8 0, .int .u8 0, .int .u8 0] 35) = W at hR hx0 hTW ⊢
    obtain ⟨R, hRR⟩ : ∃ R, w.heap.size = R := ⟨_, rfl⟩
    rw [hRR] at hR ⊢
    have HRR := Hs.hid (show w.heap.size ≤ R from Nat.le_of_eq hRR)
    clear hRR c0 c1 c2
    obtain ⟨x, hx⟩ : ∃ x, mthT L m 0 = x := ⟨_, rfl⟩
    have HXX := Hs.hid hx
    clear hx
    go_wp2_with (first
      | (go_at_call 29; refine (HS.out _ _ _ hTW rfl (by simp)).mono ?_; rintro e w2 ⟨cs, rfl, hcs, hx2⟩; rw [HXX.out] at hcs; have hq := hcs.out; subst hq; have hR2 := hx2.same hR (by simp))
      | (refine wpList_store_row rfl 35 (.tmp 4) (.tmp 33) rfl R (digV x) rfl rfl _ _ hR2 (by rw [digV_size]; exact infoSum) (by rw [digV_size]; exact bytesL_size _) (digV_one _) ?_))
    refine bodyPost_ret (v := .tuple #[.agg (digV x), .int .i64 0]) (results_sum_tmp Try.results11 _ rfl rfl (setRow_heap _ _ _ _ _ _ hR2) (digV_size _)) rfl ⟨_, rfl, Hs.hid (by rw [HX.out, HXX.out]), ?_⟩
    exact (hx0.trans0 hx2).trans (setRow_ext _ _) (fun g hg => .inr (by simp at hg; have := HRR.out; omega))
theorem root_low {w : World} {T M floor : Nat} {L : List ByteArray} (m : Nat) (t : Tr w.heap T M L floor) (hN : L.length ≤ 2 ^ 30) (hm : m ≤ L.length) (hf : m < floor) :
    Calls Try.prog 11 #[.pointer (some ⟨T, 0, none⟩), .int .i64 m] w fun e w' => ∃ cs, e = .returned (.tuple #[.agg cs, .int .i64 14]) ∧ Hid (cs = bytesL fun _ => 0) ∧ Ext [] w w' := by
  obtain ⟨l, t, hI, _⟩ := t
  have hR := zeroSum w
  have hx0 := (Ext.refl [] w).alloc (.cells #[.int .u8 0, .int .u8 0, .int .u8 0, .int .u8 0, .int .u8 0, .int .u8 0, .int .u8 0, .int .u8 0, .int .u8 0, .int .u8 0, .int .u8 0, .int .u8 0, .int .u8 0, .int .u8 0, .int .u8 0, .int .u8 0, .int .u8 0, .int .u8 0, .int .u8 0, .int .u8 0, .int .u8 0, .int .u8 0, .int .u8 0, .int .u8 0, .int .u8 0, .int .u8 0, .int .u8 0, .int .u8 0, .int .u8 0, .int .u8 0, .int .u8 0, .int .u8 0] 35)
  have hTW := t.ext0 hx0
  obtain ⟨c0, c1, c2⟩ := hTW.get
  have hp30 : (2 : Nat) ^ 30 = 1073741824 := by decide
  have hB : (0 : Int) ≤ m ∧ (m : Int) ≤ 1073741824 ∧ (L.length : Int) ≤ 1073741824 := by omega
  obtain ⟨b1, b2, b3⟩ := hB
  have d0 : decide ((m : Int) < 0) = false := by simp
  have d1 : decide (L.length < m) = false := by simp; omega
  have d2 : decide (m < floor) = true := by simp; omega
  clear hN hp30 hm hf hI t
  go_enter Try.func11, Try.ntmps11
  go_upto_region 4 with fail
  generalize w.alloc (.cells #[.int .u8 0, .int .u8 0, .int .u8 0, .int .u8 0, .int .u8 0, .int .u8 0, .int .u8 0, .int .u8 0, .int .u8 0, .int .u8 0, .int .u8 0, .int .u8 0, .int .u8 0, .int .u8 0, .int .u8 0, .int .u8 0, .int .u8 0, .int .u8 0, .int .u8 0, .int .u8 0, .int .u8 0, .int .u8 0, .int .u8 0, .int .u8 0, .int .u8 0, .int .u8 0, .int .u8 0, .int .u8 0, .int .u8 0, .int .u8 0, .int .u8 0, .int .u8 0] 35) = W at hR hx0 hTW ⊢
  obtain ⟨R, hRR⟩ : ∃ R, w.heap.size = R := ⟨_, rfl⟩
  rw [hRR] at hR ⊢
  have HRR := Hs.hid (show w.heap.size ≤ R from Nat.le_of_eq hRR)
  clear hRR c0 c1 c2
  go_wp2_with (refine wpList_store_row rfl 35 (.tmp 4) (.tmp 25) rfl R (bytesL fun _ => 0) rfl zeroLitB _ _ hR (by rw [bytesL_size]; exact infoSum) rfl (bytesL_one _) ?_)
  refine bodyPost_ret (v := .tuple #[.agg (bytesL fun _ => 0), .int .i64 14]) (results_sum_tmp Try.results11 _ rfl rfl (setRow_heap _ _ _ _ _ _ hR) (bytesL_size _)) rfl ⟨_, rfl, Hs.hid rfl, ?_⟩
  exact hx0.trans (setRow_ext _ _) (fun g hg => .inr (by simp at hg; have := HRR.out; omega))
theorem incl_any {w : World} {T M floor : Nat} {L : List ByteArray} (i m : Nat) (t : Tr w.heap T M L floor) (hN : L.length ≤ 2 ^ 30) (hm : m ≤ L.length) (hi : i < m) (hf : floor ≤ i) :
    Calls Try.prog 9 #[.pointer (some ⟨T, 0, none⟩), .int .i64 i, .int .i64 m] w fun e w' => ∃ v, e = .returned (.tuple #[v, .int .i64 0]) ∧ OwnS w'.heap v (pathT L i m 0) ∧ (∀ g, v.ownBlock = some g → w.heap.size ≤ g) ∧ Ext [] w w' := by
  obtain ⟨l, t, hI, _⟩ := t
  obtain ⟨c0, c1, c2⟩ := t.get
  have hp30 : (2 : Nat) ^ 30 = 1073741824 := by decide
  have hB : (0 : Int) ≤ m ∧ (m : Int) ≤ 1073741824 ∧ (L.length : Int) ≤ 1073741824 ∧ (0 : Int) ≤ i ∧ (i : Int) ≤ 1073741824 := by omega
  obtain ⟨b1, b2, b3, b4, b5⟩ := hB
  have d0 : decide ((m : Int) < 0) = false := by simp
  have d00 : decide ((i : Int) < 0) = false := by simp
  have d1 : decide (L.length < m) = false := by simp; omega
  have d2 : decide (i < floor) = false := by simp; omega
  have d3 : decide (m ≤ i) = false := by simp; omega
  have hpath := path_any (T := T) (M := M) (l := l) (Hs.hid hI) hN m m i 0 (by omega) (Nat.le_of_lt m.lt_two_pow_self) (by omega) (by omega) (by omega) hf
  rw [Nat.zero_mul] at hpath
  have HP := Hs.hid hpath
  have HT := Hs.hid t
  clear hN hp30 hm hf hI t hpath hi
  go_enter Try.func9, Try.ntmps9
  go_wp2_with (go_at_call 26; refine (HP.out _ _ _ _ HT.out rfl rfl (by simp)).mono ?_; rintro e w2 ⟨v, rfl, hO, hg, hx⟩)
  go_ret2
  exact ⟨_, rfl, hO, hg, hx⟩
theorem incl_low {w : World} {T M floor : Nat} {L : List ByteArray} (i m : Nat) (t : Tr w.heap T M L floor) (hN : L.length ≤ 2 ^ 30) (hm : m ≤ L.length) (hi : i < m) (hf : i < floor) :
    Calls Try.prog 9 #[.pointer (some ⟨T, 0, none⟩), .int .i64 i, .int .i64 m] w fun e w' => e = .returned (.tuple #[.slice none 0 0, .int .i64 14]) ∧ Ext [] w w' := by
  obtain ⟨l, t, hI, _⟩ := t
  obtain ⟨c0, c1, c2⟩ := t.get
  have hp30 : (2 : Nat) ^ 30 = 1073741824 := by decide
  have hB : (0 : Int) ≤ m ∧ (m : Int) ≤ 1073741824 ∧ (L.length : Int) ≤ 1073741824 ∧ (0 : Int) ≤ i ∧ (i : Int) ≤ 1073741824 := by omega
  obtain ⟨b1, b2, b3, b4, b5⟩ := hB
  have d0 : decide ((m : Int) < 0) = false := by simp
  have d00 : decide ((i : Int) < 0) = false := by simp
  have d1 : decide (L.length < m) = false := by simp; omega
  have d2 : decide (i < floor) = true := by simp; omega
  have d3 : decide (m ≤ i) = false := by simp; omega
  clear hN hp30 hm hf hI t hi
  go_enter Try.func9, Try.ntmps9
  go_wp2
  go_ret2
  exact ⟨rfl, Ext.refl _ _⟩
/-- The texts of the proof of the first m of n leaves. -/
def consT (L : List ByteArray) (m n : Nat) : List ByteArray := if m = 0 then [] else stepsT L m n 0 true
theorem cons_any {w : World} {T M floor : Nat} {L : List ByteArray} (m n : Nat) (t : Tr w.heap T M L floor) (hN : L.length ≤ 2 ^ 30) (hn : n ≤ L.length) (hm : m ≤ n) (hf : floor ≤ m) :
    Calls Try.prog 13 #[.pointer (some ⟨T, 0, none⟩), .int .i64 m, .int .i64 n] w fun e w' => ∃ v, e = .returned (.tuple #[v, .int .i64 0]) ∧ OwnS w'.heap v (consT L m n) ∧ (∀ g, v.ownBlock = some g → w.heap.size ≤ g) ∧ Ext [] w w' := by
  obtain ⟨l, t, hI, _⟩ := t
  obtain ⟨c0, c1, c2⟩ := t.get
  have hp30 : (2 : Nat) ^ 30 = 1073741824 := by decide
  have hB : (0 : Int) ≤ m ∧ (m : Int) ≤ 1073741824 ∧ (L.length : Int) ≤ 1073741824 ∧ (0 : Int) ≤ n ∧ (n : Int) ≤ 1073741824 := by omega
  obtain ⟨b1, b2, b3, b4, b5⟩ := hB
  have d0 : decide ((m : Int) < 0) = false := by simp
  have d00 : decide ((n : Int) < 0) = false := by simp
  have d1 : decide (L.length < n) = false := by simp; omega
  have d2 : decide (m < floor) = false := by simp; omega
  have d3 : decide (n < m) = false := by simp; omega
  by_cases h0 : m = 0
  · subst h0
    clear hN hp30 hm hf hI t hn
    go_enter Try.func13, Try.ntmps13
    go_wp2
    go_ret2
    exact ⟨_, rfl, OwnS.nil _, (fun g hg => by cases hg), Ext.refl _ _⟩
  · have hc : consT L m n = stepsT L m n 0 true := if_neg h0
    have d4 : ((m : Int) == 0) = false := by simp; omega
    have hst := steps_any (T := T) (M := M) (l := l) (Hs.hid hI) hN n n m 0 true (by omega) (Nat.le_of_lt n.lt_two_pow_self) (by omega) (by omega) (by omega) hf (fun _ => .inl rfl)
    rw [Nat.zero_mul] at hst
    unfold StepsC at hst
    rw [← hc] at hst
    have HP := Hs.hid hst
    have HT := Hs.hid t
    clear hN hp30 hm hf hI t hst hn hc
    go_enter Try.func13, Try.ntmps13
    go_wp2_with (go_at_call 33; refine (HP.out _ _ _ _ HT.out rfl rfl (by simp)).mono ?_; rintro e w2 ⟨v, rfl, hO, hg, hx⟩)
    go_ret2
    exact ⟨_, rfl, hO, hg, hx⟩
theorem append_tr {w : World} {T M floor : Nat} {L : List ByteArray} (t : Tr w.heap T M L floor) {v : Value} {ls : List ByteArray} (hs : Strs w.heap v ls) (hsz : Hid (∀ s ∈ ls, s.size ≤ 1000)) (hn : L.length + ls.length ≤ 2 ^ 30) :
    Calls Try.prog 8 #[.pointer (some ⟨T, 0, none⟩), v] w fun e w' => e = .returned (.tuple #[]) ∧ Tr w'.heap T M (L ++ ls) floor ∧ Ext [T, M] w w' := by
  obtain ⟨l, t, hI, hfl⟩ := t
  refine (append_any t (Hs.hid ⟨hI, rfl, hfl⟩) hs hsz hn).mono ?_
  rintro e w' ⟨rfl, ⟨l', t', hI'⟩, hx⟩
  refine ⟨rfl, ⟨l', ?_, ?_, ?_⟩, hx⟩
  · rw [List.length_append]; exact t'
  · rw [List.length_append]; exact hI'.out
  · rw [List.length_append]; omega
theorem new_tr (w : World) : Calls Try.prog 7 #[] w fun e w' => ∃ T M, e = .returned (.pointer (some ⟨T, 0, none⟩)) ∧ Tr w'.heap T M [] 0 ∧ Ext [] w w' ∧ w.heap.size ≤ T ∧ w.heap.size ≤ M ∧ T ≠ M := by
  refine (treeNew_any w).mono ?_
  rintro e w' ⟨T, M, rfl, t, hx, h1, h2⟩
  exact ⟨T, M, rfl, ⟨[], t, TInv.nil _, Nat.le_refl _⟩, hx, h1, h2, t.ne⟩
end Go.Proofs.Ytjicjadibaomkaa
set_option linter.unusedSimpArgs false
set_option linter.unusedVariables false
set_option maxHeartbeats 1000000
namespace Go.Proofs.Ytjicjadibaomkaa
open Go.RowKit Go.Hs Go.Dg

theorem strS_append (x y : List Nat) : strN (x ++ y) = strN x ++ strN y := by
  apply ByteArray.ext
  simp [strN, ByteArray.data_append]
theorem nodeT_dig (a b : ByteArray) : nodeT a b = node2 (dig a).s (dig b).s := by
  rw [nodeT, strS_append, node2_def, ByteArray.append_assoc]; rfl
theorem dig_nodeT (a b : ByteArray) : dig (nodeT a b) = nodeS (dig a) (dig b) := by rw [nodeT_dig]; rfl
theorem leafT_leaf2 (a : ByteArray) : leafT a = leaf2 a := rfl
attribute [local irreducible] dig nodeS node2 nodeT leafT
structure SideR where
  x : S32
  y : S32
  ps : List (ByteArray × ByteArray)
  ok : Bool
def sidesP (L : List ByteArray) (n f m : Nat) (whole : Bool) (old : S32) (xs : List S32) : SideR :=
  if m = n ∧ whole = true then ⟨old, old, [], decide (xs = [])⟩ else
  match xs.getLast? with
  | none => ⟨zeroS, zeroS, [], false⟩
  | some y =>
    if h : m = n ∨ n ≤ 1 then ⟨y, y, [], decide (xs.dropLast = [])⟩ else
    if m ≤ halfN n then
      ⟨(sidesP L (halfN n) f m whole old xs.dropLast).x, nodeS (sidesP L (halfN n) f m whole old xs.dropLast).y y, (sidesP L (halfN n) f m whole old xs.dropLast).ps ++ [(mthT L n f, node2 (sidesP L (halfN n) f m whole old xs.dropLast).y.s y.s)], (sidesP L (halfN n) f m whole old xs.dropLast).ok⟩
    else
      ⟨nodeS y (sidesP L (n - halfN n) (f + halfN n) (m - halfN n) false old xs.dropLast).x, nodeS y (sidesP L (n - halfN n) (f + halfN n) (m - halfN n) false old xs.dropLast).y, (sidesP L (n - halfN n) (f + halfN n) (m - halfN n) false old xs.dropLast).ps ++ [(mthT L n f, node2 y.s (sidesP L (n - halfN n) (f + halfN n) (m - halfN n) false old xs.dropLast).y.s)], (sidesP L (n - halfN n) (f + halfN n) (m - halfN n) false old xs.dropLast).ok⟩
termination_by n
decreasing_by
  all_goals first | exact halfN_lt (by omega) | (have := halfN_pos n; omega)
theorem sidesP_whole (L : List ByteArray) (n f : Nat) (old : S32) (xs : List S32) : sidesP L n f n true old xs = ⟨old, old, [], decide (xs = [])⟩ := by
  rw [sidesP, if_pos ⟨rfl, rfl⟩]
theorem sidesP_nil (L : List ByteArray) (n f m : Nat) (whole : Bool) (old : S32) (h : ¬ (m = n ∧ whole = true)) : sidesP L n f m whole old [] = ⟨zeroS, zeroS, [], false⟩ := by
  rw [sidesP, if_neg h]; rfl
theorem sidesP_end (L : List ByteArray) (n f : Nat) (old : S32) (ys : List S32) (y : S32) : sidesP L n f n false old (ys ++ [y]) = ⟨y, y, [], decide (ys = [])⟩ := by
  rw [sidesP, if_neg (by simp)]
  simp only [List.getLast?_concat, List.dropLast_concat]
  rw [dif_pos (.inl trivial)]
theorem sidesP_left (L : List ByteArray) (n f m k : Nat) (whole : Bool) (old : S32) (ys : List S32) (y : S32) (hm : m < n) (h2 : 2 ≤ n) (hk : halfN n = k) (hi : m ≤ k) (r : SideR) (hr : sidesP L k f m whole old ys = r) :
    sidesP L n f m whole old (ys ++ [y]) = ⟨r.x, nodeS r.y y, r.ps ++ [(mthT L n f, node2 r.y.s y.s)], r.ok⟩ := by
  subst hk; subst hr
  rw [sidesP, if_neg (by omega)]
  simp only [List.getLast?_concat, List.dropLast_concat]
  rw [dif_neg (by omega), if_pos hi]
theorem sidesP_right (L : List ByteArray) (n f m k : Nat) (whole : Bool) (old : S32) (ys : List S32) (y : S32) (hm : m < n) (h2 : 2 ≤ n) (hk : halfN n = k) (hi : ¬ m ≤ k) (r : SideR) (hr : sidesP L (n - k) (f + k) (m - k) false old ys = r) :
    sidesP L n f m whole old (ys ++ [y]) = ⟨nodeS y r.x, nodeS y r.y, r.ps ++ [(mthT L n f, node2 y.s r.y.s)], r.ok⟩ := by
  subst hk; subst hr
  rw [sidesP, if_neg (by omega)]
  simp only [List.getLast?_concat, List.dropLast_concat]
  rw [dif_neg (by omega), if_neg hi]
/-- Of right sums. -/
theorem sides_right (L : List ByteArray) : ∀ (N n f m : Nat) (whole : Bool) (old : S32), n ≤ N → 1 ≤ m → m ≤ n → (whole = true → old = dig (mthT L m f)) →
    (sidesP L n f m whole old ((stepsT L (f + m) n f whole).map dig)).y = dig (mthT L n f) ∧ (∀ p ∈ (sidesP L n f m whole old ((stepsT L (f + m) n f whole).map dig)).ps, p.1 = p.2) ∧
    (sidesP L n f m whole old ((stepsT L (f + m) n f whole).map dig)).ok = true ∧ ((sidesP L n f m whole old ((stepsT L (f + m) n f whole).map dig)).ps = [] ↔ m = n)
  | 0, n, f, m, whole, old, hN, h1, hm, ho => by omega
  | N + 1, n, f, m, whole, old, hN, h1, hm, ho => by
    by_cases hmn : m = n
    · subst hmn
      rw [stepsT_end whole rfl]
      cases whole
      · rw [if_neg (by decide)]
        have := sidesP_end L m f old [] (dig (mthT L m f))
        simp only [List.map_cons, List.map_nil, List.nil_append] at this ⊢
        rw [this]; simp
      · rw [if_pos rfl, List.map_nil, sidesP_whole]
        exact ⟨ho rfl, by simp, by simp, by simp⟩
    · have h2 : 2 ≤ n := by omega
      have hlt := halfN_lt h2
      have hpos := halfN_pos n
      obtain ⟨k, hk⟩ : ∃ k, halfN n = k := ⟨_, rfl⟩
      have hnode := mthT_node (L := L) (f := f) h2
      rw [hk] at hlt hpos hnode
      by_cases hi : m ≤ k
      · rw [stepsT_left whole (by omega) h2 hk (by omega), List.map_append, List.map_cons, List.map_nil]
        obtain ⟨r, hr⟩ : ∃ r, sidesP L k f m whole old ((stepsT L (f + m) k f whole).map dig) = r := ⟨_, rfl⟩
        have IH := sides_right L N k f m whole old (by omega) h1 hi ho
        rw [hr] at IH
        rw [sidesP_left L n f m k whole old _ _ (by omega) h2 hk hi r hr]
        refine ⟨?_, ?_, IH.2.2.1, ?_⟩
        · show nodeS r.y _ = _
          rw [IH.1, hnode, dig_nodeT]
        · intro p hp
          rcases List.mem_append.1 hp with h | h
          · exact IH.2.1 p h
          · simp at h; subst h
            show mthT L n f = _
            rw [hnode, nodeT_dig, IH.1]
        · simp; omega
      · rw [stepsT_right whole (by omega) h2 hk (by omega), List.map_append, List.map_cons, List.map_nil]
        obtain ⟨r, hr⟩ : ∃ r, sidesP L (n - k) (f + k) (m - k) false old ((stepsT L (f + m) (n - k) (f + k) false).map dig) = r := ⟨_, rfl⟩
        have IH := sides_right L N (n - k) (f + k) (m - k) false old (by omega) (by omega) (by omega) (fun h => by cases h)
        rw [show f + k + (m - k) = f + m by omega, hr] at IH
        rw [sidesP_right L n f m k whole old _ _ (by omega) h2 hk hi r hr]
        refine ⟨?_, ?_, IH.2.2.1, ?_⟩
        · show nodeS _ r.y = _
          rw [IH.1, hnode, dig_nodeT]
        · intro p hp
          rcases List.mem_append.1 hp with h | h
          · exact IH.2.1 p h
          · simp at h; subst h
            show mthT L n f = _
            rw [hnode, nodeT_dig, IH.1]
        · simp; omega
/-- The pairs' texts are nodes. -/
theorem sidesP_size (L : List ByteArray) : ∀ (N n f m : Nat) (whole : Bool) (old : S32) (xs : List S32), n ≤ N → ∀ p ∈ (sidesP L n f m whole old xs).ps, p.1.size = 65 ∧ p.2.size = 65
  | 0, n, f, m, whole, old, xs, hN, p, hp => by
    rw [sidesP] at hp
    split at hp
    · simp at hp
    · split at hp
      · simp at hp
      · rw [dif_pos (.inr (by omega))] at hp; simp at hp
  | N + 1, n, f, m, whole, old, xs, hN, p, hp => by
    rw [sidesP] at hp
    split at hp
    · simp at hp
    · split at hp
      · simp at hp
      · rename_i y hy
        split at hp
        · simp at hp
        · rename_i hc
          have h2 : 2 ≤ n := by omega
          have hlt := halfN_lt h2
          have hpos := halfN_pos n
          have hs : ∀ a b : S32, (node2 a.s b.s).size = 65 := fun a b => by rw [node2_size, a.ssize, b.ssize]
          have hm : (mthT L n f).size = 65 := by rw [mthT_node h2, nodeT_dig]; exact hs _ _
          split at hp
          · rcases List.mem_append.1 hp with h | h
            · exact sidesP_size L N (halfN n) f m whole old _ (by omega) p h
            · simp at h; subst h; exact ⟨hm, hs _ _⟩
          · rcases List.mem_append.1 hp with h | h
            · exact sidesP_size L N (n - halfN n) (f + halfN n) (m - halfN n) false old _ (by omega) p h
            · simp at h; subst h; exact ⟨hm, hs _ _⟩
/-- A path's sums. -/
theorem path_fold (L : List ByteArray) : ∀ (N n f i : Nat), n ≤ N → i < n → (pathT L (f + i) n f).length = (dirs i n).length ∧ foldU nodeS (dirs i n) (dig (leaf2 (L.getD (f + i) textP.noB))) ((pathT L (f + i) n f).map dig) = dig (mthT L n f)
  | 0, n, f, i, hN, hi => by omega
  | N + 1, n, f, i, hN, hi => by
    by_cases h2 : 2 ≤ n
    · have hlt := halfN_lt h2
      have hpos := halfN_pos n
      obtain ⟨k, hk⟩ : ∃ k, halfN n = k := ⟨_, rfl⟩
      have hnode := mthT_node (L := L) (f := f) h2
      have hd : dirs i n = if i < halfN n then dirs i (halfN n) ++ [false] else dirs (i - halfN n) (n - halfN n) ++ [true] := by rw [dirs, dif_neg (by omega)]
      rw [hk] at hlt hpos hnode hd
      by_cases hik : i < k
      · rw [if_pos hik] at hd
        have IH := path_fold L N k f i (by omega) hik
        rw [pathT_left h2 hk (by omega), hd, List.map_append, List.map_cons, List.map_nil, foldU_snoc nodeS _ _ _ _ _ (by rw [List.length_map]; exact IH.1.symm), IH.2]
        refine ⟨by simp [IH.1], ?_⟩
        unfold nodeD
        rw [if_neg (by decide), hnode, dig_nodeT]
      · rw [if_neg hik] at hd
        have IH := path_fold L N (n - k) (f + k) (i - k) (by omega) (by omega)
        rw [show f + k + (i - k) = f + i by omega] at IH
        rw [pathT_right h2 hk (by omega), hd, List.map_append, List.map_cons, List.map_nil, foldU_snoc nodeS _ _ _ _ _ (by rw [List.length_map]; exact IH.1.symm), IH.2]
        refine ⟨by simp [IH.1], ?_⟩
        unfold nodeD
        rw [if_pos rfl, hnode, dig_nodeT]
    · have : n = 1 := by omega
      subst this
      obtain rfl : i = 0 := by omega
      have hd : dirs 0 1 = [] := by rw [dirs, dif_pos (by omega)]
      rw [pathT_one (by omega), hd, mthT_one]
      exact ⟨rfl, by rw [Nat.add_zero, List.map_nil, leafT_leaf2]; rfl⟩
end Go.Proofs.Ytjicjadibaomkaa
set_option linter.unusedSimpArgs false
set_option linter.unusedVariables false
set_option maxHeartbeats 2000000
set_option maxRecDepth 100000
namespace Go.Proofs.Ytjicjadibaomkaa
open Go.RowKit Go.Hs Go.Dg

theorem zeroS_lit : zeroS.V = #[.int .u8 0, .int .u8 0, .int .u8 0, .int .u8 0, .int .u8 0, .int .u8 0, .int .u8 0, .int .u8 0, .int .u8 0, .int .u8 0, .int .u8 0, .int .u8 0, .int .u8 0, .int .u8 0, .int .u8 0, .int .u8 0, .int .u8 0, .int .u8 0, .int .u8 0, .int .u8 0, .int .u8 0, .int .u8 0, .int .u8 0, .int .u8 0, .int .u8 0, .int .u8 0, .int .u8 0, .int .u8 0, .int .u8 0, .int .u8 0, .int .u8 0, .int .u8 0] := rfl
theorem leafC_any (s : ByteArray) (hs : s.size ≤ 99999999) (w : World) : Calls Try.prog 23 #[.string s] w fun e w' => ∃ y : S32, e = .returned (.agg y.V) ∧ Hid (y = dig (leaf2 s)) ∧ Ext [] w w' :=
  (leaf_any s hs w).mono fun e w' ⟨cs, h1, h2, h3⟩ => ⟨dig (leaf2 s), by rw [h1, h2.out, dig_V]; rfl, Hs.hid rfl, h3⟩
theorem croot_mth (b o : Nat) (L : List ByteArray) (HL : Hid (L.length ≤ 40 ∧ ∀ s ∈ L, s.size ≤ 20)) : ∀ (N n f off cap : Nat), n ≤ N → 1 ≤ n → f + n ≤ L.length → off = o + f → n ≤ cap → cap ≤ 9223372036854775807 → ∀ w : World, LeafAt w.heap b o L →
    Calls Try.prog 36 #[.slice (some ⟨b, off, none⟩) n cap] w fun e w' => ∃ y : S32, e = .returned (.agg y.V) ∧ Hid (y = dig (mthT L n f)) ∧ Ext [] w w'
  | 0, n, f, off, cap, hN, h1, _, _, _, _, w, _ => by omega
  | N + 1, n, f, off, cap, hN, h1, hfn, hoff, hcap, hcm, w, hA => by
    have hR := heap_new w (.cells zeroS.V 35)
    have hx0 := (Ext.refl [] w).alloc (.cells zeroS.V 35)
    have hA0 := hA.ext0 hx0
    rw [zeroS_lit] at hR hx0 hA0
    by_cases hn1 : n = 1
    · subst hn1
      obtain ⟨s, hs⟩ : ∃ s, L[f]? = some s := ⟨_, List.getElem?_eq_getElem (show f < L.length by omega)⟩
      have hms : mthT L 1 f = leafT s := by rw [mthT_one, List.getD_eq_getElem?_getD, hs]; rfl
      have hsz : s.size ≤ 99999999 := by have := HL.out.2 s (List.mem_of_getElem? hs); omega
      have hc := hA0.cell hs
      rw [← hoff] at hc
      have HM := Hs.hid (And.intro hms hsz)
      clear hms hsz hs hfn hoff hA hA0
      go_enter Try.func36, Try.ntmps36
      go_upto_region 5 with fail
      generalize w.alloc (.cells #[.int .u8 0, .int .u8 0, .int .u8 0, .int .u8 0, .int .u8 0, .int .u8 0, .int .u8 0, .int .u8 0, .int .u8 0, .int .u8 0, .int .u8 0, .int .u8 0, .int .u8 0, .int .u8 0, .int .u8 0, .int .u8 0, .int .u8 0, .int .u8 0, .int .u8 0, .int .u8 0, .int .u8 0, .int .u8 0, .int .u8 0, .int .u8 0, .int .u8 0, .int .u8 0, .int .u8 0, .int .u8 0, .int .u8 0, .int .u8 0, .int .u8 0, .int .u8 0] 35) = W at hR hx0 hc ⊢
      obtain ⟨R, hRR⟩ : ∃ R, w.heap.size = R := ⟨_, rfl⟩
      rw [hRR] at hR ⊢
      have HRR := Hs.hid (show w.heap.size ≤ R from Nat.le_of_eq hRR)
      clear hRR
      go_wp2_with (first
        | (go_at_call 23; refine (leafC_any s HM.out.2 _).mono ?_; rintro e w1 ⟨y1, rfl, hy1, hx1⟩; have hR1 := hx1.same hR List.not_mem_nil)
        | (refine wpList_store_row rfl 35 (.tmp 2) (.tmp 14) rfl R y1.V rfl rfl _ _ hR1 (by rw [y1.size]; exact infoSum) (by rw [y1.size]; rfl) y1.one ?_))
      refine bodyPost_ret (v := .agg y1.V) (results_cell_row (P := Try.prog) Try.results36 _ _ R _ _ _ _ rfl (setRow_heap _ _ _ _ _ _ hR1) Try.underlying35 rfl (by rw [y1.size]; exact infoSum)) rfl ⟨y1, rfl, Hs.hid (by rw [HM.out.1, hy1.out]; rfl), ?_⟩
      exact (hx0.trans0 hx1).trans (setRow_ext _ _) (fun g hg => .inr (by simp at hg; have := HRR.out; omega))
    · have hL40 := HL.out.1
      have h2 : 2 ≤ n := by omega
      have hlt := halfN_lt h2
      have hpos := halfN_pos n
      have hnode : mthT L n f = nodeT (mthT L (halfN n) f) (mthT L (n - halfN n) (f + halfN n)) := mthT_node h2
      have hhalf := chalf_any n h2 (by have : (2 : Nat) ^ 40 = 1099511627776 := (by decide); omega)
      generalize halfN n = k at hlt hpos hnode hhalf ⊢
      have ih1 := croot_mth b o L HL N k f off cap (by omega) (by omega) (by omega) hoff (by omega) hcm
      have ih2 := croot_mth b o L HL N (n - k) (f + k) (off + k) (cap - k) (by omega) (by omega) (by omega) (by omega) (by omega) (by omega)
      generalize mthT L n f = T0 at hnode ⊢
      generalize mthT L k f = T1 at hnode ih1 ⊢
      generalize mthT L (n - k) (f + k) = T2 at hnode ih2 ⊢
      have hnk : (n : Int) - k = ((n - k : Nat) : Int) := by omega
      have b1 : (k : Int) ≤ n ∧ (0 : Int) ≤ k ∧ (k : Int) ≤ cap ∧ (n : Int) ≤ 40 ∧ (2 : Int) ≤ n := by omega
      obtain ⟨b1, b2, b3, b4, b5⟩ := b1
      have hck : ¬ cap = k := by omega
      have d0 : ((n : Int) == 0) = false := by simp; omega
      have d1 : ((n : Int) == 1) = false := by simp; omega
      have HN := Hs.hid (And.intro hnode hhalf)
      have HI := Hs.hid (And.intro ih1 ih2)
      clear hnode hhalf ih1 ih2 hfn hoff hL40 hA
      go_enter Try.func36, Try.ntmps36
      go_upto_region 7 with (go_at_call 27; refine (HN.out.2 _).mono ?_; rintro e w1 ⟨rfl, hx1⟩; subst hx1)
      generalize w.alloc (.cells #[.int .u8 0, .int .u8 0, .int .u8 0, .int .u8 0, .int .u8 0, .int .u8 0, .int .u8 0, .int .u8 0, .int .u8 0, .int .u8 0, .int .u8 0, .int .u8 0, .int .u8 0, .int .u8 0, .int .u8 0, .int .u8 0, .int .u8 0, .int .u8 0, .int .u8 0, .int .u8 0, .int .u8 0, .int .u8 0, .int .u8 0, .int .u8 0, .int .u8 0, .int .u8 0, .int .u8 0, .int .u8 0, .int .u8 0, .int .u8 0, .int .u8 0, .int .u8 0] 35) = W at hR hx0 hA0 ⊢
      obtain ⟨R, hRR⟩ : ∃ R, w.heap.size = R := ⟨_, rfl⟩
      rw [hRR] at hR ⊢
      have HRR := Hs.hid (show w.heap.size ≤ R from Nat.le_of_eq hRR)
      clear hRR
      have hxd : Ext [] w W.drew := hx0.drew
      have hR0 : W.drew.heap[R]? = some (.cells #[.int .u8 0, .int .u8 0, .int .u8 0, .int .u8 0, .int .u8 0, .int .u8 0, .int .u8 0, .int .u8 0, .int .u8 0, .int .u8 0, .int .u8 0, .int .u8 0, .int .u8 0, .int .u8 0, .int .u8 0, .int .u8 0, .int .u8 0, .int .u8 0, .int .u8 0, .int .u8 0, .int .u8 0, .int .u8 0, .int .u8 0, .int .u8 0, .int .u8 0, .int .u8 0, .int .u8 0, .int .u8 0, .int .u8 0, .int .u8 0, .int .u8 0, .int .u8 0] 35 (0, 0)) := hR
      replace hA0 : LeafAt W.drew.heap b o L := hA0
      refine wp_region_noPanic ?_
      refine wp_region_held_drew (S := (fun _ => True)) (by kernel_rfl) ?_ (fun hHeld => ?_)
      · ((try dsimp only); all_goals trivial)
      refine wpAnyH_take (i := 0) (v := ?_) rfl (by kernel_rfl) (by kernel_rfl) (by kernel_rfl) (fun _ _ _ h => h) (Or.inl ⟨by rfl, ?_⟩) (by assumption) ?_
      rotate_left
      · (intro w hSw; (try dsimp only at hSw); first | (go_simp; done) | (go_simp; with_reducible rfl))
      try simp only [Act.put, List.getElem_toArray, List.getElem_cons_succ, List.getElem_cons_zero, List.setIfInBounds_toArray, List.set_cons_zero, List.set_cons_succ]
      refine wpAnyH_take (i := 1) (v := ?_) rfl (by kernel_rfl) (by kernel_rfl) (by kernel_rfl) (fun _ _ _ h => h) (Or.inl ⟨by rfl, ?_⟩) (by assumption) ?_
      rotate_left
      · (intro w hSw; (try dsimp only at hSw); first | (go_simp; done) | (go_simp; with_reducible rfl))
      try simp only [Act.put, List.getElem_toArray, List.getElem_cons_succ, List.getElem_cons_zero, List.setIfInBounds_toArray, List.set_cons_zero, List.set_cons_succ]
      refine wpAnyH_take (i := 2) (v := ?_) rfl (by kernel_rfl) (by kernel_rfl) (by kernel_rfl) (fun _ _ _ h => h) (Or.inl ⟨by rfl, ?_⟩) (by assumption) ?_
      rotate_left
      · (intro w hSw; (try dsimp only at hSw); first | (go_simp; done) | (go_simp; with_reducible rfl))
      try simp only [Act.put, List.getElem_toArray, List.getElem_cons_succ, List.getElem_cons_zero, List.setIfInBounds_toArray, List.set_cons_zero, List.set_cons_succ]
      refine wpAnyH_take (i := 4) (v := ?_) rfl (by kernel_rfl) (by kernel_rfl) (by kernel_rfl) (fun _ _ _ h => h) (Or.inl ⟨by rfl, ?_⟩) (by assumption) ?_
      rotate_left
      · (intro w hSw; (try dsimp only at hSw); first | (go_simp; done) | (go_simp; with_reducible rfl))
      try simp only [Act.put, List.getElem_toArray, List.getElem_cons_succ, List.getElem_cons_zero, List.setIfInBounds_toArray, List.set_cons_zero, List.set_cons_succ]
      refine wpAnyH_take (i := 5) (v := ?_) rfl (by kernel_rfl) (by kernel_rfl) (by kernel_rfl) (fun _ _ _ h => h) (Or.inl ⟨by rfl, ?_⟩) (by assumption) ?_
      rotate_left
      · (intro w hSw; (try dsimp only at hSw); first | (go_simp; done) | (go_simp; with_reducible rfl))
      try simp only [Act.put, List.getElem_toArray, List.getElem_cons_succ, List.getElem_cons_zero, List.setIfInBounds_toArray, List.set_cons_zero, List.set_cons_succ]
      refine wpAnyH_take (i := 6) (v := ?_) rfl (by kernel_rfl) (by kernel_rfl) (by kernel_rfl) (fun _ _ _ h => h) (Or.inl ⟨by rfl, ?_⟩) (by assumption) ?_
      rotate_left
      · (intro w hSw; (try dsimp only at hSw); first | (go_simp; done) | (go_simp; with_reducible rfl))
      try simp only [Act.put, List.getElem_toArray, List.getElem_cons_succ, List.getElem_cons_zero, List.setIfInBounds_toArray, List.set_cons_zero, List.set_cons_succ]
      refine wpAnyH_ready (rs := [3]) (by kernel_rfl) (by simp) ?_
      refine AllReadyH.cons rfl (fun K hK => ?_) AllReadyH.nil
      go_simp
      (go_at_call 36; (with_reducible refine (HI.out.1 _ hA0).mono ?_); rintro e w2 ⟨y2, rfl, hy2, hx2⟩; have hA2 := hA0.ext0 hx2)
      go_wp2_with fail
      refine hK.out _ _ ?_ (fun hHeld => ?_)
      · ((try dsimp only); all_goals trivial)
      clear hK K
      try simp only [Act.put, List.getElem_toArray, List.getElem_cons_succ, List.getElem_cons_zero, List.setIfInBounds_toArray, List.set_cons_zero, List.set_cons_succ]
      refine wpAnyH_ready (rs := [7]) (by kernel_rfl) (by simp) ?_
      refine AllReadyH.cons rfl (fun K hK => ?_) AllReadyH.nil
      go_simp
      (go_at_call 36; (with_reducible refine (HI.out.2 _ hA2).mono ?_); rintro e w3 ⟨y3, rfl, hy3, hx3⟩)
      go_wp2_with fail
      refine hK.out _ _ ?_ (fun hHeld => ?_)
      · ((try dsimp only); all_goals trivial)
      clear hK K
      try simp only [Act.put, List.getElem_toArray, List.getElem_cons_succ, List.getElem_cons_zero, List.setIfInBounds_toArray, List.set_cons_zero, List.set_cons_succ]
      refine wpAnyH_ready (rs := [8]) (by kernel_rfl) (by simp) ?_
      refine AllReadyH.cons rfl (fun K hK => ?_) AllReadyH.nil
      go_simp
      (go_at_call 24; (with_reducible refine (nodeY_any y2 y3 _).mono ?_); rintro e w4 ⟨y4, rfl, hy4, hx4⟩; have hR4 := ((hx2.trans0 hx3).trans0 hx4).same hR0 List.not_mem_nil)
      go_wp2_with fail
      refine hK.out _ _ ?_ (fun hHeld => ?_)
      · ((try dsimp only); all_goals trivial)
      clear hK K
      try simp only [Act.put, List.getElem_toArray, List.getElem_cons_succ, List.getElem_cons_zero, List.setIfInBounds_toArray, List.set_cons_zero, List.set_cons_succ]
      refine wpAnyH_ready (rs := [9]) (by kernel_rfl) (by simp) ?_
      refine AllReadyH.cons rfl (fun K hK => ?_) AllReadyH.nil
      rw [if_pos (by rfl)]
      (refine wp_store_row 35 _ _ rfl R y4.V rfl rfl _ _ hR4 (by rw [y4.size]; exact infoSum) (by rw [y4.size]; rfl) y4.one ?_)
      refine hK.out _ _ ?_ (fun hHeld => ?_)
      · ((try dsimp only); all_goals trivial)
      clear hK K
      try simp only [Act.put, List.getElem_toArray, List.getElem_cons_succ, List.getElem_cons_zero, List.setIfInBounds_toArray, List.set_cons_zero, List.set_cons_succ]
      refine wpAnyH_done (by kernel_rfl) ?_ _
      refine NoPanic.normal ?_
      go_wp2
      refine bodyPost_ret (v := .agg y4.V) (results_cell_row (P := Try.prog) Try.results36 _ _ R _ _ _ _ rfl (setRow_heap _ _ _ _ _ _ hR4) Try.underlying35 rfl (by rw [y4.size]; exact infoSum)) rfl ⟨y4, rfl, Hs.hid (by rw [hy4.out, hy2.out, hy3.out, HN.out.1, dig_nodeT]), ?_⟩
      exact (((hxd.trans0 hx2).trans0 hx3).trans0 hx4).trans (setRow_ext _ _) (fun g hg => .inr (by simp at hg; have := HRR.out; omega))
end Go.Proofs.Ytjicjadibaomkaa
set_option linter.unusedSimpArgs false
set_option linter.unusedVariables false
set_option maxHeartbeats 2000000
set_option maxRecDepth 100000
namespace Go.Proofs.Ytjicjadibaomkaa
open Go.RowKit Go.Hs

theorem addr_block (a : Addr) (k : Nat) : (a.add k).block = a.block := by unfold Addr.add; split <;> rfl
/-- An argument: a slice of texts. -/
def StrArg (w : World) (ao : Option Addr) (len : Nat) : Prop := (len : Int) ≤ 9223372036854775807 ∧ ∀ k, k < len → ∃ a s, ao = some a ∧ a.block < w.heap.size ∧ w.cell? (a.add k) = some (.string s) ∧ s.size ≤ maxLen
theorem StrArg.ext {w w' : World} {ao : Option Addr} {len : Nat} (h : StrArg w ao len) (x : Ext [] w w') : StrArg w' ao len := ⟨h.1, fun k hk => by
  obtain ⟨a, s, h1, h2, h3, h4⟩ := h.2 k hk
  exact ⟨a, s, h1, Nat.lt_of_lt_of_le h2 x.size, by rw [x.below.cell (p := a.add k) (by rw [addr_block]; exact h2)]; exact h3, h4⟩⟩
/-- A slice of texts that the call owns. -/
def OwnT (h : Array Obj) (v : Value) (ls : List ByteArray) : Prop := Own h 9 1 v ls.length (ls.map Value.string)
theorem OwnT.ext' {w w' : World} {F : List Nat} {v : Value} {ls : List ByteArray} (o : OwnT w.heap v ls) (x : Ext F w w') (hF : ∀ g, v.ownBlock = some g → g ∉ F) : OwnT w'.heap v ls :=
  Own.same o fun g hg => x.block g (Own.lt o hg) (hF g hg)
theorem OwnT.more {h : Array Obj} {k : Nat} {ls : List ByteArray} {s : ByteArray} {ao : Option Addr} {cap : Nat} (hl : ls.length = k) (o : Own h 9 1 (.slice ao (k + 1) cap) (k + 1) (ls.map Value.string ++ [.string s])) : OwnT h (.slice ao (k + 1) cap) (ls ++ [s]) := by
  unfold OwnT
  rw [List.length_append, hl, List.map_append]
  exact o
end Go.Proofs.Ytjicjadibaomkaa
set_option linter.unusedSimpArgs false
set_option linter.unusedVariables false
set_option maxHeartbeats 4000000
set_option maxRecDepth 100000
namespace Go.Proofs.Ytjicjadibaomkaa
open Go.RowKit Go.Hs Go.Dg

theorem snoc_casesV (xs : List S32) : xs = [] ∨ ∃ ys y, xs = ys ++ [y] := by
  rcases List.eq_nil_or_concat xs with h | ⟨ys, y, h⟩
  · exact .inl h
  · exact .inr ⟨ys, y, by rw [h, List.concat_eq_append]⟩
theorem boxExt' {w : World} (o : Obj) (x : Array Value) : Ext [] w ((w.alloc o).setRow w.heap.size x) :=
  ((Ext.refl [] w).alloc o).trans (setRow_ext _ _) (fun g hg => .inr (by simp at hg; omega))
theorem dirs_le (n : Nat) : ∀ i, (dirs i n).length ≤ n := by
  induction n using Nat.strongRecOn with
  | _ n ih =>
    intro i
    by_cases h : n ≤ 1
    · rw [dirs, dif_pos h]; simp
    · have h1 := halfN_lt (n := n) (by omega)
      have h2 := halfN_pos n
      rw [dirs, dif_neg h]
      split
      · have := ih (halfN n) h1 i; simp; omega
      · have := ih (n - halfN n) (by omega) (i - halfN n); simp; omega
theorem ofS_any (s : ByteArray) (hs : s.size ≤ 100000000) (w : World) : Calls Try.prog 12 #[.string s] w fun e w' => ∃ y : S32, e = .returned (.agg y.V) ∧ Hid (y = dig s) ∧ Ext [] w w' :=
  (of_any s hs w).mono fun e w' ⟨cs, h1, h2, h3⟩ => ⟨dig s, by rw [h1, h2.out, dig_V], Hs.hid rfl, h3⟩
/-- What Way answers. -/
structure WayR (w w' : World) (leaf : ByteArray) (i n : Nat) (xs : List S32) (v : Value) (ok : Bool) : Prop where
  isOk : ok = decide (xs.length = (dirs i n).length)
  no : ok = false → v = .slice none 0 0
  yes : ok = true → ∃ g c, v = .slice (some ⟨g, 0, none⟩) (wayL (dirs i n) xs [leaf2 leaf]).length c ∧ OwnT w'.heap v (wayL (dirs i n) xs [leaf2 leaf]) ∧ w.heap.size ≤ g
def WayE (w : World) (leaf : ByteArray) (i n : Nat) (xs : List S32) (e : Ending) (w' : World) : Prop := ∃ v ok, e = .returned (.tuple #[v, .bool ok]) ∧ Hid (WayR w w' leaf i n xs v ok) ∧ Ext [] w w'
theorem way_mth (leaf : ByteArray) (hlf : leaf.size ≤ 1000) : ∀ (N n i : Nat) (xs : List S32) (ao : Option Addr) (cap : Nat), n ≤ N → i < n → n ≤ 1000 → ∀ w : World, Sums32 w.heap ao cap xs →
    Calls Try.prog 10 #[.string leaf, .int .i64 i, .int .i64 n, .slice ao xs.length cap] w (WayE w leaf i n xs)
  | 0, n, i, xs, ao, cap, hN, hi, _, w, _ => by omega
  | N + 1, n, i, xs, ao, cap, hN, hi, hn, w, hT => by
    have hmax := hT.2.1
    have hcap := hT.1
    have i0 : ¬ (i : Int) < 0 := by omega
    have i1 : ¬ (n : Int) ≤ i := by omega
    have n0 : ¬ (n : Int) < 1 := by omega
    by_cases hn1 : n = 1
    · subst hn1
      obtain rfl : i = 0 := by omega
      have hd : dirs 0 1 = [] := by rw [dirs, dif_pos (by omega)]
      rcases Nat.eq_zero_or_pos xs.length with hl | hl
      · have hxs : xs = [] := List.eq_nil_of_length_eq_zero hl
        have HD := Hs.hid (And.intro hd hxs)
        have hsz : ¬ 9223372036854775807 < 1 + leaf.size := by omega
        have hlt : ⟨#[0]⟩ ++ leaf = leaf2 leaf := rfl
        rw [hl] at hcap ⊢
        obtain ⟨L, hL⟩ : ∃ L, L = leaf2 leaf := ⟨_, rfl⟩
        rw [← hL] at hlt
        have HLL := Hs.hid hL
        clear hd hxs hl hT hL
        go_enter Try.func10, Try.ntmps10
        go_wp2
        go_ret2
        refine ⟨.slice (some ⟨w.heap.size, 0, none⟩) 1 1, true, rfl, Hs.hid (WayR.mk (by rw [HD.out.1, HD.out.2]; rfl) (fun h => by simp at h) (fun _ => ?_)), (Ext.refl [] w).alloc _⟩
        rw [HD.out.1, HD.out.2, ← HLL.out]
        exact ⟨w.heap.size, 1, rfl, ⟨rfl, .inr ⟨w.heap.size, 1, #[.string L], rfl, Nat.zero_le _, heap_new w _, Nat.le_refl _, by decide, rfl, rfl⟩⟩, Nat.le_refl _⟩
      · have hne : ¬ xs.length = (dirs 0 1).length := by rw [hd]; simp; intro h; rw [h] at hl; simp at hl
        have HD := Hs.hid hne
        have l0 : (0 : Int) < (xs.length : Int) := by omega
        clear hd hT hne
        obtain ⟨L, hL⟩ : ∃ L, xs.length = L := ⟨_, rfl⟩
        have HLL := Hs.hid hL
        rw [hL] at l0 hl hcap ⊢
        clear hL
        go_enter Try.func10, Try.ntmps10
        go_wp2
        go_ret2
        exact ⟨.slice none 0 0, false, rfl, Hs.hid (WayR.mk (by rw [decide_eq_false HD.out]) (fun _ => rfl) (fun h => by simp at h)), Ext.refl _ _⟩
    · -- MORE
      have h2 : 2 ≤ n := by omega
      have n1 : ¬ (n : Int) = 1 := by omega
      have n2 : (1 : Int) < n := by omega
      have hp40 : (2 : Nat) ^ 40 = 1099511627776 := by decide
      have hlt := halfN_lt h2
      have hpos := halfN_pos n
      have hd0 : dirs i n = if i < halfN n then dirs i (halfN n) ++ [false] else dirs (i - halfN n) (n - halfN n) ++ [true] := by rw [dirs, dif_neg (by omega)]
      rcases snoc_casesV xs with rfl | ⟨ys, y, rfl⟩
      · have hne : ¬ (([] : List S32).length = (dirs i n).length) := by
          rw [hd0]; split <;> simp
        have HD := Hs.hid hne
        have hl0 : ([] : List S32).length = 0 := rfl
        rw [hl0] at hcap ⊢
        clear hd0 hne hT hp40
        go_enter Try.func10, Try.ntmps10
        go_wp2
        go_ret2
        exact ⟨.slice none 0 0, false, rfl, Hs.hid (WayR.mk (by rw [decide_eq_false HD.out]) (fun _ => rfl) (fun h => by simp at h)), Ext.refl _ _⟩
      · have hyl : (ys ++ [y]).length = ys.length + 1 := by simp
        have hTi := hT.init
        obtain ⟨sb, so, rfl, hsb, hrg⟩ := hT.at (k := ys.length) (x := y) (by simp)
        rw [hyl] at hcap ⊢
        have m0 : ¬ (((ys.length : Nat) : Int) + 1 = 0) := by omega
        have m2 : ((ys.length : Nat) : Int) + 1 - 1 = (ys.length : Int) := by omega
        have m3 : (ys.length : Int) < (ys.length : Int) + 1 := by omega
        have m4 : (ys.length : Int) ≤ cap := by omega
        have m5 : (0 : Int) ≤ ys.length := by omega
        have m6 : ys.length ≤ cap := by omega
        have m7 : IntKind.i64.wrap (ys.length : Int) = (ys.length : Int) := by rw [IntKind.wrap_i64]; omega
        have m8 : ((ys.length : Int)).toNat = ys.length := by omega
        go_enter Try.func10, Try.ntmps10
        go_upto_region 5 with fail
        have HZ := Hs.hid (show zeroS.V = #[.int .u8 0, .int .u8 0, .int .u8 0, .int .u8 0, .int .u8 0, .int .u8 0, .int .u8 0, .int .u8 0, .int .u8 0, .int .u8 0, .int .u8 0, .int .u8 0, .int .u8 0, .int .u8 0, .int .u8 0, .int .u8 0, .int .u8 0, .int .u8 0, .int .u8 0, .int .u8 0, .int .u8 0, .int .u8 0, .int .u8 0, .int .u8 0, .int .u8 0, .int .u8 0, .int .u8 0, .int .u8 0, .int .u8 0, .int .u8 0, .int .u8 0, .int .u8 0] from rfl)
        have HDD := Hs.hid (And.intro hd0 (And.intro hlt (And.intro hpos h2)))
        have HTI := Hs.hid hTi
        clear hd0 hlt hpos h2 hTi hT hp40
        go_cut [10, 11] (fun s10 s11 wx => ∃ L, s10 = .pointer (some ⟨L, 0, none⟩) ∧ s11 = .int .i64 (halfN n : Int) ∧ wx.heap[L]? = some (.cells y.V 35 (0, 0)) ∧ Ext [] w wx)
        case first =>
          refine wp_region_noPanic ?_
          refine wp_region_held_drew (S := (fun w' => w'.rangeAt sb (so + ys.length * 32) y.V.toList)) (by kernel_rfl) ?_ (fun hHeld => ?_)
          · ((try dsimp only); exact hrg)
          refine wpAnyH_take (i := 0) (v := ?_) rfl (by kernel_rfl) (by kernel_rfl) (by kernel_rfl) (fun _ _ _ h => h) (Or.inl ⟨by rfl, ?_⟩) (by assumption) ?_
          rotate_left
          · (intro w hSw; (try dsimp only at hSw); first | (go_simp; done) | (go_simp; with_reducible rfl))
          try simp only [Act.put, List.getElem_toArray, List.getElem_cons_succ, List.getElem_cons_zero, List.setIfInBounds_toArray, List.set_cons_zero, List.set_cons_succ]
          refine wpAnyH_take (i := 1) (v := ?_) rfl (by kernel_rfl) (by kernel_rfl) (by kernel_rfl) (fun _ _ _ h => h) (Or.inl ⟨by rfl, ?_⟩) (by assumption) ?_
          rotate_left
          · (intro w hSw; (try dsimp only at hSw); first | (go_simp; done) | (go_simp; with_reducible rfl))
          try simp only [Act.put, List.getElem_toArray, List.getElem_cons_succ, List.getElem_cons_zero, List.setIfInBounds_toArray, List.set_cons_zero, List.set_cons_succ]
          refine wpAnyH_take (i := 2) (v := ?_) rfl (by kernel_rfl) (by kernel_rfl) (by kernel_rfl) (fun _ _ _ h => h) (Or.inl ⟨by rfl, ?_⟩) (by assumption) ?_
          rotate_left
          · (intro w hSw; (try dsimp only at hSw); first | (go_simp; done) | (go_simp; with_reducible rfl))
          try simp only [Act.put, List.getElem_toArray, List.getElem_cons_succ, List.getElem_cons_zero, List.setIfInBounds_toArray, List.set_cons_zero, List.set_cons_succ]
          refine wpAnyH_take (i := 3) (v := ?_) rfl (by kernel_rfl) (by kernel_rfl) (by kernel_rfl) (fun _ _ _ h => h) (Or.inl ⟨by rfl, ?_⟩) (by assumption) ?_
          rotate_left
          · (intro w hSw; (try dsimp only at hSw); first | (go_simp; done) | (go_simp; with_reducible rfl))
          try simp only [Act.put, List.getElem_toArray, List.getElem_cons_succ, List.getElem_cons_zero, List.setIfInBounds_toArray, List.set_cons_zero, List.set_cons_succ]
          refine wpAnyH_take (i := 4) (v := ?_) rfl (by kernel_rfl) (by kernel_rfl) (by kernel_rfl) (fun _ _ _ h => h) (Or.inl ⟨by rfl, ?_⟩) (by assumption) ?_
          rotate_left
          · (intro w hSw; (try dsimp only at hSw); first | (go_simp; done) | (go_simp; with_reducible rfl))
          try simp only [Act.put, List.getElem_toArray, List.getElem_cons_succ, List.getElem_cons_zero, List.setIfInBounds_toArray, List.set_cons_zero, List.set_cons_succ]
          refine wpAnyH_take (i := 5) (v := _) rfl (by kernel_rfl) (by kernel_rfl) (by kernel_rfl) (fun _ _ _ h => h) (yieldsIf_of (.agg y.V) (by rfl) (fun w' hw => exec_load_midV _ rfl sb _ rfl y w' hw)) (by assumption) ?_
          try simp only [Act.put, List.getElem_toArray, List.getElem_cons_succ, List.getElem_cons_zero, List.setIfInBounds_toArray, List.set_cons_zero, List.set_cons_succ]
          refine wpAnyH_take (i := 6) (v := ?_) rfl (by kernel_rfl) (by kernel_rfl) (by kernel_rfl) (fun _ _ _ h => h) (Or.inl ⟨by rfl, ?_⟩) (by assumption) ?_
          rotate_left
          · (intro w hSw; (try dsimp only at hSw); first | (go_simp; done) | (go_simp; with_reducible rfl))
          try simp only [Act.put, List.getElem_toArray, List.getElem_cons_succ, List.getElem_cons_zero, List.setIfInBounds_toArray, List.set_cons_zero, List.set_cons_succ]
          refine wpAnyH_ready (rs := [7, 8]) (by kernel_rfl) (by simp) ?_
          refine AllReadyH.cons rfl (fun K hK => ?_) (AllReadyH.cons rfl (fun K hK => ?_) AllReadyH.nil)
          · go_simp
            (go_at_call 27; refine (chalf_any n HDD.out.2.2.2 (by have : (2 : Nat) ^ 40 = 1099511627776 := (by decide); omega) _).mono ?_; rintro e w1 ⟨rfl, hw1⟩; subst hw1)
            go_wp2_with fail
            refine hK.out _ _ ?_ (fun hHeld => ?_)
            · ((try dsimp only); exact hHeld)
            clear hK K
            try simp only [Act.put, List.getElem_toArray, List.getElem_cons_succ, List.getElem_cons_zero, List.setIfInBounds_toArray, List.set_cons_zero, List.set_cons_succ]
            refine wpAnyH_ready (rs := [8]) (by kernel_rfl) (by simp) ?_
            refine AllReadyH.cons rfl (fun K hK => ?_) AllReadyH.nil
            rw [if_pos (by rfl)]
            go_simp
            refine hK.out _ _ ?_ (fun hHeld => ?_)
            · ((try dsimp only); exact World.rangeAt_alloc hHeld _)
            clear hK K
            try simp only [Act.put, List.getElem_toArray, List.getElem_cons_succ, List.getElem_cons_zero, List.setIfInBounds_toArray, List.set_cons_zero, List.set_cons_succ]
            refine wpAnyH_ready (rs := [9]) (by kernel_rfl) (by simp) ?_
            refine AllReadyH.cons rfl (fun K hK => ?_) AllReadyH.nil
            rw [if_pos (by rfl)]
            (have hR := setRow_heap _ _ _ y.V _ _ (heap_new w.drew (.cells zeroS.V 35)); rw [HZ.out] at hR; refine wp_store_row 35 _ _ rfl _ y.V rfl rfl _ _ (heap_new _ _) (by rw [y.size]; exact infoSum) (by rw [y.size]; rfl) y.one ?_)
            refine hK.out _ _ ?_ (fun hHeld => ?_)
            · ((try dsimp only); (intro j v hj; have q1 := hHeld j v hj; have q2 := World.block_lt_of_cell? _ _ q1; rw [← q1]; unfold World.cell?; rw [setRow_other _ _ _ _ (by simp only [] at hsb ⊢; omega)]))
            clear hK K
            try simp only [Act.put, List.getElem_toArray, List.getElem_cons_succ, List.getElem_cons_zero, List.setIfInBounds_toArray, List.set_cons_zero, List.set_cons_succ]
            refine wpAnyH_take (i := 10) (v := ?_) rfl (by kernel_rfl) (by kernel_rfl) (by kernel_rfl) (fun _ _ _ h => h) (Or.inl ⟨by rfl, ?_⟩) (by assumption) ?_
            rotate_left
            · (intro w hSw; (try dsimp only at hSw); first | (go_simp; done) | (go_simp; with_reducible rfl))
            try simp only [Act.put, List.getElem_toArray, List.getElem_cons_succ, List.getElem_cons_zero, List.setIfInBounds_toArray, List.set_cons_zero, List.set_cons_succ]
            refine wpAnyH_done (by kernel_rfl) ?_ _
            refine NoPanic.normal ?_
            go_wp2
            go_meet
            exact ⟨_, rfl, rfl, hR, (Ext.refl [] w).drew.trans0 (boxExt' _ _)⟩
          · rw [if_pos (by rfl)]
            go_simp
            refine hK.out _ _ ?_ (fun hHeld => ?_)
            · ((try dsimp only); exact World.rangeAt_alloc hHeld _)
            clear hK K
            try simp only [Act.put, List.getElem_toArray, List.getElem_cons_succ, List.getElem_cons_zero, List.setIfInBounds_toArray, List.set_cons_zero, List.set_cons_succ]
            refine wpAnyH_ready (rs := [7]) (by kernel_rfl) (by simp) ?_
            refine AllReadyH.cons rfl (fun K hK => ?_) AllReadyH.nil
            go_simp
            (go_at_call 27; refine (chalf_any n HDD.out.2.2.2 (by have : (2 : Nat) ^ 40 = 1099511627776 := (by decide); omega) _).mono ?_; rintro e w1 ⟨rfl, hw1⟩; subst hw1)
            go_wp2_with fail
            refine hK.out _ _ ?_ (fun hHeld => ?_)
            · ((try dsimp only); exact hHeld)
            clear hK K
            try simp only [Act.put, List.getElem_toArray, List.getElem_cons_succ, List.getElem_cons_zero, List.setIfInBounds_toArray, List.set_cons_zero, List.set_cons_succ]
            refine wpAnyH_ready (rs := [9]) (by kernel_rfl) (by simp) ?_
            refine AllReadyH.cons rfl (fun K hK => ?_) AllReadyH.nil
            rw [if_pos (by rfl)]
            (have hR := setRow_heap _ _ _ y.V _ _ (heap_new w.drew (.cells zeroS.V 35)); rw [HZ.out] at hR; refine wp_store_row 35 _ _ rfl _ y.V rfl rfl _ _ (heap_new _ _) (by rw [y.size]; exact infoSum) (by rw [y.size]; rfl) y.one ?_)
            refine hK.out _ _ ?_ (fun hHeld => ?_)
            · ((try dsimp only); (intro j v hj; have q1 := hHeld j v hj; have q2 := World.block_lt_of_cell? _ _ q1; rw [← q1]; unfold World.cell?; rw [setRow_other _ _ _ _ (by simp only [] at hsb ⊢; omega)]))
            clear hK K
            try simp only [Act.put, List.getElem_toArray, List.getElem_cons_succ, List.getElem_cons_zero, List.setIfInBounds_toArray, List.set_cons_zero, List.set_cons_succ]
            refine wpAnyH_take (i := 10) (v := ?_) rfl (by kernel_rfl) (by kernel_rfl) (by kernel_rfl) (fun _ _ _ h => h) (Or.inl ⟨by rfl, ?_⟩) (by assumption) ?_
            rotate_left
            · (intro w hSw; (try dsimp only at hSw); first | (go_simp; done) | (go_simp; with_reducible rfl))
            try simp only [Act.put, List.getElem_toArray, List.getElem_cons_succ, List.getElem_cons_zero, List.setIfInBounds_toArray, List.set_cons_zero, List.set_cons_succ]
            refine wpAnyH_done (by kernel_rfl) ?_ _
            refine NoPanic.normal ?_
            go_wp2
            go_meet
            exact ⟨_, rfl, rfl, hR, (Ext.refl [] w).drew.trans0 (boxExt' _ _)⟩
        case rest =>
          obtain ⟨L, rfl, rfl, hL, hE⟩ := hcut
          clear hrg
          generalize halfN n = k at HDD ⊢
          have hd0 := HDD.out.1
          by_cases hik : i < k
          · rw [if_pos hik] at hd0
            have IH := Hs.hid (fun w' (h : Sums32 w'.heap (some ⟨sb, so, none⟩) cap ys) => way_mth leaf hlf N k i ys (some ⟨sb, so, none⟩) cap (by have := HDD.out; omega) (by have := HDD.out; omega) (by have := HDD.out; omega) w' h)
            have q1 : ¬ (i : Int) ≥ k := by omega
            have HD := Hs.hid hd0
            clear hd0
            go_upto_region 10 with (go_at_call 10; with_reducible refine (IH.out _ (HTI.out.ext hE (by simp))).mono ?_; intro e w2 hr; unfold WayE at hr; obtain ⟨v, ok, rfl, hv, hx2⟩ := hr)
            have hL2 := hx2.same hL List.not_mem_nil
            have HE2 := Hs.hid (hE.trans0 hx2)
            have HWS := Hs.hid hE.size
            clear hL hE hx2 IH
            cases ok
            · obtain rfl := hv.out.no rfl
              go_wp2
              go_ret2
              exact ⟨.slice none 0 0, false, rfl, Hs.hid (WayR.mk (by have := hv.out.isOk; rw [this, HD.out]; simp) (fun _ => rfl) (fun h => by simp at h)), HE2.out⟩
            · obtain ⟨g, c, rfl, hO, hgw⟩ := hv.out.yes rfl
              have hlen : ys.length = (dirs i k).length := by have := hv.out.isOk; simpa using this.symm
              have hTl := wayL_len (dirs i k) ys [leaf2 leaf] hlen.symm
              have hTs := wayL_sizes (dirs i k) ys [leaf2 leaf] 1001 (by decide) (by intro t ht; simp at ht; rw [ht, leaf2_size]; omega)
              have hdl := dirs_le k i
              have HFI := Hs.hid (wayL_snoc (dirs i k) ys [leaf2 leaf] false y hlen.symm)
              generalize wayL (dirs i k) ys [leaf2 leaf] = T at hO hTl hTs HFI ⊢
              obtain ⟨h0, T', rfl⟩ : ∃ h0 T', T = h0 :: T' := by
                cases T with
                | nil => exact absurd hTl (by simp; omega)
                | cons a b => exact ⟨a, b, rfl⟩
              have HC0 : Hid (∀ w', Ext [] w2 w' → w'.cell? ⟨g, 0, none⟩ = some (.string h0)) := Hs.hid (fun w' hx => by
                have o := hO.ext' hx (fun _ _ => List.not_mem_nil)
                exact Own.cells (w := w') rfl o (g := g) rfl 0 (.string h0) rfl)
              have HN : Hid (∀ w', Ext [] w2 w' → ∀ j u, ((h0 :: T').map Value.string)[j]? = some u → w'.cell? ((⟨g, 0, none⟩ : Addr).add j) = some u) := Hs.hid (fun w' hx j u hj => Own.cells (w := w') rfl (hO.ext' hx (fun _ _ => List.not_mem_nil)) (g := g) rfl j u hj)
              have HS0 := Hs.hid (show h0.size ≤ 100000000 by have := hTs h0 (by simp); omega)
              have HB := Hs.hid (show T'.length ≤ 1000 by have q := HDD.out.2.1; simp at hTl; omega)
              obtain ⟨i0, hi0, hz0, hz1, hz2⟩ := info_parts infoStr
              have HI := Hs.hid (And.intro hi0 (And.intro hz0 (And.intro hz1 hz2)))
              have HVV := Hs.hid hv.out.isOk
              have HLEN := Hs.hid hlen
              clear hi0 hz0 hz1 hz2 hTl hTs hdl hO hv hlen hgw
              go_upto_region 12 with fail
              refine wp_region_noPanic ?_
              refine wp_region_held_drew (S := (fun w' => Ext [] w2 w')) (by kernel_rfl) ?_ (fun hHeld => ?_)
              · ((try dsimp only); exact (Ext.refl [] w2).drew)
              refine wpAnyH_take (i := 0) (v := ?_) rfl (by kernel_rfl) (by kernel_rfl) (by kernel_rfl) (fun _ _ _ h => h) (Or.inl ⟨by rfl, ?_⟩) (by assumption) ?_
              rotate_left
              · (intro w hSw; (try dsimp only at hSw); first | (go_simp; done) | (go_simp; with_reducible rfl))
              try simp only [Act.put, List.getElem_toArray, List.getElem_cons_succ, List.getElem_cons_zero, List.setIfInBounds_toArray, List.set_cons_zero, List.set_cons_succ]
              refine wpAnyH_take (i := 1) (v := ?_) rfl (by kernel_rfl) (by kernel_rfl) (by kernel_rfl) (fun _ _ _ h => h) (Or.inl ⟨by rfl, ?_⟩) (by assumption) ?_
              rotate_left
              · (intro w hSw; (try dsimp only at hSw); first | (go_simp; done) | (go_simp; with_reducible rfl))
              try simp only [Act.put, List.getElem_toArray, List.getElem_cons_succ, List.getElem_cons_zero, List.setIfInBounds_toArray, List.set_cons_zero, List.set_cons_succ]
              refine wpAnyH_take (i := 2) (v := ?_) rfl (by kernel_rfl) (by kernel_rfl) (by kernel_rfl) (fun _ _ _ h => h) (Or.inl ⟨by rfl, ?_⟩) (by assumption) ?_
              rotate_left
              · (intro w hSw; (try dsimp only at hSw); have hc0 := HC0.out _ hSw; first | (go_simp; done) | (go_simp; with_reducible rfl))
              try simp only [Act.put, List.getElem_toArray, List.getElem_cons_succ, List.getElem_cons_zero, List.setIfInBounds_toArray, List.set_cons_zero, List.set_cons_succ]
              refine wpAnyH_take (i := 4) (v := _) rfl (by kernel_rfl) (by kernel_rfl) (by kernel_rfl) (fun _ _ _ h => h) (yieldsIf_of (.agg y.V) (by rfl) (fun w' hw => exec_load_rowV (.tmp 10) rfl L rfl y w' ⟨_, hw.same hL2 List.not_mem_nil⟩)) (by assumption) ?_
              try simp only [Act.put, List.getElem_toArray, List.getElem_cons_succ, List.getElem_cons_zero, List.setIfInBounds_toArray, List.set_cons_zero, List.set_cons_succ]
              refine wpAnyH_ready (rs := [3]) (by kernel_rfl) (by simp) ?_
              refine AllReadyH.cons rfl (fun K hK => ?_) AllReadyH.nil
              go_simp
              (go_at_call 12; refine (ofS_any h0 HS0.out _).mono ?_; rintro e w5 ⟨z5, rfl, hz5, hx5⟩)
              go_wp2_with fail
              refine hK.out _ _ ?_ (fun hHeld => ?_)
              · ((try dsimp only); exact hHeld.trans0 hx5)
              clear hK K
              try simp only [Act.put, List.getElem_toArray, List.getElem_cons_succ, List.getElem_cons_zero, List.setIfInBounds_toArray, List.set_cons_zero, List.set_cons_succ]
              refine wpAnyH_ready (rs := [5]) (by kernel_rfl) (by simp) ?_
              refine AllReadyH.cons rfl (fun K hK => ?_) AllReadyH.nil
              go_simp
              (go_at_call 28; refine (nodeC_any z5 y _).mono ?_; rintro e w6 ⟨rfl, hx6⟩)
              go_wp2_with fail
              refine hK.out _ _ ?_ (fun hHeld => ?_)
              · ((try dsimp only); exact hHeld.trans0 hx6)
              clear hK K
              try simp only [Act.put, List.getElem_toArray, List.getElem_cons_succ, List.getElem_cons_zero, List.setIfInBounds_toArray, List.set_cons_zero, List.set_cons_succ]
              refine wpAnyH_take (i := 6) (v := ?_) rfl (by kernel_rfl) (by kernel_rfl) (by kernel_rfl) (fun _ _ _ h => h) (Or.inl ⟨by rfl, ?_⟩) (by assumption) ?_
              rotate_left
              · (intro w hSw; (try dsimp only at hSw); first | (go_simp; done) | (go_simp; with_reducible rfl))
              try simp only [Act.put, List.getElem_toArray, List.getElem_cons_succ, List.getElem_cons_zero, List.setIfInBounds_toArray, List.set_cons_zero, List.set_cons_succ]
              refine wpAnyH_done (by kernel_rfl) ?_ _
              refine NoPanic.normal ?_
              have HQ := Hs.hid hHeld
              clear hHeld
              have HQA := Hs.hid (HQ.out.alloc (.cells #[.string (⟨#[1]⟩ ++ z5.s ++ y.s)] 9))
              obtain ⟨tx, htx⟩ : ∃ tx, ⟨#[1]⟩ ++ z5.s ++ y.s = tx := ⟨_, rfl⟩
              rw [htx] at HQA ⊢
              have HTX := Hs.hid htx
              have HZ5 := Hs.hid hz5.out
              clear htx hz5
              go_wp2_with (at_builtin; refine wpList_append rfl (.tmp 98) (.tmp 99) 22 rfl 9 i0 _ 1 16 Try.underlying22 HI.out.1 HI.out.2.1 HI.out.2.2.1 HI.out.2.2.2 rfl (by decide) (.slice (some ⟨w6.heap.size, 0, none⟩) 1 1) 1 [.string tx] rfl ⟨rfl, .inr ⟨w6.heap.size, 1, #[.string tx], rfl, Nat.zero_le _, heap_new w6 _, Nat.le_refl _, by decide, rfl, rfl⟩⟩ ⟨g, 0, none⟩ (T'.length + 1) c ((h0 :: T').map Value.string) rfl (by simp) (HN.out _ HQA.out) (by intro u hu; obtain ⟨t, _, rfl⟩ := List.mem_map.1 hu; rfl) (by unfold maxLen; have := HB.out; omega) (by have := HB.out; omega) ?_; intro ao9 cap9 w9 hO9 hx9 hf9)
              go_ret2
              have hd2 := HD.out
              obtain ⟨g9, rfl, hg9⟩ : ∃ g9, ao9 = some ⟨g9, 0, none⟩ ∧ w.heap.size ≤ g9 := by
                rcases hO9.2 with ⟨_, h0⟩ | ⟨g', cap', cur, h1, _⟩
                · omega
                · simp at h1
                  refine ⟨g', h1.1, ?_⟩
                  rcases hf9 g' (by rw [h1.1]; rfl) with h | h
                  · have q1 := HQ.out.size
                    have q2 := HE2.out.size
                    simp [Value.ownBlock] at h
                    omega
                  · have q1 := HQ.out.size
                    have q2 := HE2.out.size
                    simp at h
                    omega
              refine ⟨.slice (some ⟨g9, 0, none⟩) (1 + (T'.length + 1)) cap9, true, rfl, Hs.hid (WayR.mk (by rw [hd2]; simp [HLEN.out]) (fun h => by simp at h) (fun _ => ?_)), ((HE2.out.trans0 HQA.out).trans hx9 (fun g hg => .inr ?_))⟩
              · rw [hd2, HFI.out]
                have e1 : wayStep false y (h0 :: T') = tx :: h0 :: T' := by
                  unfold wayStep
                  rw [List.headD_cons, ← HTX.out, HZ5.out]; rfl
                rw [e1]
                refine ⟨g9, cap9, by simp; omega, ?_, hg9⟩
                unfold OwnT
                rw [show (tx :: h0 :: T').length = 1 + (T'.length + 1) by simp; omega]
                exact hO9
              · have q2 := HE2.out.size
                have q1 := HQ.out.size
                simp [Value.ownBlock] at hg
                omega
          · rw [if_neg hik] at hd0
            have IH := Hs.hid (fun w' (h : Sums32 w'.heap (some ⟨sb, so, none⟩) cap ys) => way_mth leaf hlf N (n - k) (i - k) ys (some ⟨sb, so, none⟩) cap (by have := HDD.out; omega) (by have := HDD.out; omega) (by have := HDD.out; omega) w' h)
            have q1 : (i : Int) ≥ k := by omega
            have q2 : (i : Int) - k = ((i - k : Nat) : Int) := by omega
            have q3 : (n : Int) - k = ((n - k : Nat) : Int) := by omega
            have HD := Hs.hid hd0
            clear hd0
            go_upto_region 10 with (go_at_call 10; with_reducible refine (IH.out _ (HTI.out.ext hE (by simp))).mono ?_; intro e w2 hr; unfold WayE at hr; obtain ⟨v, ok, rfl, hv, hx2⟩ := hr)
            have hL2 := hx2.same hL List.not_mem_nil
            have HE2 := Hs.hid (hE.trans0 hx2)
            have HWS := Hs.hid hE.size
            clear hL hE hx2 IH
            cases ok
            · obtain rfl := hv.out.no rfl
              go_wp2
              go_ret2
              exact ⟨.slice none 0 0, false, rfl, Hs.hid (WayR.mk (by have := hv.out.isOk; rw [this, HD.out]; simp) (fun _ => rfl) (fun h => by simp at h)), HE2.out⟩
            · obtain ⟨g, c, rfl, hO, hgw⟩ := hv.out.yes rfl
              have hlen : ys.length = (dirs (i - k) (n - k)).length := by have := hv.out.isOk; simpa using this.symm
              have hTl := wayL_len (dirs (i - k) (n - k)) ys [leaf2 leaf] hlen.symm
              have hTs := wayL_sizes (dirs (i - k) (n - k)) ys [leaf2 leaf] 1001 (by decide) (by intro t ht; simp at ht; rw [ht, leaf2_size]; omega)
              have hdl := dirs_le (n - k) (i - k)
              have HFI := Hs.hid (wayL_snoc (dirs (i - k) (n - k)) ys [leaf2 leaf] true y hlen.symm)
              generalize wayL (dirs (i - k) (n - k)) ys [leaf2 leaf] = T at hO hTl hTs HFI ⊢
              obtain ⟨h0, T', rfl⟩ : ∃ h0 T', T = h0 :: T' := by
                cases T with
                | nil => exact absurd hTl (by simp; omega)
                | cons a b => exact ⟨a, b, rfl⟩
              have HC0 : Hid (∀ w', Ext [] w2 w' → w'.cell? ⟨g, 0, none⟩ = some (.string h0)) := Hs.hid (fun w' hx => by
                have o := hO.ext' hx (fun _ _ => List.not_mem_nil)
                exact Own.cells (w := w') rfl o (g := g) rfl 0 (.string h0) rfl)
              have HN : Hid (∀ w', Ext [] w2 w' → ∀ j u, ((h0 :: T').map Value.string)[j]? = some u → w'.cell? ((⟨g, 0, none⟩ : Addr).add j) = some u) := Hs.hid (fun w' hx j u hj => Own.cells (w := w') rfl (hO.ext' hx (fun _ _ => List.not_mem_nil)) (g := g) rfl j u hj)
              have HS0 := Hs.hid (show h0.size ≤ 100000000 by have := hTs h0 (by simp); omega)
              have HB := Hs.hid (show T'.length ≤ 1000 by have q := HDD.out.2.1; simp at hTl; omega)
              obtain ⟨i0, hi0, hz0, hz1, hz2⟩ := info_parts infoStr
              have HI := Hs.hid (And.intro hi0 (And.intro hz0 (And.intro hz1 hz2)))
              have HVV := Hs.hid hv.out.isOk
              have HLEN := Hs.hid hlen
              clear hi0 hz0 hz1 hz2 hTl hTs hdl hO hv hlen hgw
              go_upto_region 12 with fail
              refine wp_region_noPanic ?_
              refine wp_region_held_drew (S := (fun w' => Ext [] w2 w')) (by kernel_rfl) ?_ (fun hHeld => ?_)
              · ((try dsimp only); exact (Ext.refl [] w2).drew)
              refine wpAnyH_take (i := 0) (v := ?_) rfl (by kernel_rfl) (by kernel_rfl) (by kernel_rfl) (fun _ _ _ h => h) (Or.inl ⟨by rfl, ?_⟩) (by assumption) ?_
              rotate_left
              · (intro w hSw; (try dsimp only at hSw); first | (go_simp; done) | (go_simp; with_reducible rfl))
              try simp only [Act.put, List.getElem_toArray, List.getElem_cons_succ, List.getElem_cons_zero, List.setIfInBounds_toArray, List.set_cons_zero, List.set_cons_succ]
              refine wpAnyH_take (i := 1) (v := ?_) rfl (by kernel_rfl) (by kernel_rfl) (by kernel_rfl) (fun _ _ _ h => h) (Or.inl ⟨by rfl, ?_⟩) (by assumption) ?_
              rotate_left
              · (intro w hSw; (try dsimp only at hSw); first | (go_simp; done) | (go_simp; with_reducible rfl))
              try simp only [Act.put, List.getElem_toArray, List.getElem_cons_succ, List.getElem_cons_zero, List.setIfInBounds_toArray, List.set_cons_zero, List.set_cons_succ]
              refine wpAnyH_take (i := 2) (v := ?_) rfl (by kernel_rfl) (by kernel_rfl) (by kernel_rfl) (fun _ _ _ h => h) (Or.inl ⟨by rfl, ?_⟩) (by assumption) ?_
              rotate_left
              · (intro w hSw; (try dsimp only at hSw); have hc0 := HC0.out _ hSw; first | (go_simp; done) | (go_simp; with_reducible rfl))
              try simp only [Act.put, List.getElem_toArray, List.getElem_cons_succ, List.getElem_cons_zero, List.setIfInBounds_toArray, List.set_cons_zero, List.set_cons_succ]
              refine wpAnyH_take (i := 4) (v := _) rfl (by kernel_rfl) (by kernel_rfl) (by kernel_rfl) (fun _ _ _ h => h) (yieldsIf_of (.agg y.V) (by rfl) (fun w' hw => exec_load_rowV (.tmp 10) rfl L rfl y w' ⟨_, hw.same hL2 List.not_mem_nil⟩)) (by assumption) ?_
              try simp only [Act.put, List.getElem_toArray, List.getElem_cons_succ, List.getElem_cons_zero, List.setIfInBounds_toArray, List.set_cons_zero, List.set_cons_succ]
              refine wpAnyH_ready (rs := [3]) (by kernel_rfl) (by simp) ?_
              refine AllReadyH.cons rfl (fun K hK => ?_) AllReadyH.nil
              go_simp
              (go_at_call 12; refine (ofS_any h0 HS0.out _).mono ?_; rintro e w5 ⟨z5, rfl, hz5, hx5⟩)
              go_wp2_with fail
              refine hK.out _ _ ?_ (fun hHeld => ?_)
              · ((try dsimp only); exact hHeld.trans0 hx5)
              clear hK K
              try simp only [Act.put, List.getElem_toArray, List.getElem_cons_succ, List.getElem_cons_zero, List.setIfInBounds_toArray, List.set_cons_zero, List.set_cons_succ]
              refine wpAnyH_ready (rs := [5]) (by kernel_rfl) (by simp) ?_
              refine AllReadyH.cons rfl (fun K hK => ?_) AllReadyH.nil
              go_simp
              (go_at_call 28; refine (nodeC_any z5 y _).mono ?_; rintro e w6 ⟨rfl, hx6⟩)
              go_wp2_with fail
              refine hK.out _ _ ?_ (fun hHeld => ?_)
              · ((try dsimp only); exact hHeld.trans0 hx6)
              clear hK K
              try simp only [Act.put, List.getElem_toArray, List.getElem_cons_succ, List.getElem_cons_zero, List.setIfInBounds_toArray, List.set_cons_zero, List.set_cons_succ]
              refine wpAnyH_take (i := 6) (v := ?_) rfl (by kernel_rfl) (by kernel_rfl) (by kernel_rfl) (fun _ _ _ h => h) (Or.inl ⟨by rfl, ?_⟩) (by assumption) ?_
              rotate_left
              · (intro w hSw; (try dsimp only at hSw); first | (go_simp; done) | (go_simp; with_reducible rfl))
              try simp only [Act.put, List.getElem_toArray, List.getElem_cons_succ, List.getElem_cons_zero, List.setIfInBounds_toArray, List.set_cons_zero, List.set_cons_succ]
              refine wpAnyH_done (by kernel_rfl) ?_ _
              refine NoPanic.normal ?_
              have HQ := Hs.hid hHeld
              clear hHeld
              go_upto_region 14 with fail
              refine wp_region_noPanic ?_
              refine wp_region_held_drew (S := (fun w' => Ext [] w2 w')) (by kernel_rfl) ?_ (fun hHeld => ?_)
              · ((try dsimp only); exact HQ.out.drew)
              refine wpAnyH_take (i := 0) (v := _) rfl (by kernel_rfl) (by kernel_rfl) (by kernel_rfl) (fun _ _ _ h => h) (yieldsIf_of (.agg y.V) (by rfl) (fun w' hw => exec_load_rowV (.tmp 10) rfl L rfl y w' ⟨_, hw.same hL2 List.not_mem_nil⟩)) (by assumption) ?_
              try simp only [Act.put, List.getElem_toArray, List.getElem_cons_succ, List.getElem_cons_zero, List.setIfInBounds_toArray, List.set_cons_zero, List.set_cons_succ]
              refine wpAnyH_take (i := 1) (v := ?_) rfl (by kernel_rfl) (by kernel_rfl) (by kernel_rfl) (fun _ _ _ h => h) (Or.inl ⟨by rfl, ?_⟩) (by assumption) ?_
              rotate_left
              · (intro w hSw; (try dsimp only at hSw); first | (go_simp; done) | (go_simp; with_reducible rfl))
              try simp only [Act.put, List.getElem_toArray, List.getElem_cons_succ, List.getElem_cons_zero, List.setIfInBounds_toArray, List.set_cons_zero, List.set_cons_succ]
              refine wpAnyH_take (i := 2) (v := ?_) rfl (by kernel_rfl) (by kernel_rfl) (by kernel_rfl) (fun _ _ _ h => h) (Or.inl ⟨by rfl, ?_⟩) (by assumption) ?_
              rotate_left
              · (intro w hSw; (try dsimp only at hSw); first | (go_simp; done) | (go_simp; with_reducible rfl))
              try simp only [Act.put, List.getElem_toArray, List.getElem_cons_succ, List.getElem_cons_zero, List.setIfInBounds_toArray, List.set_cons_zero, List.set_cons_succ]
              refine wpAnyH_take (i := 3) (v := ?_) rfl (by kernel_rfl) (by kernel_rfl) (by kernel_rfl) (fun _ _ _ h => h) (Or.inl ⟨by rfl, ?_⟩) (by assumption) ?_
              rotate_left
              · (intro w hSw; (try dsimp only at hSw); have hc0 := HC0.out _ hSw; first | (go_simp; done) | (go_simp; with_reducible rfl))
              try simp only [Act.put, List.getElem_toArray, List.getElem_cons_succ, List.getElem_cons_zero, List.setIfInBounds_toArray, List.set_cons_zero, List.set_cons_succ]
              refine wpAnyH_ready (rs := [4]) (by kernel_rfl) (by simp) ?_
              refine AllReadyH.cons rfl (fun K hK => ?_) AllReadyH.nil
              go_simp
              (go_at_call 12; refine (ofS_any h0 HS0.out _).mono ?_; rintro e w7 ⟨z7, rfl, hz7, hx7⟩)
              go_wp2_with fail
              refine hK.out _ _ ?_ (fun hHeld => ?_)
              · ((try dsimp only); exact hHeld.trans0 hx7)
              clear hK K
              try simp only [Act.put, List.getElem_toArray, List.getElem_cons_succ, List.getElem_cons_zero, List.setIfInBounds_toArray, List.set_cons_zero, List.set_cons_succ]
              refine wpAnyH_ready (rs := [5]) (by kernel_rfl) (by simp) ?_
              refine AllReadyH.cons rfl (fun K hK => ?_) AllReadyH.nil
              go_simp
              (go_at_call 28; refine (nodeC_any y z7 _).mono ?_; rintro e w8 ⟨rfl, hx8⟩)
              go_wp2_with fail
              refine hK.out _ _ ?_ (fun hHeld => ?_)
              · ((try dsimp only); exact hHeld.trans0 hx8)
              clear hK K
              try simp only [Act.put, List.getElem_toArray, List.getElem_cons_succ, List.getElem_cons_zero, List.setIfInBounds_toArray, List.set_cons_zero, List.set_cons_succ]
              refine wpAnyH_take (i := 6) (v := ?_) rfl (by kernel_rfl) (by kernel_rfl) (by kernel_rfl) (fun _ _ _ h => h) (Or.inl ⟨by rfl, ?_⟩) (by assumption) ?_
              rotate_left
              · (intro w hSw; (try dsimp only at hSw); first | (go_simp; done) | (go_simp; with_reducible rfl))
              try simp only [Act.put, List.getElem_toArray, List.getElem_cons_succ, List.getElem_cons_zero, List.setIfInBounds_toArray, List.set_cons_zero, List.set_cons_succ]
              refine wpAnyH_done (by kernel_rfl) ?_ _
              refine NoPanic.normal ?_
              have HQ2 := Hs.hid hHeld
              clear hHeld
              have HQA := Hs.hid (HQ2.out.alloc (.cells #[.string (⟨#[1]⟩ ++ y.s ++ z7.s)] 9))
              obtain ⟨tx, htx⟩ : ∃ tx, ⟨#[1]⟩ ++ y.s ++ z7.s = tx := ⟨_, rfl⟩
              rw [htx] at HQA ⊢
              have HTX := Hs.hid htx
              have HZ5 := Hs.hid hz7.out
              clear htx hz7
              go_wp2_with (at_builtin; refine wpList_append rfl (.tmp 98) (.tmp 99) 22 rfl 9 i0 _ 1 16 Try.underlying22 HI.out.1 HI.out.2.1 HI.out.2.2.1 HI.out.2.2.2 rfl (by decide) (.slice (some ⟨w8.heap.size, 0, none⟩) 1 1) 1 [.string tx] rfl ⟨rfl, .inr ⟨w8.heap.size, 1, #[.string tx], rfl, Nat.zero_le _, heap_new w8 _, Nat.le_refl _, by decide, rfl, rfl⟩⟩ ⟨g, 0, none⟩ (T'.length + 1) c ((h0 :: T').map Value.string) rfl (by simp) (HN.out _ HQA.out) (by intro u hu; obtain ⟨t, _, rfl⟩ := List.mem_map.1 hu; rfl) (by unfold maxLen; have := HB.out; omega) (by have := HB.out; omega) ?_; intro ao9 cap9 w9 hO9 hx9 hf9)
              go_ret2
              have hd2 := HD.out
              obtain ⟨g9, rfl, hg9⟩ : ∃ g9, ao9 = some ⟨g9, 0, none⟩ ∧ w.heap.size ≤ g9 := by
                rcases hO9.2 with ⟨_, h0⟩ | ⟨g', cap', cur, h1, _⟩
                · omega
                · simp at h1
                  refine ⟨g', h1.1, ?_⟩
                  rcases hf9 g' (by rw [h1.1]; rfl) with h | h
                  · have q1 := HQ2.out.size
                    have q2 := HE2.out.size
                    simp [Value.ownBlock] at h
                    omega
                  · have q1 := HQ2.out.size
                    have q2 := HE2.out.size
                    simp at h
                    omega
              refine ⟨.slice (some ⟨g9, 0, none⟩) (1 + (T'.length + 1)) cap9, true, rfl, Hs.hid (WayR.mk (by rw [hd2]; simp [HLEN.out]) (fun h => by simp at h) (fun _ => ?_)), ((HE2.out.trans0 HQA.out).trans hx9 (fun g hg => .inr ?_))⟩
              · rw [hd2, HFI.out]
                have e1 : wayStep true y (h0 :: T') = tx :: h0 :: T' := by
                  unfold wayStep
                  rw [List.headD_cons, ← HTX.out, HZ5.out]; rfl
                rw [e1]
                refine ⟨g9, cap9, by simp; omega, ?_, hg9⟩
                unfold OwnT
                rw [show (tx :: h0 :: T').length = 1 + (T'.length + 1) by simp; omega]
                exact hO9
              · have q2 := HE2.out.size
                have q1 := HQ2.out.size
                simp [Value.ownBlock] at hg
                omega
end Go.Proofs.Ytjicjadibaomkaa
