/-
  proc.Proc, a step: after, look, head, Step.
-/
import Derived.Test.YtkhihpmadmmeaaaProc2
set_option linter.unusedSimpArgs false
set_option linter.unusedVariables false
set_option maxHeartbeats 1000000
set_option maxRecDepth 100000
namespace Go.Proofs.Ytkhihpmadmmeaaa
open Go.RowKit Go.Hs

structure EndR where
  done : Bool
  full : Bool
  slot : Int
def EndR.val (e : EndR) : Value := .agg #[.bool e.done, .bool e.full, .int .i64 e.slot]
def EndR.no : EndR := ⟨false, false, 0⟩
noncomputable def PSt.after (x : PSt) (s : ByteArray) : EndR × PSt :=
  if (s.toList == x.mine.toList) = true then (⟨true, false, x.at_⟩, (x.decide s).ph 0)
  else if x.S ≤ x.at_ + 1 then (⟨true, true, 0⟩, (x.decide s).ph 0) else (.no, x.decide s)

theorem notIn2 {w : World} {b m : Nat} {x : PSt} (hI : IsProc w.heap b m x) : w.heap.size ∉ [b, m] := by
  have h1 := lt_of_heap hI.hb
  have h2 := hI.hm.lt
  simp; omega
theorem notIn1 {w : World} {b m : Nat} {x : PSt} (hI : IsProc w.heap b m x) : w.heap.size ∉ [b] := by
  have h1 := lt_of_heap hI.hb
  simp; omega
theorem IsProc.far {w : World} {b m A : Nat} {x : PSt} (hA : A ∉ [b, m]) (hI : IsProc w.heap b m x) (o : Nat) (v : Value) : IsProc (w.setCell ⟨A, o, none⟩ v).heap b m x := by
  simp at hA
  exact hI.same (heap_set_ne _ _ _ hA.1) (heap_set_ne _ _ _ hA.2)
theorem after_any (b m : Nat) (x : PSt) (s : ByteArray) (w : World) (hI : IsProc w.heap b m x) (hx : x.Ok) :
    Calls Try.prog 43 #[.pointer (some ⟨b, 0, none⟩), .string s] w fun e w' =>
      e = .returned (x.after s).1.val ∧ IsProc w'.heap b m (x.after s).2 ∧ Ext [b, m] w w' := by
  have hat := hx.at_
  have hati : (x.at_ : Int) ≤ 1000 := by omega
  have hE0 : Ext [b, m] w (w.alloc (.cells #[.bool false, .bool false, .int .i64 0] 42)) := (Ext.refl _ _).alloc _
  by_cases h1 : (s.toList == x.mine.toList) = true
  · have hd : x.after s = (⟨true, false, x.at_⟩, (x.decide s).ph 0) := by unfold PSt.after; rw [if_pos h1]
    have HD := Hs.hid hd; clear hd

    go_enter Try.func43, Try.ntmps43
    go_wp2_with (first
      | (go_at_call 55; (with_reducible refine (decided_any b m x s _ (hI.alloc _) hx).mono ?_); rintro e w1 ⟨rfl, hI1, hx1⟩; have c4 := cellAt hI1.hb 4; simp [PSt.cells, PSt.decide] at c4; have hr1 := hx1.same (heap_new w _) (notIn2 hI); have q0 := cellAt hr1 0; have q1 := cellAt hr1 1; have q2 := cellAt hr1 2; have qf := freeAt hr1; simp at q0 q1 q2)
      | (go_at_call 39; (with_reducible refine (full_any b m (x.decide s) _ hI1).mono ?_); rintro e w3 ⟨rfl, n3, rfl⟩)
      | (go_at_call 40; (with_reducible refine (end_any b m (x.decide s) true false x.at_ _ ?_).mono ?_); exact hI1; rintro e w2 ⟨rfl, hI2, hx2⟩; have hr2 := hx2.same hr1 (notIn1 hI); have r0 := cellAt hr2 0; have r1 := cellAt hr2 1; have r2 := cellAt hr2 2; have rf := freeAt hr2; simp at r0 r1 r2))
    refine bodyPost_ret (v := .agg #[.bool true, .bool false, .int .i64 x.at_]) (by simp [results, Try.results43, go_sem, r0, r1, r2]) rfl ⟨by rw [HD.out]; rfl, ?_, ?_⟩
    · rw [HD.out]
      repeat (refine IsProc.far (notIn2 hI) ?_ _ _)
      exact hI2
    · repeat (refine Ext.setN (Nat.le_refl _) ?_ _ _)
      exact (hE0.trans' hx1).trans hx2 (by simp)

  · have h1 : (s.toList == x.mine.toList) = false := by simpa using h1
    by_cases h2 : x.S ≤ x.at_ + 1
    · have hd : x.after s = (⟨true, true, 0⟩, (x.decide s).ph 0) := by unfold PSt.after; rw [h1, if_neg (by simp), if_pos h2]
      have HD := Hs.hid hd; clear hd
      have h2p : (x.decide s).S ≤ (x.decide s).at_ := h2
      have h2b : decide ((x.decide s).S ≤ (x.decide s).at_) = true := decide_eq_true h2
      clear h2
      go_enter Try.func43, Try.ntmps43
      go_wp2_with (first
        | (go_at_call 55; (with_reducible refine (decided_any b m x s _ (hI.alloc _) hx).mono ?_); rintro e w1 ⟨rfl, hI1, hx1⟩; have c4 := cellAt hI1.hb 4; simp [PSt.cells, PSt.decide] at c4; have hr1 := hx1.same (heap_new w _) (notIn2 hI); have q0 := cellAt hr1 0; have q1 := cellAt hr1 1; have q2 := cellAt hr1 2; have qf := freeAt hr1; simp at q0 q1 q2)
        | (go_at_call 39; (with_reducible refine (full_any b m (x.decide s) _ hI1).mono ?_); rintro e w3 ⟨rfl, n3, rfl⟩)
        | (go_at_call 40; (with_reducible refine (end_any b m (x.decide s) true true 0 _ ?_).mono ?_); exact hI1; rintro e w2 ⟨rfl, hI2, hx2⟩; have hr2 := hx2.same hr1 (notIn1 hI); have r0 := cellAt hr2 0; have r1 := cellAt hr2 1; have r2 := cellAt hr2 2; have rf := freeAt hr2; simp at r0 r1 r2))
      refine bodyPost_ret (v := .agg #[.bool true, .bool true, .int .i64 0]) (by simp [results, Try.results43, go_sem, r0, r1, r2]) rfl ⟨by rw [HD.out]; rfl, ?_, ?_⟩
      · rw [HD.out]
        repeat (refine IsProc.far (notIn2 hI) ?_ _ _)
        exact hI2
      · repeat (refine Ext.setN (Nat.le_refl _) ?_ _ _)
        exact ((hE0.trans' hx1).drewN n3).trans hx2 (by simp)
    · have hd : x.after s = (.no, x.decide s) := by unfold PSt.after; rw [h1, if_neg (by simp), if_neg h2]
      have HD := Hs.hid hd; clear hd
      have h2p : ¬ (x.decide s).S ≤ (x.decide s).at_ := h2
      have h2b : decide ((x.decide s).S ≤ (x.decide s).at_) = false := decide_eq_false h2
      clear h2
      go_enter Try.func43, Try.ntmps43
      go_wp2_with (first
        | (go_at_call 55; (with_reducible refine (decided_any b m x s _ (hI.alloc _) hx).mono ?_); rintro e w1 ⟨rfl, hI1, hx1⟩; have c4 := cellAt hI1.hb 4; simp [PSt.cells, PSt.decide] at c4; have hr1 := hx1.same (heap_new w _) (notIn2 hI); have q0 := cellAt hr1 0; have q1 := cellAt hr1 1; have q2 := cellAt hr1 2; have qf := freeAt hr1; simp at q0 q1 q2)
        | (go_at_call 39; (with_reducible refine (full_any b m (x.decide s) _ hI1).mono ?_); rintro e w3 ⟨rfl, n3, rfl⟩)
        | (go_at_call 40; (with_reducible refine (end_any b m (x.decide s) true true 0 _ ?_).mono ?_); exact hI1; rintro e w2 ⟨rfl, hI2, hx2⟩; have hr2 := hx2.same hr1 (notIn1 hI); have r0 := cellAt hr2 0; have r1 := cellAt hr2 1; have r2 := cellAt hr2 2; have rf := freeAt hr2; simp at r0 r1 r2))
      refine bodyPost_ret (v := .agg #[.bool false, .bool false, .int .i64 0]) (by simp [results, Try.results43, go_sem, q0, q1, q2]) rfl ⟨by rw [HD.out]; rfl, ?_, ?_⟩
      · rw [HD.out]
        repeat (refine IsProc.far (notIn2 hI) ?_ _ _)
        exact hI1
      · repeat (refine Ext.setN (Nat.le_refl _) ?_ _ _)
        exact (hE0.trans' hx1).drewN _
end Go.Proofs.Ytkhihpmadmmeaaa
