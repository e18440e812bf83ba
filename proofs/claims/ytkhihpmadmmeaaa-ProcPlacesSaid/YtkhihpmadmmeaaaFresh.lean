/-
  A process that begins in a new memory: its first steps.
-/
import Derived.Test.YtkhihpmadmmeaaaProc8
set_option linter.unusedSimpArgs false
set_option linter.unusedVariables false
set_option maxHeartbeats 1000000
namespace Go.Proofs.Ytkhihpmadmmeaaa
open Go.RowKit Go.Hs

theorem act_rd (M : MSt) (c : Int) : (M.act (PSt.rd c)).cells = M.cells := by simp [MSt.act, PSt.rd]
theorem act_wish (M : MSt) (x : PSt) : (M.act x.wishA).cells = M.cells.set x.who x.mine := by simp [MSt.act, PSt.wishA, MSt.done]
theorem act_log (M : MSt) (a : Acc) : (M.act a).log.length = M.log.length + 1 := by simp [MSt.act]
structure Fresh (x : PSt) (M : MSt) : Prop where
  phase : x.phase = 1
  at_ : x.at_ = 0
  S : 1 ≤ x.S
  who : x.who < x.P
  cells : M.cells = List.replicate (x.P + x.S) noText
  log : M.log = []
theorem at_rep (n k : Nat) (h : k < n) (M : MSt) (hM : M.cells = List.replicate n noText) : M.at k = noText := by
  unfold MSt.at
  rw [hM]
  simp [List.getD, h]
theorem Fresh.step1 {x : PSt} {M : MSt} (h : Fresh x M) : x.step M = (.no, x.ph 2, M.act x.wishA) := by
  have := h.S
  unfold PSt.step
  simp [h.phase, h.at_]; omega
theorem Fresh.at1 {x : PSt} {M : MSt} (h : Fresh x M) : (M.act x.wishA).at (x.P + x.at_) = noText := by
  have := h.who
  have h2 := h.S
  unfold MSt.at
  rw [act_wish, h.at_, h.cells]
  simp [List.getD, List.getElem?_set]
  rw [if_neg (by omega)]
  simp [show 0 < x.S by omega]
theorem Fresh.step2 {x : PSt} {M : MSt} (h : Fresh x M) : (x.ph 2).step (M.act x.wishA) = (.no, x.ph 3, (M.act x.wishA).act (PSt.rd (x.P + x.at_))) := by
  have h1 := h.at1
  unfold PSt.step PSt.look
  simp [PSt.ph, h1]
theorem Fresh.step3 {x : PSt} {M : MSt} (h : Fresh x M) (N : MSt) : (x.ph 3).step N = (.no, (x.withOffer (x.pick (N.at x.helpC))).ph 4, N.act (PSt.rd x.helpC)) := by
  have e : (x.ph 3).phase = 3 := rfl
  unfold PSt.step
  rw [if_neg (by rw [e]; decide), if_neg (by rw [e]; decide), if_pos e]
  rfl
def MSt.m3 (x : PSt) (M : MSt) : MSt := ((M.act x.wishA).act (PSt.rd (x.P + x.at_))).act (PSt.rd x.helpC)
def MSt.m2 (x : PSt) (M : MSt) : MSt := (M.act x.wishA).act (PSt.rd (x.P + x.at_))
theorem m3_cells (x : PSt) (M : MSt) : (MSt.m3 x M).cells = M.cells.set x.who x.mine := by unfold MSt.m3; rw [act_rd, act_rd, act_wish]
theorem m2_cells (x : PSt) (M : MSt) : (MSt.m2 x M).cells = M.cells.set x.who x.mine := by unfold MSt.m2; rw [act_rd, act_wish]
/-- Where it is behind so many steps. -/
noncomputable def freshP (x : PSt) (M : MSt) (i : Nat) : PSt := if i = 0 then x else if i = 1 then x.ph 2 else if i = 2 then x.ph 3 else (x.withOffer (x.pick ((MSt.m2 x M).at x.helpC))).ph 4
def freshM (x : PSt) (M : MSt) (i : Nat) : MSt := if i = 0 then M else if i = 1 then M.act x.wishA else if i = 2 then MSt.m2 x M else MSt.m3 x M
theorem Fresh.step {x : PSt} {M : MSt} (h : Fresh x M) (i : Nat) (hi : i < 3) : (freshP x M i).step (freshM x M i) = (.no, freshP x M (i + 1), freshM x M (i + 1)) := by
  have : i = 0 ∨ i = 1 ∨ i = 2 := by omega
  rcases this with rfl | rfl | rfl
  · exact h.step1
  · exact h.step2
  · exact h.step3 _
theorem freshM_len (x : PSt) (M : MSt) (i : Nat) : (freshM x M i).cells.length = M.cells.length ∧ (freshM x M i).log.length ≤ M.log.length + 3 := by
  unfold freshM
  refine ⟨?_, ?_⟩
  · split
    · rfl
    · split
      · rw [act_wish]; simp
      · split
        · rw [m2_cells]; simp
        · rw [m3_cells]; simp
  · split
    · omega
    · split
      · rw [act_log]; omega
      · split
        · unfold MSt.m2; simp only [act_log]; omega
        · unfold MSt.m3; simp only [act_log]; omega
theorem freshP_same (x : PSt) (M : MSt) (i : Nat) : ∃ o ph, freshP x M i = { x with offer := o, phase := ph } := by
  unfold freshP
  split
  · exact ⟨_, _, rfl⟩
  · split
    · exact ⟨_, _, rfl⟩
    · split
      · exact ⟨_, _, rfl⟩
      · exact ⟨_, _, rfl⟩
theorem Fresh.ph {x : PSt} {M : MSt} (h : Fresh x M) (i : Nat) (hi : i ≤ 3) : (freshP x M i).phase = i + 1 := by
  have : i = 0 ∨ i = 1 ∨ i = 2 ∨ i = 3 := by omega
  rcases this with rfl | rfl | rfl | rfl
  · exact h.phase
  · rfl
  · rfl
  · rfl
/-- The last step of a process alone. -/
theorem Fresh.step4 {x : PSt} {M : MSt} (h : Fresh x M) (hP : x.P = 1) :
    ∃ y N, (freshP x M 3).step (freshM x M 3) = (⟨true, false, 0⟩, y, N) ∧ y.phase = 0 ∧ N.at 1 = x.mine := by
  have hw := h.who
  have hS := h.S
  have hw0 : x.who = 0 := by omega
  have hc : x.helpC = 0 := by unfold PSt.helpC; simp [h.at_]
  have e2 : (MSt.m2 x M).at x.helpC = x.mine := by
    unfold MSt.at
    rw [m2_cells, hc, hw0, h.cells]
    simp [List.getD, List.getElem?_set]
    rw [if_pos (by omega)]; rfl
  have hp : freshP x M 3 = (x.withOffer x.mine).ph 4 := by
    show (x.withOffer (x.pick ((MSt.m2 x M).at x.helpC))).ph 4 = _
    rw [e2]
    unfold PSt.pick
    simp
  have e3 : (MSt.m3 x M).at ((x.P : Int) + x.at_) = noText := by
    unfold MSt.at
    rw [m3_cells, hP, h.at_, hw0, h.cells]
    simp [List.getD, List.getElem?_set]
    rw [hP]
    simp [show 0 < x.S by omega]
  rw [hp]
  show ∃ y N, ((x.withOffer x.mine).ph 4).step (MSt.m3 x M) = _ ∧ _
  have hst : ((x.withOffer x.mine).ph 4).step (MSt.m3 x M) = ((((x.withOffer x.mine).ph 4).after x.mine).1, (((x.withOffer x.mine).ph 4).after x.mine).2, (MSt.m3 x M).act ((x.withOffer x.mine).ph 4).swapA) := by
    conv => lhs; unfold PSt.step
    simp only [PSt.ph, PSt.withOffer, e3]
    simp
  have haf : ((x.withOffer x.mine).ph 4).after x.mine = (⟨true, false, 0⟩, (((x.withOffer x.mine).ph 4).decide x.mine).ph 0) := by
    unfold PSt.after
    rw [if_pos (by simp [PSt.mine, PSt.ph, PSt.withOffer])]
    simp [PSt.ph, PSt.withOffer, h.at_]
  refine ⟨_, _, by rw [hst, haf], rfl, ?_⟩
  unfold MSt.at MSt.act
  have hd : (MSt.m3 x M).done ((x.withOffer x.mine).ph 4).swapA = true := by
    unfold MSt.done PSt.swapA
    simp only [PSt.ph, PSt.withOffer, e3]
    simp
  rw [hd]
  simp only [PSt.swapA, PSt.ph, PSt.withOffer, m3_cells, hP, h.at_, h.cells, hw0]
  simp [List.getD, List.getElem?_set]
  rw [if_pos (by omega)]; rfl
end Go.Proofs.Ytkhihpmadmmeaaa
