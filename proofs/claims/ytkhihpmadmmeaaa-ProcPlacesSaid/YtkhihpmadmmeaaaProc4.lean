/-
  proc.Proc: look, head, Step: each access of the memory.
-/
import Derived.Test.YtkhihpmadmmeaaaProc3
set_option linter.unusedSimpArgs false
set_option linter.unusedVariables false
set_option maxHeartbeats 2000000
set_option maxRecDepth 100000
namespace Go.Proofs.Ytkhihpmadmmeaaa
open Go.RowKit Go.Hs

/-- The blocks of a memory. -/
def foot (mb mc mm : Nat) (lv : Value) : List Nat := [mb, mc, mm] ++ lv.ownBlock.toList
theorem IsMem.ext {F : List Nat} {w w' : World} {mb mc mm : Nat} {lv : Value} {M : MSt} (h : IsMem w.heap mb mc mm lv M) (hx : Ext F w w') (hF : ∀ g ∈ foot mb mc mm lv, g ∉ F) : IsMem w'.heap mb mc mm lv M := by
  obtain ⟨cnt, hm⟩ := h.hm
  refine ⟨hx.same h.hb (hF mb (by simp [foot])), hx.same h.hc (hF mc (by simp [foot])), ⟨cnt, hm.ext hx (hF mm (by simp [foot]))⟩, h.hl.same fun g hg => ?_, h.hg⟩
  obtain ⟨cur, hcur⟩ := h.hl.block hg
  exact (hx.same hcur (hF g (by simp [foot, hg]))).trans hcur.symm
theorem IsMem.ext0 {w w' : World} {mb mc mm : Nat} {lv : Value} {M : MSt} (h : IsMem w.heap mb mc mm lv M) (hx : Ext [] w w') : IsMem w'.heap mb mc mm lv M := h.ext hx (by simp)
theorem IsMem.lt {h : Array Obj} {mb mc mm : Nat} {lv : Value} {M : MSt} (hM : IsMem h mb mc mm lv M) : ∀ g ∈ foot mb mc mm lv, g < h.size := by
  intro g hg
  obtain ⟨cnt, hm⟩ := hM.hm
  simp [foot] at hg
  rcases hg with rfl | rfl | rfl | hg
  · exact lt_of_heap hM.hb
  · exact lt_of_heap hM.hc
  · exact hm.lt
  · exact hM.hl.lt hg
/-- A process and a memory, apart. -/
structure PM (h : Array Obj) (b m : Nat) (x : PSt) (mb mc mm : Nat) (lv : Value) (M : MSt) : Prop where
  pr : IsProc h b m x
  me : IsMem h mb mc mm lv M
  ne : m ≠ mm
theorem PM.apart {h : Array Obj} {b m : Nat} {x : PSt} {mb mc mm : Nat} {lv : Value} {M : MSt} (hP : PM h b m x mb mc mm lv M) : (b ∉ foot mb mc mm lv) ∧ (m ∉ foot mb mc mm lv) := by
  obtain ⟨cnt, hm⟩ := hP.me.hm
  constructor
  · intro hb
    simp [foot] at hb
    rcases hb with rfl | rfl | rfl | hb
    · exact absurd rfl (ne_block hP.pr.hb hP.me.hb (by simp))
    · exact absurd rfl (ne_block hP.pr.hb hP.me.hc (by simp))
    · exact absurd rfl (hm.ne hP.pr.hb)
    · obtain ⟨cur, hcur⟩ := hP.me.hl.block hb
      exact absurd rfl (ne_block hP.pr.hb hcur (by simp))
  · intro hb
    simp [foot] at hb
    rcases hb with rfl | rfl | rfl | hb
    · exact absurd rfl (hP.pr.hm.ne hP.me.hb)
    · exact absurd rfl (hP.pr.hm.ne hP.me.hc)
    · exact hP.ne rfl
    · obtain ⟨cur, hcur⟩ := hP.me.hl.block hb
      exact absurd rfl (hP.pr.hm.ne hcur)
theorem PM.apart' {h : Array Obj} {b m : Nat} {x : PSt} {mb mc mm : Nat} {lv : Value} {M : MSt} (hP : PM h b m x mb mc mm lv M) : ∀ g ∈ foot mb mc mm lv, g ∉ [b, m] := by
  intro g hg hm
  simp at hm
  rcases hm with rfl | rfl
  · exact hP.apart.1 hg
  · exact hP.apart.2 hg
/-- Behind an access: the process is as it was. -/
theorem PM.acted {w w' : World} {b m : Nat} {x : PSt} {mb mc mm : Nat} {lv lv' : Value} {M M' : MSt} (hP : PM w.heap b m x mb mc mm lv M) (hM : IsMem w'.heap mb mc mm lv' M') (hx : Ext (foot mb mc mm lv) w w') :
    PM w'.heap b m x mb mc mm lv' M' := ⟨hP.pr.ext hx hP.apart.1 hP.apart.2, hM, hP.ne⟩
theorem PM.ext0 {w w' : World} {b m : Nat} {x : PSt} {mb mc mm : Nat} {lv : Value} {M : MSt} (hP : PM w.heap b m x mb mc mm lv M) (hx : Ext [] w w') : PM w'.heap b m x mb mc mm lv M :=
  ⟨hP.pr.ext hx (by simp) (by simp), hP.me.ext0 hx, hP.ne⟩
/-- Behind what only the process does. -/
theorem PM.moved {w w' : World} {b m : Nat} {x y : PSt} {mb mc mm : Nat} {lv : Value} {M : MSt} (hP : PM w.heap b m x mb mc mm lv M) (hI : IsProc w'.heap b m y) (hx : Ext [b, m] w w') : PM w'.heap b m y mb mc mm lv M :=
  ⟨hI, hP.me.ext hx hP.apart', hP.ne⟩
theorem PM.alloc {w : World} {b m : Nat} {x : PSt} {mb mc mm : Nat} {lv : Value} {M : MSt} (hP : PM w.heap b m x mb mc mm lv M) (o : Obj) : PM (w.alloc o).heap b m x mb mc mm lv M := hP.ext0 ((Ext.refl _ _).alloc o)

theorem PM.res {w : World} {b m A : Nat} {x : PSt} {mb mc mm : Nat} {lv : Value} {M : MSt} {cs : Array Value} {fr : Nat × Nat} (hP : PM w.heap b m x mb mc mm lv M) (hA : w.heap[A]? = some (.cells cs 42 fr)) (v0 v1 v2 : Value) :
    PM (((w.setCell ⟨A, 0, none⟩ v0).setCell ⟨A, 1, none⟩ v1).setCell ⟨A, 2, none⟩ v2).heap b m x mb mc mm lv M := by
  have hx : Ext [A] w (((w.setCell ⟨A, 0, none⟩ v0).setCell ⟨A, 1, none⟩ v1).setCell ⟨A, 2, none⟩ v2) := Ext.set' (by simp) (Ext.set' (by simp) (Ext.set' (by simp) (Ext.refl _ _) _ _) _ _) _ _
  obtain ⟨cnt, hm⟩ := hP.me.hm
  refine ⟨hP.pr.ext hx (by simpa using ne_block hP.pr.hb hA (by simp)) (by simpa using fun e => hP.pr.hm.ne hA e.symm), hP.me.ext hx fun g hg => ?_, hP.ne⟩
  simp [foot] at hg
  rcases hg with rfl | rfl | rfl | hg
  · simpa using ne_block hP.me.hb hA (by simp)
  · simpa using ne_block hP.me.hc hA (by simp)
  · simpa using fun e => hm.ne hA e.symm
  · obtain ⟨cur, hcur⟩ := hP.me.hl.block hg
    simpa using ne_block hcur hA (by simp)
abbrev noText : ByteArray := ⟨#[]⟩
def PSt.rd (c : Int) : Acc := ⟨1, c, noText, noText⟩
noncomputable def PSt.look (x : PSt) (M : MSt) : EndR × PSt :=
  if (M.at (x.P + x.at_)).toList = [] then (.no, x.ph 3) else x.after (M.at (x.P + x.at_))
theorem after_at (b m : Nat) (x : PSt) (s : ByteArray) (w : World) (hI : IsProc w.heap b m x) (hx : x.Ok) {d f : Bool} {sl : Int} {y : PSt} (h : x.after s = (⟨d, f, sl⟩, y)) :
    Calls Try.prog 43 #[.pointer (some ⟨b, 0, none⟩), .string s] w fun e w' => e = .returned (.agg #[.bool d, .bool f, .int .i64 sl]) ∧ IsProc w'.heap b m y ∧ Ext [b, m] w w' := by
  have := after_any b m x s w hI hx
  rw [h] at this
  exact this
/-- The post of a step. -/
def Stepped (w : World) (b m mb mc mm : Nat) (lv : Value) (e : Ending) (w' : World) (E : EndR) (y : PSt) (M' : MSt) : Prop :=
  ∃ lv', e = .returned E.val ∧ PM w'.heap b m y mb mc mm lv' M' ∧ Ext ([b, m] ++ foot mb mc mm lv) w w'
theorem look_any (b m : Nat) (x : PSt) (mb mc mm : Nat) (lv : Value) (M : MSt) (w : World) (hP : PM w.heap b m x mb mc mm lv M) (hx : x.Ok) (hS : x.at_ < x.S) (hc : M.cells.length = x.P + x.S) (hn : M.log.length < 1000000) :
    Calls Try.prog 41 #[.pointer (some ⟨b, 0, none⟩), .pointer (some ⟨mb, 0, none⟩)] w fun e w' =>
      Stepped w b m mb mc mm lv e w' (x.look M).1 (x.look M).2 (M.act (PSt.rd (x.P + x.at_))) := by
  have hat := hx.at_
  have hxP := hx.P
  have hxS := hx.S
  have hati : (x.at_ : Int) ≤ 1000 := by omega
  have hati0 : (0 : Int) ≤ x.at_ := by omega
  have hPi : (x.P : Int) ≤ 1000 := by omega
  have hPi0 : (0 : Int) ≤ x.P := by omega
  have hAP : w.heap.size ∉ ([b, m] ++ foot mb mc mm lv) := by
    intro h
    rcases List.mem_append.1 h with h | h
    · exact notIn2 hP.pr h
    · have := hP.me.lt _ h; omega
  have hA0 := heap_new w (.cells #[.bool false, .bool false, .int .i64 0] 42)
  have hP0 := hP.alloc (.cells #[.bool false, .bool false, .int .i64 0] 42)
  have hE0 : Ext ([b, m] ++ foot mb mc mm lv) w (w.alloc (.cells #[.bool false, .bool false, .int .i64 0] 42)) := (Ext.refl _ _).alloc _
  go_enter Try.func41, Try.ntmps41
  go_wp2_with fail
  generalize w.alloc (.cells #[.bool false, .bool false, .int .i64 0] 42) = W at *
  have hq := hP0.pr.hb; simp only [PSt.cells] at hq; have k0 := cellAt hq 0; have k1 := cellAt hq 1; have k2 := cellAt hq 2; have k4 := cellAt hq 4; simp at k0 k1 k2 k4
  go_cut [5] (fun s wx => ∃ lv', s = .string (M.at (x.P + x.at_)) ∧ PM wx.heap b m x mb mc mm lv' (M.act (PSt.rd (x.P + x.at_))) ∧ Ext ([b, m] ++ foot mb mc mm lv) w wx ∧ wx.heap[w.heap.size]? = some (.cells #[.bool false, .bool false, .int .i64 0] 42 (0, 0)))
  case first =>
    go_region_held3 (fun w' => w'.cell? ⟨b, 0, none⟩ = some (.int .i64 ↑x.P) ∧ w'.cell? ⟨b, 1, none⟩ = some (.int .i64 ↑x.S) ∧ w'.cell? ⟨b, 2, none⟩ = some (.int .i64 ↑x.who) ∧ w'.cell? ⟨b, 4, none⟩ = some (.int .i64 ↑x.at_))
      (first
        | go_keep
        | exact ⟨k0, k1, k2, k4⟩)
      (first
        | (go_at_call 12; (with_reducible refine (slot_any x.P x.S x.at_ _ (by omega) (by omega) (by omega) (by omega)).mono ?_); rintro e w1 ⟨rfl, hx1⟩; have hP1 := PM.ext0 (w := World.drew W) hP0 hx1; clear k0 k1 k2 k4 hq; have hq := hP1.pr.hb; simp only [PSt.cells] at hq; have k0 := cellAt hq 0; have k1 := cellAt hq 1; have k2 := cellAt hq 2; have k4 := cellAt hq 4; simp at k0 k1 k2 k4)
        | (go_at_call 38; (with_reducible refine (do_any mb mc mm lv M x.who 1 (x.P + x.at_) noText noText _ ?_ (by omega) (by omega) (by omega) ?_ hn ?_).mono ?_); exact hP1.me; (rw [hc]; omega); (rw [hc]; omega); rintro e w2 ⟨lv2, rfl, hM2, hx2⟩; have hP2 := hP1.acted hM2 hx2; clear k0 k1 k2 k4 hq; have hq := hP2.pr.hb; simp only [PSt.cells] at hq; have k0 := cellAt hq 0; have k1 := cellAt hq 1; have k2 := cellAt hq 2; have k4 := cellAt hq 4; simp at k0 k1 k2 k4))
    all_goals
      go_wp2_with fail
      go_meet
      exact ⟨lv2, rfl, hP2, (hE0.drew.trans0 hx1).trans hx2 (fun g hg => .inl (List.mem_append_right _ hg)), hx2.same (hx1.same hA0 (by simp)) (fun h => hAP (List.mem_append_right _ h))⟩
  case rest =>
    obtain ⟨lv2, rfl, hP2, hE2, hA2⟩ := hcut
    have r0 := cellAt hA2 0
    have r1 := cellAt hA2 1
    have r2 := cellAt hA2 2
    have rf := freeAt hA2
    simp at r0 r1 r2
    have hAb := hAP
    have hbE : b ∈ ([b, m] ++ foot mb mc mm lv) := by simp
    by_cases hs : (M.at (x.P + x.at_)).toList = []
    · have hd : x.look M = (.no, x.ph 3) := by unfold PSt.look; rw [if_pos hs]
      have HD := Hs.hid hd; clear hd
      have hse : (M.at (x.P + x.at_)).toList.isEmpty = true := by simp [hs]
      have f3 := freeAt hP2.pr.hb 3
      have c3 := cellAt hP2.pr.hb 3
      simp [PSt.cells] at c3
      have hne : w.heap.size ≠ b := fun e => hAP (by rw [e]; simp)
      go_wp2
      refine bodyPost_ret (v := EndR.no.val) (by simp [results, Try.results41, go_sem, r0, r1, r2, EndR.val, EndR.no]) rfl ⟨lv2, by rw [HD.out], ?_, ?_⟩
      · rw [HD.out]
        have h3 := hP2.moved (hP2.pr.phase 3) (Ext.set' (by simp) (Ext.refl _ _) _ _)
        exact h3.res ((heap_set_ne _ _ _ hne.symm).trans hA2) _ _ _
      · repeat (refine Ext.setN (Nat.le_refl _) ?_ _ _)
        exact Ext.set' hbE hE2 _ _
    · obtain ⟨d, f, sl, y, hay⟩ : ∃ d f sl y, x.after (M.at (x.P + x.at_)) = (⟨d, f, sl⟩, y) := ⟨_, _, _, _, rfl⟩
      have hd : x.look M = (⟨d, f, sl⟩, y) := by unfold PSt.look; rw [if_neg hs, hay]
      have HD := Hs.hid hd; clear hd
      have HY := Hs.hid hay; clear hay
      have hse : (M.at (x.P + x.at_)).toList.isEmpty = false := by simp [hs]
      go_wp2_with (go_at_call 43; (with_reducible refine (after_at b m x (M.at (x.P + x.at_)) _ hP2.pr hx HY.out).mono ?_); rintro e w3 ⟨rfl, hI3, hx3⟩; have hA3 := hx3.same hA2 (fun h => hAP (List.mem_append_left _ h)); have t0 := cellAt hA3 0; have t1 := cellAt hA3 1; have t2 := cellAt hA3 2; have tf := freeAt hA3; simp at t0 t1 t2)
      refine bodyPost_ret (v := .agg #[.bool d, .bool f, .int .i64 sl]) (by simp [results, Try.results41, go_sem, t0, t1, t2]) rfl ⟨lv2, by rw [HD.out]; rfl, ?_, ?_⟩
      · rw [HD.out]
        exact (hP2.moved hI3 hx3).res hA3 _ _ _
      · repeat (refine Ext.setN (Nat.le_refl _) ?_ _ _)
        exact hE2.trans hx3 (fun g hg => .inl (List.mem_append_left _ hg))
end Go.Proofs.Ytkhihpmadmmeaaa
