/-
  Step whole; New of proc and of cells; Len, All, Look of a memory.
-/
import Derived.Test.YtkhihpmadmmeaaaProc7
set_option linter.unusedSimpArgs false
set_option linter.unusedVariables false
set_option maxHeartbeats 2000000
set_option maxRecDepth 100000
namespace Go.Proofs.Ytkhihpmadmmeaaa
open Go.RowKit Go.Hs

theorem step_any (b m : Nat) (x : PSt) (mb mc mm : Nat) (lv : Value) (M : MSt) (w : World) (hP : PM w.heap b m x mb mc mm lv M) (hx : x.Ok) (hw : x.who < x.P) (hc : M.cells.length = x.P + x.S) (hn : M.log.length < 1000000)
    (hph : x.phase = 0 ∨ x.phase = 1 ∨ x.phase = 2 ∨ x.phase = 3 ∨ x.phase = 4 ∨ x.phase = 5) (hS : x.phase = 2 ∨ x.phase = 4 → x.at_ < x.S) :
    Calls Try.prog 24 #[.pointer (some ⟨b, 0, none⟩), .pointer (some ⟨mb, 0, none⟩)] w fun e w' =>
      Stepped w b m mb mc mm lv e w' (x.step M).1 (x.step M).2.1 (x.step M).2.2 := by
  rcases hph with h | h | h | h | h | h
  · have hd : x.step M = (.no, x, M) := by unfold PSt.step; simp [h]
    rw [hd]
    exact step_idle b m x mb mc mm lv M w hP hx h
  · exact step_wish b m x mb mc mm lv M w hP hx hw hc hn h
  · exact step_look b m x mb mc mm lv M w hP hx hw hc hn h (hS (.inl h))
  · exact step_help b m x mb mc mm lv M w hP hx hw hc hn h
  · exact step_swap b m x mb mc mm lv M w hP hx hw hc hn h (hS (.inr h))
  · exact step_head b m x mb mc mm lv M w hP hx hw hc hn h

theorem wpList_make_eq {P : Program} {w : World} {ops : Array Oper} {rest : List Oper} {o : Oper} {a : Act} {Q : Exit → Act → World → Prop}
    (hg : o.guard = none) (l c : Operand) (t : TypeId) (hop : o.op = Op.makeSlice t l c)
    (e : TypeId) (i : TypeInfo) (z : Value) (size bytes : Nat) (h1 : P.underlying t = some (.slice e)) (h2 : P.info? e = some i) (h3 : i.zero = some z) (h4 : i.size = size) (hby : i.bytes = bytes)
    (kl kc : IntKind) (L C : Int) (n : Nat) (hl : a.eval l = .int kl L) (hc : a.eval c = .int kc C) (hL : L = (n : Int)) (hC : C = (n : Int)) (b2 : bytes * n ≤ 281474976710656) (b3 : n ≤ maxLen)
    (hK : wpList P ops Q rest (a.put o.dst (.slice (some ⟨w.heap.size, 0, none⟩) n n)) (w.alloc (.cells (madeCells z.cells (n * size)) e))) :
    wpList P ops Q (o :: rest) a w := by
  refine wpList_plain hg fun K hK' => ?_
  subst hL
  subst hC
  subst h4
  subst hby
  have h63' : (n : Int) ≤ 9223372036854775807 := by
    have h := b3
    simp [maxLen] at h
    omega
  have hb' : (i.bytes : Int) * (n : Int) ≤ 281474976710656 := by
    have h : ((i.bytes * n : Nat) : Int) ≤ 281474976710656 := by omega
    rwa [Int.natCast_mul] at h
  have hr := run_make (P := P) w t e i z h1 h2 h3 kl kc n n (by omega) (Int.le_refl _) hb' h63'
  simp only [Int.toNat_natCast] at hr
  unfold Oper.wp
  simp [execOp, hop, hl, hc, hr, Result.andThen]
  exact hK' _ _ hK

theorem infoStr : (Try.prog.info? 9).map (fun i => (i.zero, i.size, i.bytes)) = some (some (.string ⟨#[]⟩), 1, 16) := by kernel_rfl
theorem made_strs (n : Nat) : madeCells (Value.string ⟨#[]⟩).cells (n * 1) = ((List.replicate n noText).map Value.string).toArray := by
  apply Array.ext
  · simp [size_madeCells]
  · intro i h1 h2
    simp [madeCells, Value.cells, Nat.mod_one]
    try rfl
theorem alloc3 {κ ν : Type} [DecidableEq κ] (enc : κ → Value) (venc : ν → Value) (w : World) (A C : Obj) :
    (((w.alloc A).alloc (.map #[] 0)).alloc C).heap[w.heap.size]? = some A ∧ MapAt enc venc (((w.alloc A).alloc (.map #[] 0)).alloc C).heap (w.heap.size + 1) ([] : List (κ × ν)) ∧
    (((w.alloc A).alloc (.map #[] 0)).alloc C).heap[w.heap.size + 1 + 1]? = some C ∧ Ext [] w (((w.alloc A).alloc (.map #[] 0)).alloc C) := by
  have hs1 : (w.alloc A).heap.size = w.heap.size + 1 := by simp
  have hs2 : ((w.alloc A).alloc (.map #[] 0)).heap.size = w.heap.size + 1 + 1 := by simp
  refine ⟨heap_old' _ _ (heap_old' _ _ (heap_new w A)), ?_, ?_, (((Ext.refl _ _).alloc _).alloc _).alloc _⟩
  · have := mapAt_new enc venc (w.alloc A)
    rw [hs1] at this
    exact this.ext ((Ext.refl [] _).alloc _) (by simp)
  · have := heap_new ((w.alloc A).alloc (.map #[] 0)) C
    rw [hs2] at this
    exact this
def MSt.new (n : Nat) : MSt := ⟨List.replicate n noText, []⟩
theorem cellsNew_any (n : Nat) (hn : n ≤ 65536) (w : World) :
    Calls Try.prog 20 #[.int .i64 n] w fun e w' => ∃ mb mc mm lv, e = .returned (.pointer (some ⟨mb, 0, none⟩)) ∧ IsMem w'.heap mb mc mm lv (MSt.new n) ∧ Ext [] w w' ∧ (∀ g ∈ foot mb mc mm lv, w.heap.size ≤ g) := by
  obtain ⟨i, hi, hz, hs, hby⟩ := info_parts infoStr
  have h0 : (0 : Int) ≤ n := by omega
  have h1 : (n : Int) ≤ 65536 := by omega
  have hm1 : min (n : Int) 65536 = n := by omega
  have hm2 : max 0 (n : Int) = n := by omega
  have hmk := fun w => run_makeMap (P := Try.prog) 27 w
  go_enter Try.func20, Try.ntmps20
  go_wp2_with (at_make; refine wpList_make_eq rfl _ _ _ rfl 9 i _ 1 16 Try.underlying34 hi hz hs hby .i64 .i64 _ _ n rfl rfl (by first | rfl | (simp [hm1, hm2]; done) | (simp [hm1, hm2]; omega) | omega) (by first | rfl | (simp [hm1, hm2]; done) | (simp [hm1, hm2]; omega) | omega) (by omega) (by simp [maxLen]; omega) ?_)
  all_goals
    go_ret
    have hms := made_strs n
    simp only [Nat.mul_one, Value.cells] at hms
    rw [hms]
    obtain ⟨h1, h2, h3, hE⟩ := alloc3 (Value.int .i64) (Value.int .i64) w (.cells ((List.replicate n noText).map Value.string).toArray 9) (.cells #[.slice (some ⟨w.heap.size, 0, none⟩) n n, .map (some (w.heap.size + 1)), .slice none 0 0] 73)
    refine ⟨w.heap.size + 1 + 1, rfl, w.heap.size, w.heap.size + 1, .slice none 0 0, ⟨?_, h1, ⟨[], h2⟩, ⟨by simp [MSt.new], .inl ⟨rfl, rfl⟩⟩, by simp [Value.ownBlock]⟩, hE, ?_⟩
    · refine Eq.trans h3 ?_
      simp [MSt.new]
    · intro g hg
      simp [foot, Value.ownBlock] at hg
      omega
def PSt.new (P S who : Nat) : PSt := ⟨P, S, who, 0, 0, [], 0, 0, noText, noText⟩
theorem procNew_any (P S who : Nat) (w : World) :
    Calls Try.prog 21 #[.agg #[.int .i64 P, .int .i64 S], .int .i64 who] w fun e w' => ∃ b m, e = .returned (.pointer (some ⟨b, 0, none⟩)) ∧ IsProc w'.heap b m (PSt.new P S who) ∧ Ext [] w w' ∧ w.heap.size ≤ b ∧ w.heap.size ≤ m := by
  have hA := heap_new w (.cells #[.int .i64 P, .int .i64 S] 23)
  have a0 := cellAt hA 0
  have a1 := cellAt hA 1
  simp at a0 a1
  have hmk := fun w => run_makeMap (P := Try.prog) 27 w
  go_enter Try.func21, Try.ntmps21
  go_wp2
  go_ret
  obtain ⟨h1, h2, h3, hE⟩ := alloc3 (Value.int .i64) (Value.int .i64) w (.cells #[.int .i64 P, .int .i64 S] 23) (.cells ((PSt.new P S who).cells (w.heap.size + 1)) 75)
  refine ⟨w.heap.size + 1 + 1, w.heap.size + 1, rfl, ⟨h3, h2⟩, hE, by omega, by omega⟩
theorem memLen_any (mb mc mm : Nat) (lv : Value) (M : MSt) (w : World) (hM : IsMem w.heap mb mc mm lv M) :
    Calls Try.prog 28 #[.pointer (some ⟨mb, 0, none⟩)] w fun e w' => e = .returned (.int .i64 M.cells.length) ∧ w' = w := by
  have c0 := cellAt hM.hb 0
  simp at c0
  go_enter Try.func28, Try.ntmps28
  go_wp2
  go_ret
  exact ⟨rfl, rfl⟩
theorem memAll_any (mb mc mm : Nat) (lv : Value) (M : MSt) (w : World) (hM : IsMem w.heap mb mc mm lv M) :
    Calls Try.prog 25 #[.pointer (some ⟨mb, 0, none⟩)] w fun e w' => e = .returned (.int .i64 M.log.length) ∧ w' = w := by
  have c2 := cellAt hM.hb 2
  simp at c2
  obtain ⟨ao, cap, rfl⟩ := Own.form (w := w) hM.hl
  go_enter Try.func25, Try.ntmps25
  go_wp2
  go_ret
  exact ⟨rfl, rfl⟩
theorem memLook_any (mb mc mm : Nat) (lv : Value) (M : MSt) (c : Int) (hc : 0 ≤ c) (w : World) (hM : IsMem w.heap mb mc mm lv M) :
    Calls Try.prog 17 #[.pointer (some ⟨mb, 0, none⟩), .int .i64 c] w fun e w' => e = .returned (.string (M.at c)) ∧ w' = w := by
  have c0 := cellAt hM.hb 0
  simp at c0
  have hlt : decide (c < 0) = false := by simp; omega
  by_cases hl : c < M.cells.length
  · have hd : decide ((M.cells.length : Int) ≤ c) = false := by simp; omega
    have hcn : c.toNat < M.cells.length := by omega
    have cc := cellAt hM.hc c.toNat
    have hat : M.at c = M.cells[c.toNat] := by unfold MSt.at; simp [List.getD, hcn]
    simp [hcn] at cc
    rw [hat]
    go_enter Try.func17, Try.ntmps17
    go_wp2
    go_ret
    exact ⟨rfl, rfl⟩
  · have hd : decide ((M.cells.length : Int) ≤ c) = true := by simp; omega
    have hd' : (M.cells.length : Int) ≤ c := by omega
    have hat : M.at c = noText := by
      unfold MSt.at
      rw [List.getD_eq_getElem?_getD, List.getElem?_eq_none (by omega)]; rfl
    rw [hat]
    go_enter Try.func17, Try.ntmps17
    go_wp2
    go_ret
    exact ⟨rfl, rfl⟩
end Go.Proofs.Ytkhihpmadmmeaaa
