/-
  proc.Place and proc.Proc: what their blocks hold, and what each function does.
-/
import Derived.Test.YtkhihpmadmmeaaaMem
import Derived.Test.YtkhihpmadmmeaaaWire
import Derived.Test.YtkhihpmadmmeaaaParse
import Derived.Laws.ResultCell
set_option linter.unusedSimpArgs false
set_option linter.unusedVariables false
set_option maxHeartbeats 1000000
set_option maxRecDepth 100000
namespace Go.Proofs.Ytkhihpmadmmeaaa
open Go.RowKit Go.Hs

theorem check_any (p s : Int) (w : World) : Calls Try.prog 10 #[.agg #[.int .i64 p, .int .i64 s]] w fun e w' =>
    e = .returned (.int .i64 (if p < 1 ∨ p > 64 ∨ s < 0 ∨ s > 256 then 4 else 0)) ∧ Ext [] w w' := by
  by_cases h1 : p < 1
  · have d1 : decide (p < 1) = true := by simpa using h1
    go_enter Try.func10, Try.ntmps10
    go_wp2
    go_ret
    exact ⟨by simp [h1], (Ext.refl _ _).alloc _⟩
  · have d1 : decide (p < 1) = false := by simpa using h1
    by_cases h2 : p > 64
    · have d2 : decide (64 < p) = true := by simpa using h2
      go_enter Try.func10, Try.ntmps10
      go_wp2
      go_ret
      exact ⟨by simp [h1, h2], (Ext.refl _ _).alloc _⟩
    · have d2 : decide (64 < p) = false := by simpa using h2
      by_cases h3 : s < 0
      · have d3 : decide (s < 0) = true := by simpa using h3
        go_enter Try.func10, Try.ntmps10
        go_wp2
        go_ret
        exact ⟨by simp [h1, h2, h3], (Ext.refl _ _).alloc _⟩
      · have d3 : decide (s < 0) = false := by simpa using h3
        by_cases h4 : s > 256
        · have d4 : decide (256 < s) = true := by simpa using h4
          go_enter Try.func10, Try.ntmps10
          go_wp2
          go_ret
          exact ⟨by simp [h1, h2, h3, h4], (Ext.refl _ _).alloc _⟩
        · have d4 : decide (256 < s) = false := by simpa using h4
          go_enter Try.func10, Try.ntmps10
          go_wp2
          go_ret
          exact ⟨by simp [h1, h2, h3, h4], (Ext.refl _ _).alloc _⟩
theorem wish_any (p s k : Int) (w : World) : Calls Try.prog 11 #[.agg #[.int .i64 p, .int .i64 s], .int .i64 k] w fun e w' => e = .returned (.int .i64 k) ∧ Ext [] w w' := by
  go_enter Try.func11, Try.ntmps11
  go_wp2
  go_ret
  first | exact ⟨rfl, Ext.refl _ _⟩ | exact ⟨rfl, (Ext.refl _ _).alloc _⟩
theorem slot_any (p s k : Int) (w : World) (h : 0 ≤ p) (h' : p ≤ 100000) (h1 : 0 ≤ k) (h2 : k ≤ 100000) :
    Calls Try.prog 12 #[.agg #[.int .i64 p, .int .i64 s], .int .i64 k] w fun e w' => e = .returned (.int .i64 (p + k)) ∧ Ext [] w w' := by
  go_enter Try.func12, Try.ntmps12
  go_wp2
  go_ret
  exact ⟨rfl, (Ext.refl _ _).alloc _⟩
theorem cells_any (p s : Int) (w : World) (h : 0 ≤ p) (h' : p ≤ 100000) (h1 : 0 ≤ s) (h2 : s ≤ 100000) :
    Calls Try.prog 13 #[.agg #[.int .i64 p, .int .i64 s]] w fun e w' => e = .returned (.int .i64 (p + s)) ∧ Ext [] w w' := by
  go_enter Try.func13, Try.ntmps13
  go_wp2
  go_ret
  exact ⟨rfl, (Ext.refl _ _).alloc _⟩
theorem bound_any (p s : Int) (w : World) (h1 : 0 ≤ s) (h2 : s ≤ 100000) :
    Calls Try.prog 14 #[.agg #[.int .i64 p, .int .i64 s]] w fun e w' => e = .returned (.int .i64 (2 + 3 * s)) ∧ Ext [] w w' := by
  go_enter Try.func14, Try.ntmps14
  go_wp2
  go_ret
  exact ⟨rfl, (Ext.refl _ _).alloc _⟩

/-- A process's own: what it is for, where it is, what it has seen. -/
structure PSt where
  P : Nat
  S : Nat
  who : Nat
  phase : Int
  at_ : Nat
  seen : List (Int × Int)
  seq : Nat
  mwho : Nat
  body : ByteArray
  offer : ByteArray
def PSt.cells (x : PSt) (m : Nat) : Array Value :=
  #[.int .i64 x.P, .int .i64 x.S, .int .i64 x.who, .int .i64 x.phase, .int .i64 x.at_, .map (some m), .int .i64 x.mwho, .int .i64 x.seq, .string x.body, .string x.offer]
structure IsProc (h : Array Obj) (b m : Nat) (x : PSt) : Prop where
  hb : h[b]? = some (.cells (x.cells m) 75 (0, 0))
  hm : MapAt (Value.int .i64) (Value.int .i64) h m x.seen
theorem IsProc.same {h h' : Array Obj} {b m : Nat} {x : PSt} (i : IsProc h b m x) (e1 : h'[b]? = h[b]?) (e2 : h'[m]? = h[m]?) : IsProc h' b m x := ⟨e1.trans i.hb, i.hm.same e2⟩
theorem IsProc.ext {F : List Nat} {w w' : World} {b m : Nat} {x : PSt} (i : IsProc w.heap b m x) (h : Ext F w w') (h1 : b ∉ F) (h2 : m ∉ F) : IsProc w'.heap b m x := ⟨h.same i.hb h1, i.hm.ext h h2⟩

theorem idle_any (b m : Nat) (x : PSt) (w : World) (hI : IsProc w.heap b m x) :
    Calls Try.prog 23 #[.pointer (some ⟨b, 0, none⟩)] w fun e w' => e = .returned (.bool (x.phase == 0)) ∧ w' = w := by
  have c3 := cellAt hI.hb 3
  simp [PSt.cells] at c3
  go_enter Try.func23, Try.ntmps23
  go_wp2
  go_ret
  exact ⟨rfl, rfl⟩
theorem at_any (b m : Nat) (x : PSt) (w : World) (hI : IsProc w.heap b m x) :
    Calls Try.prog 45 #[.pointer (some ⟨b, 0, none⟩)] w fun e w' => e = .returned (.int .i64 x.at_) ∧ w' = w := by
  have c4 := cellAt hI.hb 4
  simp [PSt.cells] at c4
  go_enter Try.func45, Try.ntmps45
  go_wp2
  go_ret
  exact ⟨rfl, rfl⟩
theorem seq_any (b m : Nat) (x : PSt) (w : World) (hI : IsProc w.heap b m x) :
    Calls Try.prog 18 #[.pointer (some ⟨b, 0, none⟩)] w fun e w' => e = .returned (.int .i64 x.seq) ∧ w' = w := by
  have c7 := cellAt hI.hb 7
  simp [PSt.cells] at c7
  go_enter Try.func18, Try.ntmps18
  go_wp2
  go_ret
  exact ⟨rfl, rfl⟩
theorem full_any (b m : Nat) (x : PSt) (w : World) (hI : IsProc w.heap b m x) :
    Calls Try.prog 39 #[.pointer (some ⟨b, 0, none⟩)] w fun e w' => e = .returned (.bool (decide (x.S ≤ x.at_))) ∧ ∃ n, w' = w.drewN n := by
  have c4 := cellAt hI.hb 4
  have c1 := cellAt hI.hb 1
  simp [PSt.cells] at c4 c1
  go_enter Try.func39, Try.ntmps39
  go_wp2
  go_quiet (fail)
  go_wp2
  go_ret
  exact ⟨by simp, _, rfl⟩
def PSt.doHead (x : PSt) : Int × PSt := if x.phase = 0 then (0, { x with phase := 5 }) else (20, x)
theorem head_any (b m : Nat) (x : PSt) (w : World) (hI : IsProc w.heap b m x) :
    Calls Try.prog 26 #[.pointer (some ⟨b, 0, none⟩)] w fun e w' =>
      e = .returned (.int .i64 x.doHead.1) ∧ IsProc w'.heap b m x.doHead.2 ∧ Ext [b] w w' := by
  have c3 := cellAt hI.hb 3
  have f3 := freeAt hI.hb 3
  simp [PSt.cells] at c3
  by_cases hp : x.phase = 0
  · have hpb : (x.phase == 0) = true := by simpa using hp
    have hd : x.doHead = (0, { x with phase := 5 }) := by simp [PSt.doHead, hp]
    have HD := Hs.hid hd; clear hd hp
    go_enter Try.func26, Try.ntmps26
    go_wp2_with (go_at_call 23; refine (idle_any b m x _ hI).mono ?_; rintro e w1 ⟨rfl, rfl⟩)
    go_ret
    refine ⟨by rw [HD.out]; rfl, ?_, (Ext.refl _ _).setCell (.inl (by simp)) _⟩
    rw [HD.out]
    exact ⟨by rw [heap_set hI.hb]; simp [PSt.cells], hI.hm.same (heap_set_ne _ _ _ (hI.hm.ne hI.hb))⟩
  · have hpb : (x.phase == 0) = false := by simpa using hp
    have hd : x.doHead = (20, x) := by simp [PSt.doHead, hp]
    have HD := Hs.hid hd; clear hd hp
    go_enter Try.func26, Try.ntmps26
    go_wp2_with (go_at_call 23; refine (idle_any b m x _ hI).mono ?_; rintro e w1 ⟨rfl, rfl⟩)
    go_ret
    exact ⟨by rw [HD.out]; rfl, by rw [HD.out]; exact hI, Ext.refl _ _⟩

/-- A process begins. -/
def PSt.doBegin (x : PSt) (body : ByteArray) : Int × PSt :=
  if x.phase = 0 then (if body.size ≤ 1024 then (0, { x with phase := 1, mwho := x.who, seq := x.seq + 1, body := body }) else (3, x)) else (20, x)
theorem begin_any (b m : Nat) (x : PSt) (body : ByteArray) (w : World) (hI : IsProc w.heap b m x) (hs : x.seq < 1000000000) :
    Calls Try.prog 22 #[.pointer (some ⟨b, 0, none⟩), .string body] w fun e w' =>
      e = .returned (.int .i64 (x.doBegin body).1) ∧ IsProc w'.heap b m (x.doBegin body).2 ∧ Ext [b] w w' := by
  have hI' := hI.hb
  simp only [PSt.cells] at hI'
  have c2 := cellAt hI' 2
  have c3 := cellAt hI' 3
  have c6 := cellAt hI' 6
  have c7 := cellAt hI' 7
  have c8 := cellAt hI' 8
  have f := freeAt hI'
  simp at c2 c3 c6 c7 c8
  have hsi : (x.seq : Int) < 1000000000 := by omega
  by_cases hp : x.phase = 0
  · have hpb : (x.phase == 0) = true := by simpa using hp
    by_cases hb : body.size ≤ 1024
    · have hbb : decide ((1024 : Int) < (body.size : Int)) = false := by simp; omega
      have hd : x.doBegin body = (0, { x with phase := 1, mwho := x.who, seq := x.seq + 1, body := body }) := by simp [PSt.doBegin, hp, hb]
      have HD := Hs.hid hd; clear hd hp hb
      go_enter Try.func22, Try.ntmps22
      go_wp2_with (go_at_call 23; refine (idle_any b m x _ hI).mono ?_; rintro e w1 ⟨rfl, rfl⟩)
      go_region
      all_goals
        go_wp2_with fail
        go_ret
        refine (fun (hE : Ext [b] w1 _) => ⟨by rw [HD.out]; rfl, ?_, hE⟩) ?_
        · repeat (first | exact Ext.refl _ _ | refine Ext.drew ?_ | refine Ext.set' (List.mem_singleton.2 rfl) ?_ _ _)
        · rw [HD.out]
          refine ⟨?_, hI.hm.ext hE (by simpa using fun e => hI.hm.ne hI.hb e.symm)⟩
          refine Eq.trans (heap_set (heap_set (heap_set (heap_set hI.hb 6 _) 7 _) 8 _) 3 _) ?_
          simp [PSt.cells]
    · have hbb : decide ((1024 : Int) < (body.size : Int)) = true := by simp; omega
      have hd : x.doBegin body = (3, x) := by simp [PSt.doBegin, hp, hb]
      have HD := Hs.hid hd; clear hd hp hb
      go_enter Try.func22, Try.ntmps22
      go_wp2_with (go_at_call 23; refine (idle_any b m x _ hI).mono ?_; rintro e w1 ⟨rfl, rfl⟩)
      go_ret
      exact ⟨by rw [HD.out]; rfl, by rw [HD.out]; exact hI, Ext.refl _ _⟩
  · have hpb : (x.phase == 0) = false := by simpa using hp
    have hd : x.doBegin body = (20, x) := by simp [PSt.doBegin, hp]
    have HD := Hs.hid hd; clear hd hp
    go_enter Try.func22, Try.ntmps22
    go_wp2_with (go_at_call 23; refine (idle_any b m x _ hI).mono ?_; rintro e w1 ⟨rfl, rfl⟩)
    go_ret
    exact ⟨by rw [HD.out]; rfl, by rw [HD.out]; exact hI, Ext.refl _ _⟩
end Go.Proofs.Ytkhihpmadmmeaaa
