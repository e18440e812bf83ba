/-
  ProcBusy, walked.
-/
import Derived.Test.YtkhihpmadmmeaaaAwake
set_option linter.unusedSimpArgs false
set_option linter.unusedVariables false
set_option maxHeartbeats 2000000
set_option maxRecDepth 100000
namespace Go.Proofs.Ytkhihpmadmmeaaa
open Go.RowKit Go.Hs

theorem made_u8 (n : Nat) : madeCells (Value.int .u8 0).cells (n * 1) = ((List.replicate n 0).map fun (c : Nat) => Value.int .u8 c).toArray := by
  apply Array.ext
  · simp [size_madeCells]
  · intro i h1 h2
    simp [madeCells, Value.cells, Nat.mod_one]
def busyBody (k : Nat) : ByteArray := strN (List.replicate k 0)
theorem busyBody_size (k : Nat) : (busyBody k).size = k := by simp [busyBody, strN, ByteArray.size]
def busyP (k : Nat) : PSt := { PSt.new 2 3 1 with phase := 1, mwho := 1, seq := 1, body := busyBody k }
theorem busyFresh (k : Nat) : Fresh (busyP k) (MSt.new 5) := ⟨rfl, rfl, by simp [busyP, PSt.new], by simp [busyP, PSt.new], rfl, rfl⟩
theorem busyOk (k : Nat) (hk : k ≤ 1024) : (busyP k).Ok := ⟨by simp [busyP, PSt.new], by simp [busyP, PSt.new], by simp [busyP, PSt.new], by rw [show (busyP k).body = busyBody k from rfl, busyBody_size]; exact hk, by simp [busyP, PSt.new], by simp [busyP, PSt.new], by simp [busyP, PSt.new]⟩
theorem busyBegin_ok (k : Nat) (hk : k ≤ 1024) (b m : Nat) (w : World) (hI : IsProc w.heap b m (PSt.new 2 3 1)) :
    Calls Try.prog 22 #[.pointer (some ⟨b, 0, none⟩), .string (busyBody k)] w fun e w' => e = .returned (.int .i64 0) ∧ IsProc w'.heap b m (busyP k) ∧ Ext [b] w w' := by
  have := begin_any b m (PSt.new 2 3 1) (busyBody k) w hI (by decide)
  have h : (PSt.new 2 3 1).doBegin (busyBody k) = (0, busyP k) := by
    unfold PSt.doBegin
    rw [if_pos (show (PSt.new 2 3 1).phase = 0 from rfl), if_pos (by rw [busyBody_size]; exact hk)]
    rfl
  rw [h] at this
  exact this
theorem busyBegin_big (k : Nat) (hk : 1024 < k) (b m : Nat) (w : World) (hI : IsProc w.heap b m (PSt.new 2 3 1)) :
    Calls Try.prog 22 #[.pointer (some ⟨b, 0, none⟩), .string (busyBody k)] w fun e w' => e = .returned (.int .i64 3) ∧ IsProc w'.heap b m (PSt.new 2 3 1) ∧ Ext [b] w w' := by
  have := begin_any b m (PSt.new 2 3 1) (busyBody k) w hI (by decide)
  have h : (PSt.new 2 3 1).doBegin (busyBody k) = (3, PSt.new 2 3 1) := by
    unfold PSt.doBegin
    rw [if_pos (show (PSt.new 2 3 1).phase = 0 from rfl), if_neg (by rw [busyBody_size]; omega)]
  rw [h] at this
  exact this
theorem busyBusy (b m : Nat) (x : PSt) (hx : ¬ x.phase = 0) (hs : x.seq < 1000000000) (body : ByteArray) (w : World) (hI : IsProc w.heap b m x) :
    Calls Try.prog 22 #[.pointer (some ⟨b, 0, none⟩), .string body] w fun e w' => e = .returned (.int .i64 20) ∧ IsProc w'.heap b m x ∧ Ext [b] w w' := by
  have := begin_any b m x body w hI hs
  have h : x.doBegin body = (20, x) := by unfold PSt.doBegin; rw [if_neg hx]
  rw [h] at this
  exact this
theorem headBusy (b m : Nat) (x : PSt) (hx : ¬ x.phase = 0) (w : World) (hI : IsProc w.heap b m x) :
    Calls Try.prog 26 #[.pointer (some ⟨b, 0, none⟩)] w fun e w' => e = .returned (.int .i64 20) ∧ IsProc w'.heap b m x ∧ Ext [b] w w' := by
  have := head_any b m x w hI
  have h : x.doHead = (20, x) := by unfold PSt.doHead; rw [if_neg hx]
  rw [h] at this
  exact this
theorem busyIdle (b m mb mc mm : Nat) (lv : Value) (M : MSt) (x : PSt) (hok : x.Ok) (hx : x.phase = 0) (w : World) (hP : PM w.heap b m x mb mc mm lv M) :
    Calls Try.prog 24 #[.pointer (some ⟨b, 0, none⟩), .pointer (some ⟨mb, 0, none⟩)] w fun e w' =>
      ∃ lv', e = .returned (.agg #[.bool false, .bool false, .int .i64 0]) ∧ PM w'.heap b m x mb mc mm lv' M ∧ Ext ([b, m] ++ foot mb mc mm lv) w w' :=
  step_idle b m x mb mc mm lv M w hP hok hx
theorem busy_any (n steps : Int) (w : World) : Calls Try.prog 5 #[.int .i64 n, .int .i64 steps] w fun e w' => e = .returned (.bool true) ∧ Ext [] w w' := by
  go_enter Try.func5, Try.ntmps5
  go_upto_region 4 with (go_at_call 9; refine (awake_any _).mono ?_; rintro e w0 ⟨rfl, hx0⟩)
  have hA := heap_new w0 (.cells #[.int .i64 2, .int .i64 3] 23)
  have hE : Ext [] w (w0.alloc (.cells #[.int .i64 2, .int .i64 3] 23)) := hx0.alloc _
  generalize w0.alloc (.cells #[.int .i64 2, .int .i64 3] 23) = W0 at *
  have hAlt := lt_of_heap hA
  generalize w0.heap.size = A at *
  have p0 := cellAt hA 0
  have p1 := cellAt hA 1
  simp at p0 p1
  go_upto_region 6 with (first
    | (go_at_call 20; refine (cellsNew_int 5 _ rfl (by omega) _).mono ?_; rintro e w1 ⟨mb, mc, mm, lv, rfl, hM1, hx1, hf1⟩; have hA1 := (hx3.trans0 hx1).same hA (by simp); clear p0 p1; have p0 := cellAt hA1 0; have p1 := cellAt hA1 1; simp at p0 p1)
    | (go_at_call 21; refine (procNew_int 2 3 1 _ _ _ rfl rfl rfl _).mono ?_; rintro e w2 ⟨b, m, rfl, hI2, hx2, hb2, hm2⟩)
    | (go_at_call 13; (refine (cells_any 2 3 _ (by decide) (by decide) (by decide) (by decide)).mono ?_); rintro e w3 ⟨rfl, hx3⟩; have hA3 := hx3.same hA (by simp); clear p0 p1; have p0 := cellAt hA3 0; have p1 := cellAt hA3 1; simp at p0 p1))
  have hP2 := pm_new hM1 hI2 hx2 hb2 hm2
  have hE2 : Ext [] w w2 := ((hE.trans0 hx3).trans0 hx1).trans0 hx2
  have hnew' : ∀ g ∈ [b, m] ++ foot mb mc mm lv, w.heap.size ≤ g := by
    intro g hg
    have h1 := hx1.size
    have h2 := hE.size
    have h3 := hx3.size
    rcases List.mem_append.1 hg with hg | hg
    · simp at hg; omega
    · have := hf1 g hg; omega
  have HN := Hs.hid hnew'
  clear hnew' hM1 hI2 hx1 hx2 hx3 hf1 hA1 hE hA hA3 p0 p1 hAlt hb2 hm2 hx0
  go_cut [0] (fun s wx => ∃ k : Nat, s = .int .i64 k ∧ k ≤ 2000 ∧ w2 = wx)
  case first =>
    go_wp2_with fail
    all_goals go_meet
    · exact ⟨2000, rfl, by omega, rfl⟩
    · exact ⟨0, rfl, by omega, rfl⟩
    · have h1 := ‹(if n < 0 then (0 : Int) else n) ≤ 2000›
      have h2 : 0 ≤ n := h
      rw [if_neg (by omega)] at h1
      exact ⟨n.toNat, by rw [Int.toNat_of_nonneg h2], by omega, rfl⟩
  case rest =>
    obtain ⟨k, rfl, hk, rfl⟩ := hcut
    obtain ⟨i, hi, hz, hs, hby⟩ := info_parts infoU8
    have hki0 : (0 : Int) ≤ k := by omega
    have hki : (k : Int) ≤ 2000 := by omega
    have hms := made_u8 k
    simp only [Nat.mul_one, Value.cells] at hms
    have hown : Own (w2.alloc (.cells (madeCells #[Value.int .u8 0] k) 5)).heap 5 1 (.slice (some ⟨w2.heap.size, 0, none⟩) k k) (List.replicate k 0).length ((List.replicate k 0).map fun (c : Nat) => Value.int .u8 c) := by
      refine ⟨by simp, .inr ⟨w2.heap.size, k, _, by simp, Nat.zero_le _, heap_new _ _, by simp, by simp [maxLen]; omega, by simp [size_madeCells], ?_⟩⟩
      rw [hms]; simp
    have hcv := run_bytes_text (P := Try.prog) 56 9 5 Try.underlying56 Try.underlying5 Try.underlying9 _ _ hown
    have hP3 := hP2.alloc (.cells (madeCells #[Value.int .u8 0] k) 5)
    have hE3 := hE2.alloc (.cells (madeCells #[Value.int .u8 0] k) 5)
    have HO := Hs.hid hown
    clear hown hms
    rw [show strN (List.replicate k 0) = busyBody k from rfl] at hcv
    by_cases hk1 : k ≤ 1024
    · have hkb : decide ((k : Int) ≤ 1024) = true := by simp; omega
      have hkb' : (k : Int) ≤ 1024 := by omega
      have HK := Hs.hid hk1
      clear hk1 hk
      go_upto_region 12 with (first
        | (at_make; refine wpList_make_eq rfl _ _ _ rfl 5 i _ 1 1 Try.underlying56 hi hz hs hby .i64 .i64 _ _ k rfl rfl rfl rfl (by omega) (by simp [maxLen]; omega) ?_)
        | (go_at_call 22; refine (busyBegin_ok k HK.out b m _ hP3.pr).mono ?_; rintro e w4 ⟨rfl, hI4, hx4⟩))
      have hP4 := hP3.moved hI4 (hx4.mono (by simp))
      have hE4 := extBase hE3 hx4 (fun g hg => HN.out g (by simp at hg; simp [hg]))
      clear hx4 hI4 hcv hP3 hE3 hP2 hE2
      go_cut [61, 62] (fun s t wx => ∃ L : Nat, s = .int .i64 L ∧ L ≤ 3 ∧ t = .int .i64 0 ∧ w4 = wx)
      case first =>
        go_wp2_with fail
        all_goals go_meet
        · exact ⟨0, rfl, by omega, rfl, rfl⟩
        · exact ⟨3, rfl, by omega, rfl, rfl⟩
        · have h1 : steps ≤ 3 := h
          have h2 := ‹0 ≤ steps›
          exact ⟨steps.toNat, by rw [Int.toNat_of_nonneg h2], by omega, rfl, rfl⟩
      case rest =>
        obtain ⟨L, rfl, hL, rfl, rfl⟩ := hcut
        go_wp2_with fail
        go_loopw [62] (fun i wr => ∃ j : Nat, j ≤ L ∧ i = .int .i64 j ∧ ∃ lv', PM wr.heap b m (freshP (busyP k) (MSt.new 5) j) mb mc mm lv' (freshM (busyP k) (MSt.new 5) j) ∧ Ext [] w wr ∧ (∀ g ∈ foot mb mc mm lv', w.heap.size ≤ g)) (fun i _ => L - (intOf i).toNat)
        case atStart => exact ⟨0, by omega, rfl, lv, hP4, hE4, fun g hg => HN.out g (List.mem_append_right _ hg)⟩
        case round =>
          obtain ⟨j, hj, rfl, lv', hP, hE, hf⟩ := hrel
          by_cases hj3 : j < L
          · have hj3b : decide ((j : Int) < L) = true := by simp; omega
            have hjL : (j : Int) < L := by omega
            have hji : (j : Int) < 3 := by omega
            have HJ := Hs.hid (And.intro hj (And.intro hj3 hL))
            clear hj hj3 hL
            go_wp2_with (go_at_call 24; (refine (fresh_step_any (busyP k) (MSt.new 5) (busyFresh k) (busyOk k HK.out) j (by have := HJ.out; omega) b m mb mc mm lv' _ hP).mono ?_); rintro e w5 ⟨lv5, rfl, hP5, hx5⟩)
            have hE5 := extBase hE hx5 (fun g hg => (List.mem_append.1 hg).elim (fun h => HN.out g (List.mem_append_left _ h)) (hf g))
            rename_i hKs
            refine hKs _ _ ?_
            clear hKs
            go_wp2
            go_round
            case rel => exact ⟨j + 1, by have := HJ.out; omega, by go_num, lv5, hP5, hE5, foot_ge hP5.me (HN.out mb (by simp [foot])) (HN.out mc (by simp [foot])) (HN.out mm (by simp [foot]))⟩
            case measure => have := HJ.out; simp [intOf]; omega
          · have hj4 : j = L := by omega
            subst hj4
            have hXp : ¬ (freshP (busyP k) (MSt.new 5) j).phase = 0 := by rw [(busyFresh k).ph j hL]; omega
            have hXb : ((freshP (busyP k) (MSt.new 5) j).phase == 0) = false := by simpa using hXp
            have hXs : (freshP (busyP k) (MSt.new 5) j).seq = 1 := by
              obtain ⟨o, ph, h⟩ := freshP_same (busyP k) (MSt.new 5) j
              rw [h]; rfl
            clear hj3 hj
            generalize freshP (busyP k) (MSt.new 5) j = X at *
            have hXsi : (X.seq : Int) = 1 := by rw [hXs]; rfl
            have HX := Hs.hid (And.intro hXp hXs)
            clear hXp hXs hL
            go_wp2_with (first
              | (go_at_call 23; refine (idle_any b m X _ hP.pr).mono ?_; rintro e w7 ⟨rfl, rfl⟩)
              | (go_at_call 22; refine (busyBusy b m X HX.out.1 (by rw [HX.out.2]; decide) _ _ hP.pr).mono ?_; rintro e w8 ⟨rfl, hI8, hx8⟩)
              | (go_at_call 26; refine (headBusy b m X HX.out.1 _ hI8).mono ?_; rintro e w9 ⟨rfl, hI9, hx9⟩)
              | (go_at_call 18; refine (seq_any b m X _ hI9).mono ?_; rintro e w10 ⟨rfl, rfl⟩))
            go_ret
            refine ⟨rfl, extBase (extBase hE hx8 ?_) hx9 ?_⟩
            all_goals (intro g hg; exact HN.out g (by simp at hg; simp [hg]))
    · have hkb : decide ((k : Int) ≤ 1024) = false := by simp; omega
      have hkb' : ¬ (k : Int) ≤ 1024 := by omega
      have HK := Hs.hid (show 1024 < k by omega)
      clear hk1 hk
      have hph : ((PSt.new 2 3 1).phase == 0) = true := rfl
      have hsq : (((PSt.new 2 3 1).seq : Nat) : Int) = 0 := rfl
      have hlg : (((MSt.new 5).log.length : Nat) : Int) = 0 := rfl
      go_wp2_with (first
        | (at_make; refine wpList_make_eq rfl _ _ _ rfl 5 i _ 1 1 Try.underlying56 hi hz hs hby .i64 .i64 _ _ k rfl rfl rfl rfl (by omega) (by simp [maxLen]; omega) ?_)
        | (go_at_call 22; refine (busyBegin_big k HK.out b m _ hP3.pr).mono ?_; rintro e w4 ⟨rfl, hI4, hx4⟩; have hP4 := hP3.moved hI4 (hx4.mono (by simp)))
        | (go_at_call 23; refine (idle_any b m (PSt.new 2 3 1) _ hP4.pr).mono ?_; rintro e w7 ⟨rfl, rfl⟩)
        | (go_at_call 18; refine (seq_any b m (PSt.new 2 3 1) _ hP4.pr).mono ?_; rintro e w10 ⟨rfl, rfl⟩)
        | (go_at_call 24; refine (busyIdle b m mb mc mm lv (MSt.new 5) (PSt.new 2 3 1) ⟨by decide, by decide, by decide, by decide, by decide, by decide, by decide⟩ rfl _ hP4).mono ?_; rintro e w5 ⟨lv5, rfl, hP5, hx5⟩)
        | (go_at_call 25; refine (memAll_any mb mc mm lv5 (MSt.new 5) _ hP5.me).mono ?_; rintro e w6 ⟨rfl, rfl⟩))
      go_ret
      refine ⟨rfl, extBase (extBase hE3 hx4 ?_) hx5 ?_⟩
      · intro g hg; exact HN.out g (by simp at hg; simp [hg])
      · exact HN.out
end Go.Proofs.Ytkhihpmadmmeaaa
