/-
  FaultStands.
-/
import Derived.Test.YtnjjbolbemlceaaDoorWraps
set_option linter.unusedSimpArgs false
set_option linter.unusedVariables false
set_option maxHeartbeats 4000000
set_option maxRecDepth 100000
namespace Go.Proofs.YtnjjbolbemlceaaDoor
open Go.RowKit Go.Extern.Stop Go.Stop Go.Extern Go.Hs

theorem unwrap_any (b : Nat) (s : ByteArray) (x : Int) (u : Value) (w : World) (hb : w.heap[b]? = some (.cells #[.string s, .int .i64 x, u] 68 (0, 0))) :
    Calls Tryd.prog 37 #[.iface 66 (.pointer (some ⟨b, 0, none⟩))] w fun e w' => e = .returned u ∧ w' = w := by
  have b2 := cellAt hb 2
  simp at b2
  have uP := hasUnwrapEP
  have mU := methodUnwrap
  go_enter Tryd.func37, Tryd.ntmps37
  go_wp2
  go_ret
  exact ⟨rfl, rfl⟩
theorem faultStands_any (ao : Option Addr) (len cap : Nat) (n m : Int) (other : ByteArray) (at0 : Int) (w : World) (hg : Gd w) (hA : StepArg w ao len) (hst : other.size ≤ maxLen) :
    Calls Tryd.prog 9 #[.slice ao len cap, .int .i64 n, .int .i64 m, .string other, .int .i64 at0] w fun e w' => e = .returned (.bool true) ∧ Ext [] w w' := by
  have HST := Hs.hid hst
  clear hst
  go_enter Tryd.func9, Tryd.ntmps9
  go_upto_region 3 with (go_at_call 10; refine (awake3_any _ hg).mono ?_; rintro e w1 ⟨rfl, hx1⟩)
  have HG1 := Hs.hid (hg.ext hx1 (by simp))
  have HA1 := Hs.hid (hA.ext hx1)
  clear hA
  go_upto_region 4 with (go_at_call 11; refine (wrapped_any ao len cap n _ HG1.out HA1.out).mono ?_; rintro e w2 ⟨v1, k1, L1, a1, c1, rfl, hv1, hf1⟩)
  have HG2 := Hs.hid (HG1.out.ext hf1.ext (by simp))
  have HX2 := Hs.hid (hx1.trans' hf1.ext)
  have HV1 := Hs.hid hv1
  have HF := Hs.hid hf1
  have hk6 := hf1.six
  have HN := Hs.hid (numE_eq n)
  clear HA1 HG1 hx1 hv1 hf1
  go_upto_region 5 with (go_at_call 30; refine (in_chain ⟨#[111, 117, 116, 101, 114]⟩ at0 (numE n : Nat) (by have := HN.out; omega) L1 v1 _ HV1.out).mono ?_; rintro e w4 ⟨v4, rfl, hv4, hr4, hc4, hx4⟩)
  subst hv4
  have HR4 := Hs.hid hr4
  have HV4 := Hs.hid hc4
  have HV14 := Hs.hid (HV1.out.ext0 hx4)
  have HG4 := Hs.hid (HG2.out.ext hx4 (by simp))
  have HX4 := Hs.hid (HX2.out.trans' hx4)
  have HX24 := Hs.hid hx4
  have HF4 := Hs.hid (HF.out.more hx4)
  clear hr4 hc4 hx4
  go_upto_region 7 with (go_at_call 20; refine (cutF_any other 10 (by decide) _ HST.out).mono ?_; rintro e w5 ⟨rfl, rfl⟩)
  have hcs := cutB_size other 10
  generalize cutB other 10 = ot at *
  have HCS := Hs.hid hcs
  clear hcs
  obtain ⟨b0, hb0⟩ : ∃ b : Bool, b = (ot.toList == [111, 117, 116, 101, 114]) := ⟨_, rfl⟩
  have HB0 : Hid (b0 = decide (ot = ⟨#[111, 117, 116, 101, 114]⟩)) := Hs.hid (by
    have e : (⟨#[111, 117, 116, 101, 114]⟩ : ByteArray).toList = [111, 117, 116, 101, 114] := by decide +kernel
    have q := str_beq ot ⟨#[111, 117, 116, 101, 114]⟩
    rw [e] at q
    rw [hb0]; exact q)
  go_upto_block 0 with fail
  rw [← hb0]
  clear hb0
  go_wp2_with fail
  go_loopw [14, 36] (fun bv iv wr => ∃ (j : Nat) (b : Bool), iv = .int .i64 j ∧ bv = .bool b ∧ j ≤ k1 ∧ Hid (b = (decide (ot = ⟨#[111, 117, 116, 101, 114]⟩) || (L1.take j).any fun p => decide (ot = p.1))) ∧ Ext [] w5 wr) (fun _ iv _ => k1 - (intOf iv).toNat)
  case atStart => exact ⟨0, b0, rfl, rfl, Nat.zero_le _, Hs.hid (by rw [HB0.out]; simp), Ext.refl _ _⟩
  case round =>
    obtain ⟨j, b, rfl, rfl, hj, HB, hx⟩ := hrel
    by_cases hlt : j < k1
    · have hl1 : (j : Int) < k1 := by omega
      have hj0 : (0 : Int) ≤ j := by omega
      have hj6 : (j : Int) < 6 := by omega
      obtain ⟨g, p, rfl, hcap, hp, c0, c1⟩ := HF4.out.cells hlt
      replace c0 := cell_same c0 (hx.block _ (cellIn c0) (by simp))
      replace c1 := cell_same c1 (hx.block _ (cellIn c1) (by simp))
      have htk : (L1.take (j + 1)).any (fun p => decide (ot = p.1)) = ((L1.take j).any (fun p => decide (ot = p.1)) || decide (ot = p.1)) := by
        rw [List.take_add_one, hp]; simp
      have HTK := Hs.hid htk
      have HX := Hs.hid hx
      have HLT := Hs.hid hlt
      clear hp hx hlt htk
      cases b with
      | true =>
        go_wp2_with fail
        go_round
        case rel => exact ⟨j + 1, true, by go_num, rfl, HLT.out, Hs.hid (by rw [HTK.out, ← Bool.or_assoc, ← HB.out]; rfl), HX.out.alloc _⟩
        case measure => have := HLT.out; first | (simp [intOf]; done) | (simp [intOf]; omega)
      | false =>
        go_wp2_with fail
        go_round
        case rel => exact ⟨j + 1, (p.1.toList == ot.toList), by go_num, rfl, HLT.out, Hs.hid (by rw [HTK.out, ← Bool.or_assoc, ← HB.out, str_beq]; simp [eq_comm]), HX.out.alloc _⟩
        case measure => have := HLT.out; first | (simp [intOf]; done) | (simp [intOf]; omega)
    · have hl1 : ¬ (j : Int) < k1 := by omega
      have hjk : j = L1.length := by have := HF4.out.len; omega
      have HQ : Hid (b = (decide (ot = ⟨#[111, 117, 116, 101, 114]⟩) || L1.any fun p => decide (ot = p.1))) := Hs.hid (by rw [HB.out, hjk, List.take_length])
      have HX := Hs.hid hx
      clear hx HB hjk
      go_upto_region 14 with fail
      have HIS : Hid (∀ w', Ext [] w5 w' → Calls Tryd.prog 31 #[.iface 66 (.pointer (some ⟨w2.heap.size, 0, none⟩)), v1] w' fun e w'' => e = .returned (.bool true) ∧ Ext [] w' w'') := Hs.hid (by
        intro w' hw'
        have h4 := HV4.out.ext0 hw'
        have h1 := HV14.out.ext0 hw'
        have hw3 := HV1.out
        generalize hL : L1 = LL at h4 h1 hw3
        cases LL with
        | nil =>
          cases h1
          have := Is_en (numE n : Nat) (numE n : Nat) [(⟨#[111, 117, 116, 101, 114]⟩, at0)] _ w' h4
          simpa using this
        | cons p LL =>
          obtain ⟨s2, x2⟩ := p
          obtain ⟨bb, u, rfl, hbb, hu⟩ := h1
          obtain ⟨b', u', hbe, hb', _⟩ := hw3
          simp only [Value.iface.injEq, Value.pointer.injEq, Option.some.injEq, Addr.mk.injEq, true_and, and_true] at hbe
          subst hbe
          obtain ⟨ty, z, rfl⟩ := hu.iface
          exact Is_wrap w2.heap.size bb ⟨#[111, 117, 116, 101, 114]⟩ s2 at0 x2 ty z w' (hw'.same HR4.out (by simp)) hbb (fun e => by have := lt_of_heap hb'; omega))
      have HVF : Hid (v1 = .iface 28 (.int .i64 (numE n : Nat)) ∨ ∃ q, v1 = .iface 66 (.pointer (some ⟨q, 0, none⟩))) := Hs.hid (by
        have h := HV1.out
        generalize L1 = LL at h
        cases LL with
        | nil => exact .inl h
        | cons p LL => obtain ⟨bb, _, h1, _⟩ := h; exact .inr ⟨bb, h1⟩)
      have HNM : Hid (((numE n : Nat) : Int) = ((numE m : Nat) : Int) ∨ ¬ ((numE n : Nat) : Int) = ((numE m : Nat) : Int)) := Hs.hid (Classical.em _)
      have HWI : Hid ((((⟨#[111, 117, 116, 101, 114]⟩, at0) :: L1).any fun p => decide (ot = p.1)) = b) := Hs.hid (by rw [List.any_cons]; exact HQ.out.symm)
      have hFW := heap_old' _ (.cells #[.int .i64 0] 28) (heap_new wr (.cells #[.pointer none] 66))
      have hXW := heap_new (wr.alloc (.cells #[.pointer none] 66)) (.cells #[.int .i64 0] 28)
      have hsz : (wr.alloc (.cells #[.pointer none] 66)).heap.size = wr.heap.size + 1 := by simp
      rw [hsz] at hXW
      have hxw : Ext [] w5 ((wr.alloc (.cells #[.pointer none] 66)).alloc (.cells #[.int .i64 0] 28)) := (HX.out.alloc _).alloc _
      have hw2 : w2.heap.size < w5.heap.size := lt_of_heap HR4.out
      have hwr : w5.heap.size ≤ wr.heap.size := HX.out.size
      have HNE := Hs.hid (show w2.heap.size ≠ wr.heap.size by omega)
      have HNX := Hs.hid (show w2.heap.size ≠ wr.heap.size + 1 by omega)
      have HGF := Hs.hid (show ¬ 0 = wr.heap.size from fun e => by have := HG4.out.lt; omega)
      have HWR := Hs.hid hwr
      generalize (wr.alloc (.cells #[.pointer none] 66)).alloc (.cells #[.int .i64 0] 28) = W8 at *
      generalize wr.heap.size = Fv at *
      have HFW := Hs.hid (show W8.drew.heap[Fv]? = _ from hFW)
      have HXV := Hs.hid (show W8.drew.heap[Fv + 1]? = _ from hXW)
      have HXW := Hs.hid hxw.drew
      have HGW := Hs.hid (HG4.out.ext hxw.drew (by simp))
      have HROW := Hs.hid (hxw.drew.same HR4.out (by simp))
      clear hFW hXW hsz hxw hw2 hwr
      refine wp_region_noPanic ?_
      refine wp_region_held_drew (S := (fun _ => True)) (by kernel_rfl) ?_ (fun hHeld => ?_)
      · ((try dsimp only); try trivial)
      refine wpAnyH_take (i := 0) (v := ?_) rfl (by kernel_rfl) (by kernel_rfl) (by kernel_rfl) (fun _ _ _ h => h) (Or.inl ⟨by rfl, ?_⟩) (by assumption) ?_
      rotate_left
      · (intro w hSw; (try dsimp only at hSw); first | (go_simp; done) | (go_simp; with_reducible rfl))
      try simp only [Act.put, List.getElem_toArray, List.getElem_cons_succ, List.getElem_cons_zero, List.setIfInBounds_toArray, List.set_cons_zero, List.set_cons_succ]
      refine wpAnyH_take (i := 1) (v := ?_) rfl (by kernel_rfl) (by kernel_rfl) (by kernel_rfl) (fun _ _ _ h => h) (Or.inl ⟨by rfl, ?_⟩) (by assumption) ?_
      rotate_left
      · (intro w hSw; (try dsimp only at hSw); first | (go_simp; done) | (go_simp; with_reducible rfl))
      try simp only [Act.put, List.getElem_toArray, List.getElem_cons_succ, List.getElem_cons_zero, List.setIfInBounds_toArray, List.set_cons_zero, List.set_cons_succ]
      refine wpAnyH_ready (rs := [2]) (by kernel_rfl) (by simp) ?_
      refine AllReadyH.cons rfl (fun K hK => ?_) AllReadyH.nil
      go_simp
      (go_at_call 31; refine (HIS.out _ HXW.out).mono ?_; rintro e w7 ⟨rfl, hx7⟩; have HX7 := Hs.hid hx7; clear hx7)
      go_wp2_with fail
      refine hK.out _ _ ?_ (fun hHeld => ?_)
      · ((try dsimp only); try trivial)
      clear hK K
      try simp only [Act.put, List.getElem_toArray, List.getElem_cons_succ, List.getElem_cons_zero, List.setIfInBounds_toArray, List.set_cons_zero, List.set_cons_succ]
      refine wpAnyH_take (i := 3) (v := ?_) rfl (by kernel_rfl) (by kernel_rfl) (by kernel_rfl) (fun _ _ _ h => h) (Or.inl ⟨by rfl, ?_⟩) (by assumption) ?_
      rotate_left
      · (intro w hSw; (try dsimp only at hSw); first | (go_simp; done) | (go_simp; with_reducible rfl))
      try simp only [Act.put, List.getElem_toArray, List.getElem_cons_succ, List.getElem_cons_zero, List.setIfInBounds_toArray, List.set_cons_zero, List.set_cons_succ]
      refine wpAnyH_take (i := 4) (v := ?_) rfl (by kernel_rfl) (by kernel_rfl) (by kernel_rfl) (fun _ _ _ h => h) (Or.inl ⟨by rfl, ?_⟩) (by assumption) ?_
      rotate_left
      · (intro w hSw; (try dsimp only at hSw); first | (go_simp; done) | (go_simp; with_reducible rfl))
      try simp only [Act.put, List.getElem_toArray, List.getElem_cons_succ, List.getElem_cons_zero, List.setIfInBounds_toArray, List.set_cons_zero, List.set_cons_succ]
      refine wpAnyH_take (i := 5) (v := ?_) rfl (by kernel_rfl) (by kernel_rfl) (by kernel_rfl) (fun _ _ _ h => h) (Or.inl ⟨by rfl, ?_⟩) (by assumption) ?_
      rotate_left
      · (intro w hSw; (try dsimp only at hSw); first | (go_simp; done) | (go_simp; with_reducible rfl))
      try simp only [Act.put, List.getElem_toArray, List.getElem_cons_succ, List.getElem_cons_zero, List.setIfInBounds_toArray, List.set_cons_zero, List.set_cons_succ]
      refine wpAnyH_take (i := 6) (v := ?_) rfl (by kernel_rfl) (by kernel_rfl) (by kernel_rfl) (fun _ _ _ h => h) (Or.inl ⟨by rfl, ?_⟩) (by assumption) ?_
      rotate_left
      · (intro w hSw; (try dsimp only at hSw); first | (go_simp; done) | (go_simp; with_reducible rfl))
      try simp only [Act.put, List.getElem_toArray, List.getElem_cons_succ, List.getElem_cons_zero, List.setIfInBounds_toArray, List.set_cons_zero, List.set_cons_succ]
      refine wpAnyH_ready (rs := [7]) (by kernel_rfl) (by simp) ?_
      refine AllReadyH.cons rfl (fun K hK => ?_) AllReadyH.nil
      go_simp
      (go_at_call 36; refine (as_fault_hit _ ⟨w2.heap.size, 0, none⟩ _ w7 (HGW.out.ext HX7.out (by simp)) (HX7.out.same HFW.out (by simp))).mono ?_; rintro e w8 ⟨rfl, hx8, hy8⟩; have HX8 := Hs.hid hx8; have HRO := Hs.hid (hx8.same (HX7.out.same HROW.out (by simp)) (by simpa using HNE.out)); have f0 := cellAt hy8 0; have o0 := cellAt HRO.out 0; have o1 := cellAt HRO.out 1; simp at f0 o0 o1; have HG8 := Hs.hid ((HGW.out.ext HX7.out (by simp)).ext HX8.out (by have := HGF.out; simpa using this)); have HV8 := Hs.hid ((HV4.out.ext0 (HXW.out.trans' HX7.out)).ext HX8.out (fun g hg cs fr h => by simp at hg; subst hg; rw [HX7.out.same HFW.out (by simp)] at h; simp at h)); have HX0 := Hs.hid (HX8.out.same (HX7.out.same HXV.out (by simp)) (by simp)); clear hx8 hy8)
      go_wp2_with fail
      refine hK.out _ _ ?_ (fun hHeld => ?_)
      · ((try dsimp only); try trivial)
      clear hK K
      try simp only [Act.put, List.getElem_toArray, List.getElem_cons_succ, List.getElem_cons_zero, List.setIfInBounds_toArray, List.set_cons_zero, List.set_cons_succ]
      refine wpAnyH_take (i := 8) (v := ?_) rfl (by kernel_rfl) (by kernel_rfl) (by kernel_rfl) (fun _ _ _ h => h) (Or.inl ⟨by rfl, ?_⟩) (by assumption) ?_
      rotate_left
      · (intro w hSw; (try dsimp only at hSw); first | (go_simp; done) | (go_simp; with_reducible rfl))
      try simp only [Act.put, List.getElem_toArray, List.getElem_cons_succ, List.getElem_cons_zero, List.setIfInBounds_toArray, List.set_cons_zero, List.set_cons_succ]
      refine wpAnyH_take (i := 9) (v := ?_) rfl (by kernel_rfl) (by kernel_rfl) (by kernel_rfl) (fun _ _ _ h => h) (Or.inl ⟨by rfl, ?_⟩) (by assumption) ?_
      rotate_left
      · (intro w hSw; (try dsimp only at hSw); first | (go_simp; done) | (go_simp; with_reducible rfl))
      try simp only [Act.put, List.getElem_toArray, List.getElem_cons_succ, List.getElem_cons_zero, List.setIfInBounds_toArray, List.set_cons_zero, List.set_cons_succ]
      refine wpAnyH_take (i := 10) (v := ?_) rfl (by kernel_rfl) (by kernel_rfl) (by kernel_rfl) (fun _ _ _ h => h) (Or.inl ⟨by rfl, ?_⟩) (by assumption) ?_
      rotate_left
      · (intro w hSw; (try dsimp only at hSw); first | (go_simp; done) | (go_simp; with_reducible rfl))
      try simp only [Act.put, List.getElem_toArray, List.getElem_cons_succ, List.getElem_cons_zero, List.setIfInBounds_toArray, List.set_cons_zero, List.set_cons_succ]
      refine wpAnyH_ready (rs := [11]) (by kernel_rfl) (by simp) ?_
      refine AllReadyH.cons rfl (fun K hK => ?_) AllReadyH.nil
      rw [if_pos (by rfl)]
      go_simp
      refine hK.out _ _ ?_ (fun hHeld => ?_)
      · ((try dsimp only); try trivial)
      clear hK K
      try simp only [Act.put, List.getElem_toArray, List.getElem_cons_succ, List.getElem_cons_zero, List.setIfInBounds_toArray, List.set_cons_zero, List.set_cons_succ]
      refine wpAnyH_ready (rs := [12]) (by kernel_rfl) (by simp) ?_
      refine AllReadyH.cons rfl (fun K hK => ?_) AllReadyH.nil
      rw [if_pos (by rfl)]
      go_simp
      refine hK.out _ _ ?_ (fun hHeld => ?_)
      · ((try dsimp only); try trivial)
      clear hK K
      try simp only [Act.put, List.getElem_toArray, List.getElem_cons_succ, List.getElem_cons_zero, List.setIfInBounds_toArray, List.set_cons_zero, List.set_cons_succ]
      refine wpAnyH_ready (rs := [13]) (by kernel_rfl) (by simp) ?_
      refine AllReadyH.cons rfl (fun K hK => ?_) AllReadyH.nil
      rw [if_pos (by rfl)]
      go_simp
      refine hK.out _ _ ?_ (fun hHeld => ?_)
      · ((try dsimp only); try trivial)
      clear hK K
      try simp only [Act.put, List.getElem_toArray, List.getElem_cons_succ, List.getElem_cons_zero, List.setIfInBounds_toArray, List.set_cons_zero, List.set_cons_succ]
      refine wpAnyH_ready (rs := [14]) (by kernel_rfl) (by simp) ?_
      refine AllReadyH.cons rfl (fun K hK => ?_) AllReadyH.nil
      rw [if_pos (by rfl)]
      go_simp
      refine hK.out _ _ ?_ (fun hHeld => ?_)
      · ((try dsimp only); try trivial)
      clear hK K
      try simp only [Act.put, List.getElem_toArray, List.getElem_cons_succ, List.getElem_cons_zero, List.setIfInBounds_toArray, List.set_cons_zero, List.set_cons_succ]
      refine wpAnyH_take (i := 15) (v := ?_) rfl (by kernel_rfl) (by kernel_rfl) (by kernel_rfl) (fun _ _ _ h => h) (Or.inl ⟨by rfl, ?_⟩) (by assumption) ?_
      rotate_left
      · (intro w hSw; (try dsimp only at hSw); first | (go_simp; done) | (go_simp; with_reducible rfl))
      try simp only [Act.put, List.getElem_toArray, List.getElem_cons_succ, List.getElem_cons_zero, List.setIfInBounds_toArray, List.set_cons_zero, List.set_cons_succ]
      refine wpAnyH_take (i := 16) (v := ?_) rfl (by kernel_rfl) (by kernel_rfl) (by kernel_rfl) (fun _ _ _ h => h) (Or.inl ⟨by rfl, ?_⟩) (by assumption) ?_
      rotate_left
      · (intro w hSw; (try dsimp only at hSw); first | (go_simp; done) | (go_simp; with_reducible rfl))
      try simp only [Act.put, List.getElem_toArray, List.getElem_cons_succ, List.getElem_cons_zero, List.setIfInBounds_toArray, List.set_cons_zero, List.set_cons_succ]
      refine wpAnyH_take (i := 17) (v := ?_) rfl (by kernel_rfl) (by kernel_rfl) (by kernel_rfl) (fun _ _ _ h => h) (Or.inl ⟨by rfl, ?_⟩) (by assumption) ?_
      rotate_left
      · (intro w hSw; (try dsimp only at hSw); first | (go_simp; done) | (go_simp; with_reducible rfl))
      try simp only [Act.put, List.getElem_toArray, List.getElem_cons_succ, List.getElem_cons_zero, List.setIfInBounds_toArray, List.set_cons_zero, List.set_cons_succ]
      refine wpAnyH_take (i := 22) (v := ?_) rfl (by kernel_rfl) (by kernel_rfl) (by kernel_rfl) (fun _ _ _ h => h) (Or.inl ⟨by rfl, ?_⟩) (by assumption) ?_
      rotate_left
      · (intro w hSw; (try dsimp only at hSw); first | (go_simp; done) | (go_simp; with_reducible rfl))
      try simp only [Act.put, List.getElem_toArray, List.getElem_cons_succ, List.getElem_cons_zero, List.setIfInBounds_toArray, List.set_cons_zero, List.set_cons_succ]
      refine wpAnyH_ready (rs := [18]) (by kernel_rfl) (by simp) ?_
      refine AllReadyH.cons rfl (fun K hK => ?_) AllReadyH.nil
      rw [if_pos (by rfl)]
      go_simp
      refine hK.out _ _ ?_ (fun hHeld => ?_)
      · ((try dsimp only); try trivial)
      clear hK K
      try simp only [Act.put, List.getElem_toArray, List.getElem_cons_succ, List.getElem_cons_zero, List.setIfInBounds_toArray, List.set_cons_zero, List.set_cons_succ]
      refine wpAnyH_ready (rs := [19]) (by kernel_rfl) (by simp) ?_
      refine AllReadyH.cons rfl (fun K hK => ?_) AllReadyH.nil
      rw [if_pos (by rfl)]
      go_simp
      refine hK.out _ _ ?_ (fun hHeld => ?_)
      · ((try dsimp only); try trivial)
      clear hK K
      try simp only [Act.put, List.getElem_toArray, List.getElem_cons_succ, List.getElem_cons_zero, List.setIfInBounds_toArray, List.set_cons_zero, List.set_cons_succ]
      refine wpAnyH_ready (rs := [20]) (by kernel_rfl) (by simp) ?_
      refine AllReadyH.cons rfl (fun K hK => ?_) AllReadyH.nil
      rw [if_pos (by rfl)]
      go_simp
      refine hK.out _ _ ?_ (fun hHeld => ?_)
      · ((try dsimp only); try trivial)
      clear hK K
      try simp only [Act.put, List.getElem_toArray, List.getElem_cons_succ, List.getElem_cons_zero, List.setIfInBounds_toArray, List.set_cons_zero, List.set_cons_succ]
      refine wpAnyH_ready (rs := [21]) (by kernel_rfl) (by simp) ?_
      refine AllReadyH.cons rfl (fun K hK => ?_) AllReadyH.nil
      rw [if_pos (by rfl)]
      go_simp
      refine hK.out _ _ ?_ (fun hHeld => ?_)
      · ((try dsimp only); try trivial)
      clear hK K
      try simp only [Act.put, List.getElem_toArray, List.getElem_cons_succ, List.getElem_cons_zero, List.setIfInBounds_toArray, List.set_cons_zero, List.set_cons_succ]
      refine wpAnyH_take (i := 23) (v := ?_) rfl (by kernel_rfl) (by kernel_rfl) (by kernel_rfl) (fun _ _ _ h => h) (Or.inl ⟨by rfl, ?_⟩) (by assumption) ?_
      rotate_left
      · (intro w hSw; (try dsimp only at hSw); first | (go_simp; done) | (go_simp; with_reducible rfl))
      try simp only [Act.put, List.getElem_toArray, List.getElem_cons_succ, List.getElem_cons_zero, List.setIfInBounds_toArray, List.set_cons_zero, List.set_cons_succ]
      refine wpAnyH_take (i := 24) (v := ?_) rfl (by kernel_rfl) (by kernel_rfl) (by kernel_rfl) (fun _ _ _ h => h) (Or.inl ⟨by rfl, ?_⟩) (by assumption) ?_
      rotate_left
      · (intro w hSw; (try dsimp only at hSw); first | (go_simp; done) | (go_simp; with_reducible rfl))
      try simp only [Act.put, List.getElem_toArray, List.getElem_cons_succ, List.getElem_cons_zero, List.setIfInBounds_toArray, List.set_cons_zero, List.set_cons_succ]
      refine wpAnyH_take (i := 25) (v := ?_) rfl (by kernel_rfl) (by kernel_rfl) (by kernel_rfl) (fun _ _ _ h => h) (Or.inl ⟨by rfl, ?_⟩) (by assumption) ?_
      rotate_left
      · (intro w hSw; (try dsimp only at hSw); first | (go_simp; done) | (go_simp; with_reducible rfl))
      try simp only [Act.put, List.getElem_toArray, List.getElem_cons_succ, List.getElem_cons_zero, List.setIfInBounds_toArray, List.set_cons_zero, List.set_cons_succ]
      refine wpAnyH_take (i := 26) (v := ?_) rfl (by kernel_rfl) (by kernel_rfl) (by kernel_rfl) (fun _ _ _ h => h) (Or.inl ⟨by rfl, ?_⟩) (by assumption) ?_
      rotate_left
      · (intro w hSw; (try dsimp only at hSw); first | (go_simp; done) | (go_simp; with_reducible rfl))
      try simp only [Act.put, List.getElem_toArray, List.getElem_cons_succ, List.getElem_cons_zero, List.setIfInBounds_toArray, List.set_cons_zero, List.set_cons_succ]
      refine wpAnyH_take (i := 27) (v := ?_) rfl (by kernel_rfl) (by kernel_rfl) (by kernel_rfl) (fun _ _ _ h => h) (Or.inl ⟨by rfl, ?_⟩) (by assumption) ?_
      rotate_left
      · (intro w hSw; (try dsimp only at hSw); first | (go_simp; done) | (go_simp; with_reducible rfl))
      try simp only [Act.put, List.getElem_toArray, List.getElem_cons_succ, List.getElem_cons_zero, List.setIfInBounds_toArray, List.set_cons_zero, List.set_cons_succ]
      refine wpAnyH_ready (rs := [28]) (by kernel_rfl) (by simp) ?_
      refine AllReadyH.cons rfl (fun K hK => ?_) AllReadyH.nil
      go_simp
      (go_at_call 36; refine (as_errno (numE n : Nat) _ ((⟨#[111, 117, 116, 101, 114]⟩, at0) :: L1) _ _ w8 HG8.out HV8.out HX0.out).mono ?_; rintro e w9 ⟨rfl, hx9, hy9⟩; have HX9 := Hs.hid hx9; have x0 := cellAt hy9 0; simp at x0; clear hx9 hy9)
      go_wp2_with fail
      refine hK.out _ _ ?_ (fun hHeld => ?_)
      · ((try dsimp only); try trivial)
      clear hK K
      try simp only [Act.put, List.getElem_toArray, List.getElem_cons_succ, List.getElem_cons_zero, List.setIfInBounds_toArray, List.set_cons_zero, List.set_cons_succ]
      refine wpAnyH_take (i := 29) (v := ?_) rfl (by kernel_rfl) (by kernel_rfl) (by kernel_rfl) (fun _ _ _ h => h) (Or.inl ⟨by rfl, ?_⟩) (by assumption) ?_
      rotate_left
      · (intro w hSw; (try dsimp only at hSw); first | (go_simp; done) | (go_simp; with_reducible rfl))
      try simp only [Act.put, List.getElem_toArray, List.getElem_cons_succ, List.getElem_cons_zero, List.setIfInBounds_toArray, List.set_cons_zero, List.set_cons_succ]
      refine wpAnyH_take (i := 30) (v := ?_) rfl (by kernel_rfl) (by kernel_rfl) (by kernel_rfl) (fun _ _ _ h => h) (Or.inl ⟨by rfl, ?_⟩) (by assumption) ?_
      rotate_left
      · (intro w hSw; (try dsimp only at hSw); first | (go_simp; done) | (go_simp; with_reducible rfl))
      try simp only [Act.put, List.getElem_toArray, List.getElem_cons_succ, List.getElem_cons_zero, List.setIfInBounds_toArray, List.set_cons_zero, List.set_cons_succ]
      refine wpAnyH_take (i := 31) (v := ?_) rfl (by kernel_rfl) (by kernel_rfl) (by kernel_rfl) (fun _ _ _ h => h) (Or.inl ⟨by rfl, ?_⟩) (by assumption) ?_
      rotate_left
      · (intro w hSw; (try dsimp only at hSw); first | (go_simp; done) | (go_simp; with_reducible rfl))
      try simp only [Act.put, List.getElem_toArray, List.getElem_cons_succ, List.getElem_cons_zero, List.setIfInBounds_toArray, List.set_cons_zero, List.set_cons_succ]
      refine wpAnyH_take (i := 33) (v := ?_) rfl (by kernel_rfl) (by kernel_rfl) (by kernel_rfl) (fun _ _ _ h => h) (Or.inl ⟨by rfl, ?_⟩) (by assumption) ?_
      rotate_left
      · (intro w hSw; (try dsimp only at hSw); first | (go_simp; done) | (go_simp; with_reducible rfl))
      try simp only [Act.put, List.getElem_toArray, List.getElem_cons_succ, List.getElem_cons_zero, List.setIfInBounds_toArray, List.set_cons_zero, List.set_cons_succ]
      refine wpAnyH_ready (rs := [32, 34]) (by kernel_rfl) (by simp) ?_
      refine AllReadyH.cons rfl (fun K hK => ?_) (AllReadyH.cons rfl (fun K hK => ?_) AllReadyH.nil)
      · rw [if_pos (by rfl)]
        go_simp
        refine hK.out _ _ ?_ (fun hHeld => ?_)
        · ((try dsimp only); try trivial)
        clear hK K
        try simp only [Act.put, List.getElem_toArray, List.getElem_cons_succ, List.getElem_cons_zero, List.setIfInBounds_toArray, List.set_cons_zero, List.set_cons_succ]
        refine wpAnyH_ready (rs := [34]) (by kernel_rfl) (by simp) ?_
        refine AllReadyH.cons rfl (fun K hK => ?_) AllReadyH.nil
        go_simp
        (go_at_call 12; refine (number_any n _).mono ?_; rintro e w10 ⟨rfl, rfl⟩)
        go_wp2_with fail
        refine hK.out _ _ ?_ (fun hHeld => ?_)
        · ((try dsimp only); try trivial)
        clear hK K
        try simp only [Act.put, List.getElem_toArray, List.getElem_cons_succ, List.getElem_cons_zero, List.setIfInBounds_toArray, List.set_cons_zero, List.set_cons_succ]
        refine wpAnyH_take (i := 35) (v := ?_) rfl (by kernel_rfl) (by kernel_rfl) (by kernel_rfl) (fun _ _ _ h => h) (Or.inl ⟨by rfl, ?_⟩) (by assumption) ?_
        rotate_left
        · (intro w hSw; (try dsimp only at hSw); first | (go_simp; done) | (go_simp; with_reducible rfl))
        try simp only [Act.put, List.getElem_toArray, List.getElem_cons_succ, List.getElem_cons_zero, List.setIfInBounds_toArray, List.set_cons_zero, List.set_cons_succ]
        refine wpAnyH_take (i := 36) (v := ?_) rfl (by kernel_rfl) (by kernel_rfl) (by kernel_rfl) (fun _ _ _ h => h) (Or.inl ⟨by rfl, ?_⟩) (by assumption) ?_
        rotate_left
        · (intro w hSw; (try dsimp only at hSw); first | (go_simp; done) | (go_simp; with_reducible rfl))
        try simp only [Act.put, List.getElem_toArray, List.getElem_cons_succ, List.getElem_cons_zero, List.setIfInBounds_toArray, List.set_cons_zero, List.set_cons_succ]
        refine wpAnyH_done (by kernel_rfl) ?_ _
        refine NoPanic.normal ?_
        have HT := Hs.hid (((HXW.out.trans' HX7.out).trans HX8.out (fun g hg => .inr (by simp at hg; subst hg; exact HWR.out))).trans HX9.out (fun g hg => .inr (by simp at hg; subst hg; have := HWR.out; omega)))
        have HGT := Hs.hid (HG4.out.ext HT.out (by simp))
        have HVT := Hs.hid (HV4.out.ext0 HT.out)
        have HRT := Hs.hid (HT.out.same HR4.out (by simp))
        clear HX7 HX8 HX9 f0 o0 o1 x0
        obtain ⟨N, hN⟩ : ∃ N, numE n = N := ⟨_, rfl⟩
        obtain ⟨M, hM⟩ : ∃ M, numE m = M := ⟨_, rfl⟩
        have HNn : Hid (∀ w, Calls Tryd.prog 12 #[.int .i64 n] w fun e w' => e = .returned (.int .i64 (N : Nat)) ∧ w' = w) := Hs.hid (fun w => by rw [← hN]; exact number_any n w)
        have HNm : Hid (∀ w, Calls Tryd.prog 12 #[.int .i64 m] w fun e w' => e = .returned (.int .i64 (M : Nat)) ∧ w' = w) := Hs.hid (fun w => by rw [← hM]; exact number_any m w)
        rw [hN] at HVT HVF
        try rw [hN]
        clear hN hM
        have CH : Hid (∀ w', Ext [] w10 w' → Calls Tryd.prog 33 #[.iface 66 (.pointer (some ⟨w2.heap.size, 0, none⟩)), .int .i64 (N : Nat)] w' fun e w'' => e = .returned (.bool true) ∧ Ext [] w' w'') := Hs.hid (fun w' hw' => by have := has_any (N : Nat) (N : Nat) ((⟨#[111, 117, 116, 101, 114]⟩, at0) :: L1) _ w' (HVT.out.ext0 hw'); simpa using this)
        have CI : Hid (∀ w', Ext [] w10 w' → Calls Tryd.prog 31 #[.iface 66 (.pointer (some ⟨w2.heap.size, 0, none⟩)), .iface 28 (.int .i64 (N : Nat))] w' fun e w'' => e = .returned (.bool true) ∧ Ext [] w' w'') := Hs.hid (fun w' hw' => by have := Is_en (N : Nat) (N : Nat) ((⟨#[111, 117, 116, 101, 114]⟩, at0) :: L1) _ w' (HVT.out.ext0 hw'); simpa [errN] using this)
        have CW : Hid (∀ w', Ext [] w10 w' → Calls Tryd.prog 32 #[.iface 66 (.pointer (some ⟨w2.heap.size, 0, none⟩)), .string ot] w' fun e w'' => e = .returned (.bool b) ∧ Ext [] w' w'') := Hs.hid (fun w' hw' => by have := within_any (N : Nat) ot ((⟨#[111, 117, 116, 101, 114]⟩, at0) :: L1) _ w' (HVT.out.ext0 hw'); rw [HWI.out] at this; exact this)
        have CU : Hid (∀ w', Ext [] w10 w' → Calls Tryd.prog 37 #[.iface 66 (.pointer (some ⟨w2.heap.size, 0, none⟩))] w' fun e w'' => e = .returned v1 ∧ Ext [] w' w'') := Hs.hid (fun w' hw' => (unwrap_any w2.heap.size _ _ _ w' (hw'.same HRT.out (by simp))).mono (by rintro e w'' ⟨rfl, rfl⟩; exact ⟨rfl, Ext.refl _ _⟩))
        have HE : Hid (Ext [] w10 w10) := Hs.hid (Ext.refl _ _)
        obtain ⟨iEP, hiEP, hcEP⟩ := Option.map_eq_some_iff.1 compEP
        obtain ⟨jEP, hjEP, hjsEP⟩ := Option.map_eq_some_iff.1 sizeFault
        have hsame := fun q w => run_eql_iface_ptr_same (P := Tryd.prog) w ⟨q, 0, none⟩ Tryd.underlying25 Tryd.underlying66 hiEP hcEP hjEP
        have hsame2 := fun w => eq_en (N : Nat) (N : Nat) w
        simp only [beq_self_eq_true] at hsame2
        clear hcEP hiEP hjEP hjsEP
        by_cases hq : M = N
        · subst hq
          rcases HVF.out with hve | ⟨q, hve⟩ <;> subst hve
          all_goals go_wp2_with (first | (go_at_call 12; with_reducible refine (HNn.out _).mono ?_; rintro e w11 ⟨rfl, rfl⟩) | (go_at_call 12; with_reducible refine (HNm.out _).mono ?_; rintro e w11 ⟨rfl, rfl⟩) | (go_at_call 33; with_reducible refine (CH.out _ HE.out).mono ?_; rintro e w12 ⟨rfl, hx12⟩; replace HE := Hs.hid (HE.out.trans' hx12); clear hx12) | (go_at_call 32; with_reducible refine (CW.out _ HE.out).mono ?_; rintro e w12 ⟨rfl, hx12⟩; replace HE := Hs.hid (HE.out.trans' hx12); clear hx12) | (go_at_call 31; with_reducible refine (CI.out _ HE.out).mono ?_; rintro e w12 ⟨rfl, hx12⟩; replace HE := Hs.hid (HE.out.trans' hx12); clear hx12) | (go_at_call 37; with_reducible refine (CU.out _ HE.out).mono ?_; rintro e w12 ⟨rfl, hx12⟩; replace HE := Hs.hid (HE.out.trans' hx12); clear hx12))
          all_goals go_ret
          all_goals exact ⟨rfl, HX4.out.trans' (HT.out.trans' HE.out)⟩
        · have hq1 : ¬ ((M : Nat) : Int) = (N : Nat) := by omega
          have CHM : Hid (∀ w', Ext [] w10 w' → Calls Tryd.prog 33 #[.iface 66 (.pointer (some ⟨w2.heap.size, 0, none⟩)), .int .i64 (M : Nat)] w' fun e w'' => e = .returned (.bool false) ∧ Ext [] w' w'') := Hs.hid (fun w' hw' => by have := has_any (N : Nat) (M : Nat) ((⟨#[111, 117, 116, 101, 114]⟩, at0) :: L1) _ w' (HVT.out.ext0 hw'); rw [show decide (((N : Nat) : Int) = ((M : Nat) : Int)) = false by simpa using (fun h => hq1 h.symm)] at this; exact this)
          have hbq : (((M : Nat) : Int) == ((N : Nat) : Int)) = false := by simpa using hq1
          have HQ1 := Hs.hid hq1
          clear hq1 hq
          rcases HVF.out with hve | ⟨q, hve⟩ <;> subst hve
          all_goals go_wp2_with (first | (go_at_call 12; with_reducible refine (HNn.out _).mono ?_; rintro e w11 ⟨rfl, rfl⟩) | (go_at_call 12; with_reducible refine (HNm.out _).mono ?_; rintro e w11 ⟨rfl, rfl⟩) | (go_at_call 33; with_reducible refine (CH.out _ HE.out).mono ?_; rintro e w12 ⟨rfl, hx12⟩; replace HE := Hs.hid (HE.out.trans' hx12); clear hx12) | (go_at_call 33; with_reducible refine (CHM.out _ HE.out).mono ?_; rintro e w12 ⟨rfl, hx12⟩; replace HE := Hs.hid (HE.out.trans' hx12); clear hx12) | (go_at_call 32; with_reducible refine (CW.out _ HE.out).mono ?_; rintro e w12 ⟨rfl, hx12⟩; replace HE := Hs.hid (HE.out.trans' hx12); clear hx12) | (go_at_call 31; with_reducible refine (CI.out _ HE.out).mono ?_; rintro e w12 ⟨rfl, hx12⟩; replace HE := Hs.hid (HE.out.trans' hx12); clear hx12) | (go_at_call 37; with_reducible refine (CU.out _ HE.out).mono ?_; rintro e w12 ⟨rfl, hx12⟩; replace HE := Hs.hid (HE.out.trans' hx12); clear hx12))
          all_goals go_ret
          all_goals exact ⟨rfl, HX4.out.trans' (HT.out.trans' HE.out)⟩
      · go_simp
        (go_at_call 12; refine (number_any n _).mono ?_; rintro e w10 ⟨rfl, rfl⟩)
        go_wp2_with fail
        refine hK.out _ _ ?_ (fun hHeld => ?_)
        · ((try dsimp only); try trivial)
        clear hK K
        try simp only [Act.put, List.getElem_toArray, List.getElem_cons_succ, List.getElem_cons_zero, List.setIfInBounds_toArray, List.set_cons_zero, List.set_cons_succ]
        refine wpAnyH_ready (rs := [32]) (by kernel_rfl) (by simp) ?_
        refine AllReadyH.cons rfl (fun K hK => ?_) AllReadyH.nil
        rw [if_pos (by rfl)]
        go_simp
        refine hK.out _ _ ?_ (fun hHeld => ?_)
        · ((try dsimp only); try trivial)
        clear hK K
        try simp only [Act.put, List.getElem_toArray, List.getElem_cons_succ, List.getElem_cons_zero, List.setIfInBounds_toArray, List.set_cons_zero, List.set_cons_succ]
        refine wpAnyH_take (i := 35) (v := ?_) rfl (by kernel_rfl) (by kernel_rfl) (by kernel_rfl) (fun _ _ _ h => h) (Or.inl ⟨by rfl, ?_⟩) (by assumption) ?_
        rotate_left
        · (intro w hSw; (try dsimp only at hSw); first | (go_simp; done) | (go_simp; with_reducible rfl))
        try simp only [Act.put, List.getElem_toArray, List.getElem_cons_succ, List.getElem_cons_zero, List.setIfInBounds_toArray, List.set_cons_zero, List.set_cons_succ]
        refine wpAnyH_take (i := 36) (v := ?_) rfl (by kernel_rfl) (by kernel_rfl) (by kernel_rfl) (fun _ _ _ h => h) (Or.inl ⟨by rfl, ?_⟩) (by assumption) ?_
        rotate_left
        · (intro w hSw; (try dsimp only at hSw); first | (go_simp; done) | (go_simp; with_reducible rfl))
        try simp only [Act.put, List.getElem_toArray, List.getElem_cons_succ, List.getElem_cons_zero, List.setIfInBounds_toArray, List.set_cons_zero, List.set_cons_succ]
        refine wpAnyH_done (by kernel_rfl) ?_ _
        refine NoPanic.normal ?_
        have HT := Hs.hid (((HXW.out.trans' HX7.out).trans HX8.out (fun g hg => .inr (by simp at hg; subst hg; exact HWR.out))).trans HX9.out (fun g hg => .inr (by simp at hg; subst hg; have := HWR.out; omega)))
        have HGT := Hs.hid (HG4.out.ext HT.out (by simp))
        have HVT := Hs.hid (HV4.out.ext0 HT.out)
        have HRT := Hs.hid (HT.out.same HR4.out (by simp))
        clear HX7 HX8 HX9 f0 o0 o1 x0
        obtain ⟨N, hN⟩ : ∃ N, numE n = N := ⟨_, rfl⟩
        obtain ⟨M, hM⟩ : ∃ M, numE m = M := ⟨_, rfl⟩
        have HNn : Hid (∀ w, Calls Tryd.prog 12 #[.int .i64 n] w fun e w' => e = .returned (.int .i64 (N : Nat)) ∧ w' = w) := Hs.hid (fun w => by rw [← hN]; exact number_any n w)
        have HNm : Hid (∀ w, Calls Tryd.prog 12 #[.int .i64 m] w fun e w' => e = .returned (.int .i64 (M : Nat)) ∧ w' = w) := Hs.hid (fun w => by rw [← hM]; exact number_any m w)
        rw [hN] at HVT HVF
        try rw [hN]
        clear hN hM
        have CH : Hid (∀ w', Ext [] w10 w' → Calls Tryd.prog 33 #[.iface 66 (.pointer (some ⟨w2.heap.size, 0, none⟩)), .int .i64 (N : Nat)] w' fun e w'' => e = .returned (.bool true) ∧ Ext [] w' w'') := Hs.hid (fun w' hw' => by have := has_any (N : Nat) (N : Nat) ((⟨#[111, 117, 116, 101, 114]⟩, at0) :: L1) _ w' (HVT.out.ext0 hw'); simpa using this)
        have CI : Hid (∀ w', Ext [] w10 w' → Calls Tryd.prog 31 #[.iface 66 (.pointer (some ⟨w2.heap.size, 0, none⟩)), .iface 28 (.int .i64 (N : Nat))] w' fun e w'' => e = .returned (.bool true) ∧ Ext [] w' w'') := Hs.hid (fun w' hw' => by have := Is_en (N : Nat) (N : Nat) ((⟨#[111, 117, 116, 101, 114]⟩, at0) :: L1) _ w' (HVT.out.ext0 hw'); simpa [errN] using this)
        have CW : Hid (∀ w', Ext [] w10 w' → Calls Tryd.prog 32 #[.iface 66 (.pointer (some ⟨w2.heap.size, 0, none⟩)), .string ot] w' fun e w'' => e = .returned (.bool b) ∧ Ext [] w' w'') := Hs.hid (fun w' hw' => by have := within_any (N : Nat) ot ((⟨#[111, 117, 116, 101, 114]⟩, at0) :: L1) _ w' (HVT.out.ext0 hw'); rw [HWI.out] at this; exact this)
        have CU : Hid (∀ w', Ext [] w10 w' → Calls Tryd.prog 37 #[.iface 66 (.pointer (some ⟨w2.heap.size, 0, none⟩))] w' fun e w'' => e = .returned v1 ∧ Ext [] w' w'') := Hs.hid (fun w' hw' => (unwrap_any w2.heap.size _ _ _ w' (hw'.same HRT.out (by simp))).mono (by rintro e w'' ⟨rfl, rfl⟩; exact ⟨rfl, Ext.refl _ _⟩))
        have HE : Hid (Ext [] w10 w10) := Hs.hid (Ext.refl _ _)
        obtain ⟨iEP, hiEP, hcEP⟩ := Option.map_eq_some_iff.1 compEP
        obtain ⟨jEP, hjEP, hjsEP⟩ := Option.map_eq_some_iff.1 sizeFault
        have hsame := fun q w => run_eql_iface_ptr_same (P := Tryd.prog) w ⟨q, 0, none⟩ Tryd.underlying25 Tryd.underlying66 hiEP hcEP hjEP
        have hsame2 := fun w => eq_en (N : Nat) (N : Nat) w
        simp only [beq_self_eq_true] at hsame2
        clear hcEP hiEP hjEP hjsEP
        by_cases hq : M = N
        · subst hq
          rcases HVF.out with hve | ⟨q, hve⟩ <;> subst hve
          all_goals go_wp2_with (first | (go_at_call 12; with_reducible refine (HNn.out _).mono ?_; rintro e w11 ⟨rfl, rfl⟩) | (go_at_call 12; with_reducible refine (HNm.out _).mono ?_; rintro e w11 ⟨rfl, rfl⟩) | (go_at_call 33; with_reducible refine (CH.out _ HE.out).mono ?_; rintro e w12 ⟨rfl, hx12⟩; replace HE := Hs.hid (HE.out.trans' hx12); clear hx12) | (go_at_call 32; with_reducible refine (CW.out _ HE.out).mono ?_; rintro e w12 ⟨rfl, hx12⟩; replace HE := Hs.hid (HE.out.trans' hx12); clear hx12) | (go_at_call 31; with_reducible refine (CI.out _ HE.out).mono ?_; rintro e w12 ⟨rfl, hx12⟩; replace HE := Hs.hid (HE.out.trans' hx12); clear hx12) | (go_at_call 37; with_reducible refine (CU.out _ HE.out).mono ?_; rintro e w12 ⟨rfl, hx12⟩; replace HE := Hs.hid (HE.out.trans' hx12); clear hx12))
          all_goals go_ret
          all_goals exact ⟨rfl, HX4.out.trans' (HT.out.trans' HE.out)⟩
        · have hq1 : ¬ ((M : Nat) : Int) = (N : Nat) := by omega
          have CHM : Hid (∀ w', Ext [] w10 w' → Calls Tryd.prog 33 #[.iface 66 (.pointer (some ⟨w2.heap.size, 0, none⟩)), .int .i64 (M : Nat)] w' fun e w'' => e = .returned (.bool false) ∧ Ext [] w' w'') := Hs.hid (fun w' hw' => by have := has_any (N : Nat) (M : Nat) ((⟨#[111, 117, 116, 101, 114]⟩, at0) :: L1) _ w' (HVT.out.ext0 hw'); rw [show decide (((N : Nat) : Int) = ((M : Nat) : Int)) = false by simpa using (fun h => hq1 h.symm)] at this; exact this)
          have hbq : (((M : Nat) : Int) == ((N : Nat) : Int)) = false := by simpa using hq1
          have HQ1 := Hs.hid hq1
          clear hq1 hq
          rcases HVF.out with hve | ⟨q, hve⟩ <;> subst hve
          all_goals go_wp2_with (first | (go_at_call 12; with_reducible refine (HNn.out _).mono ?_; rintro e w11 ⟨rfl, rfl⟩) | (go_at_call 12; with_reducible refine (HNm.out _).mono ?_; rintro e w11 ⟨rfl, rfl⟩) | (go_at_call 33; with_reducible refine (CH.out _ HE.out).mono ?_; rintro e w12 ⟨rfl, hx12⟩; replace HE := Hs.hid (HE.out.trans' hx12); clear hx12) | (go_at_call 33; with_reducible refine (CHM.out _ HE.out).mono ?_; rintro e w12 ⟨rfl, hx12⟩; replace HE := Hs.hid (HE.out.trans' hx12); clear hx12) | (go_at_call 32; with_reducible refine (CW.out _ HE.out).mono ?_; rintro e w12 ⟨rfl, hx12⟩; replace HE := Hs.hid (HE.out.trans' hx12); clear hx12) | (go_at_call 31; with_reducible refine (CI.out _ HE.out).mono ?_; rintro e w12 ⟨rfl, hx12⟩; replace HE := Hs.hid (HE.out.trans' hx12); clear hx12) | (go_at_call 37; with_reducible refine (CU.out _ HE.out).mono ?_; rintro e w12 ⟨rfl, hx12⟩; replace HE := Hs.hid (HE.out.trans' hx12); clear hx12))
          all_goals go_ret
          all_goals exact ⟨rfl, HX4.out.trans' (HT.out.trans' HE.out)⟩
end Go.Proofs.YtnjjbolbemlceaaDoor
