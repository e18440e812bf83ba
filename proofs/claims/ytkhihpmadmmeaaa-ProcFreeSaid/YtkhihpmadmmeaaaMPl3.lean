/-
  Texts of this claim, put together: Ref7, Ref8, Ref9, Proc4, Proc5, Proc6, Proc7.
-/
import Derived.Deep.RegionHeld3
import Derived.Deep.QuietTactic
import Derived.BigQuiet
import Derived.Test.YtkhihpmadmmeaaaMPl2
set_option linter.unusedSimpArgs false
set_option linter.unusedVariables false
set_option maxHeartbeats 2000000
set_option maxRecDepth 100000
namespace Go.Proofs.Ytkhihpmadmmeaaa
open Go.RowKit Go.Hs

theorem Kept.mono {v v' : Value} {B B' : Nat} (h : Kept v v' B) (hB : B' ≤ B) : Kept v v' B' := h.imp id fun k g hg => Nat.le_trans hB (k g hg)
theorem Kept.far {v v' : Value} {B B' : Nat} (h : Kept v v' B') (hold : ∀ q, v.ownBlock = some q → q < B) {q : Nat} (hq : v'.ownBlock = some q) : q < B ∨ B' ≤ q := by
  rcases h with h | h
  · rw [h] at hq; exact .inl (hold q hq)
  · exact .inr (h q hq)
noncomputable def RW.step (X : RW) (who : Nat) (p : RP) : RW × EndR :=
  if p.next = 1 then ({ X with wishes := X.wishes.set who (recText p.who p.seq p.body), P := X.P.set who (p.wished X.slots.length) }, if X.slots.length ≤ p.at_ then ⟨true, true, 0⟩ else .no)
  else if p.next = 2 then (if (X.slots.getD p.at_ ⟨#[]⟩).toList = [] then ({ X with P := X.P.set who { p with next := 3 } }, .no) else ({ X with P := X.P.set who (p.sees X.slots.length (X.slots.getD p.at_ ⟨#[]⟩)).2 }, (p.sees X.slots.length (X.slots.getD p.at_ ⟨#[]⟩)).1))
  else if p.next = 3 then ({ X with P := X.P.set who (p.helps X.slots (X.wishes.getD (p.at_ % X.wishes.length) ⟨#[]⟩)) }, .no)
  else if p.next = 4 then (if (X.slots.getD p.at_ ⟨#[]⟩).toList = [] then ({ X with slots := X.slots.set p.at_ p.offer, P := X.P.set who (p.sees X.slots.length p.offer).2 }, (p.sees X.slots.length p.offer).1)
    else ({ X with P := X.P.set who (p.sees X.slots.length (X.slots.getD p.at_ ⟨#[]⟩)).2 }, (p.sees X.slots.length (X.slots.getD p.at_ ⟨#[]⟩)).1))
  else if p.next = 5 then (if X.slots.length ≤ p.at_ ∨ (X.slots.getD p.at_ ⟨#[]⟩).toList = [] then ({ X with P := X.P.set who { p with next := 0 } }, ⟨true, false, p.at_⟩) else ({ X with P := X.P.set who { p with at_ := p.at_ + 1 } }, .no))
  else (X, .no)

theorem refStep_wish (S Pn : Nat) (sao : Option Addr) (scap : Nat) (wao : Option Addr) (wcap pg pcap : Nat) (X : RW) (who : Nat) (p : RP) (w : World) (hR : RefV w.heap S Pn sao scap wao wcap pg pcap X) (hp : X.P[who]? = some p) (hl : Pn ≤ 1000) (hS : S ≤ 1000)
    (hp1 : p.who < 1000000) (hp2 : p.seq < 1000000000000000) (hp3 : p.body.size < 100000) (hat : p.at_ ≤ S) (hph : p.next = 1) :
    Calls Try.prog 31 #[.agg #[.slice sao S scap, .slice wao Pn wcap, .slice (some ⟨pg, 0, none⟩) Pn pcap], .int .i64 who] w fun e w' =>
      RStep w S Pn sao scap wao wcap e w' (X.step who p).1 (X.step who p).2 := by
  have hw := hR.lt hp
  have hw0 : (0 : Int) ≤ who := by omega
  have hwi : (who : Int) < Pn := by omega
  have hsl := hR.S_eq
  have hwl := hR.W_eq
  obtain ⟨hB, hD, hQ, hC, hE, hsz⟩ := alloc_four w (.cells #[.slice sao S scap, .slice wao Pn wcap, .slice (some ⟨pg, 0, none⟩) Pn pcap] 37) (.cells #[.slice none 0 0, .slice none 0 0, .slice none 0 0] 37) (.cells #[.bool false, .bool false, .int .i64 0] 65) (.cells #[.int .i64 p.next, .int .i64 p.at_, .int .i64 p.who, .int .i64 p.seq, .string p.body, .string p.offer] 62)
  have hE1 : Ext [] w (((w.alloc (.cells #[.slice sao S scap, .slice wao Pn wcap, .slice (some ⟨pg, 0, none⟩) Pn pcap] 37)).alloc (.cells #[.slice none 0 0, .slice none 0 0, .slice none 0 0] 37)).alloc (.cells #[.bool false, .bool false, .int .i64 0] 65)) := (((Ext.refl _ _).alloc _).alloc _).alloc _
  obtain ⟨e0, e1, e2, e3, e4, e5⟩ := (hR.ext0 hE1).at hp
  have HPH := Hs.hid hph
  clear hph
  go_enter Try.func31, Try.ntmps31
  go_upto_region 2 with fail
  have hRW := hR.ext0 hE
  generalize (((w.alloc (.cells #[.slice sao S scap, .slice wao Pn wcap, .slice (some ⟨pg, 0, none⟩) Pn pcap] 37)).alloc (.cells #[.slice none 0 0, .slice none 0 0, .slice none 0 0] 37)).alloc (.cells #[.bool false, .bool false, .int .i64 0] 65)).alloc (.cells #[.int .i64 p.next, .int .i64 p.at_, .int .i64 p.who, .int .i64 p.seq, .string p.body, .string p.offer] 62) = W at *
  generalize hBB : w.heap.size = B at *
  clear e0 e1 e2 e3 e4 e5 hE1
  have hph := HPH.out
  have b0 := cellAt hB 0
  have b1 := cellAt hB 1
  have b2 := cellAt hB 2
  have c0 := cellAt hC 0
  have c1 := cellAt hC 1
  have c2 := cellAt hC 2
  have c3 := cellAt hC 3
  have c4 := cellAt hC 4
  have c5 := cellAt hC 5
  have cf := freeAt hC
  simp [hph] at b0 b1 b2 c0 c1 c2 c3 c4 c5
  have hsb : ∀ q, (Value.slice sao S scap).ownBlock = some q → q < B := fun q h => by have := hR.s.lt h; omega
  have hwb : ∀ q, (Value.slice wao Pn wcap).ownBlock = some q → q < B := fun q h => by have := hR.w.lt h; omega
  obtain ⟨d, f, sl, hEE⟩ : ∃ d f sl, (if S ≤ p.at_ then ⟨true, true, 0⟩ else EndR.no) = ⟨d, f, sl⟩ := ⟨_, _, _, rfl⟩
  have hd : X.step who p = ({ X with wishes := X.wishes.set who (recText p.who p.seq p.body), P := X.P.set who (p.wished S) }, ⟨d, f, sl⟩) := by unfold RW.step; rw [if_pos hph, hsl, hEE]
  have HD := Hs.hid hd; clear hd
  have HE := Hs.hid hEE; clear hEE
  go_wp2_with (go_at_call 47; (refine (refWish_any S Pn sao scap wao wcap pg pcap X who { p with next := 1 } _ hRW hw hl hS hp1 hp2 hp3).mono ?_); rintro e w8 ⟨sao2, scap2, wao2, wcap2, g2, cap2, rfl, hR8, hx8, hk1, hk2, hg8⟩; simp only [HE.out]; have hD8 := hx8.same hD (by simp); have hQ8 := hx8.same hQ (by simp); have d0 := cellAt hD8 0; have d1 := cellAt hD8 1; have d2 := cellAt hD8 2; have df := freeAt hD8; have q0 := cellAt hQ8 0; have q1 := cellAt hQ8 1; have q2 := cellAt hQ8 2; have qf := freeAt hQ8; simp at d0 d1 d2 q0 q1 q2)
  refine bodyPost_ret (v := .tuple #[.agg #[.slice sao2 S scap2, .slice wao2 Pn wcap2, .slice (some ⟨g2, 0, none⟩) Pn cap2], .agg #[.bool d, .bool f, .int .i64 sl]]) (by simp [results, Try.results31, go_sem, d0, d1, d2, q0, q1, q2]) rfl ⟨sao2, scap2, wao2, wcap2, g2, cap2, by first | (rw [HD.out]; done) | (rw [HD.out]; rfl), ?_, ?_, hk1.mono (by omega), hk2.mono (by omega), by omega⟩
  · rw [HD.out]
    refine hR8.ext (F := [B + 1, B + 1 + 1]) (Ext.set' (by simp) (Ext.set' (by simp) (Ext.set' (by simp) (Ext.set' (by simp) (Ext.set' (by simp) (Ext.set' (by simp) (Ext.refl _ _) _ _) _ _) _ _) _ _) _ _) _ _) ?_
    intro q hq
    rcases hq with h | h | h
    · have := hk1.far hsb h; simp; omega
    · have := hk2.far hwb h; simp; omega
    · simp; omega
  · repeat (refine Ext.setN (by omega) ?_ _ _)
    exact (hE).trans0 hx8

theorem refStep_help (S Pn : Nat) (sao : Option Addr) (scap : Nat) (wao : Option Addr) (wcap pg pcap : Nat) (X : RW) (who : Nat) (p : RP) (w : World) (hR : RefV w.heap S Pn sao scap wao wcap pg pcap X) (hp : X.P[who]? = some p) (hl : Pn ≤ 1000) (hS : S ≤ 1000)
    (hp1 : p.who < 1000000) (hp2 : p.seq < 1000000000000000) (hp3 : p.body.size < 100000) (hat : p.at_ ≤ S) (hph : p.next = 3) :
    Calls Try.prog 31 #[.agg #[.slice sao S scap, .slice wao Pn wcap, .slice (some ⟨pg, 0, none⟩) Pn pcap], .int .i64 who] w fun e w' =>
      RStep w S Pn sao scap wao wcap e w' (X.step who p).1 (X.step who p).2 := by
  have hw := hR.lt hp
  have hw0 : (0 : Int) ≤ who := by omega
  have hwi : (who : Int) < Pn := by omega
  have hsl := hR.S_eq
  have hwl := hR.W_eq
  obtain ⟨hB, hD, hQ, hC, hE, hsz⟩ := alloc_four w (.cells #[.slice sao S scap, .slice wao Pn wcap, .slice (some ⟨pg, 0, none⟩) Pn pcap] 37) (.cells #[.slice none 0 0, .slice none 0 0, .slice none 0 0] 37) (.cells #[.bool false, .bool false, .int .i64 0] 65) (.cells #[.int .i64 p.next, .int .i64 p.at_, .int .i64 p.who, .int .i64 p.seq, .string p.body, .string p.offer] 62)
  have hE1 : Ext [] w (((w.alloc (.cells #[.slice sao S scap, .slice wao Pn wcap, .slice (some ⟨pg, 0, none⟩) Pn pcap] 37)).alloc (.cells #[.slice none 0 0, .slice none 0 0, .slice none 0 0] 37)).alloc (.cells #[.bool false, .bool false, .int .i64 0] 65)) := (((Ext.refl _ _).alloc _).alloc _).alloc _
  obtain ⟨e0, e1, e2, e3, e4, e5⟩ := (hR.ext0 hE1).at hp
  have HPH := Hs.hid hph
  clear hph
  go_enter Try.func31, Try.ntmps31
  go_upto_region 2 with fail
  have hRW := hR.ext0 hE
  generalize (((w.alloc (.cells #[.slice sao S scap, .slice wao Pn wcap, .slice (some ⟨pg, 0, none⟩) Pn pcap] 37)).alloc (.cells #[.slice none 0 0, .slice none 0 0, .slice none 0 0] 37)).alloc (.cells #[.bool false, .bool false, .int .i64 0] 65)).alloc (.cells #[.int .i64 p.next, .int .i64 p.at_, .int .i64 p.who, .int .i64 p.seq, .string p.body, .string p.offer] 62) = W at *
  generalize hBB : w.heap.size = B at *
  clear e0 e1 e2 e3 e4 e5 hE1
  have hph := HPH.out
  have b0 := cellAt hB 0
  have b1 := cellAt hB 1
  have b2 := cellAt hB 2
  have c0 := cellAt hC 0
  have c1 := cellAt hC 1
  have c2 := cellAt hC 2
  have c3 := cellAt hC 3
  have c4 := cellAt hC 4
  have c5 := cellAt hC 5
  have cf := freeAt hC
  simp [hph] at b0 b1 b2 c0 c1 c2 c3 c4 c5
  have hsb : ∀ q, (Value.slice sao S scap).ownBlock = some q → q < B := fun q h => by have := hR.s.lt h; omega
  have hwb : ∀ q, (Value.slice wao Pn wcap).ownBlock = some q → q < B := fun q h => by have := hR.w.lt h; omega
  obtain ⟨t, ht⟩ : ∃ t, X.wishes[p.at_ % Pn]? = some t := ⟨_, List.getElem?_eq_getElem (by have := Nat.mod_lt p.at_ (show Pn > 0 by omega); omega)⟩
  have hgd : X.wishes.getD (p.at_ % X.wishes.length) ⟨#[]⟩ = t := by rw [hwl, List.getD_eq_getElem?_getD, ht]; rfl
  have hd : X.step who p = ({ X with P := X.P.set who (p.helps X.slots t) }, .no) := by unfold RW.step; rw [if_neg (by rw [hph]; decide), if_neg (by rw [hph]; decide), if_pos hph, hgd]
  have HD := Hs.hid hd; clear hd
  go_wp2_with (go_at_call 50; (refine (refHelp_any S Pn sao scap wao wcap pg pcap X who { p with next := 3 } t _ hRW hw hl hS hp1 hp2 hp3 hat ht).mono ?_); rintro e w8 ⟨g2, cap2, rfl, hR8, hx8, hg8⟩; have hD8 := hx8.same hD (by simp); have hQ8 := hx8.same hQ (by simp); have d0 := cellAt hD8 0; have d1 := cellAt hD8 1; have d2 := cellAt hD8 2; have df := freeAt hD8; have q0 := cellAt hQ8 0; have q1 := cellAt hQ8 1; have q2 := cellAt hQ8 2; have qf := freeAt hQ8; simp at d0 d1 d2 q0 q1 q2)
  refine bodyPost_ret (v := .tuple #[.agg #[.slice sao S scap, .slice wao Pn wcap, .slice (some ⟨g2, 0, none⟩) Pn cap2], .agg #[.bool false, .bool false, .int .i64 0]]) (by simp [results, Try.results31, go_sem, d0, d1, d2, q0, q1, q2]) rfl ⟨sao, scap, wao, wcap, g2, cap2, by first | (rw [HD.out]; done) | (rw [HD.out]; rfl), ?_, ?_, .inl rfl, .inl rfl, by omega⟩
  · rw [HD.out]
    refine hR8.ext (F := [B + 1, B + 1 + 1]) (Ext.set' (by simp) (Ext.set' (by simp) (Ext.set' (by simp) (Ext.set' (by simp) (Ext.set' (by simp) (Ext.set' (by simp) (Ext.refl _ _) _ _) _ _) _ _) _ _) _ _) _ _) ?_
    intro q hq
    rcases hq with h | h | h
    · have := hsb q h; simp; omega
    · have := hwb q h; simp; omega
    · simp; omega
  · repeat (refine Ext.setN (by omega) ?_ _ _)
    exact (hE).trans0 hx8

theorem refStep_look (S Pn : Nat) (sao : Option Addr) (scap : Nat) (wao : Option Addr) (wcap pg pcap : Nat) (X : RW) (who : Nat) (p : RP) (w : World) (hR : RefV w.heap S Pn sao scap wao wcap pg pcap X) (hp : X.P[who]? = some p) (hl : Pn ≤ 1000) (hS : S ≤ 1000)
    (hp1 : p.who < 1000000) (hp2 : p.seq < 1000000000000000) (hp3 : p.body.size < 100000) (hat : p.at_ ≤ S) (hph : p.next = 2) (hlt : p.at_ < S) :
    Calls Try.prog 31 #[.agg #[.slice sao S scap, .slice wao Pn wcap, .slice (some ⟨pg, 0, none⟩) Pn pcap], .int .i64 who] w fun e w' =>
      RStep w S Pn sao scap wao wcap e w' (X.step who p).1 (X.step who p).2 := by
  have hw := hR.lt hp
  have hw0 : (0 : Int) ≤ who := by omega
  have hwi : (who : Int) < Pn := by omega
  have hsl := hR.S_eq
  have hwl := hR.W_eq
  obtain ⟨t, ht⟩ : ∃ t, X.slots[p.at_]? = some t := ⟨_, List.getElem?_eq_getElem (by omega)⟩
  have hgd : X.slots.getD p.at_ ⟨#[]⟩ = t := by rw [List.getD_eq_getElem?_getD, ht]; rfl
  obtain ⟨sg, rfl, _, _⟩ := str_at hR.s ht
  have ha0 : (0 : Int) ≤ p.at_ := by omega
  have ha1 : (p.at_ : Int) < S := by omega
  obtain ⟨hB, hD, hQ, hC, hE, hsz⟩ := alloc_four w (.cells #[.slice (some ⟨sg, 0, none⟩) S scap, .slice wao Pn wcap, .slice (some ⟨pg, 0, none⟩) Pn pcap] 37) (.cells #[.slice none 0 0, .slice none 0 0, .slice none 0 0] 37) (.cells #[.bool false, .bool false, .int .i64 0] 65) (.cells #[.int .i64 p.next, .int .i64 p.at_, .int .i64 p.who, .int .i64 p.seq, .string p.body, .string p.offer] 62)
  have hE1 : Ext [] w (((w.alloc (.cells #[.slice (some ⟨sg, 0, none⟩) S scap, .slice wao Pn wcap, .slice (some ⟨pg, 0, none⟩) Pn pcap] 37)).alloc (.cells #[.slice none 0 0, .slice none 0 0, .slice none 0 0] 37)).alloc (.cells #[.bool false, .bool false, .int .i64 0] 65)) := (((Ext.refl _ _).alloc _).alloc _).alloc _
  obtain ⟨e0, e1, e2, e3, e4, e5⟩ := (hR.ext0 hE1).at hp
  have HPH := Hs.hid hph
  clear hph
  go_enter Try.func31, Try.ntmps31
  go_upto_region 2 with fail
  have hRW := hR.ext0 hE
  generalize (((w.alloc (.cells #[.slice (some ⟨sg, 0, none⟩) S scap, .slice wao Pn wcap, .slice (some ⟨pg, 0, none⟩) Pn pcap] 37)).alloc (.cells #[.slice none 0 0, .slice none 0 0, .slice none 0 0] 37)).alloc (.cells #[.bool false, .bool false, .int .i64 0] 65)).alloc (.cells #[.int .i64 p.next, .int .i64 p.at_, .int .i64 p.who, .int .i64 p.seq, .string p.body, .string p.offer] 62) = W at *
  generalize hBB : w.heap.size = B at *
  clear e0 e1 e2 e3 e4 e5 hE1
  have hph := HPH.out
  have b0 := cellAt hB 0
  have b1 := cellAt hB 1
  have b2 := cellAt hB 2
  have c0 := cellAt hC 0
  have c1 := cellAt hC 1
  have c2 := cellAt hC 2
  have c3 := cellAt hC 3
  have c4 := cellAt hC 4
  have c5 := cellAt hC 5
  have cf := freeAt hC
  simp [hph] at b0 b1 b2 c0 c1 c2 c3 c4 c5
  have hsb : ∀ q, (Value.slice (some ⟨sg, 0, none⟩) S scap).ownBlock = some q → q < B := fun q h => by have := hR.s.lt h; omega
  have hwb : ∀ q, (Value.slice wao Pn wcap).ownBlock = some q → q < B := fun q h => by have := hR.w.lt h; omega
  have hcell := str_at' hRW.s ht
  by_cases hs : t.toList = []
  · have hse : t.toList.isEmpty = true := by simp [hs]
    have hd : X.step who p = ({ X with P := X.P.set who { p with next := 3 } }, .no) := by unfold RW.step; rw [if_neg (by rw [hph]; decide), if_pos hph, hgd, if_pos hs]
    have HD := Hs.hid hd; clear hd
    go_upto_region 9 with fail
    have hC9 := heap_set hC 0 (.int .i64 3)
    simp at hC9
    have hB9 := (heap_set_ne W ⟨B + 1 + 1 + 1, 0, none⟩ (.int .i64 3) (by show B + 1 + 1 + 1 ≠ B; omega)).trans hB
    have hD := (heap_set_ne W ⟨B + 1 + 1 + 1, 0, none⟩ (.int .i64 3) (by show B + 1 + 1 + 1 ≠ B + 1; omega)).trans hD
    have hQ := (heap_set_ne W ⟨B + 1 + 1 + 1, 0, none⟩ (.int .i64 3) (by show B + 1 + 1 + 1 ≠ B + 1 + 1; omega)).trans hQ
    have hE9 : Ext [] w (W.setCell ⟨B + 1 + 1 + 1, 0, none⟩ (.int .i64 3)) := Ext.setN (by omega) hE _ _
    have hR9 := hR.ext0 hE9
    clear b0 b1 b2 c0 c1 c2 c3 c4 c5 cf hcell
    generalize W.setCell ⟨B + 1 + 1 + 1, 0, none⟩ (.int .i64 3) = W9 at *
    have b0 := cellAt hB9 0
    have b1 := cellAt hB9 1
    have b2 := cellAt hB9 2
    have c0 := cellAt hC9 0
    have c1 := cellAt hC9 1
    have c2 := cellAt hC9 2
    have c3 := cellAt hC9 3
    have c4 := cellAt hC9 4
    have c5 := cellAt hC9 5
    simp at b0 b1 b2 c0 c1 c2 c3 c4 c5
    have hs9 := lt_of_heap hC9
    go_wp2_with (go_at_call 49; (refine (set_any S Pn (some ⟨sg, 0, none⟩) scap wao wcap pg pcap X who { p with next := 3 } _ hR9 hw hl).mono ?_); rintro e w8 ⟨g2, cap2, rfl, hR8, hx8, hg8⟩; have hD8 := hx8.same hD (by simp); have hQ8 := hx8.same hQ (by simp); have d0 := cellAt hD8 0; have d1 := cellAt hD8 1; have d2 := cellAt hD8 2; have df := freeAt hD8; have q0 := cellAt hQ8 0; have q1 := cellAt hQ8 1; have q2 := cellAt hQ8 2; have qf := freeAt hQ8; simp at d0 d1 d2 q0 q1 q2)
    refine bodyPost_ret (v := .tuple #[.agg #[.slice (some ⟨sg, 0, none⟩) S scap, .slice wao Pn wcap, .slice (some ⟨g2, 0, none⟩) Pn cap2], .agg #[.bool false, .bool false, .int .i64 0]]) (by simp [results, Try.results31, go_sem, d0, d1, d2, q0, q1, q2]) rfl ⟨some ⟨sg, 0, none⟩, scap, wao, wcap, g2, cap2, by first | (rw [HD.out]; done) | (rw [HD.out]; rfl), ?_, ?_, .inl rfl, .inl rfl, by omega⟩
    · rw [HD.out]
      refine hR8.ext (F := [B + 1, B + 1 + 1]) (Ext.set' (by simp) (Ext.set' (by simp) (Ext.set' (by simp) (Ext.set' (by simp) (Ext.set' (by simp) (Ext.set' (by simp) (Ext.refl _ _) _ _) _ _) _ _) _ _) _ _) _ _) ?_
      intro q hq
      rcases hq with h | h | h
      · have := hsb q h; simp; omega
      · have := hwb q h; simp; omega
      · simp; omega
    · repeat (refine Ext.setN (by omega) ?_ _ _)
      exact (hE9).trans0 hx8
  · have hse : t.toList.isEmpty = false := by simp [hs]
    obtain ⟨d, f, sl, y, hEE⟩ : ∃ d f sl y, p.sees S t = (⟨d, f, sl⟩, y) := ⟨_, _, _, _, rfl⟩
    have hd : X.step who p = ({ X with P := X.P.set who y }, ⟨d, f, sl⟩) := by unfold RW.step; rw [if_neg (by rw [hph]; decide), if_pos hph, hgd, if_neg hs, hsl, hEE]
    have HD := Hs.hid hd; clear hd
    have hEE2 : ({ p with next := 2 } : RP).sees S t = (⟨d, f, sl⟩, y) := by rw [← hEE]; unfold RP.sees; rfl
    have HE := Hs.hid hEE2; clear hEE hEE2
    go_wp2_with (go_at_call 48; (refine (refSees_any S Pn (some ⟨sg, 0, none⟩) scap wao wcap pg pcap X who { p with next := 2 } t _ hRW hw hl hS hp1 hp2 hp3 ht).mono ?_); rw [HE.out]; rintro e w8 ⟨sao2, scap2, wao2, wcap2, g2, cap2, rfl, hR8, hx8, hk1, hk2, hg8⟩; have hD8 := hx8.same hD (by simp); have hQ8 := hx8.same hQ (by simp); have d0 := cellAt hD8 0; have d1 := cellAt hD8 1; have d2 := cellAt hD8 2; have df := freeAt hD8; have q0 := cellAt hQ8 0; have q1 := cellAt hQ8 1; have q2 := cellAt hQ8 2; have qf := freeAt hQ8; simp at d0 d1 d2 q0 q1 q2)
    refine bodyPost_ret (v := .tuple #[.agg #[.slice sao2 S scap2, .slice wao2 Pn wcap2, .slice (some ⟨g2, 0, none⟩) Pn cap2], .agg #[.bool d, .bool f, .int .i64 sl]]) (by simp [results, Try.results31, go_sem, d0, d1, d2, q0, q1, q2]) rfl ⟨sao2, scap2, wao2, wcap2, g2, cap2, by first | (rw [HD.out]; done) | (rw [HD.out]; rfl), ?_, ?_, hk1.mono (by omega), hk2.mono (by omega), by omega⟩
    · rw [HD.out]
      refine hR8.ext (F := [B + 1, B + 1 + 1]) (Ext.set' (by simp) (Ext.set' (by simp) (Ext.set' (by simp) (Ext.set' (by simp) (Ext.set' (by simp) (Ext.set' (by simp) (Ext.refl _ _) _ _) _ _) _ _) _ _) _ _) _ _) ?_
      intro q hq
      rcases hq with h | h | h
      · have := hk1.far hsb h; simp; omega
      · have := hk2.far hwb h; simp; omega
      · simp; omega
    · repeat (refine Ext.setN (by omega) ?_ _ _)
      exact (hE).trans0 hx8

theorem refStep_swap1 (S Pn : Nat) (sao : Option Addr) (scap : Nat) (wao : Option Addr) (wcap pg pcap : Nat) (X : RW) (who : Nat) (p : RP) (w : World) (hR : RefV w.heap S Pn sao scap wao wcap pg pcap X) (hp : X.P[who]? = some p) (hl : Pn ≤ 1000) (hS : S ≤ 1000)
    (hp1 : p.who < 1000000) (hp2 : p.seq < 1000000000000000) (hp3 : p.body.size < 100000) (hat : p.at_ ≤ S) (hph : p.next = 4) (hlt : p.at_ < S) (hne : ¬ (X.slots.getD p.at_ ⟨#[]⟩).toList = []) :
    Calls Try.prog 31 #[.agg #[.slice sao S scap, .slice wao Pn wcap, .slice (some ⟨pg, 0, none⟩) Pn pcap], .int .i64 who] w fun e w' =>
      RStep w S Pn sao scap wao wcap e w' (X.step who p).1 (X.step who p).2 := by
  have hw := hR.lt hp
  have hw0 : (0 : Int) ≤ who := by omega
  have hwi : (who : Int) < Pn := by omega
  have hsl := hR.S_eq
  have hwl := hR.W_eq
  obtain ⟨t, ht⟩ : ∃ t, X.slots[p.at_]? = some t := ⟨_, List.getElem?_eq_getElem (by omega)⟩
  have hgd : X.slots.getD p.at_ ⟨#[]⟩ = t := by rw [List.getD_eq_getElem?_getD, ht]; rfl
  obtain ⟨sg, rfl, _, _⟩ := str_at hR.s ht
  have ha0 : (0 : Int) ≤ p.at_ := by omega
  have ha1 : (p.at_ : Int) < S := by omega
  obtain ⟨hB, hD, hQ, hC, hE, hsz⟩ := alloc_four w (.cells #[.slice (some ⟨sg, 0, none⟩) S scap, .slice wao Pn wcap, .slice (some ⟨pg, 0, none⟩) Pn pcap] 37) (.cells #[.slice none 0 0, .slice none 0 0, .slice none 0 0] 37) (.cells #[.bool false, .bool false, .int .i64 0] 65) (.cells #[.int .i64 p.next, .int .i64 p.at_, .int .i64 p.who, .int .i64 p.seq, .string p.body, .string p.offer] 62)
  have hE1 : Ext [] w (((w.alloc (.cells #[.slice (some ⟨sg, 0, none⟩) S scap, .slice wao Pn wcap, .slice (some ⟨pg, 0, none⟩) Pn pcap] 37)).alloc (.cells #[.slice none 0 0, .slice none 0 0, .slice none 0 0] 37)).alloc (.cells #[.bool false, .bool false, .int .i64 0] 65)) := (((Ext.refl _ _).alloc _).alloc _).alloc _
  obtain ⟨e0, e1, e2, e3, e4, e5⟩ := (hR.ext0 hE1).at hp
  have HPH := Hs.hid hph
  clear hph
  go_enter Try.func31, Try.ntmps31
  go_upto_region 2 with fail
  have hRW := hR.ext0 hE
  generalize (((w.alloc (.cells #[.slice (some ⟨sg, 0, none⟩) S scap, .slice wao Pn wcap, .slice (some ⟨pg, 0, none⟩) Pn pcap] 37)).alloc (.cells #[.slice none 0 0, .slice none 0 0, .slice none 0 0] 37)).alloc (.cells #[.bool false, .bool false, .int .i64 0] 65)).alloc (.cells #[.int .i64 p.next, .int .i64 p.at_, .int .i64 p.who, .int .i64 p.seq, .string p.body, .string p.offer] 62) = W at *
  generalize hBB : w.heap.size = B at *
  clear e0 e1 e2 e3 e4 e5 hE1
  have hph := HPH.out
  have b0 := cellAt hB 0
  have b1 := cellAt hB 1
  have b2 := cellAt hB 2
  have c0 := cellAt hC 0
  have c1 := cellAt hC 1
  have c2 := cellAt hC 2
  have c3 := cellAt hC 3
  have c4 := cellAt hC 4
  have c5 := cellAt hC 5
  have cf := freeAt hC
  simp [hph] at b0 b1 b2 c0 c1 c2 c3 c4 c5
  have hsb : ∀ q, (Value.slice (some ⟨sg, 0, none⟩) S scap).ownBlock = some q → q < B := fun q h => by have := hR.s.lt h; omega
  have hwb : ∀ q, (Value.slice wao Pn wcap).ownBlock = some q → q < B := fun q h => by have := hR.w.lt h; omega
  have hcell := str_at' hRW.s ht
  rw [hgd] at hne
  have hse : t.toList.isEmpty = false := by simp [hne]
  obtain ⟨d, f, sl, y, hEE⟩ : ∃ d f sl y, p.sees S t = (⟨d, f, sl⟩, y) := ⟨_, _, _, _, rfl⟩
  have hd : X.step who p = ({ X with P := X.P.set who y }, ⟨d, f, sl⟩) := by unfold RW.step; rw [if_neg (by rw [hph]; decide), if_neg (by rw [hph]; decide), if_neg (by rw [hph]; decide), if_pos hph, hgd, if_neg hne, hsl, hEE]
  have HD := Hs.hid hd; clear hd
  have hEE2 : ({ p with next := 4 } : RP).sees S t = (⟨d, f, sl⟩, y) := by rw [← hEE]; unfold RP.sees; rfl
  have HE := Hs.hid hEE2; clear hEE hEE2
  go_wp2_with (go_at_call 48; (refine (refSees_any S Pn (some ⟨sg, 0, none⟩) scap wao wcap pg pcap X who { p with next := 4 } t _ hRW hw hl hS hp1 hp2 hp3 ht).mono ?_); rw [HE.out]; rintro e w8 ⟨sao2, scap2, wao2, wcap2, g2, cap2, rfl, hR8, hx8, hk1, hk2, hg8⟩; have hD8 := hx8.same hD (by simp); have hQ8 := hx8.same hQ (by simp); have d0 := cellAt hD8 0; have d1 := cellAt hD8 1; have d2 := cellAt hD8 2; have df := freeAt hD8; have q0 := cellAt hQ8 0; have q1 := cellAt hQ8 1; have q2 := cellAt hQ8 2; have qf := freeAt hQ8; simp at d0 d1 d2 q0 q1 q2)
  refine bodyPost_ret (v := .tuple #[.agg #[.slice sao2 S scap2, .slice wao2 Pn wcap2, .slice (some ⟨g2, 0, none⟩) Pn cap2], .agg #[.bool d, .bool f, .int .i64 sl]]) (by simp [results, Try.results31, go_sem, d0, d1, d2, q0, q1, q2]) rfl ⟨sao2, scap2, wao2, wcap2, g2, cap2, by first | (rw [HD.out]; done) | (rw [HD.out]; rfl), ?_, ?_, hk1.mono (by omega), hk2.mono (by omega), by omega⟩
  · rw [HD.out]
    refine hR8.ext (F := [B + 1, B + 1 + 1]) (Ext.set' (by simp) (Ext.set' (by simp) (Ext.set' (by simp) (Ext.set' (by simp) (Ext.set' (by simp) (Ext.set' (by simp) (Ext.refl _ _) _ _) _ _) _ _) _ _) _ _) _ _) ?_
    intro q hq
    rcases hq with h | h | h
    · have := hk1.far hsb h; simp; omega
    · have := hk2.far hwb h; simp; omega
    · simp; omega
  · repeat (refine Ext.setN (by omega) ?_ _ _)
    exact (hE).trans0 hx8

theorem refStep_head2 (S Pn : Nat) (sao : Option Addr) (scap : Nat) (wao : Option Addr) (wcap pg pcap : Nat) (X : RW) (who : Nat) (p : RP) (w : World) (hR : RefV w.heap S Pn sao scap wao wcap pg pcap X) (hp : X.P[who]? = some p) (hl : Pn ≤ 1000) (hS : S ≤ 1000)
    (hp1 : p.who < 1000000) (hp2 : p.seq < 1000000000000000) (hp3 : p.body.size < 100000) (hat : p.at_ ≤ S) (hph : p.next = 5) (hlt : p.at_ < S) (hne : ¬ (X.slots.getD p.at_ ⟨#[]⟩).toList = []) :
    Calls Try.prog 31 #[.agg #[.slice sao S scap, .slice wao Pn wcap, .slice (some ⟨pg, 0, none⟩) Pn pcap], .int .i64 who] w fun e w' =>
      RStep w S Pn sao scap wao wcap e w' (X.step who p).1 (X.step who p).2 := by
  have hw := hR.lt hp
  have hw0 : (0 : Int) ≤ who := by omega
  have hwi : (who : Int) < Pn := by omega
  have hsl := hR.S_eq
  have hwl := hR.W_eq
  obtain ⟨t, ht⟩ : ∃ t, X.slots[p.at_]? = some t := ⟨_, List.getElem?_eq_getElem (by omega)⟩
  have hgd : X.slots.getD p.at_ ⟨#[]⟩ = t := by rw [List.getD_eq_getElem?_getD, ht]; rfl
  obtain ⟨sg, rfl, _, _⟩ := str_at hR.s ht
  have ha0 : (0 : Int) ≤ p.at_ := by omega
  have ha1 : (p.at_ : Int) < S := by omega
  obtain ⟨hB, hD, hQ, hC, hE, hsz⟩ := alloc_four w (.cells #[.slice (some ⟨sg, 0, none⟩) S scap, .slice wao Pn wcap, .slice (some ⟨pg, 0, none⟩) Pn pcap] 37) (.cells #[.slice none 0 0, .slice none 0 0, .slice none 0 0] 37) (.cells #[.bool false, .bool false, .int .i64 0] 65) (.cells #[.int .i64 p.next, .int .i64 p.at_, .int .i64 p.who, .int .i64 p.seq, .string p.body, .string p.offer] 62)
  have hE1 : Ext [] w (((w.alloc (.cells #[.slice (some ⟨sg, 0, none⟩) S scap, .slice wao Pn wcap, .slice (some ⟨pg, 0, none⟩) Pn pcap] 37)).alloc (.cells #[.slice none 0 0, .slice none 0 0, .slice none 0 0] 37)).alloc (.cells #[.bool false, .bool false, .int .i64 0] 65)) := (((Ext.refl _ _).alloc _).alloc _).alloc _
  obtain ⟨e0, e1, e2, e3, e4, e5⟩ := (hR.ext0 hE1).at hp
  have HPH := Hs.hid hph
  clear hph
  go_enter Try.func31, Try.ntmps31
  go_upto_region 2 with fail
  have hRW := hR.ext0 hE
  generalize (((w.alloc (.cells #[.slice (some ⟨sg, 0, none⟩) S scap, .slice wao Pn wcap, .slice (some ⟨pg, 0, none⟩) Pn pcap] 37)).alloc (.cells #[.slice none 0 0, .slice none 0 0, .slice none 0 0] 37)).alloc (.cells #[.bool false, .bool false, .int .i64 0] 65)).alloc (.cells #[.int .i64 p.next, .int .i64 p.at_, .int .i64 p.who, .int .i64 p.seq, .string p.body, .string p.offer] 62) = W at *
  generalize hBB : w.heap.size = B at *
  clear e0 e1 e2 e3 e4 e5 hE1
  have hph := HPH.out
  have b0 := cellAt hB 0
  have b1 := cellAt hB 1
  have b2 := cellAt hB 2
  have c0 := cellAt hC 0
  have c1 := cellAt hC 1
  have c2 := cellAt hC 2
  have c3 := cellAt hC 3
  have c4 := cellAt hC 4
  have c5 := cellAt hC 5
  have cf := freeAt hC
  simp [hph] at b0 b1 b2 c0 c1 c2 c3 c4 c5
  have hsb : ∀ q, (Value.slice (some ⟨sg, 0, none⟩) S scap).ownBlock = some q → q < B := fun q h => by have := hR.s.lt h; omega
  have hwb : ∀ q, (Value.slice wao Pn wcap).ownBlock = some q → q < B := fun q h => by have := hR.w.lt h; omega
  have hcell := str_at' hRW.s ht
  rw [hgd] at hne
  have hse : t.toList.isEmpty = false := by simp [hne]
  have hfb : decide ((S : Int) ≤ p.at_) = false := by simp; omega
  have hfi : ¬ (S : Int) ≤ p.at_ := by omega
  have hai : (p.at_ : Int) ≤ 1000 := by omega
  have hd : X.step who p = ({ X with P := X.P.set who { p with at_ := p.at_ + 1 } }, .no) := by unfold RW.step; rw [if_neg (by rw [hph]; decide), if_neg (by rw [hph]; decide), if_neg (by rw [hph]; decide), if_neg (by rw [hph]; decide), if_pos hph, hgd, if_neg (by rw [hsl]; intro h; rcases h with h | h; omega; exact hne h)]
  have HD := Hs.hid hd; clear hd
  go_upto_region 23 with fail
  have hC9 := heap_set hC 1 (.int .i64 (↑p.at_ + 1))
  simp [hph] at hC9
  have hB9 := (heap_set_ne W ⟨B + 1 + 1 + 1, 1, none⟩ (.int .i64 (↑p.at_ + 1)) (by show B + 1 + 1 + 1 ≠ B; omega)).trans hB
  have hD := (heap_set_ne W ⟨B + 1 + 1 + 1, 1, none⟩ (.int .i64 (↑p.at_ + 1)) (by show B + 1 + 1 + 1 ≠ B + 1; omega)).trans hD
  have hQ := (heap_set_ne W ⟨B + 1 + 1 + 1, 1, none⟩ (.int .i64 (↑p.at_ + 1)) (by show B + 1 + 1 + 1 ≠ B + 1 + 1; omega)).trans hQ
  have hE9 : Ext [] w (W.setCell ⟨B + 1 + 1 + 1, 1, none⟩ (.int .i64 (↑p.at_ + 1))) := Ext.setN (by omega) hE _ _
  have hR9 := hR.ext0 hE9
  clear b0 b1 b2 c0 c1 c2 c3 c4 c5 cf hcell
  generalize W.setCell ⟨B + 1 + 1 + 1, 1, none⟩ (.int .i64 (↑p.at_ + 1)) = W9 at *
  have b0 := cellAt hB9 0
  have b1 := cellAt hB9 1
  have b2 := cellAt hB9 2
  have c0 := cellAt hC9 0
  have c1 := cellAt hC9 1
  have c2 := cellAt hC9 2
  have c3 := cellAt hC9 3
  have c4 := cellAt hC9 4
  have c5 := cellAt hC9 5
  simp at b0 b1 b2 c0 c1 c2 c3 c4 c5
  have hs9 := lt_of_heap hC9
  have hpe : ({ p with at_ := p.at_ + 1 } : RP) = { p with at_ := p.at_ + 1, next := 5 } := by rw [← hph]
  go_wp2_with (go_at_call 49; (refine (set_any S Pn (some ⟨sg, 0, none⟩) scap wao wcap pg pcap X who { p with at_ := p.at_ + 1, next := 5 } _ hR9 hw hl).mono ?_); rw [← hpe]; rintro e w8 ⟨g2, cap2, rfl, hR8, hx8, hg8⟩; have hD8 := hx8.same hD (by simp); have hQ8 := hx8.same hQ (by simp); have d0 := cellAt hD8 0; have d1 := cellAt hD8 1; have d2 := cellAt hD8 2; have df := freeAt hD8; have q0 := cellAt hQ8 0; have q1 := cellAt hQ8 1; have q2 := cellAt hQ8 2; have qf := freeAt hQ8; simp at d0 d1 d2 q0 q1 q2)
  refine bodyPost_ret (v := .tuple #[.agg #[.slice (some ⟨sg, 0, none⟩) S scap, .slice wao Pn wcap, .slice (some ⟨g2, 0, none⟩) Pn cap2], .agg #[.bool false, .bool false, .int .i64 0]]) (by simp [results, Try.results31, go_sem, d0, d1, d2, q0, q1, q2]) rfl ⟨some ⟨sg, 0, none⟩, scap, wao, wcap, g2, cap2, by first | (rw [HD.out]; done) | (rw [HD.out]; rfl), ?_, ?_, .inl rfl, .inl rfl, by omega⟩
  · rw [HD.out]
    refine hR8.ext (F := [B + 1, B + 1 + 1]) (Ext.set' (by simp) (Ext.set' (by simp) (Ext.set' (by simp) (Ext.set' (by simp) (Ext.set' (by simp) (Ext.set' (by simp) (Ext.refl _ _) _ _) _ _) _ _) _ _) _ _) _ _) ?_
    intro q hq
    rcases hq with h | h | h
    · have := hsb q h; simp; omega
    · have := hwb q h; simp; omega
    · simp; omega
  · repeat (refine Ext.setN (by omega) ?_ _ _)
    exact (hE9).trans0 hx8

theorem refStep_idle (S Pn : Nat) (sao : Option Addr) (scap : Nat) (wao : Option Addr) (wcap pg pcap : Nat) (X : RW) (who : Nat) (p : RP) (w : World) (hR : RefV w.heap S Pn sao scap wao wcap pg pcap X) (hp : X.P[who]? = some p) (hl : Pn ≤ 1000) (hS : S ≤ 1000)
    (hp1 : p.who < 1000000) (hp2 : p.seq < 1000000000000000) (hp3 : p.body.size < 100000) (hat : p.at_ ≤ S) (hph : p.next = 0) :
    Calls Try.prog 31 #[.agg #[.slice sao S scap, .slice wao Pn wcap, .slice (some ⟨pg, 0, none⟩) Pn pcap], .int .i64 who] w fun e w' =>
      e = .returned (.tuple #[.agg #[.slice sao S scap, .slice wao Pn wcap, .slice (some ⟨pg, 0, none⟩) Pn pcap], .agg #[.bool false, .bool false, .int .i64 0]]) ∧ Ext [] w w' ∧ X.step who p = (X, .no) := by
  have hw := hR.lt hp
  have hw0 : (0 : Int) ≤ who := by omega
  have hwi : (who : Int) < Pn := by omega
  have hsl := hR.S_eq
  have hwl := hR.W_eq
  obtain ⟨hB, hD, hQ, hC, hE, hsz⟩ := alloc_four w (.cells #[.slice sao S scap, .slice wao Pn wcap, .slice (some ⟨pg, 0, none⟩) Pn pcap] 37) (.cells #[.slice none 0 0, .slice none 0 0, .slice none 0 0] 37) (.cells #[.bool false, .bool false, .int .i64 0] 65) (.cells #[.int .i64 p.next, .int .i64 p.at_, .int .i64 p.who, .int .i64 p.seq, .string p.body, .string p.offer] 62)
  have hE1 : Ext [] w (((w.alloc (.cells #[.slice sao S scap, .slice wao Pn wcap, .slice (some ⟨pg, 0, none⟩) Pn pcap] 37)).alloc (.cells #[.slice none 0 0, .slice none 0 0, .slice none 0 0] 37)).alloc (.cells #[.bool false, .bool false, .int .i64 0] 65)) := (((Ext.refl _ _).alloc _).alloc _).alloc _
  obtain ⟨e0, e1, e2, e3, e4, e5⟩ := (hR.ext0 hE1).at hp
  have HPH := Hs.hid hph
  clear hph
  go_enter Try.func31, Try.ntmps31
  go_upto_region 2 with fail
  have hRW := hR.ext0 hE
  generalize (((w.alloc (.cells #[.slice sao S scap, .slice wao Pn wcap, .slice (some ⟨pg, 0, none⟩) Pn pcap] 37)).alloc (.cells #[.slice none 0 0, .slice none 0 0, .slice none 0 0] 37)).alloc (.cells #[.bool false, .bool false, .int .i64 0] 65)).alloc (.cells #[.int .i64 p.next, .int .i64 p.at_, .int .i64 p.who, .int .i64 p.seq, .string p.body, .string p.offer] 62) = W at *
  generalize hBB : w.heap.size = B at *
  clear e0 e1 e2 e3 e4 e5 hE1
  have hph := HPH.out
  have b0 := cellAt hB 0
  have b1 := cellAt hB 1
  have b2 := cellAt hB 2
  have c0 := cellAt hC 0
  have c1 := cellAt hC 1
  have c2 := cellAt hC 2
  have c3 := cellAt hC 3
  have c4 := cellAt hC 4
  have c5 := cellAt hC 5
  have cf := freeAt hC
  simp [hph] at b0 b1 b2 c0 c1 c2 c3 c4 c5
  have hsb : ∀ q, (Value.slice sao S scap).ownBlock = some q → q < B := fun q h => by have := hR.s.lt h; omega
  have hwb : ∀ q, (Value.slice wao Pn wcap).ownBlock = some q → q < B := fun q h => by have := hR.w.lt h; omega
  have hd : X.step who p = (X, .no) := by unfold RW.step; rw [if_neg (by rw [hph]; decide), if_neg (by rw [hph]; decide), if_neg (by rw [hph]; decide), if_neg (by rw [hph]; decide), if_neg (by rw [hph]; decide)]
  have HD := Hs.hid hd; clear hd
  have d0 := cellAt hD 0
  have d1 := cellAt hD 1
  have d2 := cellAt hD 2
  have df := freeAt hD
  have q0 := cellAt hQ 0
  have q1 := cellAt hQ 1
  have q2 := cellAt hQ 2
  have qf := freeAt hQ
  simp at d0 d1 d2 q0 q1 q2
  go_wp2
  refine bodyPost_ret (v := .tuple #[.agg #[.slice sao S scap, .slice wao Pn wcap, .slice (some ⟨pg, 0, none⟩) Pn pcap], .agg #[.bool false, .bool false, .int .i64 0]]) (by simp [results, Try.results31, go_sem, d0, d1, d2, q0, q1, q2]) rfl ⟨rfl, ?_, HD.out⟩
  repeat (refine Ext.setN (by omega) ?_ _ _)
  exact hE
end Go.Proofs.Ytkhihpmadmmeaaa
set_option linter.unusedSimpArgs false
set_option linter.unusedVariables false
set_option maxHeartbeats 2000000
set_option maxRecDepth 100000
namespace Go.Proofs.Ytkhihpmadmmeaaa
open Go.RowKit Go.Hs

theorem Kept.via {v v1 v2 : Value} {B B1 : Nat} (h : Kept v1 v2 B1) (h1 : ∀ g, v1.ownBlock = some g → B ≤ g) (hB : B ≤ B1) : Kept v v2 B := by
  rcases h with h | h
  · rw [h]; exact .inr h1
  · exact .inr fun g hg => Nat.le_trans hB (h g hg)

theorem refStep_swap2 (S Pn : Nat) (sao : Option Addr) (scap : Nat) (wao : Option Addr) (wcap pg pcap : Nat) (X : RW) (who : Nat) (p : RP) (w : World) (hR : RefV w.heap S Pn sao scap wao wcap pg pcap X) (hp : X.P[who]? = some p) (hl : Pn ≤ 1000) (hS : S ≤ 1000)
    (hp1 : p.who < 1000000) (hp2 : p.seq < 1000000000000000) (hp3 : p.body.size < 100000) (hat : p.at_ ≤ S) (hph : p.next = 4) (hlt : p.at_ < S) (hne : (X.slots.getD p.at_ ⟨#[]⟩).toList = []) :
    Calls Try.prog 31 #[.agg #[.slice sao S scap, .slice wao Pn wcap, .slice (some ⟨pg, 0, none⟩) Pn pcap], .int .i64 who] w fun e w' =>
      RStep w S Pn sao scap wao wcap e w' (X.step who p).1 (X.step who p).2 := by
  have hw := hR.lt hp
  have hw0 : (0 : Int) ≤ who := by omega
  have hwi : (who : Int) < Pn := by omega
  have hsl := hR.S_eq
  have hwl := hR.W_eq
  obtain ⟨t, ht⟩ : ∃ t, X.slots[p.at_]? = some t := ⟨_, List.getElem?_eq_getElem (by omega)⟩
  have hgd : X.slots.getD p.at_ ⟨#[]⟩ = t := by rw [List.getD_eq_getElem?_getD, ht]; rfl
  obtain ⟨sg, rfl, _, _⟩ := str_at hR.s ht
  have ha0 : (0 : Int) ≤ p.at_ := by omega
  have ha1 : (p.at_ : Int) < S := by omega
  obtain ⟨hB, hD, hQ, hC, hE, hsz⟩ := alloc_four w (.cells #[.slice (some ⟨sg, 0, none⟩) S scap, .slice wao Pn wcap, .slice (some ⟨pg, 0, none⟩) Pn pcap] 37) (.cells #[.slice none 0 0, .slice none 0 0, .slice none 0 0] 37) (.cells #[.bool false, .bool false, .int .i64 0] 65) (.cells #[.int .i64 p.next, .int .i64 p.at_, .int .i64 p.who, .int .i64 p.seq, .string p.body, .string p.offer] 62)
  have hE1 : Ext [] w (((w.alloc (.cells #[.slice (some ⟨sg, 0, none⟩) S scap, .slice wao Pn wcap, .slice (some ⟨pg, 0, none⟩) Pn pcap] 37)).alloc (.cells #[.slice none 0 0, .slice none 0 0, .slice none 0 0] 37)).alloc (.cells #[.bool false, .bool false, .int .i64 0] 65)) := (((Ext.refl _ _).alloc _).alloc _).alloc _
  obtain ⟨e0, e1, e2, e3, e4, e5⟩ := (hR.ext0 hE1).at hp
  have HPH := Hs.hid hph
  clear hph
  go_enter Try.func31, Try.ntmps31
  go_upto_region 2 with fail
  have hRW := hR.ext0 hE
  generalize (((w.alloc (.cells #[.slice (some ⟨sg, 0, none⟩) S scap, .slice wao Pn wcap, .slice (some ⟨pg, 0, none⟩) Pn pcap] 37)).alloc (.cells #[.slice none 0 0, .slice none 0 0, .slice none 0 0] 37)).alloc (.cells #[.bool false, .bool false, .int .i64 0] 65)).alloc (.cells #[.int .i64 p.next, .int .i64 p.at_, .int .i64 p.who, .int .i64 p.seq, .string p.body, .string p.offer] 62) = W at *
  generalize hBB : w.heap.size = B at *
  clear e0 e1 e2 e3 e4 e5 hE1
  have hph := HPH.out
  have b0 := cellAt hB 0
  have b1 := cellAt hB 1
  have b2 := cellAt hB 2
  have c0 := cellAt hC 0
  have c1 := cellAt hC 1
  have c2 := cellAt hC 2
  have c3 := cellAt hC 3
  have c4 := cellAt hC 4
  have c5 := cellAt hC 5
  have cf := freeAt hC
  simp [hph] at b0 b1 b2 c0 c1 c2 c3 c4 c5
  have hsb : ∀ q, (Value.slice (some ⟨sg, 0, none⟩) S scap).ownBlock = some q → q < B := fun q h => by have := hR.s.lt h; omega
  have hwb : ∀ q, (Value.slice wao Pn wcap).ownBlock = some q → q < B := fun q h => by have := hR.w.lt h; omega
  have hcell := str_at' hRW.s ht
  rw [hgd] at hne
  have hse : t.toList.isEmpty = true := by simp [hne]
  obtain ⟨i0, hi, hz0, hz1, hz2⟩ := info_parts infoStrS
  have hm1 : 0 + S ≤ maxLen := by simp [maxLen]; omega
  have hm2 : (0 + S) * 16 ≤ 140737488355328 := by omega
  have hnil : Own (W.alloc (.cells #[] 9)).heap 9 1 (.slice (some ⟨W.heap.size, 0, none⟩) 0 0) 0 [] :=
    ⟨rfl, .inr ⟨W.heap.size, 0, #[], rfl, Nat.zero_le _, heap_new _ _, Nat.le_refl _, Nat.zero_le _, rfl, rfl⟩⟩
  rw [hsz] at hnil
  have hold := Own.cells (w := W.alloc (.cells #[] 9)) rfl (own_ext hRW.s ((Ext.refl [] W).alloc _) (by simp)) (g := sg) rfl
  have h1c : ∀ u ∈ X.slots.map Value.string, u.oneCell' = true := by
    intro u hu
    obtain ⟨q, _, rfl⟩ := List.mem_map.1 hu
    rfl
  go_upto_region 15 with (at_builtin; refine wpList_append rfl (.tmp 60) (.tmp 62) 34 rfl 9 i0 _ 1 16 Try.underlying34 hi hz0 hz1 hz2 rfl (by decide) (.slice (some ⟨B + 1 + 1 + 1 + 1, 0, none⟩) 0 0) 0 [] rfl hnil ⟨sg, 0, none⟩ S scap (X.slots.map Value.string) rfl (by simp [hsl]) hold h1c hm1 hm2 ?_; intro ao cap2 w2 hl2 hx2 hf2)
  simp only [Nat.zero_add, List.nil_append] at hl2
  obtain ⟨g2, cap3, cur2, hv, hg2, hn2, hc2, hcs2, htk2⟩ := own_some hl2 (by omega)
  simp only [Value.slice.injEq] at hv
  obtain ⟨rfl, _, rfl⟩ := hv
  have hg2lo : B + 1 + 1 + 1 + 1 ≤ g2 := by
    rcases hf2 g2 rfl with h | h
    · simp [Value.ownBlock] at h; omega
    · have : (W.alloc (.cells #[] 9)).heap.size = W.heap.size + 1 := by simp
      omega
  have hB2 := hx2.same (heap_old' _ _ hB) (by simp [Value.ownBlock]; omega)
  have hD2 := hx2.same (heap_old' _ _ hD) (by simp [Value.ownBlock])
  have hQ2 := hx2.same (heap_old' _ _ hQ) (by simp [Value.ownBlock])
  have hC2 := hx2.same (heap_old' _ _ hC) (by simp [Value.ownBlock])
  have hE2 : Ext [] w w2 := (hE.alloc _).trans hx2 (fun q hq => .inr (by simp [Value.ownBlock] at hq; omega))
  clear b0 b1 b2 c0 c1 c2 c3 c4 c5 cf hcell
  have c1 := cellAt hC2 1
  have c5 := cellAt hC2 5
  have b0 := cellAt hB2 0
  have bf := freeAt hB2
  simp at c1 c5 b0
  have hc := str_at' hl2 (List.getElem?_eq_getElem (show p.at_ < X.slots.length by omega))
  have gf := freeAt hg2
  have n1 : g2 ≠ B := by omega
  have n2 : B ≠ g2 := by omega
  clear hold h1c hnil
  go_upto_region 17 with fail
  have hB6 : ((w2.setCell ⟨g2, p.at_, none⟩ (.string p.offer)).setCell ⟨B, 0, none⟩ (.slice (some ⟨g2, 0, none⟩) S cap2)).heap[B]? = some (.cells #[.slice (some ⟨g2, 0, none⟩) S cap2, .slice wao Pn wcap, .slice (some ⟨pg, 0, none⟩) Pn pcap] 37 (0, 0)) := by
    refine (heap_set ((heap_set_ne _ _ _ n1).trans hB2) 0 _).trans ?_
    simp
  have hfar : ∀ q, q ≠ g2 → q ≠ B → ((w2.setCell ⟨g2, p.at_, none⟩ (.string p.offer)).setCell ⟨B, 0, none⟩ (.slice (some ⟨g2, 0, none⟩) S cap2)).heap[q]? = w2.heap[q]? := by
    intro q h1 h2
    rw [heap_set_ne _ _ _ (Ne.symm h2), heap_set_ne _ _ _ (Ne.symm h1)]
  have hD := (hfar (B + 1) (by omega) (by omega)).trans hD2
  have hQ := (hfar (B + 1 + 1) (by omega) (by omega)).trans hQ2
  have hC6 := (hfar (B + 1 + 1 + 1) (by omega) (by omega)).trans hC2
  have hs6 : Own ((w2.setCell ⟨g2, p.at_, none⟩ (.string p.offer)).setCell ⟨B, 0, none⟩ (.slice (some ⟨g2, 0, none⟩) S cap2)).heap 9 1 (.slice (some ⟨g2, 0, none⟩) S cap2) S ((X.slots.set p.at_ p.offer).map Value.string) := by
    refine (own_strs_set hl2 p.at_ _).same fun q hq => ?_
    have hq' : q = g2 := by simpa [Value.ownBlock] using hq.symm
    subst hq'
    rw [heap_set_ne _ _ _ n2]
  have hE6 : Ext [] w ((w2.setCell ⟨g2, p.at_, none⟩ (.string p.offer)).setCell ⟨B, 0, none⟩ (.slice (some ⟨g2, 0, none⟩) S cap2)) := by
    repeat (refine Ext.setN (by omega) ?_ _ _)
    exact hE2
  have hR6 : RefV ((w2.setCell ⟨g2, p.at_, none⟩ (.string p.offer)).setCell ⟨B, 0, none⟩ (.slice (some ⟨g2, 0, none⟩) S cap2)).heap S Pn (some ⟨g2, 0, none⟩) cap2 wao wcap pg pcap { X with slots := X.slots.set p.at_ p.offer } := ⟨hs6, own_ext hR.w hE6 (by simp), own_ext hR.p hE6 (by simp)⟩
  clear hfar b0 bf c1 c5 hc gf hs6
  generalize (w2.setCell ⟨g2, p.at_, none⟩ (.string p.offer)).setCell ⟨B, 0, none⟩ (.slice (some ⟨g2, 0, none⟩) S cap2) = W6 at *
  have b0 := cellAt hB6 0
  have b1 := cellAt hB6 1
  have b2 := cellAt hB6 2
  have c0 := cellAt hC6 0
  have c1 := cellAt hC6 1
  have c2 := cellAt hC6 2
  have c3 := cellAt hC6 3
  have c4 := cellAt hC6 4
  have c5 := cellAt hC6 5
  simp [hph] at b0 b1 b2 c0 c1 c2 c3 c4 c5
  have hs7 := lt_of_heap hC6
  have ht2 : (X.slots.set p.at_ p.offer)[p.at_]? = some p.offer := by rw [List.getElem?_set_self (by omega)]
  obtain ⟨d, f, sl, y, hEE⟩ : ∃ d f sl y, p.sees S p.offer = (⟨d, f, sl⟩, y) := ⟨_, _, _, _, rfl⟩
  have hd : X.step who p = ({ X with slots := X.slots.set p.at_ p.offer, P := X.P.set who y }, ⟨d, f, sl⟩) := by unfold RW.step; rw [if_neg (by rw [hph]; decide), if_neg (by rw [hph]; decide), if_neg (by rw [hph]; decide), if_pos hph, hgd, if_pos hne, hsl, hEE]
  have HD := Hs.hid hd; clear hd
  have hEE2 : ({ p with next := 4 } : RP).sees S p.offer = (⟨d, f, sl⟩, y) := by rw [← hEE]; unfold RP.sees; rfl
  have HE := Hs.hid hEE2; clear hEE hEE2
  go_wp2_with (go_at_call 48; (refine (refSees_any S Pn (some ⟨g2, 0, none⟩) cap2 wao wcap pg pcap { X with slots := X.slots.set p.at_ p.offer } who { p with next := 4 } p.offer _ hR6 hw hl hS hp1 hp2 hp3 ht2).mono ?_); rw [HE.out]; rintro e w8 ⟨sao2, scap2, wao2, wcap2, g4, cap4, rfl, hR8, hx8, hk1', hk2, hg8⟩; have hD8 := hx8.same hD (by simp); have hQ8 := hx8.same hQ (by simp); have d0 := cellAt hD8 0; have d1 := cellAt hD8 1; have d2 := cellAt hD8 2; have df := freeAt hD8; have q0 := cellAt hQ8 0; have q1 := cellAt hQ8 1; have q2 := cellAt hQ8 2; have qf := freeAt hQ8; simp at d0 d1 d2 q0 q1 q2)
  have hk1 : Kept (.slice (some ⟨sg, 0, none⟩) S scap) (.slice sao2 S scap2) (B + 1 + 1 + 1 + 1) := by
    refine hk1'.via (fun q h => ?_) (by omega)
    have hq' : q = g2 := by simpa [Value.ownBlock] using h.symm
    omega
  refine bodyPost_ret (v := .tuple #[.agg #[.slice sao2 S scap2, .slice wao2 Pn wcap2, .slice (some ⟨g4, 0, none⟩) Pn cap4], .agg #[.bool d, .bool f, .int .i64 sl]]) (by simp [results, Try.results31, go_sem, d0, d1, d2, q0, q1, q2]) rfl ⟨sao2, scap2, wao2, wcap2, g4, cap4, by first | (rw [HD.out]; done) | (rw [HD.out]; rfl), ?_, ?_, hk1.mono (by omega), hk2.mono (by omega), by omega⟩
  · rw [HD.out]
    refine hR8.ext (F := [B + 1, B + 1 + 1]) (Ext.set' (by simp) (Ext.set' (by simp) (Ext.set' (by simp) (Ext.set' (by simp) (Ext.set' (by simp) (Ext.set' (by simp) (Ext.refl _ _) _ _) _ _) _ _) _ _) _ _) _ _) ?_
    intro q hq
    rcases hq with h | h | h
    · have := hk1.far hsb h; simp; omega
    · have := hk2.far hwb h; simp; omega
    · simp; omega
  · repeat (refine Ext.setN (by omega) ?_ _ _)
    exact (hE6).trans0 hx8
end Go.Proofs.Ytkhihpmadmmeaaa
set_option linter.unusedSimpArgs false
set_option linter.unusedVariables false
set_option maxHeartbeats 2000000
set_option maxRecDepth 100000
namespace Go.Proofs.Ytkhihpmadmmeaaa
open Go.RowKit Go.Hs

theorem refStep_head0 (S Pn : Nat) (sao : Option Addr) (scap : Nat) (wao : Option Addr) (wcap pg pcap : Nat) (X : RW) (who : Nat) (p : RP) (w : World) (hR : RefV w.heap S Pn sao scap wao wcap pg pcap X) (hp : X.P[who]? = some p) (hl : Pn ≤ 1000) (hS : S ≤ 1000)
    (hp1 : p.who < 1000000) (hp2 : p.seq < 1000000000000000) (hp3 : p.body.size < 100000) (hat : p.at_ ≤ S) (hph : p.next = 5) (hlt : S ≤ p.at_) :
    Calls Try.prog 31 #[.agg #[.slice sao S scap, .slice wao Pn wcap, .slice (some ⟨pg, 0, none⟩) Pn pcap], .int .i64 who] w fun e w' =>
      RStep w S Pn sao scap wao wcap e w' (X.step who p).1 (X.step who p).2 := by
  have hw := hR.lt hp
  have hw0 : (0 : Int) ≤ who := by omega
  have hwi : (who : Int) < Pn := by omega
  have hsl := hR.S_eq
  have hwl := hR.W_eq
  have ha0 : (0 : Int) ≤ p.at_ := by omega
  obtain ⟨hB, hD, hQ, hC, hE, hsz⟩ := alloc_four w (.cells #[.slice sao S scap, .slice wao Pn wcap, .slice (some ⟨pg, 0, none⟩) Pn pcap] 37) (.cells #[.slice none 0 0, .slice none 0 0, .slice none 0 0] 37) (.cells #[.bool false, .bool false, .int .i64 0] 65) (.cells #[.int .i64 p.next, .int .i64 p.at_, .int .i64 p.who, .int .i64 p.seq, .string p.body, .string p.offer] 62)
  have hE1 : Ext [] w (((w.alloc (.cells #[.slice sao S scap, .slice wao Pn wcap, .slice (some ⟨pg, 0, none⟩) Pn pcap] 37)).alloc (.cells #[.slice none 0 0, .slice none 0 0, .slice none 0 0] 37)).alloc (.cells #[.bool false, .bool false, .int .i64 0] 65)) := (((Ext.refl _ _).alloc _).alloc _).alloc _
  obtain ⟨e0, e1, e2, e3, e4, e5⟩ := (hR.ext0 hE1).at hp
  have HPH := Hs.hid hph
  clear hph
  go_enter Try.func31, Try.ntmps31
  go_upto_region 2 with fail
  have hRW := hR.ext0 hE
  generalize (((w.alloc (.cells #[.slice sao S scap, .slice wao Pn wcap, .slice (some ⟨pg, 0, none⟩) Pn pcap] 37)).alloc (.cells #[.slice none 0 0, .slice none 0 0, .slice none 0 0] 37)).alloc (.cells #[.bool false, .bool false, .int .i64 0] 65)).alloc (.cells #[.int .i64 p.next, .int .i64 p.at_, .int .i64 p.who, .int .i64 p.seq, .string p.body, .string p.offer] 62) = W at *
  generalize hBB : w.heap.size = B at *
  clear e0 e1 e2 e3 e4 e5 hE1
  have hph := HPH.out
  have b0 := cellAt hB 0
  have b1 := cellAt hB 1
  have b2 := cellAt hB 2
  have c0 := cellAt hC 0
  have c1 := cellAt hC 1
  have c2 := cellAt hC 2
  have c3 := cellAt hC 3
  have c4 := cellAt hC 4
  have c5 := cellAt hC 5
  have cf := freeAt hC
  simp [hph] at b0 b1 b2 c0 c1 c2 c3 c4 c5
  have hsb : ∀ q, (Value.slice sao S scap).ownBlock = some q → q < B := fun q h => by have := hR.s.lt h; omega
  have hwb : ∀ q, (Value.slice wao Pn wcap).ownBlock = some q → q < B := fun q h => by have := hR.w.lt h; omega
  have hfb : decide ((S : Int) ≤ p.at_) = true := by simp; omega
  have hfi : (S : Int) ≤ p.at_ := by omega
  have hd : X.step who p = ({ X with P := X.P.set who { p with next := 0 } }, ⟨true, false, p.at_⟩) := by unfold RW.step; rw [if_neg (by rw [hph]; decide), if_neg (by rw [hph]; decide), if_neg (by rw [hph]; decide), if_neg (by rw [hph]; decide), if_pos hph, if_pos (by rw [hsl]; exact .inl hlt)]
  have HD := Hs.hid hd; clear hd
  go_upto_region 21 with fail
  have hC9 := heap_set hC 0 (.int .i64 0)
  simp at hC9
  have hB9 := (heap_set_ne W ⟨B + 1 + 1 + 1, 0, none⟩ (.int .i64 0) (by show B + 1 + 1 + 1 ≠ B; omega)).trans hB
  have hD := (heap_set_ne W ⟨B + 1 + 1 + 1, 0, none⟩ (.int .i64 0) (by show B + 1 + 1 + 1 ≠ B + 1; omega)).trans hD
  have hQ := (heap_set_ne W ⟨B + 1 + 1 + 1, 0, none⟩ (.int .i64 0) (by show B + 1 + 1 + 1 ≠ B + 1 + 1; omega)).trans hQ
  have hE9 : Ext [] w (W.setCell ⟨B + 1 + 1 + 1, 0, none⟩ (.int .i64 0)) := Ext.setN (by omega) hE _ _
  clear b0 b1 b2 c0 c1 c2 c3 c4 c5 cf
  generalize W.setCell ⟨B + 1 + 1 + 1, 0, none⟩ (.int .i64 0) = W9 at *
  have b0 := cellAt hB9 0
  have b1 := cellAt hB9 1
  have b2 := cellAt hB9 2
  have c0 := cellAt hC9 0
  have c1 := cellAt hC9 1
  have c2 := cellAt hC9 2
  have c3 := cellAt hC9 3
  have c4 := cellAt hC9 4
  have c5 := cellAt hC9 5
  simp at b0 b1 b2 c0 c1 c2 c3 c4 c5
  have hs9 := lt_of_heap hC9
  have n1 : ¬ B + 1 + 1 = B := by omega
  have n2 : ¬ B = B + 1 + 1 := by omega
  have n3 : ¬ B + 1 + 1 + 1 = B := by omega
  have n4 : ¬ B = B + 1 + 1 + 1 := by omega
  have n5 : ¬ B + 1 + 1 + 1 = B + 1 := by omega
  have n6 : ¬ B + 1 = B + 1 + 1 + 1 := by omega
  go_region_held3 (fun w' => w'.cell? ⟨B, 0, none⟩ = some (.slice sao S scap) ∧ w'.cell? ⟨B, 1, none⟩ = some (.slice wao Pn wcap) ∧ w'.cell? ⟨B, 2, none⟩ = some (.slice (some ⟨pg, 0, none⟩) Pn pcap) ∧
      w'.cell? ⟨B + 1 + 1 + 1, 0, none⟩ = some (.int .i64 0) ∧ w'.cell? ⟨B + 1 + 1 + 1, 1, none⟩ = some (.int .i64 ↑p.at_) ∧ w'.cell? ⟨B + 1 + 1 + 1, 2, none⟩ = some (.int .i64 p.who) ∧ w'.cell? ⟨B + 1 + 1 + 1, 3, none⟩ = some (.int .i64 p.seq) ∧ w'.cell? ⟨B + 1 + 1 + 1, 4, none⟩ = some (.string p.body) ∧ w'.cell? ⟨B + 1 + 1 + 1, 5, none⟩ = some (.string p.offer))
    (first
      | go_keep
      | exact ⟨b0, b1, b2, c0, c1, c2, c3, c4, c5⟩
      | ((try dsimp only); (repeat' apply And.intro) <;> first | go_keep | (rw [World.cell?_setCell_far _ _ _ _ (by omega), World.cell?_setCell_far _ _ _ _ (by omega), World.cell?_setCell_far _ _ _ _ (by omega)]; assumption)))
    (first
      | (go_at_call 49; (refine (set_any S Pn sao scap wao wcap pg pcap X who { p with next := 0 } _ ?_ hw hl).mono ?_); (exact hR.ext0 hE9.drew); rintro e w8 ⟨g2, cap2, rfl, hR8, hx8, hg8⟩; have hD8 := hx8.same hD (by simp); have hQ8 := hx8.same hQ (by simp); have d0 := cellAt hD8 0; have d1 := cellAt hD8 1; have d2 := cellAt hD8 2; have df := freeAt hD8; have q0 := cellAt hQ8 0; have q1 := cellAt hQ8 1; have q2 := cellAt hQ8 2; have qf := freeAt hQ8; simp at d0 d1 d2 q0 q1 q2; have hB8 := hx8.same hB9 (by simp); have hC8 := hx8.same hC9 (by simp); clear b0 b1 b2 c0 c1 c2 c3 c4 c5; have b0 := cellAt hB8 0; have b1 := cellAt hB8 1; have b2 := cellAt hB8 2; have c0 := cellAt hC8 0; have c1 := cellAt hC8 1; have c2 := cellAt hC8 2; have c3 := cellAt hC8 3; have c4 := cellAt hC8 4; have c5 := cellAt hC8 5; simp at b0 b1 b2 c0 c1 c2 c3 c4 c5))
  all_goals
    go_wp2_with fail
    have hg9 : B + 1 + 1 + 1 < g2 := by first | omega | (simp at hg8; omega)
    refine bodyPost_ret (v := .tuple #[.agg #[.slice sao S scap, .slice wao Pn wcap, .slice (some ⟨g2, 0, none⟩) Pn cap2], .agg #[.bool true, .bool false, .int .i64 p.at_]]) (by simp [results, Try.results31, go_sem, d0, d1, d2, q0, q1, q2]) rfl ⟨sao, scap, wao, wcap, g2, cap2, by first | (rw [HD.out]; done) | (rw [HD.out]; rfl), ?_, ?_, .inl rfl, .inl rfl, by omega⟩
    · rw [HD.out]
      refine hR8.ext (F := [B + 1, B + 1 + 1]) (Ext.set' (by simp) (Ext.set' (by simp) (Ext.set' (by simp) (Ext.set' (by simp) (Ext.set' (by simp) (Ext.set' (by simp) (Ext.refl _ _) _ _) _ _) _ _) _ _) _ _) _ _) ?_
      intro q hq
      rcases hq with h | h | h
      · have := hsb q h; simp; omega
      · have := hwb q h; simp; omega
      · simp; omega
    · repeat (refine Ext.setN (by omega) ?_ _ _)
      exact (hE9.drew).trans0 hx8

theorem refStep_head1 (S Pn : Nat) (sao : Option Addr) (scap : Nat) (wao : Option Addr) (wcap pg pcap : Nat) (X : RW) (who : Nat) (p : RP) (w : World) (hR : RefV w.heap S Pn sao scap wao wcap pg pcap X) (hp : X.P[who]? = some p) (hl : Pn ≤ 1000) (hS : S ≤ 1000)
    (hp1 : p.who < 1000000) (hp2 : p.seq < 1000000000000000) (hp3 : p.body.size < 100000) (hat : p.at_ ≤ S) (hph : p.next = 5) (hlt : p.at_ < S) (hne : (X.slots.getD p.at_ ⟨#[]⟩).toList = []) :
    Calls Try.prog 31 #[.agg #[.slice sao S scap, .slice wao Pn wcap, .slice (some ⟨pg, 0, none⟩) Pn pcap], .int .i64 who] w fun e w' =>
      RStep w S Pn sao scap wao wcap e w' (X.step who p).1 (X.step who p).2 := by
  have hw := hR.lt hp
  have hw0 : (0 : Int) ≤ who := by omega
  have hwi : (who : Int) < Pn := by omega
  have hsl := hR.S_eq
  have hwl := hR.W_eq
  obtain ⟨t, ht⟩ : ∃ t, X.slots[p.at_]? = some t := ⟨_, List.getElem?_eq_getElem (by omega)⟩
  have hgd : X.slots.getD p.at_ ⟨#[]⟩ = t := by rw [List.getD_eq_getElem?_getD, ht]; rfl
  obtain ⟨sg, rfl, _, _⟩ := str_at hR.s ht
  have ha0 : (0 : Int) ≤ p.at_ := by omega
  have ha1 : (p.at_ : Int) < S := by omega
  obtain ⟨hB, hD, hQ, hC, hE, hsz⟩ := alloc_four w (.cells #[.slice (some ⟨sg, 0, none⟩) S scap, .slice wao Pn wcap, .slice (some ⟨pg, 0, none⟩) Pn pcap] 37) (.cells #[.slice none 0 0, .slice none 0 0, .slice none 0 0] 37) (.cells #[.bool false, .bool false, .int .i64 0] 65) (.cells #[.int .i64 p.next, .int .i64 p.at_, .int .i64 p.who, .int .i64 p.seq, .string p.body, .string p.offer] 62)
  have hE1 : Ext [] w (((w.alloc (.cells #[.slice (some ⟨sg, 0, none⟩) S scap, .slice wao Pn wcap, .slice (some ⟨pg, 0, none⟩) Pn pcap] 37)).alloc (.cells #[.slice none 0 0, .slice none 0 0, .slice none 0 0] 37)).alloc (.cells #[.bool false, .bool false, .int .i64 0] 65)) := (((Ext.refl _ _).alloc _).alloc _).alloc _
  obtain ⟨e0, e1, e2, e3, e4, e5⟩ := (hR.ext0 hE1).at hp
  have HPH := Hs.hid hph
  clear hph
  go_enter Try.func31, Try.ntmps31
  go_upto_region 2 with fail
  have hRW := hR.ext0 hE
  generalize (((w.alloc (.cells #[.slice (some ⟨sg, 0, none⟩) S scap, .slice wao Pn wcap, .slice (some ⟨pg, 0, none⟩) Pn pcap] 37)).alloc (.cells #[.slice none 0 0, .slice none 0 0, .slice none 0 0] 37)).alloc (.cells #[.bool false, .bool false, .int .i64 0] 65)).alloc (.cells #[.int .i64 p.next, .int .i64 p.at_, .int .i64 p.who, .int .i64 p.seq, .string p.body, .string p.offer] 62) = W at *
  generalize hBB : w.heap.size = B at *
  clear e0 e1 e2 e3 e4 e5 hE1
  have hph := HPH.out
  have b0 := cellAt hB 0
  have b1 := cellAt hB 1
  have b2 := cellAt hB 2
  have c0 := cellAt hC 0
  have c1 := cellAt hC 1
  have c2 := cellAt hC 2
  have c3 := cellAt hC 3
  have c4 := cellAt hC 4
  have c5 := cellAt hC 5
  have cf := freeAt hC
  simp [hph] at b0 b1 b2 c0 c1 c2 c3 c4 c5
  have hsb : ∀ q, (Value.slice (some ⟨sg, 0, none⟩) S scap).ownBlock = some q → q < B := fun q h => by have := hR.s.lt h; omega
  have hwb : ∀ q, (Value.slice wao Pn wcap).ownBlock = some q → q < B := fun q h => by have := hR.w.lt h; omega
  have hcell := str_at' hRW.s ht
  rw [hgd] at hne
  have hse : t.toList.isEmpty = true := by simp [hne]
  have hfb : decide ((S : Int) ≤ p.at_) = false := by simp; omega
  have hfi : ¬ (S : Int) ≤ p.at_ := by omega
  have hd : X.step who p = ({ X with P := X.P.set who { p with next := 0 } }, ⟨true, false, p.at_⟩) := by unfold RW.step; rw [if_neg (by rw [hph]; decide), if_neg (by rw [hph]; decide), if_neg (by rw [hph]; decide), if_neg (by rw [hph]; decide), if_pos hph, hgd, if_pos (.inr hne)]
  have HD := Hs.hid hd; clear hd
  go_upto_region 21 with fail
  have hC9 := heap_set hC 0 (.int .i64 0)
  simp at hC9
  have hB9 := (heap_set_ne W ⟨B + 1 + 1 + 1, 0, none⟩ (.int .i64 0) (by show B + 1 + 1 + 1 ≠ B; omega)).trans hB
  have hD := (heap_set_ne W ⟨B + 1 + 1 + 1, 0, none⟩ (.int .i64 0) (by show B + 1 + 1 + 1 ≠ B + 1; omega)).trans hD
  have hQ := (heap_set_ne W ⟨B + 1 + 1 + 1, 0, none⟩ (.int .i64 0) (by show B + 1 + 1 + 1 ≠ B + 1 + 1; omega)).trans hQ
  have hE9 : Ext [] w (W.setCell ⟨B + 1 + 1 + 1, 0, none⟩ (.int .i64 0)) := Ext.setN (by omega) hE _ _
  clear b0 b1 b2 c0 c1 c2 c3 c4 c5 cf
  generalize W.setCell ⟨B + 1 + 1 + 1, 0, none⟩ (.int .i64 0) = W9 at *
  have b0 := cellAt hB9 0
  have b1 := cellAt hB9 1
  have b2 := cellAt hB9 2
  have c0 := cellAt hC9 0
  have c1 := cellAt hC9 1
  have c2 := cellAt hC9 2
  have c3 := cellAt hC9 3
  have c4 := cellAt hC9 4
  have c5 := cellAt hC9 5
  simp at b0 b1 b2 c0 c1 c2 c3 c4 c5
  have hs9 := lt_of_heap hC9
  have n1 : ¬ B + 1 + 1 = B := by omega
  have n2 : ¬ B = B + 1 + 1 := by omega
  have n3 : ¬ B + 1 + 1 + 1 = B := by omega
  have n4 : ¬ B = B + 1 + 1 + 1 := by omega
  have n5 : ¬ B + 1 + 1 + 1 = B + 1 := by omega
  have n6 : ¬ B + 1 = B + 1 + 1 + 1 := by omega
  go_region_held3 (fun w' => w'.cell? ⟨B, 0, none⟩ = some (.slice (some ⟨sg, 0, none⟩) S scap) ∧ w'.cell? ⟨B, 1, none⟩ = some (.slice wao Pn wcap) ∧ w'.cell? ⟨B, 2, none⟩ = some (.slice (some ⟨pg, 0, none⟩) Pn pcap) ∧
      w'.cell? ⟨B + 1 + 1 + 1, 0, none⟩ = some (.int .i64 0) ∧ w'.cell? ⟨B + 1 + 1 + 1, 1, none⟩ = some (.int .i64 ↑p.at_) ∧ w'.cell? ⟨B + 1 + 1 + 1, 2, none⟩ = some (.int .i64 p.who) ∧ w'.cell? ⟨B + 1 + 1 + 1, 3, none⟩ = some (.int .i64 p.seq) ∧ w'.cell? ⟨B + 1 + 1 + 1, 4, none⟩ = some (.string p.body) ∧ w'.cell? ⟨B + 1 + 1 + 1, 5, none⟩ = some (.string p.offer))
    (first
      | go_keep
      | exact ⟨b0, b1, b2, c0, c1, c2, c3, c4, c5⟩
      | ((try dsimp only); (repeat' apply And.intro) <;> first | go_keep | (rw [World.cell?_setCell_far _ _ _ _ (by omega), World.cell?_setCell_far _ _ _ _ (by omega), World.cell?_setCell_far _ _ _ _ (by omega)]; assumption)))
    (first
      | (go_at_call 49; (refine (set_any S Pn (some ⟨sg, 0, none⟩) scap wao wcap pg pcap X who { p with next := 0 } _ ?_ hw hl).mono ?_); (exact hR.ext0 hE9.drew); rintro e w8 ⟨g2, cap2, rfl, hR8, hx8, hg8⟩; have hD8 := hx8.same hD (by simp); have hQ8 := hx8.same hQ (by simp); have d0 := cellAt hD8 0; have d1 := cellAt hD8 1; have d2 := cellAt hD8 2; have df := freeAt hD8; have q0 := cellAt hQ8 0; have q1 := cellAt hQ8 1; have q2 := cellAt hQ8 2; have qf := freeAt hQ8; simp at d0 d1 d2 q0 q1 q2; have hB8 := hx8.same hB9 (by simp); have hC8 := hx8.same hC9 (by simp); clear b0 b1 b2 c0 c1 c2 c3 c4 c5; have b0 := cellAt hB8 0; have b1 := cellAt hB8 1; have b2 := cellAt hB8 2; have c0 := cellAt hC8 0; have c1 := cellAt hC8 1; have c2 := cellAt hC8 2; have c3 := cellAt hC8 3; have c4 := cellAt hC8 4; have c5 := cellAt hC8 5; simp at b0 b1 b2 c0 c1 c2 c3 c4 c5))
  all_goals
    go_wp2_with fail
    have hg9 : B + 1 + 1 + 1 < g2 := by first | omega | (simp at hg8; omega)
    refine bodyPost_ret (v := .tuple #[.agg #[.slice (some ⟨sg, 0, none⟩) S scap, .slice wao Pn wcap, .slice (some ⟨g2, 0, none⟩) Pn cap2], .agg #[.bool true, .bool false, .int .i64 p.at_]]) (by simp [results, Try.results31, go_sem, d0, d1, d2, q0, q1, q2]) rfl ⟨some ⟨sg, 0, none⟩, scap, wao, wcap, g2, cap2, by first | (rw [HD.out]; done) | (rw [HD.out]; rfl), ?_, ?_, .inl rfl, .inl rfl, by omega⟩
    · rw [HD.out]
      refine hR8.ext (F := [B + 1, B + 1 + 1]) (Ext.set' (by simp) (Ext.set' (by simp) (Ext.set' (by simp) (Ext.set' (by simp) (Ext.set' (by simp) (Ext.set' (by simp) (Ext.refl _ _) _ _) _ _) _ _) _ _) _ _) _ _) ?_
      intro q hq
      rcases hq with h | h | h
      · have := hsb q h; simp; omega
      · have := hwb q h; simp; omega
      · simp; omega
    · repeat (refine Ext.setN (by omega) ?_ _ _)
      exact (hE9.drew).trans0 hx8
end Go.Proofs.Ytkhihpmadmmeaaa
set_option linter.unusedSimpArgs false
set_option linter.unusedVariables false
set_option maxHeartbeats 2000000
set_option maxRecDepth 100000
namespace Go.Proofs.Ytkhihpmadmmeaaa
open Go.RowKit Go.Hs

/-- The blocks of a memory. -/
def foot (mb mc mm : Nat) (lv : Value) : List Nat := [mb, mc, mm] ++ lv.ownBlock.toList
theorem IsMem.ext {F : List Nat} {w w' : World} {mb mc mm : Nat} {lv : Value} {M : MSt} (h : IsMem w.heap mb mc mm lv M) (hx : Ext F w w') (hF : ∀ g ∈ foot mb mc mm lv, g ∉ F) : IsMem w'.heap mb mc mm lv M := by
  obtain ⟨cnt, hm⟩ := h.hm
  refine ⟨hx.same h.hb (hF mb (by simp [foot])), hx.same h.hc (hF mc (by simp [foot])), ⟨cnt, hm.ext hx (hF mm (by simp [foot]))⟩, h.hl.same fun g hg => ?_, h.hg⟩
  obtain ⟨cur, hcur⟩ := h.hl.block hg
  exact (hx.same hcur (hF g (by simp [foot, hg]))).trans hcur.symm
theorem IsMem.ext0 {w w' : World} {mb mc mm : Nat} {lv : Value} {M : MSt} (h : IsMem w.heap mb mc mm lv M) (hx : Ext [] w w') : IsMem w'.heap mb mc mm lv M := h.ext hx (by simp)
theorem IsMem.lt {h : Array Obj} {mb mc mm : Nat} {lv : Value} {M : MSt} (hM : IsMem h mb mc mm lv M) : ∀ g ∈ foot mb mc mm lv, g < h.size := by
  intro g hg
  obtain ⟨cnt, hm⟩ := hM.hm
  simp [foot] at hg
  rcases hg with rfl | rfl | rfl | hg
  · exact lt_of_heap hM.hb
  · exact lt_of_heap hM.hc
  · exact hm.lt
  · exact hM.hl.lt hg
/-- A process and a memory, apart. -/
structure PM (h : Array Obj) (b m : Nat) (x : PSt) (mb mc mm : Nat) (lv : Value) (M : MSt) : Prop where
  pr : IsProc h b m x
  me : IsMem h mb mc mm lv M
  ne : m ≠ mm
theorem PM.apart {h : Array Obj} {b m : Nat} {x : PSt} {mb mc mm : Nat} {lv : Value} {M : MSt} (hP : PM h b m x mb mc mm lv M) : (b ∉ foot mb mc mm lv) ∧ (m ∉ foot mb mc mm lv) := by
  obtain ⟨cnt, hm⟩ := hP.me.hm
  constructor
  · intro hb
    simp [foot] at hb
    rcases hb with rfl | rfl | rfl | hb
    · exact absurd rfl (ne_block hP.pr.hb hP.me.hb (by simp))
    · exact absurd rfl (ne_block hP.pr.hb hP.me.hc (by simp))
    · exact absurd rfl (hm.ne hP.pr.hb)
    · obtain ⟨cur, hcur⟩ := hP.me.hl.block hb
      exact absurd rfl (ne_block hP.pr.hb hcur (by simp))
  · intro hb
    simp [foot] at hb
    rcases hb with rfl | rfl | rfl | hb
    · exact absurd rfl (hP.pr.hm.ne hP.me.hb)
    · exact absurd rfl (hP.pr.hm.ne hP.me.hc)
    · exact hP.ne rfl
    · obtain ⟨cur, hcur⟩ := hP.me.hl.block hb
      exact absurd rfl (hP.pr.hm.ne hcur)
theorem PM.apart' {h : Array Obj} {b m : Nat} {x : PSt} {mb mc mm : Nat} {lv : Value} {M : MSt} (hP : PM h b m x mb mc mm lv M) : ∀ g ∈ foot mb mc mm lv, g ∉ [b, m] := by
  intro g hg hm
  simp at hm
  rcases hm with rfl | rfl
  · exact hP.apart.1 hg
  · exact hP.apart.2 hg
/-- Behind an access: the process is as it was. -/
theorem PM.acted {w w' : World} {b m : Nat} {x : PSt} {mb mc mm : Nat} {lv lv' : Value} {M M' : MSt} (hP : PM w.heap b m x mb mc mm lv M) (hM : IsMem w'.heap mb mc mm lv' M') (hx : Ext (foot mb mc mm lv) w w') :
    PM w'.heap b m x mb mc mm lv' M' := ⟨hP.pr.ext hx hP.apart.1 hP.apart.2, hM, hP.ne⟩
theorem PM.ext0 {w w' : World} {b m : Nat} {x : PSt} {mb mc mm : Nat} {lv : Value} {M : MSt} (hP : PM w.heap b m x mb mc mm lv M) (hx : Ext [] w w') : PM w'.heap b m x mb mc mm lv M :=
  ⟨hP.pr.ext hx (by simp) (by simp), hP.me.ext0 hx, hP.ne⟩
/-- Behind what only the process does. -/
theorem PM.moved {w w' : World} {b m : Nat} {x y : PSt} {mb mc mm : Nat} {lv : Value} {M : MSt} (hP : PM w.heap b m x mb mc mm lv M) (hI : IsProc w'.heap b m y) (hx : Ext [b, m] w w') : PM w'.heap b m y mb mc mm lv M :=
  ⟨hI, hP.me.ext hx hP.apart', hP.ne⟩
theorem PM.alloc {w : World} {b m : Nat} {x : PSt} {mb mc mm : Nat} {lv : Value} {M : MSt} (hP : PM w.heap b m x mb mc mm lv M) (o : Obj) : PM (w.alloc o).heap b m x mb mc mm lv M := hP.ext0 ((Ext.refl _ _).alloc o)

theorem PM.res {w : World} {b m A : Nat} {x : PSt} {mb mc mm : Nat} {lv : Value} {M : MSt} {cs : Array Value} {fr : Nat × Nat} (hP : PM w.heap b m x mb mc mm lv M) (hA : w.heap[A]? = some (.cells cs 42 fr)) (v0 v1 v2 : Value) :
    PM (((w.setCell ⟨A, 0, none⟩ v0).setCell ⟨A, 1, none⟩ v1).setCell ⟨A, 2, none⟩ v2).heap b m x mb mc mm lv M := by
  have hx : Ext [A] w (((w.setCell ⟨A, 0, none⟩ v0).setCell ⟨A, 1, none⟩ v1).setCell ⟨A, 2, none⟩ v2) := Ext.set' (by simp) (Ext.set' (by simp) (Ext.set' (by simp) (Ext.refl _ _) _ _) _ _) _ _
  obtain ⟨cnt, hm⟩ := hP.me.hm
  refine ⟨hP.pr.ext hx (by simpa using ne_block hP.pr.hb hA (by simp)) (by simpa using fun e => hP.pr.hm.ne hA e.symm), hP.me.ext hx fun g hg => ?_, hP.ne⟩
  simp [foot] at hg
  rcases hg with rfl | rfl | rfl | hg
  · simpa using ne_block hP.me.hb hA (by simp)
  · simpa using ne_block hP.me.hc hA (by simp)
  · simpa using fun e => hm.ne hA e.symm
  · obtain ⟨cur, hcur⟩ := hP.me.hl.block hg
    simpa using ne_block hcur hA (by simp)
abbrev noText : ByteArray := ⟨#[]⟩
def PSt.rd (c : Int) : Acc := ⟨1, c, noText, noText⟩
noncomputable def PSt.look (x : PSt) (M : MSt) : EndR × PSt :=
  if (M.at (x.P + x.at_)).toList = [] then (.no, x.ph 3) else x.after (M.at (x.P + x.at_))
theorem after_at (b m : Nat) (x : PSt) (s : ByteArray) (w : World) (hI : IsProc w.heap b m x) (hx : x.Ok) {d f : Bool} {sl : Int} {y : PSt} (h : x.after s = (⟨d, f, sl⟩, y)) :
    Calls Try.prog 43 #[.pointer (some ⟨b, 0, none⟩), .string s] w fun e w' => e = .returned (.agg #[.bool d, .bool f, .int .i64 sl]) ∧ IsProc w'.heap b m y ∧ Ext [b, m] w w' := by
  have := after_any b m x s w hI hx
  rw [h] at this
  exact this
/-- The post of a step. -/
def Stepped (w : World) (b m mb mc mm : Nat) (lv : Value) (e : Ending) (w' : World) (E : EndR) (y : PSt) (M' : MSt) : Prop :=
  ∃ lv', e = .returned E.val ∧ PM w'.heap b m y mb mc mm lv' M' ∧ Ext ([b, m] ++ foot mb mc mm lv) w w'
theorem look_any (b m : Nat) (x : PSt) (mb mc mm : Nat) (lv : Value) (M : MSt) (w : World) (hP : PM w.heap b m x mb mc mm lv M) (hx : x.Ok) (hS : x.at_ < x.S) (hc : M.cells.length = x.P + x.S) (hn : M.log.length < 1000000) :
    Calls Try.prog 41 #[.pointer (some ⟨b, 0, none⟩), .pointer (some ⟨mb, 0, none⟩)] w fun e w' =>
      Stepped w b m mb mc mm lv e w' (x.look M).1 (x.look M).2 (M.act (PSt.rd (x.P + x.at_))) := by
  have hat := hx.at_
  have hxP := hx.P
  have hxS := hx.S
  have hati : (x.at_ : Int) ≤ 1000 := by omega
  have hati0 : (0 : Int) ≤ x.at_ := by omega
  have hPi : (x.P : Int) ≤ 1000 := by omega
  have hPi0 : (0 : Int) ≤ x.P := by omega
  have hAP : w.heap.size ∉ ([b, m] ++ foot mb mc mm lv) := by
    intro h
    rcases List.mem_append.1 h with h | h
    · exact notIn2 hP.pr h
    · have := hP.me.lt _ h; omega
  have hA0 := heap_new w (.cells #[.bool false, .bool false, .int .i64 0] 42)
  have hP0 := hP.alloc (.cells #[.bool false, .bool false, .int .i64 0] 42)
  have hE0 : Ext ([b, m] ++ foot mb mc mm lv) w (w.alloc (.cells #[.bool false, .bool false, .int .i64 0] 42)) := (Ext.refl _ _).alloc _
  go_enter Try.func41, Try.ntmps41
  go_wp2_with fail
  generalize w.alloc (.cells #[.bool false, .bool false, .int .i64 0] 42) = W at *
  have hq := hP0.pr.hb; simp only [PSt.cells] at hq; have k0 := cellAt hq 0; have k1 := cellAt hq 1; have k2 := cellAt hq 2; have k4 := cellAt hq 4; simp at k0 k1 k2 k4
  go_cut [5] (fun s wx => ∃ lv', s = .string (M.at (x.P + x.at_)) ∧ PM wx.heap b m x mb mc mm lv' (M.act (PSt.rd (x.P + x.at_))) ∧ Ext ([b, m] ++ foot mb mc mm lv) w wx ∧ wx.heap[w.heap.size]? = some (.cells #[.bool false, .bool false, .int .i64 0] 42 (0, 0)))
  case first =>
    go_region_held3 (fun w' => w'.cell? ⟨b, 0, none⟩ = some (.int .i64 ↑x.P) ∧ w'.cell? ⟨b, 1, none⟩ = some (.int .i64 ↑x.S) ∧ w'.cell? ⟨b, 2, none⟩ = some (.int .i64 ↑x.who) ∧ w'.cell? ⟨b, 4, none⟩ = some (.int .i64 ↑x.at_))
      (first
        | go_keep
        | exact ⟨k0, k1, k2, k4⟩)
      (first
        | (go_at_call 12; (with_reducible refine (slot_any x.P x.S x.at_ _ (by omega) (by omega) (by omega) (by omega)).mono ?_); rintro e w1 ⟨rfl, hx1⟩; have hP1 := PM.ext0 (w := World.drew W) hP0 hx1; clear k0 k1 k2 k4 hq; have hq := hP1.pr.hb; simp only [PSt.cells] at hq; have k0 := cellAt hq 0; have k1 := cellAt hq 1; have k2 := cellAt hq 2; have k4 := cellAt hq 4; simp at k0 k1 k2 k4)
        | (go_at_call 38; (with_reducible refine (do_any mb mc mm lv M x.who 1 (x.P + x.at_) noText noText _ ?_ (by omega) (by omega) (by omega) ?_ hn ?_).mono ?_); exact hP1.me; (rw [hc]; omega); (rw [hc]; omega); rintro e w2 ⟨lv2, rfl, hM2, hx2⟩; have hP2 := hP1.acted hM2 hx2; clear k0 k1 k2 k4 hq; have hq := hP2.pr.hb; simp only [PSt.cells] at hq; have k0 := cellAt hq 0; have k1 := cellAt hq 1; have k2 := cellAt hq 2; have k4 := cellAt hq 4; simp at k0 k1 k2 k4))
    all_goals
      go_wp2_with fail
      go_meet
      exact ⟨lv2, rfl, hP2, (hE0.drew.trans0 hx1).trans hx2 (fun g hg => .inl (List.mem_append_right _ hg)), hx2.same (hx1.same hA0 (by simp)) (fun h => hAP (List.mem_append_right _ h))⟩
  case rest =>
    obtain ⟨lv2, rfl, hP2, hE2, hA2⟩ := hcut
    have r0 := cellAt hA2 0
    have r1 := cellAt hA2 1
    have r2 := cellAt hA2 2
    have rf := freeAt hA2
    simp at r0 r1 r2
    have hAb := hAP
    have hbE : b ∈ ([b, m] ++ foot mb mc mm lv) := by simp
    by_cases hs : (M.at (x.P + x.at_)).toList = []
    · have hd : x.look M = (.no, x.ph 3) := by unfold PSt.look; rw [if_pos hs]
      have HD := Hs.hid hd; clear hd
      have hse : (M.at (x.P + x.at_)).toList.isEmpty = true := by simp [hs]
      have f3 := freeAt hP2.pr.hb 3
      have c3 := cellAt hP2.pr.hb 3
      simp [PSt.cells] at c3
      have hne : w.heap.size ≠ b := fun e => hAP (by rw [e]; simp)
      go_wp2
      refine bodyPost_ret (v := EndR.no.val) (by simp [results, Try.results41, go_sem, r0, r1, r2, EndR.val, EndR.no]) rfl ⟨lv2, by rw [HD.out], ?_, ?_⟩
      · rw [HD.out]
        have h3 := hP2.moved (hP2.pr.phase 3) (Ext.set' (by simp) (Ext.refl _ _) _ _)
        exact h3.res ((heap_set_ne _ _ _ hne.symm).trans hA2) _ _ _
      · repeat (refine Ext.setN (Nat.le_refl _) ?_ _ _)
        exact Ext.set' hbE hE2 _ _
    · obtain ⟨d, f, sl, y, hay⟩ : ∃ d f sl y, x.after (M.at (x.P + x.at_)) = (⟨d, f, sl⟩, y) := ⟨_, _, _, _, rfl⟩
      have hd : x.look M = (⟨d, f, sl⟩, y) := by unfold PSt.look; rw [if_neg hs, hay]
      have HD := Hs.hid hd; clear hd
      have HY := Hs.hid hay; clear hay
      have hse : (M.at (x.P + x.at_)).toList.isEmpty = false := by simp [hs]
      go_wp2_with (go_at_call 43; (with_reducible refine (after_at b m x (M.at (x.P + x.at_)) _ hP2.pr hx HY.out).mono ?_); rintro e w3 ⟨rfl, hI3, hx3⟩; have hA3 := hx3.same hA2 (fun h => hAP (List.mem_append_left _ h)); have t0 := cellAt hA3 0; have t1 := cellAt hA3 1; have t2 := cellAt hA3 2; have tf := freeAt hA3; simp at t0 t1 t2)
      refine bodyPost_ret (v := .agg #[.bool d, .bool f, .int .i64 sl]) (by simp [results, Try.results41, go_sem, t0, t1, t2]) rfl ⟨lv2, by rw [HD.out]; rfl, ?_, ?_⟩
      · rw [HD.out]
        exact (hP2.moved hI3 hx3).res hA3 _ _ _
      · repeat (refine Ext.setN (Nat.le_refl _) ?_ _ _)
        exact hE2.trans hx3 (fun g hg => .inl (List.mem_append_left _ hg))
end Go.Proofs.Ytkhihpmadmmeaaa
set_option linter.unusedSimpArgs false
set_option linter.unusedVariables false
set_option maxHeartbeats 2000000
set_option maxRecDepth 100000
namespace Go.Proofs.Ytkhihpmadmmeaaa
open Go.RowKit Go.Hs

noncomputable def PSt.head (x : PSt) (M : MSt) : EndR × PSt × Acc :=
  if x.S ≤ x.at_ then (⟨true, false, x.at_⟩, x.ph 0, PSt.rd x.who)
  else if (M.at (x.P + x.at_)).toList = [] then (⟨true, false, x.at_⟩, x.ph 0, PSt.rd (x.P + x.at_))
  else (.no, (x.decide (M.at (x.P + x.at_))).ph 5, PSt.rd (x.P + x.at_))
theorem PM.decided {w w' : World} {b m : Nat} {x y : PSt} {mb mc mm : Nat} {lv : Value} {M : MSt} (hP : PM w.heap b m x mb mc mm lv M) (k : Int) : PM (w.setCell ⟨b, 3, none⟩ (.int .i64 k)).heap b m (x.ph k) mb mc mm lv M :=
  hP.moved (hP.pr.phase k) (Ext.set' (by simp) (Ext.refl _ _) _ _)
theorem head_step (b m : Nat) (x : PSt) (mb mc mm : Nat) (lv : Value) (M : MSt) (w : World) (hP : PM w.heap b m x mb mc mm lv M) (hx : x.Ok) (hw : x.who < x.P) (hc : M.cells.length = x.P + x.S) (hn : M.log.length < 1000000) :
    Calls Try.prog 44 #[.pointer (some ⟨b, 0, none⟩), .pointer (some ⟨mb, 0, none⟩)] w fun e w' =>
      Stepped w b m mb mc mm lv e w' (x.head M).1 (x.head M).2.1 (M.act (x.head M).2.2) := by
  have hat := hx.at_
  have hxP := hx.P
  have hxS := hx.S
  have hxw := hx.who
  have hati : (x.at_ : Int) ≤ 1000 := by omega
  have hati0 : (0 : Int) ≤ x.at_ := by omega
  have hPi : (x.P : Int) ≤ 1000 := by omega
  have hPi0 : (1 : Int) ≤ x.P := by omega
  have hAP : w.heap.size ∉ ([b, m] ++ foot mb mc mm lv) := by
    intro h
    rcases List.mem_append.1 h with h | h
    · exact notIn2 hP.pr h
    · have := hP.me.lt _ h; omega
  have hA0 := heap_new w (.cells #[.bool false, .bool false, .int .i64 0] 42)
  have hP0 := hP.alloc (.cells #[.bool false, .bool false, .int .i64 0] 42)
  have hE0 : Ext ([b, m] ++ foot mb mc mm lv) w (w.alloc (.cells #[.bool false, .bool false, .int .i64 0] 42)) := (Ext.refl _ _).alloc _
  have hne : w.heap.size ≠ b := fun e => hAP (by rw [e]; simp)
  have hbE : b ∈ ([b, m] ++ foot mb mc mm lv) := by simp
  by_cases hf : x.S ≤ x.at_
  · have hd : x.head M = (⟨true, false, x.at_⟩, x.ph 0, PSt.rd x.who) := by unfold PSt.head; rw [if_pos hf]
    have HD := Hs.hid hd; clear hd
    have hfb : decide (x.S ≤ x.at_) = true := decide_eq_true hf
    go_enter Try.func44, Try.ntmps44
    go_upto_region 2 with (go_at_call 39; (with_reducible refine (full_any b m x _ hP0.pr).mono ?_); rintro e w9 ⟨rfl, n9, rfl⟩)
    have hP0' : PM ((w.alloc (.cells #[.bool false, .bool false, .int .i64 0] 42)).drewN n9).heap b m x mb mc mm lv M := hP0
    have hA0' : ((w.alloc (.cells #[.bool false, .bool false, .int .i64 0] 42)).drewN n9).heap[w.heap.size]? = some (.cells #[.bool false, .bool false, .int .i64 0] 42 (0, 0)) := hA0
    have hE0' := hE0.drewN n9
    generalize (w.alloc (.cells #[.bool false, .bool false, .int .i64 0] 42)).drewN n9 = W at *
    have hq := hP0'.pr.hb; simp only [PSt.cells] at hq; have k0 := cellAt hq 0; have k1 := cellAt hq 1; have k2 := cellAt hq 2; simp at k0 k1 k2
    go_cut [] (fun  wx => ∃ lv', PM wx.heap b m x mb mc mm lv' (M.act (PSt.rd x.who)) ∧ Ext ([b, m] ++ foot mb mc mm lv) w wx ∧ wx.heap[w.heap.size]? = some (.cells #[.bool false, .bool false, .int .i64 0] 42 (0, 0)))
    case first =>
      go_region_held3 (fun w' => w'.cell? ⟨b, 0, none⟩ = some (.int .i64 ↑x.P) ∧ w'.cell? ⟨b, 1, none⟩ = some (.int .i64 ↑x.S) ∧ w'.cell? ⟨b, 2, none⟩ = some (.int .i64 ↑x.who))
        (first
          | go_keep
          | exact ⟨k0, k1, k2⟩)
        (first
            | (go_at_call 11; (with_reducible refine (wish_any x.P x.S x.who _).mono ?_); rintro e w1 ⟨rfl, hx1⟩; have hP1 := PM.ext0 (w := World.drew W) hP0' hx1; clear k0 k1 k2 hq; have hq := hP1.pr.hb; simp only [PSt.cells] at hq; have k0 := cellAt hq 0; have k1 := cellAt hq 1; have k2 := cellAt hq 2; simp at k0 k1 k2)
            | (go_at_call 38; (with_reducible refine (do_any mb mc mm lv M x.who 1 x.who noText noText _ ?_ (by omega) (by omega) (by omega) ?_ hn ?_).mono ?_); exact hP1.me; (rw [hc]; omega); (rw [hc]; omega); rintro e w8 ⟨lv2, rfl, hM2, hx8⟩; have hP8 := hP1.acted hM2 hx8; clear k0 k1 k2 hq; have hq := hP8.pr.hb; simp only [PSt.cells] at hq; have k0 := cellAt hq 0; have k1 := cellAt hq 1; have k2 := cellAt hq 2; simp at k0 k1 k2))
      all_goals
        go_wp2_with fail
        go_meet
        exact ⟨lv2, hP8, ((hE0'.drew).trans0 hx1).trans hx8 (fun g hg => .inl (List.mem_append_right _ hg)), hx8.same (hx1.same hA0' (by simp)) (fun h => hAP (List.mem_append_right _ h))⟩
    case rest =>
      obtain ⟨lv2, hP2, hE2, hA2⟩ := hcut
      have r0 := cellAt hA2 0
      have r1 := cellAt hA2 1
      have r2 := cellAt hA2 2
      have rf := freeAt hA2
      simp at r0 r1 r2
      clear k0 k1 k2 hq
      have c4 := cellAt hP2.pr.hb 4
      simp [PSt.cells] at c4
      go_wp2_with (go_at_call 40; (with_reducible refine (end_any b m x true false x.at_ _ hP2.pr).mono ?_); rintro e w3 ⟨rfl, hI3, hx3⟩; have hA3 := hx3.same hA2 (fun h => hAP (List.mem_append_left _ (List.mem_cons.2 (.inl (List.mem_singleton.1 h))))); have t0 := cellAt hA3 0; have t1 := cellAt hA3 1; have t2 := cellAt hA3 2; have tf := freeAt hA3; simp at t0 t1 t2)
      refine bodyPost_ret (v := .agg #[.bool true, .bool false, .int .i64 x.at_]) (by simp [results, Try.results44, go_sem, t0, t1, t2, EndR.val, EndR.no]) rfl ⟨lv2, by rw [HD.out]; rfl, ?_, ?_⟩
      · rw [HD.out]
        exact (hP2.moved hI3 (hx3.mono (by simp))).res hA3 _ _ _
      · repeat (refine Ext.setN (Nat.le_refl _) ?_ _ _)
        exact hE2.trans hx3 (fun g hg => .inl (List.mem_append_left _ (List.mem_cons.2 (.inl (List.mem_singleton.1 hg)))))
  · have hfb : decide (x.S ≤ x.at_) = false := decide_eq_false hf
    go_enter Try.func44, Try.ntmps44
    go_upto_region 4 with (go_at_call 39; (with_reducible refine (full_any b m x _ hP0.pr).mono ?_); rintro e w9 ⟨rfl, n9, rfl⟩)
    have hP0' : PM ((w.alloc (.cells #[.bool false, .bool false, .int .i64 0] 42)).drewN n9).heap b m x mb mc mm lv M := hP0
    have hA0' : ((w.alloc (.cells #[.bool false, .bool false, .int .i64 0] 42)).drewN n9).heap[w.heap.size]? = some (.cells #[.bool false, .bool false, .int .i64 0] 42 (0, 0)) := hA0
    have hE0' := hE0.drewN n9
    generalize (w.alloc (.cells #[.bool false, .bool false, .int .i64 0] 42)).drewN n9 = W at *
    have hq := hP0'.pr.hb; simp only [PSt.cells] at hq; have k0 := cellAt hq 0; have k1 := cellAt hq 1; have k2 := cellAt hq 2; have k4 := cellAt hq 4; simp at k0 k1 k2 k4
    go_cut [5] (fun s5 wx => ∃ lv', s5 = .string (M.at (x.P + x.at_)) ∧ PM wx.heap b m x mb mc mm lv' (M.act (PSt.rd (x.P + x.at_))) ∧ Ext ([b, m] ++ foot mb mc mm lv) w wx ∧ wx.heap[w.heap.size]? = some (.cells #[.bool false, .bool false, .int .i64 0] 42 (0, 0)))
    case first =>
      go_region_held3 (fun w' => w'.cell? ⟨b, 0, none⟩ = some (.int .i64 ↑x.P) ∧ w'.cell? ⟨b, 1, none⟩ = some (.int .i64 ↑x.S) ∧ w'.cell? ⟨b, 2, none⟩ = some (.int .i64 ↑x.who) ∧ w'.cell? ⟨b, 4, none⟩ = some (.int .i64 ↑x.at_))
        (first
          | go_keep
          | exact ⟨k0, k1, k2, k4⟩)
        (first
            | (go_at_call 12; (with_reducible refine (slot_any x.P x.S x.at_ _ (by omega) (by omega) (by omega) (by omega)).mono ?_); rintro e w1 ⟨rfl, hx1⟩; have hP1 := PM.ext0 (w := World.drew W) hP0' hx1; clear k0 k1 k2 k4 hq; have hq := hP1.pr.hb; simp only [PSt.cells] at hq; have k0 := cellAt hq 0; have k1 := cellAt hq 1; have k2 := cellAt hq 2; have k4 := cellAt hq 4; simp at k0 k1 k2 k4)
            | (go_at_call 38; (with_reducible refine (do_any mb mc mm lv M x.who 1 (x.P + x.at_) noText noText _ ?_ (by omega) (by omega) (by omega) ?_ hn ?_).mono ?_); exact hP1.me; (rw [hc]; omega); (rw [hc]; omega); rintro e w8 ⟨lv2, rfl, hM2, hx8⟩; have hP8 := hP1.acted hM2 hx8; clear k0 k1 k2 k4 hq; have hq := hP8.pr.hb; simp only [PSt.cells] at hq; have k0 := cellAt hq 0; have k1 := cellAt hq 1; have k2 := cellAt hq 2; have k4 := cellAt hq 4; simp at k0 k1 k2 k4))
      all_goals
        go_wp2_with fail
        go_meet
        exact ⟨lv2, rfl, hP8, ((hE0'.drew).trans0 hx1).trans hx8 (fun g hg => .inl (List.mem_append_right _ hg)), hx8.same (hx1.same hA0' (by simp)) (fun h => hAP (List.mem_append_right _ h))⟩
    case rest =>
      obtain ⟨lv2, rfl, hP2, hE2, hA2⟩ := hcut
      have r0 := cellAt hA2 0
      have r1 := cellAt hA2 1
      have r2 := cellAt hA2 2
      have rf := freeAt hA2
      simp at r0 r1 r2
      clear k0 k1 k2 k4 hq
      have c4 := cellAt hP2.pr.hb 4
      simp [PSt.cells] at c4
      by_cases hs : (M.at (x.P + x.at_)).toList = []
      · have hd : x.head M = (⟨true, false, x.at_⟩, x.ph 0, PSt.rd (x.P + x.at_)) := by unfold PSt.head; rw [if_neg hf, if_pos hs]
        have HD := Hs.hid hd; clear hd
        have hse : (M.at (x.P + x.at_)).toList.isEmpty = true := by simp [hs]
        go_wp2_with (go_at_call 40; (with_reducible refine (end_any b m x true false x.at_ _ hP2.pr).mono ?_); rintro e w3 ⟨rfl, hI3, hx3⟩; have hA3 := hx3.same hA2 (fun h => hAP (List.mem_append_left _ (List.mem_cons.2 (.inl (List.mem_singleton.1 h))))); have t0 := cellAt hA3 0; have t1 := cellAt hA3 1; have t2 := cellAt hA3 2; have tf := freeAt hA3; simp at t0 t1 t2)
        refine bodyPost_ret (v := .agg #[.bool true, .bool false, .int .i64 x.at_]) (by simp [results, Try.results44, go_sem, t0, t1, t2, EndR.val, EndR.no]) rfl ⟨lv2, by rw [HD.out]; rfl, ?_, ?_⟩
        · rw [HD.out]
          exact (hP2.moved hI3 (hx3.mono (by simp))).res hA3 _ _ _
        · repeat (refine Ext.setN (Nat.le_refl _) ?_ _ _)
          exact hE2.trans hx3 (fun g hg => .inl (List.mem_append_left _ (List.mem_cons.2 (.inl (List.mem_singleton.1 hg)))))
      · have hd : x.head M = (.no, (x.decide (M.at (x.P + x.at_))).ph 5, PSt.rd (x.P + x.at_)) := by unfold PSt.head; rw [if_neg hf, if_neg hs]
        have HD := Hs.hid hd; clear hd
        have hse : (M.at (x.P + x.at_)).toList.isEmpty = false := by simp [hs]
        go_wp2_with (go_at_call 55; (with_reducible refine (decided_any b m x (M.at (x.P + x.at_)) _ hP2.pr hx).mono ?_); rintro e w3 ⟨rfl, hI3, hx3⟩; have hA3 := hx3.same hA2 (fun h => hAP (List.mem_append_left _ h)); have t0 := cellAt hA3 0; have t1 := cellAt hA3 1; have t2 := cellAt hA3 2; have tf := freeAt hA3; have f3 := freeAt hI3.hb 3; have c3 := cellAt hI3.hb 3; simp [PSt.cells, PSt.decide] at t0 t1 t2 c3)
        refine bodyPost_ret (v := EndR.no.val) (by simp [results, Try.results44, go_sem, t0, t1, t2, EndR.val, EndR.no]) rfl ⟨lv2, by rw [HD.out], ?_, ?_⟩
        · rw [HD.out]
          exact ((hP2.moved hI3 hx3).decided (w' := w) (y := x) 5).res ((heap_set_ne _ _ _ hne.symm).trans hA3) _ _ _
        · repeat (refine Ext.setN (Nat.le_refl _) ?_ _ _)
          exact Ext.set' hbE (hE2.trans hx3 (fun g hg => .inl (List.mem_append_left _ hg))) _ _
end Go.Proofs.Ytkhihpmadmmeaaa
set_option linter.unusedSimpArgs false
set_option linter.unusedVariables false
set_option maxHeartbeats 4000000
set_option maxRecDepth 100000
namespace Go.Proofs.Ytkhihpmadmmeaaa
open Go.RowKit Go.Hs

/-- What it offers, of the wish that it has read. -/
noncomputable def PSt.pick (x : PSt) (s : ByteArray) : ByteArray :=
  if (parseR s).2.2.2 = 0 ∧ (mlook x.seen (parseR s).1).getD 0 < (parseR s).2.1 then s else x.mine
def PSt.wishA (x : PSt) : Acc := ⟨2, x.who, noText, x.mine⟩
def PSt.swapA (x : PSt) : Acc := ⟨3, x.P + x.at_, noText, x.offer⟩
def PSt.helpC (x : PSt) : Int := ((x.at_ % x.P : Nat) : Int)
noncomputable def PSt.step (x : PSt) (M : MSt) : EndR × PSt × MSt :=
  if x.phase = 1 then (if x.S ≤ x.at_ then (⟨true, true, 0⟩, x.ph 0, M.act x.wishA) else (.no, x.ph 2, M.act x.wishA))
  else if x.phase = 2 then ((x.look M).1, (x.look M).2, M.act (PSt.rd (x.P + x.at_)))
  else if x.phase = 3 then (.no, { x with offer := x.pick (M.at x.helpC), phase := 4 }, M.act (PSt.rd x.helpC))
  else if x.phase = 4 then ((x.after (if (M.at (x.P + x.at_)).toList = [] then x.offer else M.at (x.P + x.at_))).1, (x.after (if (M.at (x.P + x.at_)).toList = [] then x.offer else M.at (x.P + x.at_))).2, M.act x.swapA)
  else if x.phase = 5 then ((x.head M).1, (x.head M).2.1, M.act (x.head M).2.2)
  else (.no, x, M)
theorem ph_ph (x : PSt) (i j : Int) : (x.ph i).ph j = x.ph j := rfl
def PSt.withOffer (x : PSt) (o : ByteArray) : PSt := { x with offer := o }
theorem PM.offer {w : World} {b m : Nat} {x : PSt} {mb mc mm : Nat} {lv : Value} {M : MSt} (hP : PM w.heap b m x mb mc mm lv M) (o : ByteArray) : PM (w.setCell ⟨b, 9, none⟩ (.string o)).heap b m (x.withOffer o) mb mc mm lv M :=
  hP.moved ⟨by rw [heap_set hP.pr.hb]; simp [PSt.cells, PSt.withOffer], hP.pr.hm.same (heap_set_ne _ _ _ (hP.pr.hm.ne hP.pr.hb))⟩ (Ext.set' (by simp) (Ext.refl _ _) _ _)

theorem step_idle (b m : Nat) (x : PSt) (mb mc mm : Nat) (lv : Value) (M : MSt) (w : World) (hP : PM w.heap b m x mb mc mm lv M) (hx : x.Ok) (hph : x.phase = 0) :
    Calls Try.prog 24 #[.pointer (some ⟨b, 0, none⟩), .pointer (some ⟨mb, 0, none⟩)] w fun e w' =>
      Stepped w b m mb mc mm lv e w' .no x M := by
  have hA0 := heap_new w (.cells #[.bool false, .bool false, .int .i64 0] 42)
  have hP0 := hP.alloc (.cells #[.bool false, .bool false, .int .i64 0] 42)
  have c3 := cellAt hP.pr.hb 3
  simp [PSt.cells, hph] at c3
  have hblt := lt_of_heap hP.pr.hb
  go_enter Try.func24, Try.ntmps24
  go_wp2
  refine bodyPost_ret (v := EndR.no.val) (by simp [results, Try.results24, go_sem, EndR.val, EndR.no]) rfl ⟨lv, rfl, ?_, ?_⟩
  · exact hP0
  · exact (Ext.refl _ _).alloc _

theorem step_wish (b m : Nat) (x : PSt) (mb mc mm : Nat) (lv : Value) (M : MSt) (w : World) (hP : PM w.heap b m x mb mc mm lv M) (hx : x.Ok) (hw : x.who < x.P) (hc : M.cells.length = x.P + x.S) (hn : M.log.length < 1000000) (hph : x.phase = 1) :
    Calls Try.prog 24 #[.pointer (some ⟨b, 0, none⟩), .pointer (some ⟨mb, 0, none⟩)] w fun e w' =>
      Stepped w b m mb mc mm lv e w' (x.step M).1 (x.step M).2.1 (x.step M).2.2 := by
  have hat := hx.at_
  have hxP := hx.P
  have hxS := hx.S
  have hxw := hx.who
  have hati : (x.at_ : Int) ≤ 1000 := by omega
  have hati0 : (0 : Int) ≤ x.at_ := by omega
  have hPi : (x.P : Int) ≤ 1000 := by omega
  have hPi0 : (1 : Int) ≤ x.P := by omega
  have hAP : w.heap.size ∉ ([b, m] ++ foot mb mc mm lv) := by
    intro h
    rcases List.mem_append.1 h with h | h
    · exact notIn2 hP.pr h
    · have := hP.me.lt _ h; omega
  have hA0 := heap_new w (.cells #[.bool false, .bool false, .int .i64 0] 42)
  have hP0 := hP.alloc (.cells #[.bool false, .bool false, .int .i64 0] 42)
  have hE0 : Ext ([b, m] ++ foot mb mc mm lv) w (w.alloc (.cells #[.bool false, .bool false, .int .i64 0] 42)) := (Ext.refl _ _).alloc _
  have hne : w.heap.size ≠ b := fun e => hAP (by rw [e]; simp)
  have hbE : b ∈ ([b, m] ++ foot mb mc mm lv) := by simp
  have hd : x.step M = (if x.S ≤ x.at_ then (⟨true, true, 0⟩, x.ph 0, M.act x.wishA) else (.no, x.ph 2, M.act x.wishA)) := by unfold PSt.step; simp [hph]
  have HD := Hs.hid hd; clear hd
  have c3 := cellAt hP.pr.hb 3
  simp [PSt.cells, hph] at c3
  have hblt := lt_of_heap hP.pr.hb
  go_enter Try.func24, Try.ntmps24
  go_upto_region 3 with fail
  have HW := Hs.hid (rfl : w.heap.size = w.heap.size)
  generalize w.alloc (.cells #[.bool false, .bool false, .int .i64 0] 42) = W at *
  clear c3
  have hq := hP0.pr.hb; simp only [PSt.cells] at hq; have k0 := cellAt hq 0; have k1 := cellAt hq 1; have k2 := cellAt hq 2; have k6 := cellAt hq 6; have k7 := cellAt hq 7; have k8 := cellAt hq 8; simp at k0 k1 k2 k6 k7 k8
  go_cut [] (fun  wx => ∃ lv', PM wx.heap b m x mb mc mm lv' (M.act (x.wishA)) ∧ Ext ([b, m] ++ foot mb mc mm lv) w wx ∧ wx.heap[w.heap.size]? = some (.cells #[.bool false, .bool false, .int .i64 0] 42 (0, 0)))
  case first =>
    go_region_held3 (fun w' => w'.cell? ⟨b, 0, none⟩ = some (.int .i64 ↑x.P) ∧ w'.cell? ⟨b, 1, none⟩ = some (.int .i64 ↑x.S) ∧ w'.cell? ⟨b, 2, none⟩ = some (.int .i64 ↑x.who) ∧ w'.cell? ⟨b, 6, none⟩ = some (.int .i64 ↑x.mwho) ∧ w'.cell? ⟨b, 7, none⟩ = some (.int .i64 ↑x.seq) ∧ w'.cell? ⟨b, 8, none⟩ = some (.string x.body))
      (first
        | go_keep
        | exact ⟨k0, k1, k2, k6, k7, k8⟩)
      (first
          | (go_at_call 11; (with_reducible refine (wish_any x.P x.S x.who _).mono ?_); rintro e w1 ⟨rfl, hx1⟩; have hP1 := PM.ext0 (w := World.drew W) hP0 hx1; clear k0 k1 k2 k6 k7 k8 hq; have hq := hP1.pr.hb; simp only [PSt.cells] at hq; have k0 := cellAt hq 0; have k1 := cellAt hq 1; have k2 := cellAt hq 2; have k6 := cellAt hq 6; have k7 := cellAt hq 7; have k8 := cellAt hq 8; simp at k0 k1 k2 k6 k7 k8)
          | (go_at_call 19; (with_reducible refine (recText_any x.mwho x.seq x.body _ (by have := hx.mwho; omega) (by have := hx.seq; omega) (by have := hx.body; omega)).mono ?_); rintro e w2 ⟨rfl, hx2⟩; have hP2 := PM.ext0 (w := w1) hP1 hx2; clear k0 k1 k2 k6 k7 k8 hq; have hq := hP2.pr.hb; simp only [PSt.cells] at hq; have k0 := cellAt hq 0; have k1 := cellAt hq 1; have k2 := cellAt hq 2; have k6 := cellAt hq 6; have k7 := cellAt hq 7; have k8 := cellAt hq 8; simp at k0 k1 k2 k6 k7 k8)
          | (go_at_call 38; (with_reducible refine (do_any mb mc mm lv M x.who 2 x.who noText x.mine _ ?_ (by omega) (by omega) (by omega) ?_ hn ?_).mono ?_); exact hP2.me; (rw [hc]; omega); (rw [hc]; omega); rintro e w8 ⟨lv2, rfl, hM2, hx8⟩; have hP8 := hP2.acted hM2 hx8; clear k0 k1 k2 k6 k7 k8 hq; have hq := hP8.pr.hb; simp only [PSt.cells] at hq; have k0 := cellAt hq 0; have k1 := cellAt hq 1; have k2 := cellAt hq 2; have k6 := cellAt hq 6; have k7 := cellAt hq 7; have k8 := cellAt hq 8; simp at k0 k1 k2 k6 k7 k8))
    all_goals
      go_wp2_with fail
      go_meet
      exact ⟨lv2, hP8, (((hE0.drew).trans0 hx1).trans0 hx2).trans hx8 (fun g hg => .inl (List.mem_append_right _ hg)), hx8.same (hx2.same (hx1.same hA0 (by simp)) (by simp)) (fun h => hAP (List.mem_append_right _ h))⟩
  case rest =>
    obtain ⟨lv2, hP2, hE2, hA2⟩ := hcut
    have r0 := cellAt hA2 0
    have r1 := cellAt hA2 1
    have r2 := cellAt hA2 2
    have rf := freeAt hA2
    simp at r0 r1 r2
    clear k0 k1 k2 k6 k7 k8 hq
    have f3 := freeAt hP2.pr.hb 3
    have c3 := cellAt hP2.pr.hb 3
    simp [PSt.cells, hph] at c3
    have hP3 := hP2.decided (w' := w) (y := x) 2
    have hA3 := (heap_set_ne wc ⟨b, 3, none⟩ (.int .i64 2) hne.symm).trans hA2
    by_cases hf : x.S ≤ x.at_
    · rw [if_pos hf] at HD
      have hfb : decide ((x.ph 2).S ≤ (x.ph 2).at_) = true := decide_eq_true hf
      go_wp2_with (first
        | (go_at_call 39; (with_reducible refine (full_any b m (x.ph 2) _ hP3.pr).mono ?_); rintro e w9 ⟨rfl, n9, rfl⟩)
        | (go_at_call 40; (with_reducible refine (end_any b m (x.ph 2) true true 0 _ ?_).mono ?_); exact hP3.pr; rintro e w3 ⟨rfl, hI4, hx4⟩; have hA4 := hx4.same hA3 (fun h => hAP (List.mem_append_left _ (List.mem_cons.2 (.inl (List.mem_singleton.1 h))))); have t0 := cellAt hA4 0; have t1 := cellAt hA4 1; have t2 := cellAt hA4 2; have tf := freeAt hA4; simp at t0 t1 t2))
      refine bodyPost_ret (v := .agg #[.bool true, .bool true, .int .i64 0]) (by simp [results, Try.results24, go_sem, t0, t1, t2, EndR.val, EndR.no]) rfl ⟨lv2, by rw [HD.out]; rfl, ?_, ?_⟩
      · rw [HD.out]
        exact (PM.moved (w := (wc.setCell ⟨b, 3, none⟩ (.int .i64 2)).drewN n9) hP3 hI4 (hx4.mono (by simp))).res hA4 _ _ _
      · repeat (refine Ext.setN (Nat.le_refl _) ?_ _ _)
        exact ((Ext.set' hbE hE2 _ _).drewN n9).trans hx4 (fun g hg => .inl (List.mem_append_left _ (List.mem_cons.2 (.inl (List.mem_singleton.1 hg)))))
    · rw [if_neg hf] at HD
      have hfb : decide ((x.ph 2).S ≤ (x.ph 2).at_) = false := decide_eq_false hf
      go_wp2_with (first
        | (go_at_call 39; (with_reducible refine (full_any b m (x.ph 2) _ hP3.pr).mono ?_); rintro e w9 ⟨rfl, n9, rfl⟩))
      refine bodyPost_ret (v := EndR.no.val) (by simp [results, Try.results24, go_sem, r0, r1, r2, EndR.val, EndR.no]) rfl ⟨lv2, by rw [HD.out], ?_, ?_⟩
      · rw [HD.out]
        exact PM.res (w := (wc.setCell ⟨b, 3, none⟩ (.int .i64 2)).drewN n9) hP3 hA3 _ _ _
      · repeat (refine Ext.setN (Nat.le_refl _) ?_ _ _)
        exact (Ext.set' hbE hE2 _ _).drewN n9

theorem step_swap (b m : Nat) (x : PSt) (mb mc mm : Nat) (lv : Value) (M : MSt) (w : World) (hP : PM w.heap b m x mb mc mm lv M) (hx : x.Ok) (hw : x.who < x.P) (hc : M.cells.length = x.P + x.S) (hn : M.log.length < 1000000) (hph : x.phase = 4) (hS : x.at_ < x.S) :
    Calls Try.prog 24 #[.pointer (some ⟨b, 0, none⟩), .pointer (some ⟨mb, 0, none⟩)] w fun e w' =>
      Stepped w b m mb mc mm lv e w' (x.step M).1 (x.step M).2.1 (x.step M).2.2 := by
  have hat := hx.at_
  have hxP := hx.P
  have hxS := hx.S
  have hxw := hx.who
  have hati : (x.at_ : Int) ≤ 1000 := by omega
  have hati0 : (0 : Int) ≤ x.at_ := by omega
  have hPi : (x.P : Int) ≤ 1000 := by omega
  have hPi0 : (1 : Int) ≤ x.P := by omega
  have hAP : w.heap.size ∉ ([b, m] ++ foot mb mc mm lv) := by
    intro h
    rcases List.mem_append.1 h with h | h
    · exact notIn2 hP.pr h
    · have := hP.me.lt _ h; omega
  have hA0 := heap_new w (.cells #[.bool false, .bool false, .int .i64 0] 42)
  have hP0 := hP.alloc (.cells #[.bool false, .bool false, .int .i64 0] 42)
  have hE0 : Ext ([b, m] ++ foot mb mc mm lv) w (w.alloc (.cells #[.bool false, .bool false, .int .i64 0] 42)) := (Ext.refl _ _).alloc _
  have hne : w.heap.size ≠ b := fun e => hAP (by rw [e]; simp)
  have hbE : b ∈ ([b, m] ++ foot mb mc mm lv) := by simp
  have hd : x.step M = ((x.after (if (M.at (x.P + x.at_)).toList = [] then x.offer else M.at (x.P + x.at_))).1, (x.after (if (M.at (x.P + x.at_)).toList = [] then x.offer else M.at (x.P + x.at_))).2, M.act x.swapA) := by unfold PSt.step; simp [hph]
  have HD := Hs.hid hd; clear hd
  have c3 := cellAt hP.pr.hb 3
  simp [PSt.cells, hph] at c3
  have hblt := lt_of_heap hP.pr.hb
  go_enter Try.func24, Try.ntmps24
  go_upto_region 17 with fail
  have HW := Hs.hid (rfl : w.heap.size = w.heap.size)
  generalize w.alloc (.cells #[.bool false, .bool false, .int .i64 0] 42) = W at *
  clear c3
  have hq := hP0.pr.hb; simp only [PSt.cells] at hq; have k0 := cellAt hq 0; have k1 := cellAt hq 1; have k2 := cellAt hq 2; have k4 := cellAt hq 4; have k9 := cellAt hq 9; simp at k0 k1 k2 k4 k9
  go_cut [10, 11] (fun s10 s11 wx => ∃ lv', s10 = .string (M.at (x.P + x.at_)) ∧ s11 = .bool (M.done x.swapA) ∧ PM wx.heap b m x mb mc mm lv' (M.act (x.swapA)) ∧ Ext ([b, m] ++ foot mb mc mm lv) w wx ∧ wx.heap[w.heap.size]? = some (.cells #[.bool false, .bool false, .int .i64 0] 42 (0, 0)))
  case first =>
    go_region_held3 (fun w' => w'.cell? ⟨b, 0, none⟩ = some (.int .i64 ↑x.P) ∧ w'.cell? ⟨b, 1, none⟩ = some (.int .i64 ↑x.S) ∧ w'.cell? ⟨b, 2, none⟩ = some (.int .i64 ↑x.who) ∧ w'.cell? ⟨b, 4, none⟩ = some (.int .i64 ↑x.at_) ∧ w'.cell? ⟨b, 9, none⟩ = some (.string x.offer))
      (first
        | go_keep
        | exact ⟨k0, k1, k2, k4, k9⟩)
      (first
          | (go_at_call 12; (with_reducible refine (slot_any x.P x.S x.at_ _ (by omega) (by omega) (by omega) (by omega)).mono ?_); rintro e w1 ⟨rfl, hx1⟩; have hP1 := PM.ext0 (w := World.drew W) hP0 hx1; clear k0 k1 k2 k4 k9 hq; have hq := hP1.pr.hb; simp only [PSt.cells] at hq; have k0 := cellAt hq 0; have k1 := cellAt hq 1; have k2 := cellAt hq 2; have k4 := cellAt hq 4; have k9 := cellAt hq 9; simp at k0 k1 k2 k4 k9)
          | (go_at_call 38; (with_reducible refine (do_any mb mc mm lv M x.who 3 (x.P + x.at_) noText x.offer _ ?_ (by omega) (by omega) (by omega) ?_ hn ?_).mono ?_); exact hP1.me; (rw [hc]; omega); (rw [hc]; omega); rintro e w8 ⟨lv2, rfl, hM2, hx8⟩; have hP8 := hP1.acted hM2 hx8; clear k0 k1 k2 k4 k9 hq; have hq := hP8.pr.hb; simp only [PSt.cells] at hq; have k0 := cellAt hq 0; have k1 := cellAt hq 1; have k2 := cellAt hq 2; have k4 := cellAt hq 4; have k9 := cellAt hq 9; simp at k0 k1 k2 k4 k9))
    all_goals
      go_wp2_with fail
      go_meet
      exact ⟨lv2, rfl, rfl, hP8, ((hE0.drew).trans0 hx1).trans hx8 (fun g hg => .inl (List.mem_append_right _ hg)), hx8.same (hx1.same hA0 (by simp)) (fun h => hAP (List.mem_append_right _ h))⟩
  case rest =>
    obtain ⟨lv2, rfl, rfl, hP2, hE2, hA2⟩ := hcut
    have r0 := cellAt hA2 0
    have r1 := cellAt hA2 1
    have r2 := cellAt hA2 2
    have rf := freeAt hA2
    simp at r0 r1 r2
    clear k0 k1 k2 k4 k9 hq
    have c9 := cellAt hP2.pr.hb 9
    simp [PSt.cells] at c9
    have hdn : M.done x.swapA = ((M.at (x.P + x.at_)).toList == []) := by
      unfold MSt.done PSt.swapA; simp
    by_cases hs : (M.at (x.P + x.at_)).toList = []
    · have hdt : M.done x.swapA = true := by rw [hdn]; simp [hs]
      rw [if_pos hs] at HD
      clear hdn
      rw [hdt]
      clear hdt
      obtain ⟨d, f, sl, y, hay⟩ : ∃ d f sl y, x.after x.offer = (⟨d, f, sl⟩, y) := ⟨_, _, _, _, rfl⟩
      rw [hay] at HD
      have HY := Hs.hid hay; clear hay
      go_wp2_with (go_at_call 43; (with_reducible refine (after_at b m x x.offer _ hP2.pr hx HY.out).mono ?_); rintro e w3 ⟨rfl, hI3, hx3⟩; have hA3 := hx3.same hA2 (fun h => hAP (List.mem_append_left _ h)); have t0 := cellAt hA3 0; have t1 := cellAt hA3 1; have t2 := cellAt hA3 2; have tf := freeAt hA3; simp at t0 t1 t2)
      refine bodyPost_ret (v := .agg #[.bool d, .bool f, .int .i64 sl]) (by simp [results, Try.results24, go_sem, t0, t1, t2, EndR.val, EndR.no]) rfl ⟨lv2, by rw [HD.out]; rfl, ?_, ?_⟩
      · rw [HD.out]
        exact (hP2.moved hI3 hx3).res hA3 _ _ _
      · repeat (refine Ext.setN (Nat.le_refl _) ?_ _ _)
        exact hE2.trans hx3 (fun g hg => .inl (List.mem_append_left _ hg))
    · have hdt : M.done x.swapA = false := by rw [hdn]; simpa using hs
      rw [if_neg hs] at HD
      clear hdn
      rw [hdt]
      clear hdt
      obtain ⟨d, f, sl, y, hay⟩ : ∃ d f sl y, x.after (M.at (x.P + x.at_)) = (⟨d, f, sl⟩, y) := ⟨_, _, _, _, rfl⟩
      rw [hay] at HD
      have HY := Hs.hid hay; clear hay
      go_wp2_with (go_at_call 43; (with_reducible refine (after_at b m x (M.at (x.P + x.at_)) _ hP2.pr hx HY.out).mono ?_); rintro e w3 ⟨rfl, hI3, hx3⟩; have hA3 := hx3.same hA2 (fun h => hAP (List.mem_append_left _ h)); have t0 := cellAt hA3 0; have t1 := cellAt hA3 1; have t2 := cellAt hA3 2; have tf := freeAt hA3; simp at t0 t1 t2)
      refine bodyPost_ret (v := .agg #[.bool d, .bool f, .int .i64 sl]) (by simp [results, Try.results24, go_sem, t0, t1, t2, EndR.val, EndR.no]) rfl ⟨lv2, by rw [HD.out]; rfl, ?_, ?_⟩
      · rw [HD.out]
        exact (hP2.moved hI3 hx3).res hA3 _ _ _
      · repeat (refine Ext.setN (Nat.le_refl _) ?_ _ _)
        exact hE2.trans hx3 (fun g hg => .inl (List.mem_append_left _ hg))

theorem step_look (b m : Nat) (x : PSt) (mb mc mm : Nat) (lv : Value) (M : MSt) (w : World) (hP : PM w.heap b m x mb mc mm lv M) (hx : x.Ok) (hw : x.who < x.P) (hc : M.cells.length = x.P + x.S) (hn : M.log.length < 1000000) (hph : x.phase = 2) (hS : x.at_ < x.S) :
    Calls Try.prog 24 #[.pointer (some ⟨b, 0, none⟩), .pointer (some ⟨mb, 0, none⟩)] w fun e w' =>
      Stepped w b m mb mc mm lv e w' (x.step M).1 (x.step M).2.1 (x.step M).2.2 := by
  have hat := hx.at_
  have hxP := hx.P
  have hxS := hx.S
  have hxw := hx.who
  have hati : (x.at_ : Int) ≤ 1000 := by omega
  have hati0 : (0 : Int) ≤ x.at_ := by omega
  have hPi : (x.P : Int) ≤ 1000 := by omega
  have hPi0 : (1 : Int) ≤ x.P := by omega
  have hAP : w.heap.size ∉ ([b, m] ++ foot mb mc mm lv) := by
    intro h
    rcases List.mem_append.1 h with h | h
    · exact notIn2 hP.pr h
    · have := hP.me.lt _ h; omega
  have hA0 := heap_new w (.cells #[.bool false, .bool false, .int .i64 0] 42)
  have hP0 := hP.alloc (.cells #[.bool false, .bool false, .int .i64 0] 42)
  have hE0 : Ext ([b, m] ++ foot mb mc mm lv) w (w.alloc (.cells #[.bool false, .bool false, .int .i64 0] 42)) := (Ext.refl _ _).alloc _
  have hne : w.heap.size ≠ b := fun e => hAP (by rw [e]; simp)
  have hbE : b ∈ ([b, m] ++ foot mb mc mm lv) := by simp
  have hd : x.step M = ((x.look M).1, (x.look M).2, M.act (PSt.rd (x.P + x.at_))) := by unfold PSt.step; simp [hph]
  obtain ⟨d, f, sl, hE⟩ : ∃ d f sl, (x.look M).1 = ⟨d, f, sl⟩ := ⟨_, _, _, rfl⟩
  rw [hE] at hd
  have HD := Hs.hid hd; clear hd
  have HE := Hs.hid hE; clear hE
  have c3 := cellAt hP.pr.hb 3
  simp [PSt.cells, hph] at c3
  have hblt := lt_of_heap hP.pr.hb
  go_enter Try.func24, Try.ntmps24
  go_wp2_with (go_at_call 41; (with_reducible refine (look_any b m x mb mc mm lv M _ hP0 hx hS hc hn).mono ?_); rintro e w3 ⟨lv3, rfl, hP3, hx3⟩; rw [HE.out]; have hA3 := hx3.same hA0 hAP; have t0 := cellAt hA3 0; have t1 := cellAt hA3 1; have t2 := cellAt hA3 2; have tf := freeAt hA3; simp [EndR.val] at t0 t1 t2; unfold EndR.val)
  refine bodyPost_ret (v := .agg #[.bool d, .bool f, .int .i64 sl]) (by simp [results, Try.results24, go_sem, t0, t1, t2, EndR.val, EndR.no]) rfl ⟨lv3, by rw [HD.out]; rfl, ?_, ?_⟩
  · rw [HD.out]
    exact hP3.res hA3 _ _ _
  · repeat (refine Ext.setN (Nat.le_refl _) ?_ _ _)
    exact hE0.trans' hx3

theorem step_head (b m : Nat) (x : PSt) (mb mc mm : Nat) (lv : Value) (M : MSt) (w : World) (hP : PM w.heap b m x mb mc mm lv M) (hx : x.Ok) (hw : x.who < x.P) (hc : M.cells.length = x.P + x.S) (hn : M.log.length < 1000000) (hph : x.phase = 5) :
    Calls Try.prog 24 #[.pointer (some ⟨b, 0, none⟩), .pointer (some ⟨mb, 0, none⟩)] w fun e w' =>
      Stepped w b m mb mc mm lv e w' (x.step M).1 (x.step M).2.1 (x.step M).2.2 := by
  have hat := hx.at_
  have hxP := hx.P
  have hxS := hx.S
  have hxw := hx.who
  have hati : (x.at_ : Int) ≤ 1000 := by omega
  have hati0 : (0 : Int) ≤ x.at_ := by omega
  have hPi : (x.P : Int) ≤ 1000 := by omega
  have hPi0 : (1 : Int) ≤ x.P := by omega
  have hAP : w.heap.size ∉ ([b, m] ++ foot mb mc mm lv) := by
    intro h
    rcases List.mem_append.1 h with h | h
    · exact notIn2 hP.pr h
    · have := hP.me.lt _ h; omega
  have hA0 := heap_new w (.cells #[.bool false, .bool false, .int .i64 0] 42)
  have hP0 := hP.alloc (.cells #[.bool false, .bool false, .int .i64 0] 42)
  have hE0 : Ext ([b, m] ++ foot mb mc mm lv) w (w.alloc (.cells #[.bool false, .bool false, .int .i64 0] 42)) := (Ext.refl _ _).alloc _
  have hne : w.heap.size ≠ b := fun e => hAP (by rw [e]; simp)
  have hbE : b ∈ ([b, m] ++ foot mb mc mm lv) := by simp
  have hd : x.step M = ((x.head M).1, (x.head M).2.1, M.act (x.head M).2.2) := by unfold PSt.step; simp [hph]
  obtain ⟨d, f, sl, hE⟩ : ∃ d f sl, (x.head M).1 = ⟨d, f, sl⟩ := ⟨_, _, _, rfl⟩
  rw [hE] at hd
  have HD := Hs.hid hd; clear hd
  have HE := Hs.hid hE; clear hE
  have c3 := cellAt hP.pr.hb 3
  simp [PSt.cells, hph] at c3
  have hblt := lt_of_heap hP.pr.hb
  go_enter Try.func24, Try.ntmps24
  go_wp2_with (go_at_call 44; (with_reducible refine (head_step b m x mb mc mm lv M _ hP0 hx hw hc hn).mono ?_); rintro e w3 ⟨lv3, rfl, hP3, hx3⟩; rw [HE.out]; have hA3 := hx3.same hA0 hAP; have t0 := cellAt hA3 0; have t1 := cellAt hA3 1; have t2 := cellAt hA3 2; have tf := freeAt hA3; simp [EndR.val] at t0 t1 t2; unfold EndR.val)
  refine bodyPost_ret (v := .agg #[.bool d, .bool f, .int .i64 sl]) (by simp [results, Try.results24, go_sem, t0, t1, t2, EndR.val, EndR.no]) rfl ⟨lv3, by rw [HD.out]; rfl, ?_, ?_⟩
  · rw [HD.out]
    exact hP3.res hA3 _ _ _
  · repeat (refine Ext.setN (Nat.le_refl _) ?_ _ _)
    exact hE0.trans' hx3
end Go.Proofs.Ytkhihpmadmmeaaa
set_option linter.unusedSimpArgs false
set_option linter.unusedVariables false
set_option maxHeartbeats 4000000
set_option maxRecDepth 100000
namespace Go.Proofs.Ytkhihpmadmmeaaa
open Go.RowKit Go.Hs
theorem PM.picked {w : World} {b m : Nat} {x : PSt} {mb mc mm : Nat} {lv : Value} {M : MSt} (hP : PM w.heap b m x mb mc mm lv M) (k : Int) : PM (w.setCell ⟨b, 3, none⟩ (.int .i64 k)).heap b m (x.ph k) mb mc mm lv M := hP.decided (w' := w) (y := x) k

theorem step_help (b m : Nat) (x : PSt) (mb mc mm : Nat) (lv : Value) (M : MSt) (w : World) (hP : PM w.heap b m x mb mc mm lv M) (hx : x.Ok) (hw : x.who < x.P) (hc : M.cells.length = x.P + x.S) (hn : M.log.length < 1000000) (hph : x.phase = 3) :
    Calls Try.prog 24 #[.pointer (some ⟨b, 0, none⟩), .pointer (some ⟨mb, 0, none⟩)] w fun e w' =>
      Stepped w b m mb mc mm lv e w' (x.step M).1 (x.step M).2.1 (x.step M).2.2 := by
  have htm : Int.tmod (↑x.at_) (↑x.P) = x.helpC := by
    unfold PSt.helpC; rw [Int.tmod_eq_emod_of_nonneg (Int.natCast_nonneg _)]; rfl
  have hhc : 0 ≤ x.helpC ∧ x.helpC < x.P := by
    unfold PSt.helpC; have := hx.P; have := Nat.mod_lt x.at_ (show x.P > 0 by omega); omega
  obtain ⟨hc0, hc1⟩ := hhc
  have hat := hx.at_
  have hxP := hx.P
  have hxS := hx.S
  have hxw := hx.who
  have hati : (x.at_ : Int) ≤ 1000 := by omega
  have hati0 : (0 : Int) ≤ x.at_ := by omega
  have hPi : (x.P : Int) ≤ 1000 := by omega
  have hPi0 : (1 : Int) ≤ x.P := by omega
  have hAP : w.heap.size ∉ ([b, m] ++ foot mb mc mm lv) := by
    intro h
    rcases List.mem_append.1 h with h | h
    · exact notIn2 hP.pr h
    · have := hP.me.lt _ h; omega
  have hA0 := heap_new w (.cells #[.bool false, .bool false, .int .i64 0] 42)
  have hP0 := hP.alloc (.cells #[.bool false, .bool false, .int .i64 0] 42)
  have hE0 : Ext ([b, m] ++ foot mb mc mm lv) w (w.alloc (.cells #[.bool false, .bool false, .int .i64 0] 42)) := (Ext.refl _ _).alloc _
  have hne : w.heap.size ≠ b := fun e => hAP (by rw [e]; simp)
  have hbE : b ∈ ([b, m] ++ foot mb mc mm lv) := by simp
  have hd : x.step M = (.no, (x.withOffer (x.pick (M.at x.helpC))).ph 4, M.act (PSt.rd x.helpC)) := by unfold PSt.step; simp [hph] <;> rfl
  have HD := Hs.hid hd; clear hd
  have c3 := cellAt hP.pr.hb 3
  simp [PSt.cells, hph] at c3
  have hblt := lt_of_heap hP.pr.hb
  go_enter Try.func24, Try.ntmps24
  go_upto_region 10 with fail
  have HW := Hs.hid (rfl : w.heap.size = w.heap.size)
  generalize w.alloc (.cells #[.bool false, .bool false, .int .i64 0] 42) = W at *
  clear c3
  have hPz : ¬ (x.P : Int) = 0 := by omega
  have hPn : ¬ x.P = 0 := by omega
  have hPb : ((x.P : Int) == 0) = false := by simpa using hPn
  have htw : IntKind.i64.wrap x.helpC = x.helpC := IntWalk.i64_in _ (by omega)
  have hq := hP0.pr.hb; simp only [PSt.cells] at hq; have k0 := cellAt hq 0; have k1 := cellAt hq 1; have k2 := cellAt hq 2; have k4 := cellAt hq 4; simp at k0 k1 k2 k4
  go_cut [5] (fun s5 wx => ∃ lv', s5 = .string (M.at x.helpC) ∧ PM wx.heap b m x mb mc mm lv' (M.act (PSt.rd x.helpC)) ∧ Ext ([b, m] ++ foot mb mc mm lv) w wx ∧ wx.heap[w.heap.size]? = some (.cells #[.bool false, .bool false, .int .i64 0] 42 (0, 0)))
  case first =>
    go_region_held3 (fun w' => w'.cell? ⟨b, 0, none⟩ = some (.int .i64 ↑x.P) ∧ w'.cell? ⟨b, 1, none⟩ = some (.int .i64 ↑x.S) ∧ w'.cell? ⟨b, 2, none⟩ = some (.int .i64 ↑x.who) ∧ w'.cell? ⟨b, 4, none⟩ = some (.int .i64 ↑x.at_))
      (first
        | go_keep
        | exact ⟨k0, k1, k2, k4⟩)
      (first
          | (go_at_call 11; (with_reducible refine (wish_any x.P x.S x.helpC _).mono ?_); rintro e w1 ⟨rfl, hx1⟩; have hP1 := PM.ext0 (w := World.drew W) hP0 hx1; clear k0 k1 k2 k4 hq; have hq := hP1.pr.hb; simp only [PSt.cells] at hq; have k0 := cellAt hq 0; have k1 := cellAt hq 1; have k2 := cellAt hq 2; have k4 := cellAt hq 4; simp at k0 k1 k2 k4)
          | (go_at_call 38; (with_reducible refine (do_any mb mc mm lv M x.who 1 x.helpC noText noText _ ?_ (by omega) (by omega) (by omega) ?_ hn ?_).mono ?_); exact hP1.me; (rw [hc]; omega); (rw [hc]; omega); rintro e w8 ⟨lv2, rfl, hM2, hx8⟩; have hP8 := hP1.acted hM2 hx8; clear k0 k1 k2 k4 hq; have hq := hP8.pr.hb; simp only [PSt.cells] at hq; have k0 := cellAt hq 0; have k1 := cellAt hq 1; have k2 := cellAt hq 2; have k4 := cellAt hq 4; simp at k0 k1 k2 k4))
    all_goals
      go_wp2_with fail
      go_meet
      exact ⟨lv2, rfl, hP8, ((hE0.drew).trans0 hx1).trans hx8 (fun g hg => .inl (List.mem_append_right _ hg)), hx8.same (hx1.same hA0 (by simp)) (fun h => hAP (List.mem_append_right _ h))⟩
  case rest =>
    obtain ⟨lv2, rfl, hP2, hE2, hA2⟩ := hcut
    have r0 := cellAt hA2 0
    have r1 := cellAt hA2 1
    have r2 := cellAt hA2 2
    have rf := freeAt hA2
    simp at r0 r1 r2
    clear k0 k1 k2 k4 hq
    clear htm htw
    have f9 := freeAt hP2.pr.hb 9
    have c6 := cellAt hP2.pr.hb 6
    have c7 := cellAt hP2.pr.hb 7
    have c8 := cellAt hP2.pr.hb 8
    simp [PSt.cells] at c6 c7 c8
    obtain ⟨r1, r2, r3, r4, hr⟩ : ∃ r1 r2 r3 r4, parseR (M.at x.helpC) = (r1, r2, r3, r4) := ⟨_, _, _, _, rfl⟩
    have hpk : x.pick (M.at x.helpC) = if r4 = 0 ∧ (mlook x.seen r1).getD 0 < r2 then M.at x.helpC else x.mine := by unfold PSt.pick; rw [hr]
    rw [hpk] at HD
    have HR := Hs.hid hr; clear hr hpk
    go_upto_region 13 with (first
      | (go_at_call 19; (with_reducible refine (recText_any x.mwho x.seq x.body _ (by have := hx.mwho; omega) (by have := hx.seq; omega) (by have := hx.body; omega)).mono ?_); rintro e w3 ⟨rfl, hx3⟩; have hP3 := hP2.ext0 hx3; clear f9; have f9 := freeAt hP3.pr.hb 9; have c9 := cellAt hP3.pr.hb 9; simp [PSt.cells] at c9)
      | (go_at_call 42; (with_reducible refine (parse_any (M.at x.helpC) r1 r2 r4 r3 HR.out _).mono ?_); rintro e w4 ⟨rfl, hx4⟩))
    have hP4 := ((hP3.offer x.mine).ext0 hx4).alloc (.cells #[.int .i64 r1, .int .i64 r2, .string r3] 50)
    have hR4 := heap_new w4 (.cells #[.int .i64 r1, .int .i64 r2, .string r3] 50)
    have hA4 : (w4.alloc (.cells #[.int .i64 r1, .int .i64 r2, .string r3] 50)).heap[w.heap.size]? = some (.cells #[.bool false, .bool false, .int .i64 0] 42 (0, 0)) := (heap_old' _ _ (hx4.same ((heap_set_ne _ ⟨b, 9, none⟩ _ hne.symm).trans (hx3.same hA2 (by simp))) (by simp)))
    have hE4 : Ext ([b, m] ++ foot mb mc mm lv) w (w4.alloc (.cells #[.int .i64 r1, .int .i64 r2, .string r3] 50)) := ((Ext.set' hbE (hE2.trans0 hx3) 9 (.string x.mine)).trans0 hx4).alloc _
    clear hP3 hx3 hx4 c9 f9
    generalize w4.alloc (.cells #[.int .i64 r1, .int .i64 r2, .string r3] 50) = W4 at *
    generalize w4.heap.size = A at *
    have hq := hP4.pr.hb
    simp only [PSt.cells, PSt.withOffer] at hq
    have c3 := cellAt hq 3
    have c5 := cellAt hq 5
    have c9 := cellAt hq 9
    have f3 := freeAt hq
    simp [hph] at c3 c5 c9
    have a0 := cellAt hR4 0
    have a1 := cellAt hR4 1
    simp at a0 a1
    have t0 := cellAt hA4 0
    have t1 := cellAt hA4 1
    have t2 := cellAt hA4 2
    have tf := freeAt hA4
    simp at t0 t1 t2
    have hlk : ∀ n, _ := fun n => run_lookup (P := Try.prog) (w := W4.drewN n) (t := 27) keyInt Try.underlying27 (d := (0 : Int)) (zeroInt _) hP4.pr.hm r1 false
    simp only [Bool.false_eq_true, if_false, PSt.withOffer] at hlk
    by_cases h4 : r4 = 0
    · subst h4
      by_cases h2 : (mlook x.seen r1).getD 0 < r2
      · -- offer the wish
        rw [if_pos (⟨rfl, h2⟩)] at HD
        go_quiet (fail)
        go_wp2
        refine bodyPost_ret (v := EndR.no.val) (by simp [results, Try.results24, go_sem, t0, t1, t2, EndR.val, EndR.no]) rfl ⟨lv2, by rw [HD.out], ?_, ?_⟩
        · rw [HD.out]
          exact PM.res (w := ((W4.drewN _).setCell ⟨b, 9, none⟩ (.string (M.at x.helpC))).setCell ⟨b, 3, none⟩ (.int .i64 4)) ((PM.offer (w := W4.drewN _) hP4 (M.at x.helpC)).picked 4) ((heap_set_ne _ ⟨b, 3, none⟩ _ hne.symm).trans ((heap_set_ne _ ⟨b, 9, none⟩ _ hne.symm).trans hA4)) _ _ _
        · repeat (refine Ext.setN (Nat.le_refl _) ?_ _ _)
          exact Ext.set' hbE (Ext.set' hbE (hE4.drewN _) _ _) _ _
  
      · -- not new
        rw [if_neg (fun h => h2 h.2)] at HD
        have h2b : decide ((mlook x.seen r1).getD 0 < r2) = false := decide_eq_false h2
        go_quiet (fail)
        go_wp2
        refine bodyPost_ret (v := EndR.no.val) (by simp [results, Try.results24, go_sem, t0, t1, t2, EndR.val, EndR.no]) rfl ⟨lv2, by rw [HD.out], ?_, ?_⟩
        · rw [HD.out]
          exact PM.res (w := (W4.drewN _).setCell ⟨b, 3, none⟩ (.int .i64 4)) (PM.picked (w := W4.drewN _) hP4 4) ((heap_set_ne _ ⟨b, 3, none⟩ _ hne.symm).trans hA4) _ _ _
        · repeat (refine Ext.setN (Nat.le_refl _) ?_ _ _)
          exact Ext.set' hbE (hE4.drewN _) _ _
  
    · -- no record
      rw [if_neg (fun h => h4 h.1)] at HD
      have h4b : (r4 == 0) = false := by simpa using h4
      go_quiet (fail)
      go_wp2
      refine bodyPost_ret (v := EndR.no.val) (by simp [results, Try.results24, go_sem, t0, t1, t2, EndR.val, EndR.no]) rfl ⟨lv2, by rw [HD.out], ?_, ?_⟩
      · rw [HD.out]
        exact PM.res (w := (W4.drewN _).setCell ⟨b, 3, none⟩ (.int .i64 4)) (PM.picked (w := W4.drewN _) hP4 4) ((heap_set_ne _ ⟨b, 3, none⟩ _ hne.symm).trans hA4) _ _ _
      · repeat (refine Ext.setN (Nat.le_refl _) ?_ _ _)
        exact Ext.set' hbE (hE4.drewN _) _ _
end Go.Proofs.Ytkhihpmadmmeaaa
