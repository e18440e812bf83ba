/-
  Texts of this claim, put together: Proc8, Ref10, Ref11, Fresh, Sim, Awake, State, Does.
-/
import Derived.Laws.BitsLemmas
import Derived.Deep.RegionHeld3
import Derived.Test.YtkhihpmadmmeaaaMPl3
set_option linter.unusedSimpArgs false
set_option linter.unusedVariables false
set_option maxHeartbeats 2000000
set_option maxRecDepth 100000
namespace Go.Proofs.Ytkhihpmadmmeaaa
open Go.RowKit Go.Hs

theorem step_any (b m : Nat) (x : PSt) (mb mc mm : Nat) (lv : Value) (M : MSt) (w : World) (hP : PM w.heap b m x mb mc mm lv M) (hx : x.Ok) (hw : x.who < x.P) (hc : M.cells.length = x.P + x.S) (hn : M.log.length < 1000000)
    (hph : x.phase = 0 ∨ x.phase = 1 ∨ x.phase = 2 ∨ x.phase = 3 ∨ x.phase = 4 ∨ x.phase = 5) (hS : x.phase = 2 ∨ x.phase = 4 → x.at_ < x.S) :
    Calls Try.prog 24 #[.pointer (some ⟨b, 0, none⟩), .pointer (some ⟨mb, 0, none⟩)] w fun e w' =>
      Stepped w b m mb mc mm lv e w' (x.step M).1 (x.step M).2.1 (x.step M).2.2 := by
  rcases hph with h | h | h | h | h | h
  · have hd : x.step M = (.no, x, M) := by unfold PSt.step; simp [h]
    rw [hd]
    exact step_idle b m x mb mc mm lv M w hP hx h
  · exact step_wish b m x mb mc mm lv M w hP hx hw hc hn h
  · exact step_look b m x mb mc mm lv M w hP hx hw hc hn h (hS (.inl h))
  · exact step_help b m x mb mc mm lv M w hP hx hw hc hn h
  · exact step_swap b m x mb mc mm lv M w hP hx hw hc hn h (hS (.inr h))
  · exact step_head b m x mb mc mm lv M w hP hx hw hc hn h

theorem wpList_make_eq {P : Program} {w : World} {ops : Array Oper} {rest : List Oper} {o : Oper} {a : Act} {Q : Exit → Act → World → Prop}
    (hg : o.guard = none) (l c : Operand) (t : TypeId) (hop : o.op = Op.makeSlice t l c)
    (e : TypeId) (i : TypeInfo) (z : Value) (size bytes : Nat) (h1 : P.underlying t = some (.slice e)) (h2 : P.info? e = some i) (h3 : i.zero = some z) (h4 : i.size = size) (hby : i.bytes = bytes)
    (kl kc : IntKind) (L C : Int) (n : Nat) (hl : a.eval l = .int kl L) (hc : a.eval c = .int kc C) (hL : L = (n : Int)) (hC : C = (n : Int)) (b2 : bytes * n ≤ 281474976710656) (b3 : n ≤ maxLen)
    (hK : wpList P ops Q rest (a.put o.dst (.slice (some ⟨w.heap.size, 0, none⟩) n n)) (w.alloc (.cells (madeCells z.cells (n * size)) e))) :
    wpList P ops Q (o :: rest) a w := by
  refine wpList_plain hg fun K hK' => ?_
  subst hL
  subst hC
  subst h4
  subst hby
  have h63' : (n : Int) ≤ 9223372036854775807 := by
    have h := b3
    simp [maxLen] at h
    omega
  have hb' : (i.bytes : Int) * (n : Int) ≤ 281474976710656 := by
    have h : ((i.bytes * n : Nat) : Int) ≤ 281474976710656 := by omega
    rwa [Int.natCast_mul] at h
  have hr := run_make (P := P) w t e i z h1 h2 h3 kl kc n n (by omega) (Int.le_refl _) hb' h63'
  simp only [Int.toNat_natCast] at hr
  unfold Oper.wp
  simp [execOp, hop, hl, hc, hr, Result.andThen]
  exact hK' _ _ hK

theorem infoStr : (Try.prog.info? 9).map (fun i => (i.zero, i.size, i.bytes)) = some (some (.string ⟨#[]⟩), 1, 16) := by kernel_rfl
theorem made_strs (n : Nat) : madeCells (Value.string ⟨#[]⟩).cells (n * 1) = ((List.replicate n noText).map Value.string).toArray := by
  apply Array.ext
  · simp [size_madeCells]
  · intro i h1 h2
    simp [madeCells, Value.cells, Nat.mod_one]
    try rfl
theorem alloc3 {κ ν : Type} [DecidableEq κ] (enc : κ → Value) (venc : ν → Value) (w : World) (A C : Obj) :
    (((w.alloc A).alloc (.map #[] 0)).alloc C).heap[w.heap.size]? = some A ∧ MapAt enc venc (((w.alloc A).alloc (.map #[] 0)).alloc C).heap (w.heap.size + 1) ([] : List (κ × ν)) ∧
    (((w.alloc A).alloc (.map #[] 0)).alloc C).heap[w.heap.size + 1 + 1]? = some C ∧ Ext [] w (((w.alloc A).alloc (.map #[] 0)).alloc C) := by
  have hs1 : (w.alloc A).heap.size = w.heap.size + 1 := by simp
  have hs2 : ((w.alloc A).alloc (.map #[] 0)).heap.size = w.heap.size + 1 + 1 := by simp
  refine ⟨heap_old' _ _ (heap_old' _ _ (heap_new w A)), ?_, ?_, (((Ext.refl _ _).alloc _).alloc _).alloc _⟩
  · have := mapAt_new enc venc (w.alloc A)
    rw [hs1] at this
    exact this.ext ((Ext.refl [] _).alloc _) (by simp)
  · have := heap_new ((w.alloc A).alloc (.map #[] 0)) C
    rw [hs2] at this
    exact this
def MSt.new (n : Nat) : MSt := ⟨List.replicate n noText, []⟩
theorem cellsNew_any (n : Nat) (hn : n ≤ 65536) (w : World) :
    Calls Try.prog 20 #[.int .i64 n] w fun e w' => ∃ mb mc mm lv, e = .returned (.pointer (some ⟨mb, 0, none⟩)) ∧ IsMem w'.heap mb mc mm lv (MSt.new n) ∧ Ext [] w w' ∧ (∀ g ∈ foot mb mc mm lv, w.heap.size ≤ g) := by
  obtain ⟨i, hi, hz, hs, hby⟩ := info_parts infoStr
  have h0 : (0 : Int) ≤ n := by omega
  have h1 : (n : Int) ≤ 65536 := by omega
  have hm1 : min (n : Int) 65536 = n := by omega
  have hm2 : max 0 (n : Int) = n := by omega
  have hmk := fun w => run_makeMap (P := Try.prog) 27 w
  go_enter Try.func20, Try.ntmps20
  go_wp2_with (at_make; refine wpList_make_eq rfl _ _ _ rfl 9 i _ 1 16 Try.underlying34 hi hz hs hby .i64 .i64 _ _ n rfl rfl (by first | rfl | (simp [hm1, hm2]; done) | (simp [hm1, hm2]; omega) | omega) (by first | rfl | (simp [hm1, hm2]; done) | (simp [hm1, hm2]; omega) | omega) (by omega) (by simp [maxLen]; omega) ?_)
  all_goals
    go_ret
    have hms := made_strs n
    simp only [Nat.mul_one, Value.cells] at hms
    rw [hms]
    obtain ⟨h1, h2, h3, hE⟩ := alloc3 (Value.int .i64) (Value.int .i64) w (.cells ((List.replicate n noText).map Value.string).toArray 9) (.cells #[.slice (some ⟨w.heap.size, 0, none⟩) n n, .map (some (w.heap.size + 1)), .slice none 0 0] 73)
    refine ⟨w.heap.size + 1 + 1, rfl, w.heap.size, w.heap.size + 1, .slice none 0 0, ⟨?_, h1, ⟨[], h2⟩, ⟨by simp [MSt.new], .inl ⟨rfl, rfl⟩⟩, by simp [Value.ownBlock]⟩, hE, ?_⟩
    · refine Eq.trans h3 ?_
      simp [MSt.new]
    · intro g hg
      simp [foot, Value.ownBlock] at hg
      omega
def PSt.new (P S who : Nat) : PSt := ⟨P, S, who, 0, 0, [], 0, 0, noText, noText⟩
theorem procNew_any (P S who : Nat) (w : World) :
    Calls Try.prog 21 #[.agg #[.int .i64 P, .int .i64 S], .int .i64 who] w fun e w' => ∃ b m, e = .returned (.pointer (some ⟨b, 0, none⟩)) ∧ IsProc w'.heap b m (PSt.new P S who) ∧ Ext [] w w' ∧ w.heap.size ≤ b ∧ w.heap.size ≤ m := by
  have hA := heap_new w (.cells #[.int .i64 P, .int .i64 S] 23)
  have a0 := cellAt hA 0
  have a1 := cellAt hA 1
  simp at a0 a1
  have hmk := fun w => run_makeMap (P := Try.prog) 27 w
  go_enter Try.func21, Try.ntmps21
  go_wp2
  go_ret
  obtain ⟨h1, h2, h3, hE⟩ := alloc3 (Value.int .i64) (Value.int .i64) w (.cells #[.int .i64 P, .int .i64 S] 23) (.cells ((PSt.new P S who).cells (w.heap.size + 1)) 75)
  refine ⟨w.heap.size + 1 + 1, w.heap.size + 1, rfl, ⟨h3, h2⟩, hE, by omega, by omega⟩
theorem memLen_any (mb mc mm : Nat) (lv : Value) (M : MSt) (w : World) (hM : IsMem w.heap mb mc mm lv M) :
    Calls Try.prog 28 #[.pointer (some ⟨mb, 0, none⟩)] w fun e w' => e = .returned (.int .i64 M.cells.length) ∧ w' = w := by
  have c0 := cellAt hM.hb 0
  simp at c0
  go_enter Try.func28, Try.ntmps28
  go_wp2
  go_ret
  exact ⟨rfl, rfl⟩
theorem memAll_any (mb mc mm : Nat) (lv : Value) (M : MSt) (w : World) (hM : IsMem w.heap mb mc mm lv M) :
    Calls Try.prog 25 #[.pointer (some ⟨mb, 0, none⟩)] w fun e w' => e = .returned (.int .i64 M.log.length) ∧ w' = w := by
  have c2 := cellAt hM.hb 2
  simp at c2
  obtain ⟨ao, cap, rfl⟩ := Own.form (w := w) hM.hl
  go_enter Try.func25, Try.ntmps25
  go_wp2
  go_ret
  exact ⟨rfl, rfl⟩
theorem memLook_any (mb mc mm : Nat) (lv : Value) (M : MSt) (c : Int) (hc : 0 ≤ c) (w : World) (hM : IsMem w.heap mb mc mm lv M) :
    Calls Try.prog 17 #[.pointer (some ⟨mb, 0, none⟩), .int .i64 c] w fun e w' => e = .returned (.string (M.at c)) ∧ w' = w := by
  have c0 := cellAt hM.hb 0
  simp at c0
  have hlt : decide (c < 0) = false := by simp; omega
  by_cases hl : c < M.cells.length
  · have hd : decide ((M.cells.length : Int) ≤ c) = false := by simp; omega
    have hcn : c.toNat < M.cells.length := by omega
    have cc := cellAt hM.hc c.toNat
    have hat : M.at c = M.cells[c.toNat] := by unfold MSt.at; simp [List.getD, hcn]
    simp [hcn] at cc
    rw [hat]
    go_enter Try.func17, Try.ntmps17
    go_wp2
    go_ret
    exact ⟨rfl, rfl⟩
  · have hd : decide ((M.cells.length : Int) ≤ c) = true := by simp; omega
    have hd' : (M.cells.length : Int) ≤ c := by omega
    have hat : M.at c = noText := by
      unfold MSt.at
      rw [List.getD_eq_getElem?_getD, List.getElem?_eq_none (by omega)]; rfl
    rw [hat]
    go_enter Try.func17, Try.ntmps17
    go_wp2
    go_ret
    exact ⟨rfl, rfl⟩
end Go.Proofs.Ytkhihpmadmmeaaa
set_option linter.unusedSimpArgs false
set_option linter.unusedVariables false
set_option maxHeartbeats 2000000
set_option maxRecDepth 100000
namespace Go.Proofs.Ytkhihpmadmmeaaa
open Go.RowKit Go.Hs

theorem run_make_strs (n : Nat) (hn : n ≤ 1000) (w : World) : (Instr.makeSlice 34 (.int .i64 n) (.int .i64 n)).run Try.prog w = .ok (.slice (some ⟨w.heap.size, 0, none⟩) n n) (w.alloc (.cells ((List.replicate n noText).map Value.string).toArray 9)) := by
  obtain ⟨i, hi, hz, hs, hby⟩ := info_parts infoStr
  have hr := run_make (P := Try.prog) w 34 9 i (.string ⟨#[]⟩) Try.underlying34 hi hz .i64 .i64 n n (by omega) (Int.le_refl _) (by rw [hby]; omega) (by omega)
  simp only [Int.toNat_natCast, hs] at hr
  rw [hr, made_strs]
theorem own_strs_new (n : Nat) (hn : n ≤ 1000) (w : World) : Own (w.alloc (.cells ((List.replicate n noText).map Value.string).toArray 9)).heap 9 1 (.slice (some ⟨w.heap.size, 0, none⟩) n n) n ((List.replicate n noText).map Value.string) :=
  ⟨by simp, .inr ⟨w.heap.size, n, _, rfl, Nat.zero_le _, heap_new _ _, Nat.le_refl _, by simp [maxLen]; omega, by simp, by simp⟩⟩
def RP.fresh (i : Nat) : RP := ⟨0, 0, i, 0, noText, noText⟩
def RW.new (Pn S : Nat) : RW := ⟨List.replicate S noText, List.replicate Pn noText, (List.range Pn).map RP.fresh⟩
theorem own_strs_of {h : Array Obj} {g n : Nat} (hn : n ≤ 1000) (hg : h[g]? = some (.cells (Array.replicate n (Value.string noText)) 9 (0, 0))) : Own h 9 1 (.slice (some ⟨g, 0, none⟩) n n) n ((List.replicate n noText).map Value.string) :=
  ⟨by simp, .inr ⟨g, n, _, rfl, Nat.zero_le _, hg, Nat.le_refl _, by simp [maxLen]; omega, by simp, by simp⟩⟩
structure NewMid (w wx : World) (D V s0 w0 S Pn k pcap : Nat) (pao : Option Addr) : Prop where
  hv : wx.heap[V]? = some (.cells #[.slice (some ⟨s0, 0, none⟩) S S, .slice (some ⟨w0, 0, none⟩) Pn Pn, .slice pao k pcap] 37 (0, 0))
  hs : Own wx.heap 9 1 (.slice (some ⟨s0, 0, none⟩) S S) S ((List.replicate S noText).map Value.string)
  hw : Own wx.heap 9 1 (.slice (some ⟨w0, 0, none⟩) Pn Pn) Pn ((List.replicate Pn noText).map Value.string)
  hp : Own wx.heap 62 6 (.slice pao k pcap) k (((List.range k).map RP.fresh).flatMap RP.cells)
  hd : wx.heap[D]? = some (.cells #[.slice none 0 0, .slice none 0 0, .slice none 0 0] 37 (0, 0))
  ext : Ext [] w wx
  lo : w.heap.size ≤ D ∧ D < V ∧ D < s0 ∧ D < w0 ∧ s0 ≠ w0
  pg : ∀ g, (Value.slice pao k pcap).ownBlock = some g → D < g
theorem newMid_first {w W : World} {D S Pn V s0 w0 : Nat} {A C E : Obj} (hS : S ≤ 1000) (hl : Pn ≤ 1000) (hE : Ext [] w W) (hBB : w.heap.size = D) (hD : W.heap[D]? = some (.cells #[.slice none 0 0, .slice none 0 0, .slice none 0 0] 37 (0, 0)))
    (h1 : (((W.alloc A).alloc C).alloc E).heap[V]? = some (.cells #[.slice (some ⟨s0, 0, none⟩) S S, .slice (some ⟨w0, 0, none⟩) Pn Pn, .slice none 0 0] 37 (0, 0)))
    (h2 : (((W.alloc A).alloc C).alloc E).heap[s0]? = some (.cells (Array.replicate S (Value.string noText)) 9 (0, 0)))
    (h3 : (((W.alloc A).alloc C).alloc E).heap[w0]? = some (.cells (Array.replicate Pn (Value.string noText)) 9 (0, 0)))
    (hlo : D < V ∧ D < s0 ∧ D < w0 ∧ s0 ≠ w0) :
    NewMid w (((W.alloc A).alloc C).alloc E).drew D V s0 w0 S Pn 0 0 none := by
  obtain ⟨_, _, _, hx, _⟩ := alloc_three W A C E
  have hlt := lt_of_heap hD
  exact ⟨h1, own_strs_of hS h2, own_strs_of hl h3, ⟨rfl, .inl ⟨rfl, rfl⟩⟩, hx.same hD (by simp), (hE.trans0 hx).drew, by omega, by simp [Value.ownBlock]⟩
theorem own_far {h : Array Obj} {e t : TypeId} {size n : Nat} {v : Value} {xs : List Value} (o : Own h e size v n xs) {b : Nat} {cs : Array Value} {f : Nat × Nat} (hb : h[b]? = some (.cells cs t f)) (ht : t ≠ e) : b ∉ v.ownBlock.toList := by
  intro hm
  obtain ⟨cur, hc⟩ := o.block (by simpa using hm)
  rw [hb] at hc
  simp at hc
  exact ht hc.2.1
theorem NewMid.next {w wr w2 : World} {D V s0 w0 S Pn k pcap cap2 : Nat} {pao ao : Option Addr} {X : Obj} (hN : NewMid w wr D V s0 w0 S Pn k pcap pao)
    (hl2 : Own w2.heap 62 6 (.slice ao (k + 1) cap2) (k + 1) (((List.range k).map RP.fresh).flatMap RP.cells ++ (RP.fresh k).cells)) (hx2 : Ext (Value.slice pao k pcap).ownBlock.toList (wr.alloc X) w2)
    (hf2 : ∀ g, (Value.slice ao (k + 1) cap2).ownBlock = some g → (Value.slice pao k pcap).ownBlock = some g ∨ (wr.alloc X).heap.size ≤ g) :
    NewMid w (w2.setCell ⟨V, 2, none⟩ (.slice ao (k + 1) cap2)) D V s0 w0 S Pn (k + 1) cap2 ao := by
  have hlo := hN.lo
  have hdlt := lt_of_heap hN.hd
  have hv2 := hx2.same (heap_old' _ _ hN.hv) (own_far hN.hp hN.hv (by decide))
  have hd2 := hx2.same (heap_old' _ _ hN.hd) (own_far hN.hp hN.hd (by decide))
  have hs2 : Own w2.heap 9 1 (.slice (some ⟨s0, 0, none⟩) S S) S ((List.replicate S noText).map Value.string) := own_ext (hN.hs.alloc X) hx2 (fun g hg => by
    obtain ⟨cur, hc⟩ := hN.hs.block hg
    exact own_far hN.hp hc (by decide))
  have hw2 : Own w2.heap 9 1 (.slice (some ⟨w0, 0, none⟩) Pn Pn) Pn ((List.replicate Pn noText).map Value.string) := own_ext (hN.hw.alloc X) hx2 (fun g hg => by
    obtain ⟨cur, hc⟩ := hN.hw.block hg
    exact own_far hN.hp hc (by decide))
  have hE2 : Ext [] w w2 := (hN.ext.alloc X).trans hx2 (fun g hg => .inr (by have := hN.pg g (by simpa using hg); omega))
  have hset : Ext [V] w2 (w2.setCell ⟨V, 2, none⟩ (.slice ao (k + 1) cap2)) := Ext.set' (by simp) (Ext.refl _ _) _ _
  refine ⟨?_, own_ext hs2 hset ?_, own_ext hw2 hset ?_, own_ext ?_ hset ?_, hset.same hd2 (by simp; omega), hE2.setCell (.inr (by show w.heap.size ≤ V; omega)) _, hlo, ?_⟩
  · rw [heap_set hv2]; simp
  · intro g hg
    obtain ⟨cur, hc⟩ := hs2.block hg
    simpa using ne_block hc hv2 (by simp)
  · intro g hg
    obtain ⟨cur, hc⟩ := hw2.block hg
    simpa using ne_block hc hv2 (by simp)
  · rw [List.range_succ, List.map_append, List.flatMap_append]
    simpa using hl2
  · intro g hg
    obtain ⟨cur, hc⟩ := hl2.block hg
    simpa using ne_block hc hv2 (by simp)
  · intro g hg
    rcases hf2 g hg with h | h
    · exact hN.pg g h
    · simp at h; omega
theorem NewMid.done {w wr : World} {D V s0 w0 S Pn pcap : Nat} {pao : Option Addr} (hN : NewMid w wr D V s0 w0 S Pn Pn pcap pao) (hP : 1 ≤ Pn) (v0 v1 v2 : Value) :
    ∃ pg, pao = some ⟨pg, 0, none⟩ ∧ RefV (((wr.setCell ⟨D, 0, none⟩ v0).setCell ⟨D, 1, none⟩ v1).setCell ⟨D, 2, none⟩ v2).heap S Pn (some ⟨s0, 0, none⟩) S (some ⟨w0, 0, none⟩) Pn pg pcap (RW.new Pn S) ∧ Ext [] w (((wr.setCell ⟨D, 0, none⟩ v0).setCell ⟨D, 1, none⟩ v1).setCell ⟨D, 2, none⟩ v2) ∧ w.heap.size ≤ pg := by
  have hlo := hN.lo
  obtain ⟨pg, cap, cur, hv, _⟩ := own_some hN.hp (by omega)
  simp only [Value.slice.injEq] at hv
  obtain ⟨rfl, _, rfl⟩ := hv
  have hset : Ext [D] wr (((wr.setCell ⟨D, 0, none⟩ v0).setCell ⟨D, 1, none⟩ v1).setCell ⟨D, 2, none⟩ v2) := Ext.set' (by simp) (Ext.set' (by simp) (Ext.set' (by simp) (Ext.refl _ _) _ _) _ _) _ _
  refine ⟨pg, rfl, ⟨own_ext hN.hs hset ?_, own_ext hN.hw hset ?_, own_ext hN.hp hset ?_⟩, hN.ext.trans hset (fun g hg => .inr (by simp at hg; omega)), by have := hN.pg pg rfl; omega⟩
  · intro g hg
    simp [Value.ownBlock] at hg ⊢; omega
  · intro g hg
    simp [Value.ownBlock] at hg ⊢; omega
  · intro g hg
    have := hN.pg g hg
    simp; omega
theorem refNew_any (Pn S : Nat) (hP : 1 ≤ Pn) (hl : Pn ≤ 1000) (hS : S ≤ 1000) (w : World) :
    Calls Try.prog 30 #[.int .i64 Pn, .int .i64 S] w fun e w' => ∃ s0 w0 pg pcap, e = .returned (.agg #[.slice (some ⟨s0, 0, none⟩) S S, .slice (some ⟨w0, 0, none⟩) Pn Pn, .slice (some ⟨pg, 0, none⟩) Pn pcap]) ∧
      RefV w'.heap S Pn (some ⟨s0, 0, none⟩) S (some ⟨w0, 0, none⟩) Pn pg pcap (RW.new Pn S) ∧ Ext [] w w' ∧ w.heap.size ≤ s0 ∧ w.heap.size ≤ w0 ∧ w.heap.size ≤ pg ∧ s0 ≠ w0 := by
  have hms := run_make_strs S hS
  have hmp := run_make_strs Pn hl
  have hD := heap_new w (.cells #[.slice none 0 0, .slice none 0 0, .slice none 0 0] 37)
  have hE : Ext [] w (w.alloc (.cells #[.slice none 0 0, .slice none 0 0, .slice none 0 0] 37)) := (Ext.refl _ _).alloc _
  go_enter Try.func30, Try.ntmps30
  go_upto_region 1 with fail
  generalize w.alloc (.cells #[.slice none 0 0, .slice none 0 0, .slice none 0 0] 37) = W at *
  generalize hBB : w.heap.size = D at *
  have hDlt := lt_of_heap hD
  go_cut [5] (fun s wx => ∃ V s0 w0, s = .pointer (some ⟨V, 0, none⟩) ∧ NewMid w wx D V s0 w0 S Pn 0 0 none)
  case first =>
    go_region
    all_goals go_wp2_with fail
    all_goals go_meet
    all_goals refine ⟨_, ?_, ?_, rfl, newMid_first hS hl hE hBB hD ?_ ?_ ?_ ?_⟩
    all_goals try first
      | exact (alloc_three W _ _ _).1
      | exact (alloc_three W _ _ _).2.1
      | exact (alloc_three W _ _ _).2.2.1
    all_goals omega
  case rest =>
    obtain ⟨V, s0, w0, rfl, hN⟩ := hcut
    clear hD hDlt hE hms hmp
    go_wp2_with fail
    go_loopw [6] (fun i wr => ∃ k pao pcap, k ≤ Pn ∧ i = .int .i64 (k : Nat) ∧ NewMid w wr D V s0 w0 S Pn k pcap pao) (fun i _ => Pn - (intOf i).toNat)
    case atStart => exact ⟨0, none, 0, by omega, rfl, hN⟩
    case round =>
      obtain ⟨k, pao, pcap, hk, rfl, hN⟩ := hrel
      by_cases hkn : k < Pn
      · have v0 := cellAt hN.hv 0
        have v1 := cellAt hN.hv 1
        have v2 := cellAt hN.hv 2
        have vf := freeAt hN.hv
        simp at v0 v1 v2
        have hki : (k : Int) < Pn := by omega
        have hki2 : (k : Int) < 1000 := by omega
        have hown := hN.hp.alloc (.cells (RP.fresh k).cells.toArray 62)
        have hfar := own_far hN.hp hN.hv (by decide)
        have HN := Hs.hid hN
        clear hN
        obtain ⟨i0, hi, hz0, hz1, hz2⟩ := info_parts infoRP
        have hnews := news_new wr (RP.fresh k).cells 62
        have h1c : ∀ u ∈ (RP.fresh k).cells, u.oneCell' = true := by
          intro u hu
          simp [RP.cells] at hu
          rcases hu with rfl | rfl | rfl | rfl | rfl | rfl <;> rfl
        have hm1 : k + 1 ≤ maxLen := by simp [maxLen]; omega
        have hm2 : (k + 1) * 64 ≤ 140737488355328 := by omega
        have HK := Hs.hid (And.intro hk hkn)
        clear hk hkn
        go_wp2_with (at_builtin; refine wpList_append rfl (.tmp 18) (.tmp 22) 35 rfl 62 i0 _ 6 64 Try.underlying35 hi hz0 hz1 hz2 rfl (by decide) (.slice pao k pcap) k _ rfl hown ⟨wr.heap.size, 0, none⟩ 1 1 (RP.fresh k).cells rfl rfl hnews h1c hm1 hm2 ?_; intro ao cap2 w2 hl2 hx2 hf2; have hv2 := hx2.same (heap_old' _ _ HN.out.hv) hfar; have e2 := cellAt hv2 2; have f2 := freeAt hv2 2; simp at e2)
        have hnext := HN.out.next hl2 hx2 hf2
        go_round
        case rel => exact ⟨k + 1, ao, cap2, by have := HK.out; omega, by go_num, hnext⟩
        case measure => have := HK.out; simp [intOf]; omega
      · obtain rfl : k = Pn := by omega
        have v0 := cellAt hN.hv 0
        have v1 := cellAt hN.hv 1
        have v2 := cellAt hN.hv 2
        have df := freeAt hN.hd
        have d0 := cellAt hN.hd 0
        have d1 := cellAt hN.hd 1
        have d2 := cellAt hN.hd 2
        simp at v0 v1 v2 d0 d1 d2
        have HN := Hs.hid hN
        clear hN
        go_wp2_with fail
        obtain ⟨pg, rfl, h1, h2, h3⟩ := HN.out.done hP (.slice (some ⟨s0, 0, none⟩) S S) (.slice (some ⟨w0, 0, none⟩) k k) (.slice pao k pcap)
        have hlo := HN.out.lo
        refine bodyPost_ret (v := .agg #[.slice (some ⟨s0, 0, none⟩) S S, .slice (some ⟨w0, 0, none⟩) k k, .slice (some ⟨pg, 0, none⟩) k pcap]) (by simp [results, Try.results30, go_sem, d0, d1, d2]) rfl ⟨s0, w0, pg, pcap, rfl, h1, h2, by omega, by omega, h3, hlo.2.2.2.2⟩
end Go.Proofs.Ytkhihpmadmmeaaa
set_option linter.unusedSimpArgs false
set_option linter.unusedVariables false
namespace Go.Proofs.Ytkhihpmadmmeaaa
open Go.RowKit Go.Hs

/-- The post of any step of the reference. -/
def RStepped (w : World) (S Pn : Nat) (sao : Option Addr) (scap : Nat) (wao : Option Addr) (wcap pg pcap : Nat) (e : Ending) (w' : World) (X' : RW) (E : EndR) : Prop :=
  ∃ sao2 scap2 wao2 wcap2 g2 cap2, e = .returned (.tuple #[.agg #[.slice sao2 S scap2, .slice wao2 Pn wcap2, .slice (some ⟨g2, 0, none⟩) Pn cap2], .agg #[.bool E.done, .bool E.full, .int .i64 E.slot]]) ∧
    RefV w'.heap S Pn sao2 scap2 wao2 wcap2 g2 cap2 X' ∧ Ext [] w w' ∧ Kept (.slice sao S scap) (.slice sao2 S scap2) w.heap.size ∧ Kept (.slice wao Pn wcap) (.slice wao2 Pn wcap2) w.heap.size ∧ (g2 = pg ∨ w.heap.size ≤ g2)
theorem RStep.any {w : World} {S Pn : Nat} {sao : Option Addr} {scap : Nat} {wao : Option Addr} {wcap : Nat} {e : Ending} {w' : World} {X' : RW} {E : EndR} (h : RStep w S Pn sao scap wao wcap e w' X' E) (pg pcap : Nat) : RStepped w S Pn sao scap wao wcap pg pcap e w' X' E := by
  obtain ⟨a, b, c, d, g2, cap2, h1, h2, h3, h4, h5, h6⟩ := h
  exact ⟨a, b, c, d, g2, cap2, h1, h2, h3, h4, h5, .inr h6⟩
theorem refStep_any (S Pn : Nat) (sao : Option Addr) (scap : Nat) (wao : Option Addr) (wcap pg pcap : Nat) (X : RW) (who : Nat) (p : RP) (w : World) (hR : RefV w.heap S Pn sao scap wao wcap pg pcap X) (hp : X.P[who]? = some p) (hl : Pn ≤ 1000) (hS : S ≤ 1000)
    (hp1 : p.who < 1000000) (hp2 : p.seq < 1000000000000000) (hp3 : p.body.size < 100000) (hat : p.at_ ≤ S) (hph : p.next = 0 ∨ p.next = 1 ∨ p.next = 2 ∨ p.next = 3 ∨ p.next = 4 ∨ p.next = 5) (hlt : p.next = 2 ∨ p.next = 4 → p.at_ < S) :
    Calls Try.prog 31 #[.agg #[.slice sao S scap, .slice wao Pn wcap, .slice (some ⟨pg, 0, none⟩) Pn pcap], .int .i64 who] w fun e w' =>
      RStepped w S Pn sao scap wao wcap pg pcap e w' (X.step who p).1 (X.step who p).2 := by
  rcases hph with h | h | h | h | h | h
  · refine (refStep_idle S Pn sao scap wao wcap pg pcap X who p w hR hp hl hS hp1 hp2 hp3 hat h).mono fun e w' ⟨h1, h2, h3⟩ => ?_
    rw [h3]
    exact ⟨sao, scap, wao, wcap, pg, pcap, h1, hR.ext0 h2, h2, .inl rfl, .inl rfl, .inl rfl⟩
  · exact (refStep_wish S Pn sao scap wao wcap pg pcap X who p w hR hp hl hS hp1 hp2 hp3 hat h).mono fun e w' h => h.any _ _
  · exact (refStep_look S Pn sao scap wao wcap pg pcap X who p w hR hp hl hS hp1 hp2 hp3 hat h (hlt (.inl h))).mono fun e w' h => h.any _ _
  · exact (refStep_help S Pn sao scap wao wcap pg pcap X who p w hR hp hl hS hp1 hp2 hp3 hat h).mono fun e w' h => h.any _ _
  · by_cases hne : (X.slots.getD p.at_ ⟨#[]⟩).toList = []
    · exact (refStep_swap2 S Pn sao scap wao wcap pg pcap X who p w hR hp hl hS hp1 hp2 hp3 hat h (hlt (.inr h)) hne).mono fun e w' h => h.any _ _
    · exact (refStep_swap1 S Pn sao scap wao wcap pg pcap X who p w hR hp hl hS hp1 hp2 hp3 hat h (hlt (.inr h)) hne).mono fun e w' h => h.any _ _
  · by_cases h0 : S ≤ p.at_
    · exact (refStep_head0 S Pn sao scap wao wcap pg pcap X who p w hR hp hl hS hp1 hp2 hp3 hat h h0).mono fun e w' h => h.any _ _
    · by_cases hne : (X.slots.getD p.at_ ⟨#[]⟩).toList = []
      · exact (refStep_head1 S Pn sao scap wao wcap pg pcap X who p w hR hp hl hS hp1 hp2 hp3 hat h (by omega) hne).mono fun e w' h => h.any _ _
      · exact (refStep_head2 S Pn sao scap wao wcap pg pcap X who p w hR hp hl hS hp1 hp2 hp3 hat h (by omega) hne).mono fun e w' h => h.any _ _
end Go.Proofs.Ytkhihpmadmmeaaa
set_option linter.unusedSimpArgs false
set_option linter.unusedVariables false
set_option maxHeartbeats 1000000
namespace Go.Proofs.Ytkhihpmadmmeaaa
open Go.RowKit Go.Hs

theorem act_rd (M : MSt) (c : Int) : (M.act (PSt.rd c)).cells = M.cells := by simp [MSt.act, PSt.rd]
theorem act_wish (M : MSt) (x : PSt) : (M.act x.wishA).cells = M.cells.set x.who x.mine := by simp [MSt.act, PSt.wishA, MSt.done]
theorem act_log (M : MSt) (a : Acc) : (M.act a).log.length = M.log.length + 1 := by simp [MSt.act]
structure Fresh (x : PSt) (M : MSt) : Prop where
  phase : x.phase = 1
  at_ : x.at_ = 0
  S : 1 ≤ x.S
  who : x.who < x.P
  cells : M.cells = List.replicate (x.P + x.S) noText
  log : M.log = []
theorem at_rep (n k : Nat) (h : k < n) (M : MSt) (hM : M.cells = List.replicate n noText) : M.at k = noText := by
  unfold MSt.at
  rw [hM]
  simp [List.getD, h]
theorem Fresh.step1 {x : PSt} {M : MSt} (h : Fresh x M) : x.step M = (.no, x.ph 2, M.act x.wishA) := by
  have := h.S
  unfold PSt.step
  simp [h.phase, h.at_]; omega
theorem Fresh.at1 {x : PSt} {M : MSt} (h : Fresh x M) : (M.act x.wishA).at (x.P + x.at_) = noText := by
  have := h.who
  have h2 := h.S
  unfold MSt.at
  rw [act_wish, h.at_, h.cells]
  simp [List.getD, List.getElem?_set]
  rw [if_neg (by omega)]
  simp [show 0 < x.S by omega]
theorem Fresh.step2 {x : PSt} {M : MSt} (h : Fresh x M) : (x.ph 2).step (M.act x.wishA) = (.no, x.ph 3, (M.act x.wishA).act (PSt.rd (x.P + x.at_))) := by
  have h1 := h.at1
  unfold PSt.step PSt.look
  simp [PSt.ph, h1]
theorem Fresh.step3 {x : PSt} {M : MSt} (h : Fresh x M) (N : MSt) : (x.ph 3).step N = (.no, (x.withOffer (x.pick (N.at x.helpC))).ph 4, N.act (PSt.rd x.helpC)) := by
  have e : (x.ph 3).phase = 3 := rfl
  unfold PSt.step
  rw [if_neg (by rw [e]; decide), if_neg (by rw [e]; decide), if_pos e]
  rfl
def MSt.m3 (x : PSt) (M : MSt) : MSt := ((M.act x.wishA).act (PSt.rd (x.P + x.at_))).act (PSt.rd x.helpC)
def MSt.m2 (x : PSt) (M : MSt) : MSt := (M.act x.wishA).act (PSt.rd (x.P + x.at_))
theorem m3_cells (x : PSt) (M : MSt) : (MSt.m3 x M).cells = M.cells.set x.who x.mine := by unfold MSt.m3; rw [act_rd, act_rd, act_wish]
theorem m2_cells (x : PSt) (M : MSt) : (MSt.m2 x M).cells = M.cells.set x.who x.mine := by unfold MSt.m2; rw [act_rd, act_wish]
/-- Where it is behind so many steps. -/
noncomputable def freshP (x : PSt) (M : MSt) (i : Nat) : PSt := if i = 0 then x else if i = 1 then x.ph 2 else if i = 2 then x.ph 3 else (x.withOffer (x.pick ((MSt.m2 x M).at x.helpC))).ph 4
def freshM (x : PSt) (M : MSt) (i : Nat) : MSt := if i = 0 then M else if i = 1 then M.act x.wishA else if i = 2 then MSt.m2 x M else MSt.m3 x M
theorem Fresh.step {x : PSt} {M : MSt} (h : Fresh x M) (i : Nat) (hi : i < 3) : (freshP x M i).step (freshM x M i) = (.no, freshP x M (i + 1), freshM x M (i + 1)) := by
  have : i = 0 ∨ i = 1 ∨ i = 2 := by omega
  rcases this with rfl | rfl | rfl
  · exact h.step1
  · exact h.step2
  · exact h.step3 _
theorem freshM_len (x : PSt) (M : MSt) (i : Nat) : (freshM x M i).cells.length = M.cells.length ∧ (freshM x M i).log.length ≤ M.log.length + 3 := by
  unfold freshM
  refine ⟨?_, ?_⟩
  · split
    · rfl
    · split
      · rw [act_wish]; simp
      · split
        · rw [m2_cells]; simp
        · rw [m3_cells]; simp
  · split
    · omega
    · split
      · rw [act_log]; omega
      · split
        · unfold MSt.m2; simp only [act_log]; omega
        · unfold MSt.m3; simp only [act_log]; omega
theorem freshP_same (x : PSt) (M : MSt) (i : Nat) : ∃ o ph, freshP x M i = { x with offer := o, phase := ph } := by
  unfold freshP
  split
  · exact ⟨_, _, rfl⟩
  · split
    · exact ⟨_, _, rfl⟩
    · split
      · exact ⟨_, _, rfl⟩
      · exact ⟨_, _, rfl⟩
theorem Fresh.ph {x : PSt} {M : MSt} (h : Fresh x M) (i : Nat) (hi : i ≤ 3) : (freshP x M i).phase = i + 1 := by
  have : i = 0 ∨ i = 1 ∨ i = 2 ∨ i = 3 := by omega
  rcases this with rfl | rfl | rfl | rfl
  · exact h.phase
  · rfl
  · rfl
  · rfl
/-- The last step of a process alone. -/
theorem Fresh.step4 {x : PSt} {M : MSt} (h : Fresh x M) (hP : x.P = 1) :
    ∃ y N, (freshP x M 3).step (freshM x M 3) = (⟨true, false, 0⟩, y, N) ∧ y.phase = 0 ∧ N.at 1 = x.mine := by
  have hw := h.who
  have hS := h.S
  have hw0 : x.who = 0 := by omega
  have hc : x.helpC = 0 := by unfold PSt.helpC; simp [h.at_]
  have e2 : (MSt.m2 x M).at x.helpC = x.mine := by
    unfold MSt.at
    rw [m2_cells, hc, hw0, h.cells]
    simp [List.getD, List.getElem?_set]
    rw [if_pos (by omega)]; rfl
  have hp : freshP x M 3 = (x.withOffer x.mine).ph 4 := by
    show (x.withOffer (x.pick ((MSt.m2 x M).at x.helpC))).ph 4 = _
    rw [e2]
    unfold PSt.pick
    simp
  have e3 : (MSt.m3 x M).at ((x.P : Int) + x.at_) = noText := by
    unfold MSt.at
    rw [m3_cells, hP, h.at_, hw0, h.cells]
    simp [List.getD, List.getElem?_set]
    rw [hP]
    simp [show 0 < x.S by omega]
  rw [hp]
  show ∃ y N, ((x.withOffer x.mine).ph 4).step (MSt.m3 x M) = _ ∧ _
  have hst : ((x.withOffer x.mine).ph 4).step (MSt.m3 x M) = ((((x.withOffer x.mine).ph 4).after x.mine).1, (((x.withOffer x.mine).ph 4).after x.mine).2, (MSt.m3 x M).act ((x.withOffer x.mine).ph 4).swapA) := by
    conv => lhs; unfold PSt.step
    simp only [PSt.ph, PSt.withOffer, e3]
    simp
  have haf : ((x.withOffer x.mine).ph 4).after x.mine = (⟨true, false, 0⟩, (((x.withOffer x.mine).ph 4).decide x.mine).ph 0) := by
    unfold PSt.after
    rw [if_pos (by simp [PSt.mine, PSt.ph, PSt.withOffer])]
    simp [PSt.ph, PSt.withOffer, h.at_]
  refine ⟨_, _, by rw [hst, haf], rfl, ?_⟩
  unfold MSt.at MSt.act
  have hd : (MSt.m3 x M).done ((x.withOffer x.mine).ph 4).swapA = true := by
    unfold MSt.done PSt.swapA
    simp only [PSt.ph, PSt.withOffer, e3]
    simp
  rw [hd]
  simp only [PSt.swapA, PSt.ph, PSt.withOffer, m3_cells, hP, h.at_, h.cells, hw0]
  simp [List.getD, List.getElem?_set]
  rw [if_pos (by omega)]; rfl
end Go.Proofs.Ytkhihpmadmmeaaa
set_option linter.unusedSimpArgs false
set_option linter.unusedVariables false
namespace Go.Proofs.Ytkhihpmadmmeaaa
open Go.RowKit Go.Hs Go.Proofs.YtkhihpmadmmeaaaW.PrintWords

structure Sys where
  P : Nat
  S : Nat
  L : List PSt
  M : MSt
def rpOf (x : PSt) : RP := ⟨x.phase, x.at_, x.who, x.seq, x.body, x.offer⟩
def Sys.ref (s : Sys) : RW := ⟨s.M.cells.drop s.P, s.M.cells.take s.P, s.L.map rpOf⟩
/-- What holds of a process, whatever its phase. -/
structure PCore (P S n : Nat) (cells : List ByteArray) (i : Nat) (x : PSt) : Prop where
  hP : x.P = P
  hS : x.S = S
  who : x.who = i
  at_ : x.at_ ≤ S
  seq : x.seq ≤ n
  body : x.body.size ≤ 1024
  seen : ∀ r, (mlook x.seen r).getD 0 = knownF ((cells.drop P).take x.at_) r
  dec : ∀ k, k < x.at_ → ((cells.drop P).getD k noText).toList ≠ []
/-- .. and what hangs on its phase. -/
structure PPh (S i : Nat) (x : PSt) : Prop where
  ph : x.phase = 0 ∨ x.phase = 1 ∨ x.phase = 2 ∨ x.phase = 3 ∨ x.phase = 4 ∨ x.phase = 5
  lt : x.phase = 2 ∨ x.phase = 3 ∨ x.phase = 4 → x.at_ < S
  mwho : x.mwho = i ∨ (x.mwho = 0 ∧ (x.phase = 0 ∨ x.phase = 5))
  offer : x.phase = 4 → x.offer.toList ≠ []
structure SInv (s : Sys) (n : Nat) : Prop where
  hP : 1 ≤ s.P ∧ s.P ≤ 5
  hS : s.S ≤ 20
  cells : s.M.cells.length = s.P + s.S
  log : s.M.log.length ≤ n
  hL : s.L.length = s.P
  core : ∀ i x, s.L[i]? = some x → PCore s.P s.S n s.M.cells i x
  ph : ∀ i x, s.L[i]? = some x → PPh s.S i x

theorem PCore.same {P S n : Nat} {cells : List ByteArray} {i : Nat} {x y : PSt} (h : PCore P S n cells i x) (h1 : y.P = x.P) (h2 : y.S = x.S) (h3 : y.who = x.who) (h4 : y.at_ = x.at_) (h5 : y.seq = x.seq) (h6 : y.body = x.body) (h7 : y.seen = x.seen) : PCore P S n cells i y :=
  ⟨h1.trans h.hP, h2.trans h.hS, h3.trans h.who, by rw [h4]; exact h.at_, by rw [h5]; exact h.seq, by rw [h6]; exact h.body, by rw [h7, h4]; exact h.seen, by rw [h4]; exact h.dec⟩
theorem PCore.toph {P S n : Nat} {cells : List ByteArray} {i : Nat} {x : PSt} (h : PCore P S n cells i x) (k : Int) : PCore P S n cells i (x.ph k) := h.same rfl rfl rfl rfl rfl rfl rfl
/-- Cells may only fill slots that are empty. -/
def Grow (P : Nat) (c c' : List ByteArray) : Prop := c'.length = c.length ∧ ∀ k, ((c.drop P).getD k noText).toList ≠ [] → (c'.drop P)[k]? = (c.drop P)[k]?
theorem Grow.refl (P : Nat) (c : List ByteArray) : Grow P c c := ⟨rfl, fun _ _ => rfl⟩
theorem Grow.wish {P i : Nat} (hi : i < P) (c : List ByteArray) (t : ByteArray) : Grow P c (c.set i t) := ⟨by simp, fun k _ => by rw [List.drop_set, if_pos hi]⟩
theorem Grow.slot {P j : Nat} (c : List ByteArray) (t : ByteArray) (h : ((c.drop P).getD j noText).toList = []) : Grow P c (c.set (P + j) t) :=
  ⟨by simp, fun k hk => by
    have : j ≠ k := fun e => hk (e ▸ h)
    rw [List.drop_set, if_neg (by omega), show P + j - P = j by omega, List.getElem?_set_ne this]⟩
theorem empty_toList : (noText).toList = [] := ByteArray.toList_eq _
theorem getD_of {c c' : List ByteArray} {k : Nat} (h : c'[k]? = c[k]?) : c'.getD k noText = c.getD k noText := by rw [List.getD_eq_getElem?_getD, List.getD_eq_getElem?_getD, h]
theorem PCore.grow {P S n : Nat} {cells c' : List ByteArray} {i : Nat} {x : PSt} (h : PCore P S n cells i x) (hg : Grow P cells c') : PCore P S n c' i x := by
  refine ⟨h.hP, h.hS, h.who, h.at_, h.seq, h.body, fun r => ?_, fun k hk => ?_⟩
  · rw [h.seen r]
    congr 1
    apply List.ext_getElem?
    intro k
    rw [List.getElem?_take, List.getElem?_take]
    by_cases hk : k < x.at_
    · rw [if_pos hk, if_pos hk, hg.2 k (h.dec k hk)]
    · rw [if_neg hk, if_neg hk]
  · rw [getD_of (hg.2 k (h.dec k hk))]
    exact h.dec k hk
theorem PCore.mono {P S n m : Nat} {cells : List ByteArray} {i : Nat} {x : PSt} (h : PCore P S n cells i x) (hm : n ≤ m) : PCore P S m cells i x :=
  ⟨h.hP, h.hS, h.who, h.at_, Nat.le_trans h.seq hm, h.body, h.seen, h.dec⟩

theorem see_known (x : PSt) (t : ByteArray) (L : List ByteArray) (h : ∀ r, (mlook x.seen r).getD 0 = knownF L r) (r : Int) :
    (mlook (x.see (parseR t).1 (parseR t).2.1 (parseR t).2.2.2) r).getD 0 = knownF (L ++ [t]) r := by
  rw [knownF_snoc, ← h r]
  unfold PSt.see knownStep
  by_cases h4 : (parseR t).2.2.2 = 0
  · rw [if_pos h4]
    simp only [h4, true_and]
    rw [mlook_put]
    by_cases hr : r = (parseR t).1
    · subst hr
      rw [if_pos rfl, if_pos rfl]
      simp only [Option.getD_some]
      split <;> omega
    · rw [if_neg hr, if_neg (fun e => hr e.symm)]
  · rw [if_neg h4]
    simp only [h4, false_and, if_false]
/-- Behind a decided slot. -/
theorem PCore.decide {P S n : Nat} {cells : List ByteArray} {i : Nat} {x : PSt} (h : PCore P S n cells i x) {t : ByteArray} (ht : (cells.drop P)[x.at_]? = some t) (hne : t.toList ≠ []) (hlt : x.at_ < S) : PCore P S n cells i (x.decide t) := by
  refine ⟨h.hP, h.hS, h.who, hlt, h.seq, h.body, fun r => ?_, fun k hk => ?_⟩
  · show (mlook (x.see (parseR t).1 (parseR t).2.1 (parseR t).2.2.2) r).getD 0 = knownF ((cells.drop P).take (x.at_ + 1)) r
    rw [see_known x t _ h.seen r]
    congr 1
    rw [List.take_add_one, ht]; rfl
  · have hk' : k < x.at_ + 1 := hk
    by_cases e : k = x.at_
    · subst e
      rw [List.getD_eq_getElem?_getD, ht]; exact hne
    · exact h.dec k (by omega)

theorem slot_at (M : MSt) (P k : Nat) : M.at ((P : Int) + k) = (M.cells.drop P).getD k ⟨#[]⟩ := by
  unfold MSt.at
  rw [List.getD_eq_getElem?_getD, List.getD_eq_getElem?_getD, List.getElem?_drop, show ((P : Int) + k).toNat = P + k by omega]; rfl
theorem wish_at (M : MSt) (P k : Nat) (h : k < P) : M.at (k : Int) = (M.cells.take P).getD k ⟨#[]⟩ := by
  unfold MSt.at
  rw [List.getD_eq_getElem?_getD, List.getD_eq_getElem?_getD, List.getElem?_take, if_pos h, Int.toNat_natCast]; rfl

theorem step_eq1 {x : PSt} (M : MSt) (h : x.phase = 1) : x.step M = (if x.S ≤ x.at_ then ⟨true, true, 0⟩ else .no, x.ph (if x.S ≤ x.at_ then 0 else 2), M.act x.wishA) := by
  unfold PSt.step; rw [if_pos h]; split <;> rfl
theorem step_eq2 {x : PSt} (M : MSt) (h : x.phase = 2) : x.step M = ((x.look M).1, (x.look M).2, M.act (PSt.rd (x.P + x.at_))) := by
  unfold PSt.step; rw [if_neg (by rw [h]; decide), if_pos h]
theorem step_eq3 {x : PSt} (M : MSt) (h : x.phase = 3) : x.step M = (.no, { x with offer := x.pick (M.at x.helpC), phase := 4 }, M.act (PSt.rd x.helpC)) := by
  unfold PSt.step; rw [if_neg (by rw [h]; decide), if_neg (by rw [h]; decide), if_pos h]
theorem step_eq4 {x : PSt} (M : MSt) (h : x.phase = 4) : x.step M = ((x.after (if (M.at (x.P + x.at_)).toList = [] then x.offer else M.at (x.P + x.at_))).1, (x.after (if (M.at (x.P + x.at_)).toList = [] then x.offer else M.at (x.P + x.at_))).2, M.act x.swapA) := by
  unfold PSt.step; rw [if_neg (by rw [h]; decide), if_neg (by rw [h]; decide), if_neg (by rw [h]; decide), if_pos h]
theorem step_eq5 {x : PSt} (M : MSt) (h : x.phase = 5) : x.step M = ((x.head M).1, (x.head M).2.1, M.act (x.head M).2.2) := by
  unfold PSt.step; rw [if_neg (by rw [h]; decide), if_neg (by rw [h]; decide), if_neg (by rw [h]; decide), if_neg (by rw [h]; decide), if_pos h]
theorem step_eq0 {x : PSt} (M : MSt) (h : x.phase = 0) : x.step M = (.no, x, M) := by
  unfold PSt.step; rw [if_neg (by rw [h]; decide), if_neg (by rw [h]; decide), if_neg (by rw [h]; decide), if_neg (by rw [h]; decide), if_neg (by rw [h]; decide)]
theorem act_swap (M : MSt) (x : PSt) : (M.act x.swapA).cells = if (M.at (x.P + x.at_)).toList = [] then M.cells.set (x.P + x.at_) x.offer else M.cells := by
  unfold MSt.act PSt.swapA MSt.done
  simp only []
  rw [empty_toList]
  by_cases h : (M.at ((x.P : Int) + x.at_)).toList = []
  · rw [if_pos h, if_pos (by rw [h]; rfl), show ((x.P : Int) + x.at_).toNat = x.P + x.at_ by omega]
  · rw [if_neg h, if_neg (by simpa using h)]

theorem after_sees (x : PSt) (t : ByteArray) (hm : x.mwho = x.who) : (rpOf x).sees x.S t = ((x.after t).1, rpOf (x.after t).2) := by
  unfold RP.sees PSt.after PSt.mine rpOf
  rw [hm]
  simp only []
  split
  · rfl
  · split <;> rfl

noncomputable def Sys.step (s : Sys) (i : Nat) (x : PSt) : Sys × EndR := ({ s with L := s.L.set i (x.step s.M).2.1, M := (x.step s.M).2.2 }, (x.step s.M).1)
theorem map_rp (L : List PSt) (i : Nat) (y : PSt) : (L.set i y).map rpOf = (L.map rpOf).set i (rpOf y) := List.map_set ..

theorem sim_step {s : Sys} {n i : Nat} {x : PSt} (h : SInv s n) (hx : s.L[i]? = some x) : s.ref.step i (rpOf x) = ((s.step i x).1.ref, (s.step i x).2) := by
  have hc := h.core i x hx
  have hp := h.ph i x hx
  have hSl : (s.M.cells.drop s.P).length = s.S := by rw [List.length_drop, h.cells]; omega
  have hWl : (s.M.cells.take s.P).length = s.P := by rw [List.length_take, h.cells]; omega
  have hi : i < s.P := by rw [← h.hL]; exact (List.getElem?_eq_some_iff.1 hx).1
  have hself : (s.L.map rpOf).set i (rpOf x) = s.L.map rpOf := by
    apply List.ext_getElem?
    intro k
    rw [List.getElem?_set]
    by_cases e : i = k
    · subst e; rw [if_pos rfl, List.getElem?_map, hx]; simp [List.length_map, h.hL, hi]
    · rw [if_neg e]
  unfold RW.step Sys.step
  simp only [Sys.ref, map_rp]
  rcases hp.ph with e | e | e | e | e | e
  · rw [step_eq0 _ e]
    have e' : (rpOf x).next = 0 := e
    rw [if_neg (by rw [e']; decide), if_neg (by rw [e']; decide), if_neg (by rw [e']; decide), if_neg (by rw [e']; decide), if_neg (by rw [e']; decide)]
    simp only [hself]
  · rw [step_eq1 _ e]
    have e' : (rpOf x).next = 1 := e
    have hm : x.mwho = x.who := by rcases hp.mwho with g | ⟨_, g | g⟩; exact g.trans hc.who.symm; all_goals (rw [e] at g; cases g)
    rw [if_pos e']
    simp only [hSl]
    have hd : (s.M.cells.set i x.mine).drop s.P = s.M.cells.drop s.P := by rw [List.drop_set, if_pos hi]
    rw [act_wish, hc.who, hd, List.take_set, hc.hS]
    simp only [rpOf, PSt.mine, RP.wished, PSt.ph, hm, hc.who]
  · rw [step_eq2 _ e, act_rd]
    have e' : (rpOf x).next = 2 := e
    have hm : x.mwho = x.who := by rcases hp.mwho with g | ⟨_, g | g⟩; exact g.trans hc.who.symm; all_goals (rw [e] at g; cases g)
    rw [if_neg (by rw [e']; decide), if_pos e', hSl, ← hc.hS, after_sees x _ hm]
    unfold PSt.look
    rw [hc.hP, slot_at]
    show (if ((s.M.cells.drop s.P).getD x.at_ ⟨#[]⟩).toList = [] then _ else _) = _
    split <;> rfl
  · rw [step_eq3 _ e, act_rd]
    have e' : (rpOf x).next = 3 := e
    have hm : x.mwho = x.who := by rcases hp.mwho with g | ⟨_, g | g⟩; exact g.trans hc.who.symm; all_goals (rw [e] at g; cases g)
    rw [if_neg (by rw [e']; decide), if_neg (by rw [e']; decide), if_pos e', hWl]
    unfold RP.helps PSt.pick PSt.helpC PSt.mine
    rw [hc.hP, wish_at _ _ _ (Nat.mod_lt _ h.hP.1)]
    simp only [rpOf, hm]
    rw [hc.seen]
    rfl
  · rw [step_eq4 _ e, act_swap]
    have e' : (rpOf x).next = 4 := e
    have hm : x.mwho = x.who := by rcases hp.mwho with g | ⟨_, g | g⟩; exact g.trans hc.who.symm; all_goals (rw [e] at g; cases g)
    rw [if_neg (by rw [e']; decide), if_neg (by rw [e']; decide), if_neg (by rw [e']; decide), if_pos e', hSl, ← hc.hS, after_sees x _ hm, after_sees x _ hm, hc.hP, slot_at]
    show (if ((s.M.cells.drop s.P).getD x.at_ ⟨#[]⟩).toList = [] then _ else _) = _
    by_cases g : ((s.M.cells.drop s.P).getD x.at_ ⟨#[]⟩).toList = []
    · have hw : (s.M.cells.take s.P).set (s.P + x.at_) x.offer = s.M.cells.take s.P := List.set_eq_of_length_le (by rw [hWl]; omega)
      have hd : (s.M.cells.set (s.P + x.at_) x.offer).drop s.P = (s.M.cells.drop s.P).set x.at_ x.offer := by rw [List.drop_set, if_neg (by omega), show s.P + x.at_ - s.P = x.at_ by omega]
      rw [if_pos g, if_pos g, if_pos g, hd, List.take_set, hw]
      rfl
    · rw [if_neg g, if_neg g, if_neg g]
      rfl
  · rw [step_eq5 _ e]
    have e' : (rpOf x).next = 5 := e
    have hcell : (s.M.act (x.head s.M).2.2).cells = s.M.cells := by unfold PSt.head; split; exact act_rd _ _; split <;> exact act_rd _ _
    rw [if_neg (by rw [e']; decide), if_neg (by rw [e']; decide), if_neg (by rw [e']; decide), if_neg (by rw [e']; decide), if_pos e']
    simp only [hSl, hcell]
    unfold PSt.head
    rw [hc.hP, slot_at]
    show (if s.S ≤ x.at_ ∨ ((s.M.cells.drop s.P).getD x.at_ ⟨#[]⟩).toList = [] then _ else _) = _
    rw [← hc.hS]
    by_cases g1 : x.S ≤ x.at_
    · rw [if_pos (.inl g1), if_pos g1]; rfl
    · by_cases g2 : ((s.M.cells.drop s.P).getD x.at_ ⟨#[]⟩).toList = []
      · rw [if_pos (.inr g2), if_neg g1, if_pos g2]; rfl
      · rw [if_neg (by rintro (g | g); exact g1 g; exact g2 g), if_neg g1, if_neg g2]
        simp only [rpOf, PSt.ph, PSt.decide, e]

/-! ### the invariant, behind a step -/
theorem SInv.upd {s : Sys} {n : Nat} (h : SInv s n) {i : Nat} {y : PSt} {M' : MSt} (hg : Grow s.P s.M.cells M'.cells) (hl : M'.log.length ≤ n + 1) (hc : PCore s.P s.S (n + 1) M'.cells i y) (hp : PPh s.S i y) : SInv { s with L := s.L.set i y, M := M' } (n + 1) := by
  refine ⟨h.hP, h.hS, hg.1.trans h.cells, hl, by simpa using h.hL, ?_, ?_⟩
  · intro k z hz
    simp only [List.getElem?_set] at hz
    split at hz
    · rename_i e; subst e
      split at hz
      · cases hz; exact hc
      · cases hz
    · exact ((h.core k z hz).grow hg).mono (Nat.le_succ n)
  · intro k z hz
    simp only [List.getElem?_set] at hz
    split at hz
    · rename_i e; subst e
      split at hz
      · cases hz; exact hp
      · cases hz
    · exact h.ph k z hz
theorem after_inv {P S n : Nat} {cells : List ByteArray} {i : Nat} {x : PSt} (h : PCore P S n cells i x) (hm : x.mwho = i) {t : ByteArray} (ht : (cells.drop P)[x.at_]? = some t) (hne : t.toList ≠ []) (hlt : x.at_ < S) :
    PCore P S n cells i (x.after t).2 ∧ PPh S i (x.after t).2 := by
  have hd := h.decide ht hne hlt
  have hS := h.hS
  unfold PSt.after
  split
  · exact ⟨hd.toph 0, ⟨.inl rfl, (fun g => by rcases g with g | g | g <;> cases g), .inl hm, fun g => by cases g⟩⟩
  · split
    · exact ⟨hd.toph 0, ⟨.inl rfl, (fun g => by rcases g with g | g | g <;> cases g), .inl hm, fun g => by cases g⟩⟩
    · rename_i g
      exact ⟨hd, ⟨.inr (.inr (.inl rfl)), (fun _ => by show x.at_ + 1 < S; omega), .inl hm, fun g => by cases g⟩⟩
theorem parse_none : (parseR noText).2.2.2 ≠ 0 := by
  obtain ⟨⟨k, hk, _⟩, _⟩ := Classical.choose_spec (parse_some noText)
  intro h
  have hk' : PSc.proc_Parse.f k noText = some (parseR noText) := hk
  have htake : PSc.wire_Reader_take.f (⟨#[]⟩ : ByteArray) 0 1 = some (⟨#[]⟩, ⟨#[]⟩, 1) := by
    simp only [PSc.wire_Reader_take.f, PSc.wire_Reader_Fail.f]
    rw [if_pos trivial, if_pos (by decide), if_pos trivial]; rfl
  have htake1 : PSc.wire_Reader_take.f (⟨#[]⟩ : ByteArray) 1 1 = some (⟨#[]⟩, ⟨#[]⟩, 1) := by
    simp only [PSc.wire_Reader_take.f]
    rw [if_neg (by decide)]
  cases k with
  | zero => simp [PSc.proc_Parse.f, PSc.wire_Read.f, PSc.wire_Reader_Upto.f, PSc.wire_Reader_Num.f, PSc.wire_Reader_Num.l0] at hk'
  | succ k =>
    have hn0 : PSc.wire_Reader_Num.f (k + 1) noText 0 = some (0, ⟨#[]⟩, 1) := by
      unfold PSc.wire_Reader_Num.f
      rw [PSc.wire_Reader_Num.l0, htake]; rfl
    have hn1 : PSc.wire_Reader_Num.f (k + 1) noText 1 = some (0, ⟨#[]⟩, 1) := by
      unfold PSc.wire_Reader_Num.f
      rw [PSc.wire_Reader_Num.l0, htake1]; rfl
    have hu0 : ∀ m, 0 ≤ m → m < 9223372036854775808 → PSc.wire_Reader_Upto.f (k + 1) noText 0 m = some (0, ⟨#[]⟩, 1) := by
      intro m h1 h2
      have hw : IntKind.u64.wrap (mx m 0) = m := by rw [show mx m 0 = m by unfold mx; omega]; exact wrapU _ h1 (by omega)
      simp only [PSc.wire_Reader_Upto.f, hn0, Option.bind_some, hw]
      rw [if_neg (by omega), show wrap64 0 = 0 by unfold wrap64; omega]
    have hu1 : ∀ m, 0 ≤ m → m < 9223372036854775808 → PSc.wire_Reader_Upto.f (k + 1) noText 1 m = some (0, ⟨#[]⟩, 1) := by
      intro m h1 h2
      have hw : IntKind.u64.wrap (mx m 0) = m := by rw [show mx m 0 = m by unfold mx; omega]; exact wrapU _ h1 (by omega)
      simp only [PSc.wire_Reader_Upto.f, hn1, Option.bind_some, hw]
      rw [if_neg (by omega), show wrap64 0 = 0 by unfold wrap64; omega]
    have he : PSc.wire_Reader_End.f (⟨#[]⟩ : ByteArray) 1 = some (1, ⟨#[]⟩, 1) := by
      simp only [PSc.wire_Reader_End.f]
      rw [if_pos (ByteArray.toList_eq _)]
    simp only [PSc.proc_Parse.f, PSc.wire_Read.f, Option.bind_some, hu0 63 (by decide) (by decide), hu1 1099511627776 (by decide) (by decide), PSc.wire_Reader_Str.f, hu1 1024 (by decide) (by decide)] at hk'
    have htk : PSc.wire_Reader_take.f (⟨#[]⟩ : ByteArray) 1 0 = some (⟨#[]⟩, ⟨#[]⟩, 1) := by
      simp only [PSc.wire_Reader_take.f]
      rw [if_neg (by decide)]
    rw [htk] at hk'
    simp only [Option.bind_some, he] at hk'
    rw [if_neg (by decide)] at hk'
    have := congrArg (fun o : Option (Int × Int × ByteArray × Int) => o.map (·.2.2.2)) hk'
    simp only [Option.map_some, Option.some.injEq] at this
    omega
theorem strN_ne {l : List Nat} (h : l ≠ []) : (strN l).toList ≠ [] := by
  rw [ByteArray.toList_eq]
  simpa [strN] using h
theorem numB_ne (n : Nat) : numB n ≠ [] := by unfold numB; cases topK n 0 9 <;> simp [septs]
theorem recText_ne (a b : Nat) (c : ByteArray) : (recText a b c).toList ≠ [] := strN_ne (by simp [numB_ne])
theorem toList_none {s : ByteArray} (h : s.toList = []) : s = noText := by
  rw [ByteArray.toList_eq] at h
  exact ByteArray.ext (by simpa using h)
theorem pick_ne (x : PSt) (s : ByteArray) : (x.pick s).toList ≠ [] := by
  unfold PSt.pick
  split
  · rename_i h
    intro g
    rw [toList_none g] at h
    exact parse_none h.1
  · exact recText_ne _ _ _
theorem getD_some {L : List ByteArray} {k : Nat} (h : k < L.length) : L[k]? = some (L.getD k ⟨#[]⟩) := by
  rw [List.getD_eq_getElem?_getD, List.getElem?_eq_getElem h]; rfl

theorem inv_step {s : Sys} {n i : Nat} {x : PSt} (h : SInv s n) (hx : s.L[i]? = some x) : SInv (s.step i x).1 (n + 1) := by
  have hc := h.core i x hx
  have hc' := hc.mono (Nat.le_succ n)
  have hp := h.ph i x hx
  have hi : i < s.P := by rw [← h.hL]; exact (List.getElem?_eq_some_iff.1 hx).1
  have hSl : (s.M.cells.drop s.P).length = s.S := by rw [List.length_drop, h.cells]; omega
  have hl := h.log
  unfold Sys.step
  rcases hp.ph with e | e | e | e | e | e
  · rw [step_eq0 _ e]
    exact h.upd (Grow.refl _ _) (by show s.M.log.length ≤ _; omega) hc' hp
  · rw [step_eq1 _ e]
    have hm : x.mwho = i := by rcases hp.mwho with g | ⟨_, g | g⟩; exact g; all_goals (rw [e] at g; cases g)
    have hg : Grow s.P s.M.cells (s.M.act x.wishA).cells := by rw [act_wish, hc.who]; exact Grow.wish hi _ _
    refine h.upd hg (by rw [act_log]; omega) ((hc'.grow hg).toph _) ?_
    have hS := hc.hS
    show PPh s.S i (x.ph (if x.S ≤ x.at_ then 0 else 2))
    by_cases g : x.S ≤ x.at_
    · rw [if_pos g]; exact ⟨.inl rfl, (fun g => by rcases g with g | g | g <;> cases g), .inl hm, fun g => by cases g⟩
    · rw [if_neg g]; exact ⟨.inr (.inr (.inl rfl)), (fun _ => by show x.at_ < s.S; omega), .inl hm, fun g => by cases g⟩
  · rw [step_eq2 _ e]
    have hm : x.mwho = i := by rcases hp.mwho with g | ⟨_, g | g⟩; exact g; all_goals (rw [e] at g; cases g)
    have hlt := hp.lt (.inl e)
    have hg : Grow s.P s.M.cells (s.M.act (PSt.rd (x.P + x.at_))).cells := by rw [act_rd]; exact Grow.refl _ _
    have hk : PCore s.P s.S (n + 1) (s.M.act (PSt.rd (x.P + x.at_))).cells i (x.look s.M).2 ∧ PPh s.S i (x.look s.M).2 := by
      unfold PSt.look
      rw [hc.hP, slot_at, act_rd]
      by_cases g : ((s.M.cells.drop s.P).getD x.at_ ⟨#[]⟩).toList = []
      · rw [if_pos g]; exact ⟨hc'.toph 3, ⟨.inr (.inr (.inr (.inl rfl))), fun _ => hlt, .inl hm, fun g => by cases g⟩⟩
      · rw [if_neg g]; exact after_inv hc' hm (getD_some (by rw [hSl]; exact hlt)) g hlt
    exact h.upd hg (by rw [act_log]; omega) hk.1 hk.2
  · rw [step_eq3 _ e]
    have hm : x.mwho = i := by rcases hp.mwho with g | ⟨_, g | g⟩; exact g; all_goals (rw [e] at g; cases g)
    have hlt := hp.lt (.inr (.inl e))
    have hg : Grow s.P s.M.cells (s.M.act (PSt.rd x.helpC)).cells := by rw [act_rd]; exact Grow.refl _ _
    refine h.upd hg (by rw [act_log]; omega) ?_ ⟨.inr (.inr (.inr (.inr (.inl rfl)))), fun _ => hlt, .inl hm, fun _ => pick_ne _ _⟩
    exact (hc'.grow hg).same rfl rfl rfl rfl rfl rfl rfl
  · rw [step_eq4 _ e]
    have hm : x.mwho = i := by rcases hp.mwho with g | ⟨_, g | g⟩; exact g; all_goals (rw [e] at g; cases g)
    have hlt := hp.lt (.inr (.inr e))
    have hof := hp.offer e
    have hk : Grow s.P s.M.cells (s.M.act x.swapA).cells ∧ ∃ t, (if (s.M.at (x.P + x.at_)).toList = [] then x.offer else s.M.at (x.P + x.at_)) = t ∧ ((s.M.act x.swapA).cells.drop s.P)[x.at_]? = some t ∧ t.toList ≠ [] := by
      rw [act_swap, hc.hP, slot_at]
      by_cases g : ((s.M.cells.drop s.P).getD x.at_ ⟨#[]⟩).toList = []
      · rw [if_pos g, if_pos g]
        refine ⟨Grow.slot _ _ g, _, rfl, ?_, hof⟩
        rw [List.drop_set, if_neg (by omega), show s.P + x.at_ - s.P = x.at_ by omega, List.getElem?_set_self (by rw [hSl]; exact hlt)]
      · rw [if_neg g, if_neg g]
        exact ⟨Grow.refl _ _, _, rfl, getD_some (by rw [hSl]; exact hlt), g⟩
    obtain ⟨hg, t, ht, h1, h2⟩ := hk
    rw [ht]
    obtain ⟨h3, h4⟩ := after_inv (hc'.grow hg) hm h1 h2 hlt
    exact h.upd hg (by rw [act_log]; omega) h3 h4
  · rw [step_eq5 _ e]
    have hcell : (s.M.act (x.head s.M).2.2).cells = s.M.cells := by unfold PSt.head; split; exact act_rd _ _; split <;> exact act_rd _ _
    have hmw : x.mwho = i ∨ x.mwho = 0 := hp.mwho.imp id And.left
    have hk : PCore s.P s.S (n + 1) s.M.cells i (x.head s.M).2.1 ∧ PPh s.S i (x.head s.M).2.1 := by
      unfold PSt.head
      rw [hc.hP, slot_at]
      have hS := hc.hS
      by_cases g1 : x.S ≤ x.at_
      · rw [if_pos g1]; exact ⟨hc'.toph 0, ⟨.inl rfl, (fun g => by rcases g with g | g | g <;> cases g), hmw.imp id (fun g => ⟨g, .inl rfl⟩), fun g => by cases g⟩⟩
      · rw [if_neg g1]
        by_cases g : ((s.M.cells.drop s.P).getD x.at_ ⟨#[]⟩).toList = []
        · rw [if_pos g]; exact ⟨hc'.toph 0, ⟨.inl rfl, (fun g => by rcases g with g | g | g <;> cases g), hmw.imp id (fun g => ⟨g, .inl rfl⟩), fun g => by cases g⟩⟩
        · rw [if_neg g]
          exact ⟨(hc'.decide (getD_some (by rw [hSl]; omega)) g (by omega)).toph 5, ⟨.inr (.inr (.inr (.inr (.inr rfl)))), (fun g => by rcases g with g | g | g <;> cases g), hmw.imp id (fun g => ⟨g, .inr rfl⟩), fun g => by cases g⟩⟩
    refine h.upd (by rw [hcell]; exact Grow.refl _ _) (by rw [act_log]; omega) (by rw [hcell]; exact hk.1) hk.2
end Go.Proofs.Ytkhihpmadmmeaaa
set_option linter.unusedSimpArgs false
set_option linter.unusedVariables false
set_option maxHeartbeats 2000000
set_option maxRecDepth 100000
namespace Go.Proofs.Ytkhihpmadmmeaaa
open Go.RowKit Go.Hs

theorem cellsNew_int (n : Nat) (k : Int) (hk : k = n) (hn : n ≤ 65536) (w : World) :
    Calls Try.prog 20 #[.int .i64 k] w fun e w' => ∃ mb mc mm lv, e = .returned (.pointer (some ⟨mb, 0, none⟩)) ∧ IsMem w'.heap mb mc mm lv (MSt.new n) ∧ Ext [] w w' ∧ (∀ g ∈ foot mb mc mm lv, w.heap.size ≤ g) := by
  subst hk; exact cellsNew_any n hn w
theorem procNew_int (P S who : Nat) (p s o : Int) (h1 : p = P) (h2 : s = S) (h3 : o = who) (w : World) :
    Calls Try.prog 21 #[.agg #[.int .i64 p, .int .i64 s], .int .i64 o] w fun e w' => ∃ b m, e = .returned (.pointer (some ⟨b, 0, none⟩)) ∧ IsProc w'.heap b m (PSt.new P S who) ∧ Ext [] w w' ∧ w.heap.size ≤ b ∧ w.heap.size ≤ m := by
  subst h1; subst h2; subst h3; exact procNew_any P S who w
/-- A process and a memory, both new. -/
theorem pm_new {w1 w2 : World} {b m mb mc mm : Nat} {lv : Value} {x : PSt} {M : MSt} (hM : IsMem w1.heap mb mc mm lv M) (hI : IsProc w2.heap b m x) (hx : Ext [] w1 w2) (hb : w1.heap.size ≤ b) (hm : w1.heap.size ≤ m) : PM w2.heap b m x mb mc mm lv M :=
  ⟨hI, hM.ext0 hx, fun e => by have := hM.lt mm (by simp [foot]); omega⟩
theorem PM.lt {h : Array Obj} {b m : Nat} {x : PSt} {mb mc mm : Nat} {lv : Value} {M : MSt} (hP : PM h b m x mb mc mm lv M) : ∀ g ∈ [b, m] ++ foot mb mc mm lv, g < h.size := by
  intro g hg
  rcases List.mem_append.1 hg with hg | hg
  · simp at hg
    rcases hg with rfl | rfl
    · exact lt_of_heap hP.pr.hb
    · exact hP.pr.hm.lt
  · exact hP.me.lt g hg
theorem foot_ge {h : Array Obj} {mb mc mm B : Nat} {lv : Value} {M : MSt} (hM : IsMem h mb mc mm lv M) (hb : B ≤ mb) (hc : B ≤ mc) (hm : B ≤ mm) : ∀ g ∈ foot mb mc mm lv, B ≤ g := by
  intro g hg
  simp [foot] at hg
  rcases hg with rfl | rfl | rfl | hg
  · exact hb
  · exact hc
  · exact hm
  · have := hM.hg g hg; omega
theorem extBase {F : List Nat} {a w w' : World} (hE : Ext [] a w) (hx : Ext F w w') (hF : ∀ g ∈ F, a.heap.size ≤ g) : Ext [] a w' := hE.trans hx (fun g hg => .inr (hF g hg))
theorem PSt.Ok.same {x y : PSt} (hx : x.Ok) (h1 : y.who = x.who) (h2 : y.mwho = x.mwho) (h3 : y.seq = x.seq) (h4 : y.body = x.body) (h5 : y.at_ = x.at_) (h6 : y.P = x.P) (h7 : y.S = x.S) : y.Ok :=
  ⟨h1 ▸ hx.who, h2 ▸ hx.mwho, h3 ▸ hx.seq, h4 ▸ hx.body, h5 ▸ hx.at_, h6 ▸ hx.P, h7 ▸ hx.S⟩
theorem freshP_ok {x : PSt} (M : MSt) (hx : x.Ok) (k : Nat) : (freshP x M k).Ok := by
  obtain ⟨o, ph, h⟩ := freshP_same x M k
  rw [h]
  exact hx.same rfl rfl rfl rfl rfl rfl rfl
theorem fresh_step_any (x : PSt) (M : MSt) (h : Fresh x M) (hx : x.Ok) (k : Nat) (hk : k < 3) (b m mb mc mm : Nat) (lv : Value) (w : World) (hP : PM w.heap b m (freshP x M k) mb mc mm lv (freshM x M k)) :
    Calls Try.prog 24 #[.pointer (some ⟨b, 0, none⟩), .pointer (some ⟨mb, 0, none⟩)] w fun e w' =>
      ∃ lv', e = .returned (.agg #[.bool false, .bool false, .int .i64 0]) ∧ PM w'.heap b m (freshP x M (k + 1)) mb mc mm lv' (freshM x M (k + 1)) ∧ Ext ([b, m] ++ foot mb mc mm lv) w w' := by
  have h1 := freshM_len x M k
  have h2 : M.log.length = 0 := by rw [h.log]; rfl
  have h3 := h.ph k (by omega)
  have h5 : M.cells.length = x.P + x.S := by rw [h.cells]; simp
  obtain ⟨o, ph, hsame⟩ := freshP_same x M k
  have h4 := step_any b m (freshP x M k) mb mc mm lv (freshM x M k) w hP (freshP_ok M hx k) (by rw [hsame]; exact h.who) (by rw [h1.1, h5, hsame]) (by omega)
    (by rw [h3]; omega) (fun _ => by rw [hsame]; have := h.at_; have := h.S; show x.at_ < x.S; omega)
  rw [h.step k hk] at h4
  exact h4.mono fun e w' ⟨lv', g1, g2, g3⟩ => ⟨lv', g1, g2, g3⟩
theorem fresh_last_any (x : PSt) (M : MSt) (h : Fresh x M) (hx : x.Ok) (hP1 : x.P = 1) : ∃ y N, y.phase = 0 ∧ N.at 1 = x.mine ∧ ∀ (b m mb mc mm : Nat) (lv : Value) (w : World) (hP : PM w.heap b m (freshP x M 3) mb mc mm lv (freshM x M 3)),
    Calls Try.prog 24 #[.pointer (some ⟨b, 0, none⟩), .pointer (some ⟨mb, 0, none⟩)] w fun e w' =>
      ∃ lv', e = .returned (.agg #[.bool true, .bool false, .int .i64 0]) ∧ PM w'.heap b m y mb mc mm lv' N ∧ Ext ([b, m] ++ foot mb mc mm lv) w w' := by
  obtain ⟨y, N, hst, hy, hN⟩ := h.step4 hP1
  refine ⟨y, N, hy, hN, fun b m mb mc mm lv w hP => ?_⟩
  have h1 := freshM_len x M 3
  have h2 : M.log.length = 0 := by rw [h.log]; rfl
  have h3 := h.ph 3 (by omega)
  have h5 : M.cells.length = x.P + x.S := by rw [h.cells]; simp
  obtain ⟨o, ph, hsame⟩ := freshP_same x M 3
  have h4 := step_any b m (freshP x M 3) mb mc mm lv (freshM x M 3) w hP (freshP_ok M hx 3) (by rw [hsame]; exact h.who) (by rw [h1.1, h5, hsame]) (by omega)
    (by rw [h3]; omega) (fun _ => by rw [hsame]; have := h.at_; have := h.S; show x.at_ < x.S; omega)
  rw [hst] at h4
  exact h4.mono fun e w' ⟨lv', g1, g2, g3⟩ => ⟨lv', g1, g2, g3⟩
def bodyA : ByteArray := ⟨#[97]⟩
def awP : PSt := { PSt.new 1 1 0 with phase := 1, seq := 1, body := bodyA }
theorem awFresh : Fresh awP (MSt.new 2) := ⟨rfl, rfl, by decide, by decide, rfl, rfl⟩
theorem awOk : awP.Ok := ⟨by decide, by decide, by decide, by decide, by decide, by decide, by decide⟩
theorem awBegin : (PSt.new 1 1 0).doBegin bodyA = (0, awP) := by
  unfold PSt.doBegin
  rw [if_pos (show (PSt.new 1 1 0).phase = 0 from rfl), if_pos (show bodyA.size ≤ 1024 by decide)]
  rfl
theorem awBegin_any (b m : Nat) (w : World) (hI : IsProc w.heap b m (PSt.new 1 1 0)) :
    Calls Try.prog 22 #[.pointer (some ⟨b, 0, none⟩), .string bodyA] w fun e w' => e = .returned (.int .i64 0) ∧ IsProc w'.heap b m awP ∧ Ext [b] w w' := by
  have := begin_any b m (PSt.new 1 1 0) bodyA w hI (by decide)
  rw [awBegin] at this
  exact this
theorem awake_any (w : World) : Calls Try.prog 9 #[] w fun e w' => e = .returned (.bool true) ∧ Ext [] w w' := by
  have hA := heap_new w (.cells #[.int .i64 1, .int .i64 1] 23)
  go_enter Try.func9, Try.ntmps9
  go_upto_region 2 with fail
  have hE : Ext [] w (w.alloc (.cells #[.int .i64 1, .int .i64 1] 23)) := (Ext.refl _ _).alloc _
  generalize w.alloc (.cells #[.int .i64 1, .int .i64 1] 23) = W0 at *
  have hAlt := lt_of_heap hA
  generalize w.heap.size = A at *
  have p0 := cellAt hA 0
  have p1 := cellAt hA 1
  simp at p0 p1
  go_upto_region 6 with (first
    | (go_at_call 20; refine (cellsNew_int 2 _ rfl (by omega) _).mono ?_; rintro e w1 ⟨mb, mc, mm, lv, rfl, hM1, hx1, hf1⟩; have hA1 := hx1.same hA (by simp); clear p0 p1; have p0 := cellAt hA1 0; have p1 := cellAt hA1 1; simp at p0 p1)
    | (go_at_call 21; refine (procNew_int 1 1 0 _ _ _ rfl rfl rfl _).mono ?_; rintro e w2 ⟨b, m, rfl, hI2, hx2, hb2, hm2⟩; have hA2 := hx2.same hA1 (by simp); clear p0 p1; have p0 := cellAt hA2 0; have p1 := cellAt hA2 1; simp at p0 p1)
    | (go_at_call 13; (refine (cells_any 1 1 _ (by decide) (by decide) (by decide) (by decide)).mono ?_); rintro e w3 ⟨rfl, hx3⟩; have hI3 := hI2.ext hx3 (by simp) (by simp))
    | (go_at_call 22; (refine (awBegin_any b m _ hI3).mono ?_); rintro e w4 ⟨rfl, hI4, hx4⟩))
  have hx3' := (hx2.trans0 hx3)
  have hP4 := (pm_new hM1 (hI2.ext hx3 (by simp) (by simp)) hx3' hb2 hm2).moved hI4 (hx4.mono (by simp))
  have hE4 : Ext [] w w4 := (((hE.trans0 hx1).trans0 hx2).trans0 hx3).trans hx4 (fun g hg => .inr (by have h1 := hE.size; have h2 := hx1.size; simp at hg; omega))
  have hnew : ∀ g ∈ [b, m] ++ foot mb mc mm lv, W0.heap.size ≤ g := by
    intro g hg
    have := hx1.size
    rcases List.mem_append.1 hg with hg | hg
    · simp at hg; omega
    · exact hf1 g hg
  have hnew' : ∀ g ∈ [b, m] ++ foot mb mc mm lv, w.heap.size ≤ g := fun g hg => Nat.le_trans hE.size (hnew g hg)
  have HN := Hs.hid hnew'
  clear hnew hnew' hM1 hI2 hx1 hx2 hf1 hA1 hE hA hI3 hI4 hx3 hx4 hx3' hA2 p0 p1 hAlt hb2 hm2
  go_wp2_with fail
  go_loopw [25] (fun i wr => ∃ k : Nat, k ≤ 3 ∧ i = .int .i64 k ∧ ∃ lv', PM wr.heap b m (freshP awP (MSt.new 2) k) mb mc mm lv' (freshM awP (MSt.new 2) k) ∧ Ext [] w wr ∧ (∀ g ∈ foot mb mc mm lv', w.heap.size ≤ g)) (fun i _ => 3 - (intOf i).toNat)
  case atStart => exact ⟨0, by omega, rfl, lv, hP4, hE4, fun g hg => HN.out g (List.mem_append_right _ hg)⟩
  case round =>
    obtain ⟨k, hk, rfl, lv', hP, hE, hf⟩ := hrel
    by_cases hk3 : k < 3
    · have hk3b : decide ((k : Int) < 3) = true := by simp; omega
      have hki : (k : Int) < 3 := by omega
      have HK := Hs.hid (And.intro hk hk3)
      clear hk hk3
      go_wp2_with (go_at_call 24; (refine (fresh_step_any awP (MSt.new 2) awFresh awOk k HK.out.2 b m mb mc mm lv' _ hP).mono ?_); rintro e w5 ⟨lv5, rfl, hP5, hx5⟩)
      have hE5 := extBase hE hx5 (fun g hg => (List.mem_append.1 hg).elim (fun h => HN.out g (List.mem_append_left _ h)) (hf g))
      rename_i hKs
      refine hKs _ _ ?_
      clear hKs
      go_wp2
      go_round
      case rel => exact ⟨k + 1, by have := HK.out.2; omega, by go_num, lv5, hP5, hE5, foot_ge hP5.me (HN.out mb (by simp [foot])) (HN.out mc (by simp [foot])) (HN.out mm (by simp [foot]))⟩
      case measure => have := HK.out.2; simp [intOf]; omega
    · have hk4 : k = 3 := by omega
      subst hk4
      clear hk3 hk
      obtain ⟨y, N, hy, hN, hstep⟩ := fresh_last_any awP (MSt.new 2) awFresh awOk rfl
      have hyb : (y.phase == 0) = true := by simp [hy]
      have hmine : awP.mine = recText 0 1 bodyA := rfl
      rw [hmine] at hN
      have HS := Hs.hid hstep
      clear hstep hmine hy
      go_upto_region 12 with (go_at_call 24; (refine (HS.out b m mb mc mm lv' _ hP).mono ?_); rintro e w5 ⟨lv5, rfl, hP5, hx5⟩)
      have hE5 := (extBase hE hx5 (fun g hg => (List.mem_append.1 hg).elim (fun h => HN.out g (List.mem_append_left _ h)) (hf g))).alloc (.cells #[.bool true, .bool false, .int .i64 0] 42)
      have hP6 := hP5.alloc (.cells #[.bool true, .bool false, .int .i64 0] 42)
      have hR := heap_new w5 (.cells #[.bool true, .bool false, .int .i64 0] 42)
      generalize w5.alloc (.cells #[.bool true, .bool false, .int .i64 0] 42) = W6 at *
      generalize w5.heap.size = B at *
      have r0 := cellAt hR 0
      have r1 := cellAt hR 1
      have r2 := cellAt hR 2
      simp at r0 r1 r2
      go_wp2_with (first
        | (go_at_call 23; refine (idle_any b m y _ hP6.pr).mono ?_; rintro e w7 ⟨rfl, rfl⟩)
        | (go_at_call 17; refine (memLook_any mb mc mm lv5 N 1 (by decide) _ hP6.me).mono ?_; rintro e w8 ⟨rfl, rfl⟩; rw [hN])
        | (go_at_call 19; refine (recText_any 0 1 bodyA _ (by decide) (by decide) (by decide)).mono ?_; rintro e w9 ⟨rfl, hx9⟩))
      go_ret
      exact ⟨rfl, hE5.trans0 hx9⟩
end Go.Proofs.Ytkhihpmadmmeaaa
set_option linter.unusedSimpArgs false
set_option linter.unusedVariables false
set_option maxHeartbeats 1000000
namespace Go.Proofs.Ytkhihpmadmmeaaa
open Go.RowKit Go.Hs

/-- Where the processes and the memory lie. -/
structure Lay where
  mb : Nat
  mc : Nat
  mm : Nat
  lg : Nat
  lcap : Nat
  bs : List Nat
  ms : List Nat
/-- .. and the reference's three slices. -/
structure RLay where
  sao : Option Addr
  scap : Nat
  wao : Option Addr
  wcap : Nat
  pg : Nat
  pcap : Nat
def stCells (y : Lay) (r : RLay) (s : Sys) : Array Value :=
  #[.int .i64 s.P, .int .i64 s.S, .pointer (some ⟨y.mb, 0, none⟩), .slice (some ⟨y.lg, 0, none⟩) s.P y.lcap, .slice r.sao s.S r.scap, .slice r.wao s.P r.wcap, .slice (some ⟨r.pg, 0, none⟩) s.P r.pcap]
def Lay.fixed (y : Lay) : List Nat := y.bs ++ y.ms ++ [y.mb, y.mc, y.mm]
structure PAt (B : Nat) (h : Array Obj) (y : Lay) (lv : Value) (s : Sys) : Prop where
  me : IsMem h y.mb y.mc y.mm lv s.M
  lb : Own h 48 1 (.slice (some ⟨y.lg, 0, none⟩) s.P y.lcap) s.P (y.bs.map fun b => Value.pointer (some ⟨b, 0, none⟩))
  pr : ∀ (i : Nat) (x : PSt), s.L[i]? = some x → ∃ b m, y.bs[i]? = some b ∧ y.ms[i]? = some m ∧ IsProc h b m x
  len : s.L.length = s.P
  lms : y.ms.length = s.P
  nb : y.bs.Nodup
  nm : y.ms.Nodup ∧ y.mm ∉ y.ms
  lo : ∀ g, g ∈ y.fixed ∨ g = y.lg → B ≤ g
structure XAt (B : Nat) (h : Array Obj) (y : Lay) (r : RLay) (P S : Nat) (X : RW) : Prop where
  rf : RefV h S P r.sao r.scap r.wao r.wcap r.pg r.pcap X
  ns : ∀ g, (Value.slice r.sao S r.scap).ownBlock = some g → g ≠ y.mc ∧ B ≤ g
  nw : ∀ g, (Value.slice r.wao P r.wcap).ownBlock = some g → g ≠ y.mc ∧ B ≤ g
  np : B ≤ r.pg
theorem PAt.ext0 {B : Nat} {w w' : World} {y : Lay} {lv : Value} {s : Sys} (h : PAt B w.heap y lv s) (hx : Ext [] w w') : PAt B w'.heap y lv s :=
  ⟨h.me.ext0 hx, own_ext h.lb hx (by simp), fun i x hi => by obtain ⟨b, m, h1, h2, h3⟩ := h.pr i x hi; exact ⟨b, m, h1, h2, h3.ext hx (by simp) (by simp)⟩, h.len, h.lms, h.nb, h.nm, h.lo⟩
theorem XAt.ext0 {B : Nat} {w w' : World} {y : Lay} {r : RLay} {P S : Nat} {X : RW} (h : XAt B w.heap y r P S X) (hx : Ext [] w w') : XAt B w'.heap y r P S X := ⟨h.rf.ext0 hx, h.ns, h.nw, h.np⟩
theorem PAt.pm {B : Nat} {h : Array Obj} {y : Lay} {lv : Value} {s : Sys} (hP : PAt B h y lv s) {i b m : Nat} {x : PSt} (hb : y.bs[i]? = some b) (hm : y.ms[i]? = some m) (hI : IsProc h b m x) : PM h b m x y.mb y.mc y.mm lv s.M :=
  ⟨hI, hP.me, fun e => hP.nm.2 (e ▸ List.mem_of_getElem? hm)⟩
theorem PAt.foot_lo {B : Nat} {h : Array Obj} {y : Lay} {lv : Value} {s : Sys} (hP : PAt B h y lv s) : ∀ g ∈ y.fixed ++ lv.ownBlock.toList, B ≤ g := by
  intro g hg
  rcases List.mem_append.1 hg with hg | hg
  · exact hP.lo g (.inl hg)
  · have h1 := hP.me.hg g (by simpa using hg)
    have h2 := hP.lo y.mc (.inl (by simp [Lay.fixed]))
    omega
/-- What is of none of the four kinds of blocks is far from all of a memory and its processes. -/
theorem PAt.far {B : Nat} {h : Array Obj} {y : Lay} {lv : Value} {s : Sys} (hP : PAt B h y lv s) {i b m : Nat} {x : PSt} (hb : y.bs[i]? = some b) (hm : y.ms[i]? = some m) (hI : IsProc h b m x) {g : Nat} {cs : Array Value} {t : TypeId} {f : Nat × Nat}
    (hg : h[g]? = some (.cells cs t f)) (h1 : t ≠ 75) (h2 : t ≠ 73) (h3 : t ≠ 85) (h4 : t = 9 → g ≠ y.mc) : g ∉ [b, m] ++ foot y.mb y.mc y.mm lv := by
  obtain ⟨cnt, hcnt⟩ := hP.me.hm
  intro hm'
  rcases List.mem_append.1 hm' with hm' | hm'
  · simp at hm'
    rcases hm' with rfl | rfl
    · have := hI.hb
      rw [hg] at this
      simp at this
      exact h1 this.2.1
    · exact absurd rfl (hI.hm.ne hg)
  · simp [foot] at hm'
    rcases hm' with rfl | rfl | rfl | hm'
    · have := hP.me.hb
      rw [hg] at this
      simp at this
      exact h2 this.2.1
    · have := hP.me.hc
      rw [hg] at this
      simp at this
      exact h4 this.2.1 rfl
    · exact absurd rfl (hcnt.ne hg)
    · obtain ⟨cur, hc⟩ := hP.me.hl.block hm'
      rw [hg] at hc
      simp at hc
      exact h3 hc.2.1
theorem XAt.stepped {B : Nat} {w w' : World} {y : Lay} {r : RLay} {lv : Value} {s : Sys} {X : RW} (hP : PAt B w.heap y lv s) (hX : XAt B w.heap y r s.P s.S X) {i b m : Nat} {x : PSt} (hb : y.bs[i]? = some b) (hm : y.ms[i]? = some m) (hI : IsProc w.heap b m x)
    {F : List Nat} (hx : Ext F w w') (hF : ∀ g ∈ F, g ∈ [b, m] ++ foot y.mb y.mc y.mm lv) : XAt B w'.heap y r s.P s.S X := by
  refine ⟨hX.rf.ext hx fun g hg hgF => ?_, hX.ns, hX.nw, hX.np⟩
  rcases hg with hg | hg | rfl
  · obtain ⟨cur, hc⟩ := hX.rf.s.block hg
    exact hP.far hb hm hI hc (by decide) (by decide) (by decide) (fun _ => (hX.ns g hg).1) (hF g hgF)
  · obtain ⟨cur, hc⟩ := hX.rf.w.block hg
    exact hP.far hb hm hI hc (by decide) (by decide) (by decide) (fun _ => (hX.nw g hg).1) (hF g hgF)
  · obtain ⟨cur, hc⟩ := hX.rf.p.block (g := r.pg) rfl
    exact hP.far hb hm hI hc (by decide) (by decide) (by decide) (fun h => absurd h (by decide)) (hF _ hgF)
theorem nodup_ne {L : List Nat} (h : L.Nodup) {i j a : Nat} (hi : L[i]? = some a) (hj : L[j]? = some a) : i = j := by
  obtain ⟨h1, h2⟩ := List.getElem?_eq_some_iff.1 hi
  obtain ⟨h3, h4⟩ := List.getElem?_eq_some_iff.1 hj
  exact (List.getElem_inj h).1 (h2.trans h4.symm)
/-- A process, and the memory, have moved on. -/
theorem PAt.moved {B : Nat} {w w' : World} {y : Lay} {lv lv' : Value} {s : Sys} {i b m : Nat} {x x' : PSt} {M' : MSt} (hP : PAt B w.heap y lv s) (hi : s.L[i]? = some x) (hb : y.bs[i]? = some b) (hm : y.ms[i]? = some m) (hI : IsProc w.heap b m x)
    (hP' : PM w'.heap b m x' y.mb y.mc y.mm lv' M') {F : List Nat} (hx : Ext F w w') (hF : ∀ g ∈ F, g ∈ [b, m] ++ foot y.mb y.mc y.mm lv) : PAt B w'.heap y lv' { s with L := s.L.set i x', M := M' } := by
  have hlt := (List.getElem?_eq_some_iff.1 hi).1
  refine ⟨hP'.me, own_ext hP.lb hx fun g hg hgF => ?_, fun j z hj => ?_, by simpa using hP.len, hP.lms, hP.nb, hP.nm, hP.lo⟩
  · obtain ⟨cur, hc⟩ := hP.lb.block hg
    exact hP.far hb hm hI hc (by decide) (by decide) (by decide) (fun h => absurd h (by decide)) (hF g hgF)
  · simp only [List.getElem?_set] at hj
    by_cases e : i = j
    · subst e
      rw [if_pos rfl, if_pos hlt] at hj
      cases hj
      exact ⟨b, m, hb, hm, hP'.pr⟩
    · rw [if_neg e] at hj
      obtain ⟨b2, m2, h1, h2, h3⟩ := hP.pr j z hj
      obtain ⟨cnt, hcnt⟩ := hP.me.hm
      have hbb : b2 ≠ b := fun h => e (nodup_ne hP.nb hb (h ▸ h1))
      have hmm : m2 ≠ m := fun h => e (nodup_ne hP.nm.1 hm (h ▸ h2))
      have hm0 : m2 ≠ y.mm := fun h => hP.nm.2 (h ▸ List.mem_of_getElem? h2)
      have hPM := hP.pm h1 h2 h3
      refine ⟨b2, m2, h1, h2, h3.ext hx (fun h => ?_) (fun h => ?_)⟩
      · have := hF _ h
        rcases List.mem_append.1 this with g | g
        · simp at g
          rcases g with g | g
          · exact hbb g
          · exact absurd (g ▸ rfl) (hI.hm.ne h3.hb)
        · exact hPM.apart.1 g
      · have := hF _ h
        rcases List.mem_append.1 this with g | g
        · simp at g
          rcases g with g | g
          · exact absurd (g ▸ rfl) (h3.hm.ne hI.hb)
          · exact hmm g
        · exact hPM.apart.2 g
/-- Where the reference's slices lie behind a call of it. -/
theorem XAt.kept {B : Nat} {w w' : World} {y : Lay} {r : RLay} {P S : Nat} {X X' : RW} (hX : XAt B w.heap y r P S X) {sao2 wao2 : Option Addr} {scap2 wcap2 g2 cap2 : Nat} (hB : B ≤ w.heap.size) (hmc : y.mc < w.heap.size)
    (hR : RefV w'.heap S P sao2 scap2 wao2 wcap2 g2 cap2 X') (h1 : Kept (.slice r.sao S r.scap) (.slice sao2 S scap2) w.heap.size) (h2 : Kept (.slice r.wao P r.wcap) (.slice wao2 P wcap2) w.heap.size) (h3 : g2 = r.pg ∨ w.heap.size ≤ g2) :
    XAt B w'.heap y ⟨sao2, scap2, wao2, wcap2, g2, cap2⟩ P S X' := by
  refine ⟨hR, fun g hg => ?_, fun g hg => ?_, ?_⟩
  · rcases h1 with h | h
    · exact hX.ns g (by rw [← h]; exact hg)
    · have := h g hg; omega
  · rcases h2 with h | h
    · exact hX.nw g (by rw [← h]; exact hg)
    · have := h g hg; omega
  · have := hX.np
    show B ≤ g2
    omega
theorem foot_fixed {y : Lay} {lv : Value} {i b m : Nat} (hb : y.bs[i]? = some b) (hm : y.ms[i]? = some m) : ∀ g ∈ [b, m] ++ foot y.mb y.mc y.mm lv, g ∈ y.fixed ++ lv.ownBlock.toList := by
  intro g hg
  have h1 := List.mem_of_getElem? hb
  have h2 := List.mem_of_getElem? hm
  simp [foot, Lay.fixed] at hg ⊢
  rcases hg with rfl | rfl | rfl | rfl | rfl | h
  · simp [h1]
  · simp [h2]
  · simp
  · simp
  · simp
  · simp [h]
end Go.Proofs.Ytkhihpmadmmeaaa
set_option linter.unusedSimpArgs false
set_option linter.unusedVariables false
set_option maxHeartbeats 2000000
set_option maxRecDepth 100000
namespace Go.Proofs.Ytkhihpmadmmeaaa
open Go.RowKit Go.Hs

theorem and255 (n : Int) : Go.bits .and .i64 n 255 = n % 256 := by
  have h127 : (BitVec.ofInt 64 255).toNat = 2 ^ 8 - 1 := by decide
  have key : (BitVec.ofInt 64 n &&& BitVec.ofInt 64 255).toNat = (n % ((2 ^ 64 : Nat) : Int)).toNat % 2 ^ 8 := by
    rw [BitVec.toNat_and, BitVec.toNat_ofInt, h127, Nat.and_two_pow_sub_one_eq_mod]
  show IntKind.i64.wrap ((BitVec.ofInt 64 n &&& BitVec.ofInt 64 255).toNat : Nat) = n % 256
  rw [key, IntKind.wrap_i64]
  omega
theorem PAt.extT {B : Nat} {w w' : World} {y : Lay} {lv : Value} {s : Sys} (hP : PAt B w.heap y lv s) {F : List Nat} (hx : Ext F w w')
    (hF : ∀ g ∈ F, ∃ cs t f, w.heap[g]? = some (.cells cs t f) ∧ t ≠ 75 ∧ t ≠ 73 ∧ t ≠ 85 ∧ t ≠ 9 ∧ t ≠ 48) : PAt B w'.heap y lv s := by
  have key : ∀ {g : Nat} {cs : Array Value} {t : TypeId} {f : Nat × Nat}, w.heap[g]? = some (.cells cs t f) → (t = 75 ∨ t = 73 ∨ t = 85 ∨ t = 9 ∨ t = 48) → g ∉ F := by
    intro g cs t f h1 h2 hm
    obtain ⟨cs', t', f', h3, h4⟩ := hF g hm
    rw [h1] at h3
    simp at h3
    obtain ⟨_, rfl, _⟩ := h3
    rcases h2 with h | h | h | h | h
    · exact h4.1 h
    · exact h4.2.1 h
    · exact h4.2.2.1 h
    · exact h4.2.2.2.1 h
    · exact h4.2.2.2.2 h
  have keym : ∀ {κ ν : Type} [DecidableEq κ] {enc : κ → Value} {venc : ν → Value} {l : List (κ × ν)} {m : Nat}, MapAt enc venc w.heap m l → m ∉ F := by
    intro κ ν _ enc venc l m h hm
    obtain ⟨cs', t', f', h3, h4⟩ := hF m hm
    exact absurd rfl (h.ne h3)
  obtain ⟨cnt, hcnt⟩ := hP.me.hm
  refine ⟨hP.me.ext hx (fun g hg => ?_), own_ext hP.lb hx (fun g hg => ?_), fun i x hi => ?_, hP.len, hP.lms, hP.nb, hP.nm, hP.lo⟩
  · simp [foot] at hg
    rcases hg with rfl | rfl | rfl | hg
    · exact key hP.me.hb (by simp)
    · exact key hP.me.hc (by simp)
    · exact keym hcnt
    · obtain ⟨cur, hc⟩ := hP.me.hl.block hg
      exact key hc (by simp)
  · obtain ⟨cur, hc⟩ := hP.lb.block hg
    exact key hc (by simp)
  · obtain ⟨b, m, h1, h2, h3⟩ := hP.pr i x hi
    exact ⟨b, m, h1, h2, h3.ext hx (key h3.hb (by simp)) (keym h3.hm)⟩
theorem XAt.extT {B : Nat} {w w' : World} {y : Lay} {r : RLay} {P S : Nat} {X : RW} (hX : XAt B w.heap y r P S X) {F : List Nat} (hx : Ext F w w')
    (hF : ∀ g ∈ F, ∃ cs t f, w.heap[g]? = some (.cells cs t f) ∧ t ≠ 9 ∧ t ≠ 62) : XAt B w'.heap y r P S X := by
  have key : ∀ {g : Nat} {cs : Array Value} {t : TypeId} {f : Nat × Nat}, w.heap[g]? = some (.cells cs t f) → (t = 9 ∨ t = 62) → g ∉ F := by
    intro g cs t f h1 h2 hm
    obtain ⟨cs', t', f', h3, h4⟩ := hF g hm
    rw [h1] at h3
    simp at h3
    obtain ⟨_, rfl, _⟩ := h3
    rcases h2 with h | h
    · exact h4.1 h
    · exact h4.2 h
  refine ⟨hX.rf.ext hx fun g hg => ?_, hX.ns, hX.nw, hX.np⟩
  rcases hg with hg | hg | rfl
  · obtain ⟨cur, hc⟩ := hX.rf.s.block hg
    exact key hc (by simp)
  · obtain ⟨cur, hc⟩ := hX.rf.w.block hg
    exact key hc (by simp)
  · obtain ⟨cur, hc⟩ := hX.rf.p.block (g := r.pg) rfl
    exact key hc (by simp)
theorem alloc_two (w : World) (A C : Obj) : ((w.alloc A).alloc C).heap[w.heap.size]? = some A ∧ ((w.alloc A).alloc C).heap[w.heap.size + 1]? = some C ∧ Ext [] w ((w.alloc A).alloc C) ∧ ((w.alloc A).alloc C).heap.size = w.heap.size + 1 + 1 := by
  refine ⟨heap_old' _ _ (heap_new w A), ?_, ((Ext.refl _ _).alloc _).alloc _, by simp⟩
  have := heap_new (w.alloc A) C
  rwa [show (w.alloc A).heap.size = w.heap.size + 1 by simp] at this
/-- The post of Does. -/
def DoesPost (B : Nat) (y : Lay) (lv : Value) (w : World) (e : Ending) (w' : World) (s' : Sys) (E : EndR) : Prop :=
  ∃ r' lv', e = .returned (.tuple #[.agg (stCells y r' s'), .agg #[.bool E.done, .bool E.full, .int .i64 E.slot], .bool true]) ∧ PAt B w'.heap y lv' s' ∧ XAt B w'.heap y r' s'.P s'.S s'.ref ∧ Ext (y.fixed ++ lv.ownBlock.toList) w w'
theorem okOf {s : Sys} {n i : Nat} {x : PSt} (hI : SInv s n) (hn : n < 100000) (hi : i < s.P) (hc : PCore s.P s.S n s.M.cells i x) (hp : PPh s.S i x) : x.Ok := by
  have h1 := hI.hP
  have h2 := hI.hS
  have h3 := hc.seq
  have h4 := hc.at_
  refine ⟨by rw [hc.who]; omega, ?_, by omega, hc.body, by omega, by rw [hc.hP]; omega, by rw [hc.hS]; omega⟩
  rcases hp.mwho with h | ⟨h, _⟩ <;> omega
/-- Which process an act is of. -/
def whoOf (who : Int) (P : Nat) : Nat := (who % 256).toNat % P
theorem whoOf_lt (who : Int) {P : Nat} (h : 1 ≤ P) : whoOf who P < P := Nat.mod_lt _ h
theorem whoOf_eq (who : Int) (P : Nat) : ∃ c : Nat, Go.bits .and .i64 who 255 = (c : Int) ∧ c < 256 ∧ Int.tmod (c : Int) (P : Int) = (whoOf who P : Int) ∧ (c : Int) % (P : Int) = (whoOf who P : Int) := by
  refine ⟨(who % 256).toNat, by rw [and255]; omega, by omega, ?_, ?_⟩
  · rw [Int.tmod_eq_emod_of_nonneg (by omega)]; rfl
  · rfl
theorem does_step (B : Nat) (y : Lay) (r : RLay) (lv : Value) (s : Sys) (n : Nat) (who : Int) (raw : ByteArray) (w : World) (hP : PAt B w.heap y lv s) (hX : XAt B w.heap y r s.P s.S s.ref) (hI : SInv s n) (hn : n < 100000) (hB : B ≤ w.heap.size)
    {x : PSt} (hx : s.L[whoOf who s.P]? = some x) :
    Calls Try.prog 16 #[.agg (stCells y r s), .agg #[.int .i64 1, .int .i64 who, .string raw]] w fun e w' =>
      DoesPost B y lv w e w' (s.step (whoOf who s.P) x).1 (s.step (whoOf who s.P) x).2 := by
  have hlen := hI.hL
  have hPp := hI.hP
  have hSs := hI.hS
  have hil := whoOf_lt who hPp.1
  obtain ⟨c, hc1, hc2, hc3, hc4⟩ := whoOf_eq who s.P
  generalize whoOf who s.P = i at *
  obtain ⟨b, m, hb, hm, hIp⟩ := hP.pr i x hx
  have hrp : s.ref.P[i]? = some (rpOf x) := by simp [Sys.ref, hx]
  have hcore := hI.core i x hx
  have hphs := hI.ph i x hx
  have hmb := lt_of_heap hP.me.hb
  have hmc := lt_of_heap hP.me.hc
  obtain ⟨hA, hD, hC, hZ, hE, hsz⟩ := alloc_four w (.cells #[.int .i64 s.P, .int .i64 s.S, .pointer (some ⟨y.mb, 0, none⟩), .slice (some ⟨y.lg, 0, none⟩) s.P y.lcap, .slice r.sao s.S r.scap, .slice r.wao s.P r.wcap, .slice (some ⟨r.pg, 0, none⟩) s.P r.pcap] 39) (.cells #[.int .i64 1, .int .i64 who, .string raw] 46) (.cells #[.int .i64 0, .int .i64 0, .pointer none, .slice none 0 0, .slice none 0 0, .slice none 0 0, .slice none 0 0] 39) (.cells #[.bool false, .bool false, .int .i64 0] 42)
  have hP1 := hP.ext0 hE
  have hX1 := hX.ext0 hE
  have hI1 := hIp.ext hE (by simp) (by simp)
  obtain ⟨E, x', M', hst⟩ : ∃ E x' M', x.step s.M = (E, x', M') := ⟨_, _, _, rfl⟩
  have hsim := sim_step hI hx
  have hinv := inv_step hI hx
  unfold Sys.step at hsim hinv ⊢
  rw [hst] at hsim hinv ⊢
  simp only [] at hsim hinv ⊢
  have hok := okOf hI hn hil hcore hphs
  have hstep := step_any b m x y.mb y.mc y.mm lv s.M
  rw [hst] at hstep
  simp only [Stepped, EndR.val] at hstep
  have HST := Hs.hid hstep
  have hrs := fun w hR => refStep_any s.S s.P r.sao r.scap r.wao r.wcap r.pg r.pcap s.ref i (rpOf x) w hR hrp (by omega) (by omega) (by show x.who < 1000000; have := hok.who; omega) (by show x.seq < 1000000000000000; have := hok.seq; omega) (by show x.body.size < 100000; have := hok.body; omega) hcore.at_ hphs.ph (fun h => hphs.lt (by rcases h with h | h; exact .inl h; exact .inr (.inr h)))
  rw [hsim] at hrs
  have HRS := Hs.hid hrs
  have HC := Hs.hid (And.intro hcore (And.intro hphs (And.intro hok hinv)))
  clear hstep hrs hcore hphs hok hinv hsim hst
  unfold stCells
  go_enter Try.func16, Try.ntmps16
  go_upto_region 1 with fail
  generalize ((((w.alloc (.cells #[.int .i64 s.P, .int .i64 s.S, .pointer (some ⟨y.mb, 0, none⟩), .slice (some ⟨y.lg, 0, none⟩) s.P y.lcap, .slice r.sao s.S r.scap, .slice r.wao s.P r.wcap, .slice (some ⟨r.pg, 0, none⟩) s.P r.pcap] 39)).alloc (.cells #[.int .i64 1, .int .i64 who, .string raw] 46)).alloc (.cells #[.int .i64 0, .int .i64 0, .pointer none, .slice none 0 0, .slice none 0 0, .slice none 0 0, .slice none 0 0] 39)).alloc (.cells #[.bool false, .bool false, .int .i64 0] 42)) = W at *
  have hAlt := lt_of_heap hA
  generalize hAA : w.heap.size = A at *
  have HAA := Hs.hid hAA
  clear hAA
  obtain ⟨q0, q1, q2, q3, q4, q5⟩ := hX1.rf.at hrp
  have a0 := cellAt hA 0
  have a1 := cellAt hA 1
  have a2 := cellAt hA 2
  have a3 := cellAt hA 3
  have a4 := cellAt hA 4
  have a5 := cellAt hA 5
  have a6 := cellAt hA 6
  have d0 := cellAt hD 0
  have d1 := cellAt hD 1
  have d2 := cellAt hD 2
  simp at a0 a1 a2 a3 a4 a5 a6 d0 d1 d2
  have l0 := Own.cells (w := W) rfl hP1.lb (g := y.lg) rfl i (.pointer (some ⟨b, 0, none⟩)) (by simp [hb])
  rw [add_off'] at l0
  simp only [rpOf] at q0
  clear q1 q2 q3 q4 q5
  have g1 : (1 : Int) ≤ s.P := by omega
  have g2 : (i : Int) < s.P := by omega
  have HX := Hs.hid hx
  have HI := Hs.hid hI
  have HB := Hs.hid (And.intro hb hm)
  have HE := Hs.hid hE
  have HN := Hs.hid (And.intro hn (And.intro hSs (And.intro hlen hmc)))
  have HRP := Hs.hid hrp
  have HSZ := Hs.hid hsz
  clear hx hI hb hm hE hn hSs hlen hmc hrp hsz hmb
  go_upto_region 7 with (go_at_call 24; (refine (HST.out _ (hP1.pm HB.out.1 HB.out.2 hI1) HC.out.2.2.1 (by rw [HC.out.1.who, HC.out.1.hP]; exact hil) (by rw [HC.out.1.hP, HC.out.1.hS]; exact HI.out.cells) (by have := HI.out.log; have := HN.out.1; omega) HC.out.2.1.ph (fun h => by rw [HC.out.1.hS]; exact HC.out.2.1.lt (by rcases h with h | h; exact .inl h; exact .inr (.inr h)))).mono ?_); rintro e w1 ⟨lv1, rfl, hPM1, hx1⟩)
  have hP2 := hP1.moved HX.out HB.out.1 HB.out.2 hI1 hPM1 hx1 (fun g h => h)
  have hX2 := XAt.stepped hP1 hX1 HB.out.1 HB.out.2 hI1 hx1 (fun g h => h)
  have hA2 := hx1.same hA (hP1.far HB.out.1 HB.out.2 hI1 hA (by decide) (by decide) (by decide) (fun h => absurd h (by decide)))
  have hC2 := hx1.same hC (hP1.far HB.out.1 HB.out.2 hI1 hC (by decide) (by decide) (by decide) (fun h => absurd h (by decide)))
  have hZ2 := hx1.same hZ (hP1.far HB.out.1 HB.out.2 hI1 hZ (by decide) (by decide) (by decide) (fun h => absurd h (by decide)))
  have hE2 : Ext (y.fixed ++ lv.ownBlock.toList) w w1 := (HE.out.mono (F' := y.fixed ++ lv.ownBlock.toList) (by simp)).trans hx1 (fun g hg => .inl (foot_fixed HB.out.1 HB.out.2 g hg))
  have hsz1 := hx1.size
  clear hP1 hX1 hA hC hZ hD hIp hI1 hPM1 hx1 a0 a1 a2 a3 a4 a5 a6 d0 d1 d2 l0 q0
  have hT := heap_new w1 (.cells #[.bool E.done, .bool E.full, .int .i64 E.slot] 42)
  have hT3 : Ext [] w1 (w1.alloc (.cells #[.bool E.done, .bool E.full, .int .i64 E.slot] 42)) := (Ext.refl _ _).alloc _
  have hP3 := hP2.ext0 hT3
  have hX3 := hX2.ext0 hT3
  have hA3 := hT3.same hA2 (by simp)
  have hC3 := hT3.same hC2 (by simp)
  have hZ3 := hT3.same hZ2 (by simp)
  have hE3 := hE2.trans0 hT3
  have hT1 : A + 1 + 1 + 1 < w1.heap.size := by have := HSZ.out; omega
  clear hP2 hX2 hA2 hC2 hZ2 hE2 hT3
  generalize w1.alloc (.cells #[.bool E.done, .bool E.full, .int .i64 E.slot] 42) = W3 at *
  have hW3 := lt_of_heap hT
  generalize w1.heap.size = A4 at *
  have a4 := cellAt hA3 4
  have a5 := cellAt hA3 5
  have a6 := cellAt hA3 6
  simp at a4 a5 a6
  go_upto_region 8 with (go_at_call 31; (refine (HRS.out _ hX3.rf).mono ?_); rintro e w4 ⟨sao2, scap2, wao2, wcap2, pg2, pcap2, rfl, hR4, hx4, hk1, hk2, hk3⟩)
  have hX4 : XAt B w4.heap y ⟨sao2, scap2, wao2, wcap2, pg2, pcap2⟩ s.P s.S ({ P := s.P, S := s.S, L := s.L.set i x', M := M' } : Sys).ref := hX3.kept (by omega) (by have := HN.out.2.2.2; omega) hR4 hk1 hk2 hk3
  obtain ⟨hU, hV, hx5, hsz5⟩ := alloc_two w4 (.cells #[.slice sao2 s.S scap2, .slice wao2 s.P wcap2, .slice (some ⟨pg2, 0, none⟩) s.P pcap2] 37) (.cells #[.bool E.done, .bool E.full, .int .i64 E.slot] 65)
  have hx45 := hx4.trans0 hx5
  have hP5 := hP3.ext0 hx45
  have hX5 := hX4.ext0 hx5
  have hA5 := hx45.same hA3 (by simp)
  have hC5 := hx45.same hC3 (by simp)
  have hZ5 := hx45.same hZ3 (by simp)
  have hT5 := hx45.same hT (by simp)
  have hE5 := hE3.trans0 hx45
  have hsz4 := hx4.size
  clear hP3 hX3 hA3 hC3 hZ3 hE3 hx5 hX4 hR4 hk1 hk2 hk3 hx4 hx45 hT a4 a5 a6 hc1 hc3 hc4
  generalize (w4.alloc (.cells #[.slice sao2 s.S scap2, .slice wao2 s.P wcap2, .slice (some ⟨pg2, 0, none⟩) s.P pcap2] 37)).alloc (.cells #[.bool E.done, .bool E.full, .int .i64 E.slot] 65) = W5 at *
  generalize w4.heap.size = A5 at *
  have u0 := cellAt hU 0
  have u1 := cellAt hU 1
  have u2 := cellAt hU 2
  have af := freeAt hA5
  have a4 := cellAt hA5 4
  have a5 := cellAt hA5 5
  have a6 := cellAt hA5 6
  simp at u0 u1 u2 a4 a5 a6
  go_upto_region 9 with fail
  have hA6 := heap_set (heap_set (heap_set hA5 4 (.slice sao2 s.S scap2)) 5 (.slice wao2 s.P wcap2)) 6 (.slice (some ⟨pg2, 0, none⟩) s.P pcap2)
  have hx6 : Ext [A] W5 (((W5.setCell ⟨A, 4, none⟩ (.slice sao2 s.S scap2)).setCell ⟨A, 5, none⟩ (.slice wao2 s.P wcap2)).setCell ⟨A, 6, none⟩ (.slice (some ⟨pg2, 0, none⟩) s.P pcap2)) := Ext.set' (by simp) (Ext.set' (by simp) (Ext.set' (by simp) (Ext.refl _ _) _ _) _ _) _ _
  have hP6 := hP5.extT hx6 (by intro g hg; simp at hg; subst hg; exact ⟨_, _, _, hA5, by decide, by decide, by decide, by decide, by decide⟩)
  have hX6 := hX5.extT hx6 (by intro g hg; simp at hg; subst hg; exact ⟨_, _, _, hA5, by decide, by decide⟩)
  have hC6 := hx6.same hC5 (by simp; omega)
  have hZ6 := hx6.same hZ5 (by simp; omega)
  have hT6 := hx6.same hT5 (by simp; omega)
  have hV6 := hx6.same hV (by simp; omega)
  have hE6 : Ext (y.fixed ++ lv.ownBlock.toList) w _ := hE5.trans hx6 (fun g hg => .inr (by simp at hg; subst hg; exact Nat.le_of_eq HAA.out))
  clear hP5 hX5 hA5 hC5 hZ5 hT5 hE5 hx6 hU hV u0 u1 u2 af a4 a5 a6
  generalize ((W5.setCell ⟨A, 4, none⟩ (.slice sao2 s.S scap2)).setCell ⟨A, 5, none⟩ (.slice wao2 s.P wcap2)).setCell ⟨A, 6, none⟩ (.slice (some ⟨pg2, 0, none⟩) s.P pcap2) = W6 at *
  simp at hA6
  have a0 := cellAt hA6 0
  have a1 := cellAt hA6 1
  have a2 := cellAt hA6 2
  have a3 := cellAt hA6 3
  have a4 := cellAt hA6 4
  have a5 := cellAt hA6 5
  have a6 := cellAt hA6 6
  have t0 := cellAt hT6 0
  have t1 := cellAt hT6 1
  have t2 := cellAt hT6 2
  have v0 := cellAt hV6 0
  have v1 := cellAt hV6 1
  have v2 := cellAt hV6 2
  have c0 := cellAt hC6 0
  have c1 := cellAt hC6 1
  have c2 := cellAt hC6 2
  have c3 := cellAt hC6 3
  have c4 := cellAt hC6 4
  have c5 := cellAt hC6 5
  have c6 := cellAt hC6 6
  have z0 := cellAt hZ6 0
  have z1 := cellAt hZ6 1
  have z2 := cellAt hZ6 2
  simp at c0 c1 c2 c3 c4 c5 c6 z0 z1 z2
  have cf := freeAt hC6
  have zf := freeAt hZ6
  simp at a0 a1 a2 a3 a4 a5 a6 t0 t1 t2 v0 v1 v2
  have mem1 : A + 1 + 1 ∈ [A + 1 + 1, A + 1 + 1 + 1] := by simp
  have mem2 : A + 1 + 1 + 1 ∈ [A + 1 + 1, A + 1 + 1 + 1] := by simp
  go_region
  all_goals go_wp2_with fail
  all_goals
    refine bodyPost_ret (v := .tuple #[.agg (stCells y ⟨sao2, scap2, wao2, wcap2, pg2, pcap2⟩ { P := s.P, S := s.S, L := s.L.set i x', M := M' }), .agg #[.bool E.done, .bool E.full, .int .i64 E.slot], .bool true]) (by simp [results, Try.results16, go_sem, stCells, c0, c1, c2, c3, c4, c5, c6, z0, z1, z2]) rfl ?_
    refine (fun (hx : Ext [A + 1 + 1, A + 1 + 1 + 1] W6 _) => ⟨_, lv1, rfl, hP6.extT hx ?_, hX6.extT hx ?_, hE6.trans hx ?_⟩) ?_
    · repeat (first | (with_reducible exact Ext.refl _ _) | (with_reducible refine Ext.drew ?_) | (with_reducible refine Ext.set' mem1 ?_ _ _) | (with_reducible refine Ext.set' mem2 ?_ _ _))
    · intro g hg
      simp at hg
      rcases hg with rfl | rfl
      · exact ⟨_, _, _, hC6, by decide, by decide, by decide, by decide, by decide⟩
      · exact ⟨_, _, _, hZ6, by decide, by decide, by decide, by decide, by decide⟩
    · intro g hg
      simp at hg
      rcases hg with rfl | rfl
      · exact ⟨_, _, _, hC6, by decide, by decide⟩
      · exact ⟨_, _, _, hZ6, by decide, by decide⟩
    · intro g hg
      have := HAA.out
      simp at hg; omega
end Go.Proofs.Ytkhihpmadmmeaaa
