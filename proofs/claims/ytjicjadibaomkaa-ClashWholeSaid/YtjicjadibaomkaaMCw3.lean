/-
  Texts of this claim, put together: CSidesA, CSidesL, CSidesR, CSides, CRev, CSidesF.
-/
import Derived.Deep.MidRow
import Derived.Test.YtjicjadibaomkaaMCw2
set_option linter.unusedSimpArgs false
set_option linter.unusedVariables false
set_option maxHeartbeats 4000000
set_option maxRecDepth 100000
namespace Go.Proofs.Ytjicjadibaomkaa
open Go.RowKit Go.Hs Go.Dg

theorem setRow_keep {w : World} {g r : Nat} {o : Obj} (cs : Array Value) (h : w.heap[g]? = some o) (hne : g ≠ r) : (w.setRow r cs).heap[g]? = some o := by
  rw [setRow_other _ _ _ _ hne]; exact h
theorem own_farS {h : Array Obj} {e t : TypeId} {size n : Nat} {v : Value} {xs : List Value} (o : Own h e size v n xs) {b : Nat} {cs : Array Value} {f : Nat × Nat} (hb : h[b]? = some (.cells cs t f)) (ht : t ≠ e) : b ∉ v.ownBlock.toList := by
  intro hm
  obtain ⟨cur, hc⟩ := o.block (by simpa using hm)
  rw [hb] at hc
  simp at hc
  exact ht hc.2.1
theorem results_two {fn : Func} {p q u r : Tmp} (h : fn.results = #[.cell p 35, .cell q 35, .tmp u, .tmp r]) (tmps : Array Value) {w : World} {g1 g2 : Nat} {c1 c2 : Array Value} {f1 f2 : Nat × Nat} {x y : Value}
    (hp : tmps.getD p undef = .pointer (some ⟨g1, 0, none⟩)) (hq : tmps.getD q undef = .pointer (some ⟨g2, 0, none⟩)) (hu : tmps.getD u undef = x) (hr : tmps.getD r undef = y)
    (h1 : w.heap[g1]? = some (.cells c1 35 f1)) (s1 : c1.size = 32) (h2 : w.heap[g2]? = some (.cells c2 35 f2)) (s2 : c2.size = 32) :
    (results fn tmps).run Try.prog w = .ok (.tuple #[.agg c1, .agg c2, x, y]) w := by
  simp only [Array.getD_eq_getD_getElem?] at hp hq hu hr
  simp only [results, h]
  simp [Sem.run_bind, Result.andThen, hp, hq, hu, hr, asAddr, load_sum h1 s1, load_sum h2 s2]
/-- Pairs as cells. -/
def flatP (L : List (ByteArray × ByteArray)) : List Value := L.flatMap fun p => [.string p.1, .string p.2]
theorem flatP_append (L : List (ByteArray × ByteArray)) (p : ByteArray × ByteArray) : flatP (L ++ [p]) = flatP L ++ [.string p.1, .string p.2] := by simp [flatP]
theorem infoPair : (Try.prog.info? 43).map (fun i => (i.zero, i.size, i.bytes)) = some (some (.agg #[.string ⟨#[]⟩, .string ⟨#[]⟩]), 2, 32) := by kernel_rfl
/-- A slice of pairs that the call owns. -/
def OwnP (h : Array Obj) (v : Value) (ps : List (ByteArray × ByteArray)) : Prop := Own h 43 2 v ps.length (flatP ps)
theorem OwnP.nil (h : Array Obj) : OwnP h (.slice none 0 0) [] := ⟨rfl, .inl ⟨rfl, rfl⟩⟩
theorem OwnP.ext {w w' : World} {F : List Nat} {v : Value} {ps : List (ByteArray × ByteArray)} (o : OwnP w.heap v ps) (x : Ext F w w') (hF : ∀ g, v.ownBlock = some g → g ∉ F) : OwnP w'.heap v ps :=
  Own.same o fun g hg => x.block g (Own.lt o hg) (hF g hg)
theorem OwnP.set {w : World} {v : Value} {ps : List (ByteArray × ByteArray)} (o : OwnP w.heap v ps) {R : Nat} {z : Array Value} {f : Nat × Nat} (hb : w.heap[R]? = some (.cells z 35 f)) (cs : Array Value) : OwnP (w.setRow R cs).heap v ps :=
  o.ext (setRow_ext R cs) (fun g hg hm => by
    have := own_farS o hb (by decide)
    simp at hm; subst hm
    exact this (by simp [hg]))
theorem nodeC_eq (a b : S32) (t : ByteArray) (h : node2 a.s b.s = t) (w : World) : Calls Try.prog 28 #[.agg (a.V), .agg (b.V)] w fun e w' => e = .returned (.string t) ∧ Ext [] w w' := by
  subst h; exact nodeC_any a b w
theorem Sums32.range {w : World} {b o cap : Nat} {xs : List S32} (h : Sums32 w.heap (some ⟨b, o, none⟩) cap xs) {k : Nat} {x : S32} (hk : xs[k]? = some x) : b < w.heap.size ∧ w.rangeAt b (o + k * 32) x.V.toList := by
  obtain ⟨b', o', e, h1, h2⟩ := h.at hk
  injection e with e; injection e with e1 e2
  subst e1; subst e2
  exact ⟨h1, h2⟩
theorem side_start (w : World) (old : S32) : (((w.alloc (.cells old.V 35)).alloc (.cells #[.int .u8 0, .int .u8 0, .int .u8 0, .int .u8 0, .int .u8 0, .int .u8 0, .int .u8 0, .int .u8 0, .int .u8 0, .int .u8 0, .int .u8 0, .int .u8 0, .int .u8 0, .int .u8 0, .int .u8 0, .int .u8 0, .int .u8 0, .int .u8 0, .int .u8 0, .int .u8 0, .int .u8 0, .int .u8 0, .int .u8 0, .int .u8 0, .int .u8 0, .int .u8 0, .int .u8 0, .int .u8 0, .int .u8 0, .int .u8 0, .int .u8 0, .int .u8 0] 35)).alloc (.cells #[.int .u8 0, .int .u8 0, .int .u8 0, .int .u8 0, .int .u8 0, .int .u8 0, .int .u8 0, .int .u8 0, .int .u8 0, .int .u8 0, .int .u8 0, .int .u8 0, .int .u8 0, .int .u8 0, .int .u8 0, .int .u8 0, .int .u8 0, .int .u8 0, .int .u8 0, .int .u8 0, .int .u8 0, .int .u8 0, .int .u8 0, .int .u8 0, .int .u8 0, .int .u8 0, .int .u8 0, .int .u8 0, .int .u8 0, .int .u8 0, .int .u8 0, .int .u8 0] 35)).heap[w.heap.size]? = some (.cells old.V 35 (0, 0)) ∧
    (((w.alloc (.cells old.V 35)).alloc (.cells #[.int .u8 0, .int .u8 0, .int .u8 0, .int .u8 0, .int .u8 0, .int .u8 0, .int .u8 0, .int .u8 0, .int .u8 0, .int .u8 0, .int .u8 0, .int .u8 0, .int .u8 0, .int .u8 0, .int .u8 0, .int .u8 0, .int .u8 0, .int .u8 0, .int .u8 0, .int .u8 0, .int .u8 0, .int .u8 0, .int .u8 0, .int .u8 0, .int .u8 0, .int .u8 0, .int .u8 0, .int .u8 0, .int .u8 0, .int .u8 0, .int .u8 0, .int .u8 0] 35)).alloc (.cells #[.int .u8 0, .int .u8 0, .int .u8 0, .int .u8 0, .int .u8 0, .int .u8 0, .int .u8 0, .int .u8 0, .int .u8 0, .int .u8 0, .int .u8 0, .int .u8 0, .int .u8 0, .int .u8 0, .int .u8 0, .int .u8 0, .int .u8 0, .int .u8 0, .int .u8 0, .int .u8 0, .int .u8 0, .int .u8 0, .int .u8 0, .int .u8 0, .int .u8 0, .int .u8 0, .int .u8 0, .int .u8 0, .int .u8 0, .int .u8 0, .int .u8 0, .int .u8 0] 35)).heap[w.heap.size + 1]? = some (.cells zeroS.V 35 (0, 0)) ∧
    (((w.alloc (.cells old.V 35)).alloc (.cells #[.int .u8 0, .int .u8 0, .int .u8 0, .int .u8 0, .int .u8 0, .int .u8 0, .int .u8 0, .int .u8 0, .int .u8 0, .int .u8 0, .int .u8 0, .int .u8 0, .int .u8 0, .int .u8 0, .int .u8 0, .int .u8 0, .int .u8 0, .int .u8 0, .int .u8 0, .int .u8 0, .int .u8 0, .int .u8 0, .int .u8 0, .int .u8 0, .int .u8 0, .int .u8 0, .int .u8 0, .int .u8 0, .int .u8 0, .int .u8 0, .int .u8 0, .int .u8 0] 35)).alloc (.cells #[.int .u8 0, .int .u8 0, .int .u8 0, .int .u8 0, .int .u8 0, .int .u8 0, .int .u8 0, .int .u8 0, .int .u8 0, .int .u8 0, .int .u8 0, .int .u8 0, .int .u8 0, .int .u8 0, .int .u8 0, .int .u8 0, .int .u8 0, .int .u8 0, .int .u8 0, .int .u8 0, .int .u8 0, .int .u8 0, .int .u8 0, .int .u8 0, .int .u8 0, .int .u8 0, .int .u8 0, .int .u8 0, .int .u8 0, .int .u8 0, .int .u8 0, .int .u8 0] 35)).heap[w.heap.size + 1 + 1]? = some (.cells zeroS.V 35 (0, 0)) ∧ Ext [] w (((w.alloc (.cells old.V 35)).alloc (.cells #[.int .u8 0, .int .u8 0, .int .u8 0, .int .u8 0, .int .u8 0, .int .u8 0, .int .u8 0, .int .u8 0, .int .u8 0, .int .u8 0, .int .u8 0, .int .u8 0, .int .u8 0, .int .u8 0, .int .u8 0, .int .u8 0, .int .u8 0, .int .u8 0, .int .u8 0, .int .u8 0, .int .u8 0, .int .u8 0, .int .u8 0, .int .u8 0, .int .u8 0, .int .u8 0, .int .u8 0, .int .u8 0, .int .u8 0, .int .u8 0, .int .u8 0, .int .u8 0] 35)).alloc (.cells #[.int .u8 0, .int .u8 0, .int .u8 0, .int .u8 0, .int .u8 0, .int .u8 0, .int .u8 0, .int .u8 0, .int .u8 0, .int .u8 0, .int .u8 0, .int .u8 0, .int .u8 0, .int .u8 0, .int .u8 0, .int .u8 0, .int .u8 0, .int .u8 0, .int .u8 0, .int .u8 0, .int .u8 0, .int .u8 0, .int .u8 0, .int .u8 0, .int .u8 0, .int .u8 0, .int .u8 0, .int .u8 0, .int .u8 0, .int .u8 0, .int .u8 0, .int .u8 0] 35)) := by
  have h1 : (w.alloc (.cells old.V 35)).heap.size = w.heap.size + 1 := by simp
  have h2 : ((w.alloc (.cells old.V 35)).alloc (.cells #[.int .u8 0, .int .u8 0, .int .u8 0, .int .u8 0, .int .u8 0, .int .u8 0, .int .u8 0, .int .u8 0, .int .u8 0, .int .u8 0, .int .u8 0, .int .u8 0, .int .u8 0, .int .u8 0, .int .u8 0, .int .u8 0, .int .u8 0, .int .u8 0, .int .u8 0, .int .u8 0, .int .u8 0, .int .u8 0, .int .u8 0, .int .u8 0, .int .u8 0, .int .u8 0, .int .u8 0, .int .u8 0, .int .u8 0, .int .u8 0, .int .u8 0, .int .u8 0] 35)).heap.size = w.heap.size + 1 + 1 := by simp
  refine ⟨heap_old' _ _ (heap_old' _ _ (heap_new _ _)), ?_, ?_, (((Ext.refl _ _).alloc _).alloc _).alloc _⟩
  · rw [← h1]; exact heap_old' _ _ (heap_new _ _)
  · rw [← h2]; exact heap_new _ _
/-- What sides answers. -/
def SideE (w : World) (L : List ByteArray) (n f m : Nat) (whole : Bool) (old : S32) (xs : List S32) (e : Ending) (w' : World) : Prop := ∃ (x y : S32) (v : Value) (ps : List (ByteArray × ByteArray)) (ok : Bool),
  e = .returned (.tuple #[.agg x.V, .agg y.V, v, .bool ok]) ∧ Hid (sidesP L n f m whole old xs = ⟨x, y, ps, ok⟩) ∧ OwnP w'.heap v ps ∧ (∀ g, v.ownBlock = some g → w.heap.size ≤ g) ∧ ps.length ≤ n ∧ Ext [] w w'
theorem side_end (b o : Nat) (L : List ByteArray) (HL : Hid (L.length ≤ 40 ∧ ∀ s ∈ L, s.size ≤ 20)) (f m off cap : Nat) (old : S32) (ys : List S32) (y : S32) (sb so cap2 : Nat) (h1 : 1 ≤ m) (hfn : f + m ≤ L.length) (hoff : off = o + f) (hcap : m ≤ cap) (hcm : cap ≤ 9223372036854775807) (w : World) (hLA : LeafAt w.heap b o L) (hT : Sums32 w.heap (some ⟨sb, so, none⟩) cap2 (ys ++ [y])) :
    Calls Try.prog 34 #[.int .i64 m, .slice (some ⟨b, off, none⟩) m cap, .slice (some ⟨sb, so, none⟩) (ys.length + 1) cap2, .bool false, .agg old.V] w (SideE w L m f m false old (ys ++ [y])) := by
    have hL40 := HL.out.1
    have hmax := hT.2.1
    have hcap2 := hT.1
    obtain ⟨hA, hB, hC, hx0⟩ := side_start w old
    have hyl : (ys ++ [y]).length = ys.length + 1 := by simp
    have hTi := hT.init
    rw [hyl] at hcap2
    have m0 : ¬ (((ys.length : Nat) : Int) + 1 = 0) := by omega
    have m1 : (((ys.length : Nat) : Int) + 1 == 0) = false := by simp; omega
    have m2 : ((ys.length : Nat) : Int) + 1 - 1 = (ys.length : Int) := by omega
    have m3 : (ys.length : Int) < (ys.length : Int) + 1 := by omega
    have m4 : (ys.length : Int) ≤ cap2 := by omega
    have m5 : (0 : Int) ≤ ys.length := by omega
    have m6 : ys.length ≤ cap2 := by omega
    have m7 : IntKind.i64.wrap (ys.length : Int) = (ys.length : Int) := by rw [IntKind.wrap_i64]; omega
    have m8 : ((ys.length : Int)).toNat = ys.length := by omega
    have HTX := Hs.hid hT
    have HTI := Hs.hid hTi
    have HLA0 := Hs.hid hLA
    have HP := Hs.hid (sidesP_end L m f old ys y)
    have e0 : ((m : Int) == (m : Int)) = true := by simp
    clear hfn hoff hLA hT hTi hL40
    go_enter Try.func34, Try.ntmps34
    go_upto_region 1 with fail
    generalize ((w.alloc (.cells old.V 35)).alloc (.cells #[.int .u8 0, .int .u8 0, .int .u8 0, .int .u8 0, .int .u8 0, .int .u8 0, .int .u8 0, .int .u8 0, .int .u8 0, .int .u8 0, .int .u8 0, .int .u8 0, .int .u8 0, .int .u8 0, .int .u8 0, .int .u8 0, .int .u8 0, .int .u8 0, .int .u8 0, .int .u8 0, .int .u8 0, .int .u8 0, .int .u8 0, .int .u8 0, .int .u8 0, .int .u8 0, .int .u8 0, .int .u8 0, .int .u8 0, .int .u8 0, .int .u8 0, .int .u8 0] 35)).alloc (.cells #[.int .u8 0, .int .u8 0, .int .u8 0, .int .u8 0, .int .u8 0, .int .u8 0, .int .u8 0, .int .u8 0, .int .u8 0, .int .u8 0, .int .u8 0, .int .u8 0, .int .u8 0, .int .u8 0, .int .u8 0, .int .u8 0, .int .u8 0, .int .u8 0, .int .u8 0, .int .u8 0, .int .u8 0, .int .u8 0, .int .u8 0, .int .u8 0, .int .u8 0, .int .u8 0, .int .u8 0, .int .u8 0, .int .u8 0, .int .u8 0, .int .u8 0, .int .u8 0] 35) = W at hA hB hC hx0 ⊢
    obtain ⟨A, hAA⟩ : ∃ A, w.heap.size = A := ⟨_, rfl⟩
    obtain ⟨B, hBB⟩ : ∃ B, A + 1 = B := ⟨_, rfl⟩
    obtain ⟨C, hCC⟩ : ∃ C, B + 1 = C := ⟨_, rfl⟩
    rw [hAA] at hA hB hC
    rw [hBB] at hB hC
    rw [hCC] at hC
    try rw [hAA]
    try rw [hBB]
    try rw [hCC]
    have HRR := Hs.hid (show w.heap.size ≤ A ∧ w.heap.size ≤ B ∧ w.heap.size ≤ C by omega)
    have HAB := Hs.hid (show A < B ∧ B < C by omega)
    clear hAA hBB hCC
    obtain ⟨hsbW, hrg⟩ := (HTX.out.ext hx0 (by simp)).range (k := ys.length) (x := y) (by simp)
    go_upto_region 6 with fail
    refine wp_region_noPanic ?_
    refine wp_region_held_drew (S := (fun w' => w'.rangeAt sb (so + ys.length * 32) y.V.toList)) (by kernel_rfl) ?_ (fun hHeld => ?_)
    · ((try dsimp only); exact hrg)
    refine wpAnyH_take (i := 0) (v := ?_) rfl (by kernel_rfl) (by kernel_rfl) (by kernel_rfl) (fun _ _ _ h => h) (Or.inl ⟨by rfl, ?_⟩) (by assumption) ?_
    rotate_left
    · (intro w hSw; (try dsimp only at hSw); first | (go_simp; done) | (go_simp; with_reducible rfl))
    try simp only [Act.put, List.getElem_toArray, List.getElem_cons_succ, List.getElem_cons_zero, List.setIfInBounds_toArray, List.set_cons_zero, List.set_cons_succ]
    refine wpAnyH_take (i := 1) (v := ?_) rfl (by kernel_rfl) (by kernel_rfl) (by kernel_rfl) (fun _ _ _ h => h) (Or.inl ⟨by rfl, ?_⟩) (by assumption) ?_
    rotate_left
    · (intro w hSw; (try dsimp only at hSw); first | (go_simp; done) | (go_simp; with_reducible rfl))
    try simp only [Act.put, List.getElem_toArray, List.getElem_cons_succ, List.getElem_cons_zero, List.setIfInBounds_toArray, List.set_cons_zero, List.set_cons_succ]
    refine wpAnyH_take (i := 2) (v := ?_) rfl (by kernel_rfl) (by kernel_rfl) (by kernel_rfl) (fun _ _ _ h => h) (Or.inl ⟨by rfl, ?_⟩) (by assumption) ?_
    rotate_left
    · (intro w hSw; (try dsimp only at hSw); first | (go_simp; done) | (go_simp; with_reducible rfl))
    try simp only [Act.put, List.getElem_toArray, List.getElem_cons_succ, List.getElem_cons_zero, List.setIfInBounds_toArray, List.set_cons_zero, List.set_cons_succ]
    refine wpAnyH_take (i := 3) (v := ?_) rfl (by kernel_rfl) (by kernel_rfl) (by kernel_rfl) (fun _ _ _ h => h) (Or.inl ⟨by rfl, ?_⟩) (by assumption) ?_
    rotate_left
    · (intro w hSw; (try dsimp only at hSw); first | (go_simp; done) | (go_simp; with_reducible rfl))
    try simp only [Act.put, List.getElem_toArray, List.getElem_cons_succ, List.getElem_cons_zero, List.setIfInBounds_toArray, List.set_cons_zero, List.set_cons_succ]
    refine wpAnyH_take (i := 4) (v := ?_) rfl (by kernel_rfl) (by kernel_rfl) (by kernel_rfl) (fun _ _ _ h => h) (Or.inl ⟨by rfl, ?_⟩) (by assumption) ?_
    rotate_left
    · (intro w hSw; (try dsimp only at hSw); first | (go_simp; done) | (go_simp; with_reducible rfl))
    try simp only [Act.put, List.getElem_toArray, List.getElem_cons_succ, List.getElem_cons_zero, List.setIfInBounds_toArray, List.set_cons_zero, List.set_cons_succ]
    refine wpAnyH_take (i := 5) (v := _) rfl (by kernel_rfl) (by kernel_rfl) (by kernel_rfl) (fun _ _ _ h => h) (yieldsIf_of (.agg y.V) (by rfl) (fun w' hw => exec_load_midV _ rfl sb _ rfl y w' hw)) (by assumption) ?_
    try simp only [Act.put, List.getElem_toArray, List.getElem_cons_succ, List.getElem_cons_zero, List.setIfInBounds_toArray, List.set_cons_zero, List.set_cons_succ]
    refine wpAnyH_take (i := 6) (v := ?_) rfl (by kernel_rfl) (by kernel_rfl) (by kernel_rfl) (fun _ _ _ h => h) (Or.inl ⟨by rfl, ?_⟩) (by assumption) ?_
    rotate_left
    · (intro w hSw; (try dsimp only at hSw); first | (go_simp; done) | (go_simp; with_reducible rfl))
    try simp only [Act.put, List.getElem_toArray, List.getElem_cons_succ, List.getElem_cons_zero, List.setIfInBounds_toArray, List.set_cons_zero, List.set_cons_succ]
    refine wpAnyH_take (i := 7) (v := ?_) rfl (by kernel_rfl) (by kernel_rfl) (by kernel_rfl) (fun _ _ _ h => h) (Or.inl ⟨by rfl, ?_⟩) (by assumption) ?_
    rotate_left
    · (intro w hSw; (try dsimp only at hSw); first | (go_simp; done) | (go_simp; with_reducible rfl))
    try simp only [Act.put, List.getElem_toArray, List.getElem_cons_succ, List.getElem_cons_zero, List.setIfInBounds_toArray, List.set_cons_zero, List.set_cons_succ]
    refine wpAnyH_take (i := 8) (v := ?_) rfl (by kernel_rfl) (by kernel_rfl) (by kernel_rfl) (fun _ _ _ h => h) (Or.inl ⟨by rfl, ?_⟩) (by assumption) ?_
    rotate_left
    · (intro w hSw; (try dsimp only at hSw); first | (go_simp; done) | (go_simp; with_reducible rfl))
    try simp only [Act.put, List.getElem_toArray, List.getElem_cons_succ, List.getElem_cons_zero, List.setIfInBounds_toArray, List.set_cons_zero, List.set_cons_succ]
    refine wpAnyH_take (i := 9) (v := ?_) rfl (by kernel_rfl) (by kernel_rfl) (by kernel_rfl) (fun _ _ _ h => h) (Or.inl ⟨by rfl, ?_⟩) (by assumption) ?_
    rotate_left
    · (intro w hSw; (try dsimp only at hSw); first | (go_simp; done) | (go_simp; with_reducible rfl))
    try simp only [Act.put, List.getElem_toArray, List.getElem_cons_succ, List.getElem_cons_zero, List.setIfInBounds_toArray, List.set_cons_zero, List.set_cons_succ]
    refine wpAnyH_take (i := 10) (v := ?_) rfl (by kernel_rfl) (by kernel_rfl) (by kernel_rfl) (fun _ _ _ h => h) (Or.inl ⟨by rfl, ?_⟩) (by assumption) ?_
    rotate_left
    · (intro w hSw; (try dsimp only at hSw); first | (go_simp; done) | (go_simp; with_reducible rfl))
    try simp only [Act.put, List.getElem_toArray, List.getElem_cons_succ, List.getElem_cons_zero, List.setIfInBounds_toArray, List.set_cons_zero, List.set_cons_succ]
    refine wpAnyH_ready (rs := [11]) (by kernel_rfl) (by simp) ?_
    refine AllReadyH.cons rfl (fun K hK => ?_) AllReadyH.nil
    rw [if_pos (by rfl)]
    go_simp
    refine hK.out _ _ ?_ (fun hHeld => ?_)
    · ((try dsimp only); exact World.rangeAt_alloc hHeld _)
    clear hK K
    try simp only [Act.put, List.getElem_toArray, List.getElem_cons_succ, List.getElem_cons_zero, List.setIfInBounds_toArray, List.set_cons_zero, List.set_cons_succ]
    refine wpAnyH_ready (rs := [12]) (by kernel_rfl) (by simp) ?_
    refine AllReadyH.cons rfl (fun K hK => ?_) AllReadyH.nil
    rw [if_pos (by rfl)]
    (have hR := setRow_heap _ _ _ y.V _ _ (heap_new W.drew (.cells zeroS.V 35)); rw [zeroS_lit] at hR; refine wp_store_row 35 _ _ rfl _ y.V rfl rfl _ _ (heap_new _ _) (by rw [y.size]; exact infoSum) (by rw [y.size]; rfl) y.one ?_)
    refine hK.out _ _ ?_ (fun hHeld => ?_)
    · ((try dsimp only); (intro j v hj; have q1 := hHeld j v hj; have q2 := World.block_lt_of_cell? _ _ q1; rw [← q1]; unfold World.cell?; rw [setRow_other _ _ _ _ (by simp only [] at hsbW ⊢; omega)]))
    clear hK K
    try simp only [Act.put, List.getElem_toArray, List.getElem_cons_succ, List.getElem_cons_zero, List.setIfInBounds_toArray, List.set_cons_zero, List.set_cons_succ]
    refine wpAnyH_take (i := 13) (v := ?_) rfl (by kernel_rfl) (by kernel_rfl) (by kernel_rfl) (fun _ _ _ h => h) (Or.inl ⟨by rfl, ?_⟩) (by assumption) ?_
    rotate_left
    · (intro w hSw; (try dsimp only at hSw); first | (go_simp; done) | (go_simp; with_reducible rfl))
    try simp only [Act.put, List.getElem_toArray, List.getElem_cons_succ, List.getElem_cons_zero, List.setIfInBounds_toArray, List.set_cons_zero, List.set_cons_succ]
    refine wpAnyH_done (by kernel_rfl) ?_ _
    refine NoPanic.normal ?_
    have hx6 : Ext [] W ((W.alloc (.cells #[.int .u8 0, .int .u8 0, .int .u8 0, .int .u8 0, .int .u8 0, .int .u8 0, .int .u8 0, .int .u8 0, .int .u8 0, .int .u8 0, .int .u8 0, .int .u8 0, .int .u8 0, .int .u8 0, .int .u8 0, .int .u8 0, .int .u8 0, .int .u8 0, .int .u8 0, .int .u8 0, .int .u8 0, .int .u8 0, .int .u8 0, .int .u8 0, .int .u8 0, .int .u8 0, .int .u8 0, .int .u8 0, .int .u8 0, .int .u8 0, .int .u8 0, .int .u8 0] 35)).drew.setRow W.heap.size y.V) := ((Ext.refl [] W).alloc (.cells #[.int .u8 0, .int .u8 0, .int .u8 0, .int .u8 0, .int .u8 0, .int .u8 0, .int .u8 0, .int .u8 0, .int .u8 0, .int .u8 0, .int .u8 0, .int .u8 0, .int .u8 0, .int .u8 0, .int .u8 0, .int .u8 0, .int .u8 0, .int .u8 0, .int .u8 0, .int .u8 0, .int .u8 0, .int .u8 0, .int .u8 0, .int .u8 0, .int .u8 0, .int .u8 0, .int .u8 0, .int .u8 0, .int .u8 0, .int .u8 0, .int .u8 0, .int .u8 0] 35)).drew.trans (setRow_ext _ _) (fun g hg => .inr (by simp at hg; omega))
    replace hR : ((W.alloc (.cells #[.int .u8 0, .int .u8 0, .int .u8 0, .int .u8 0, .int .u8 0, .int .u8 0, .int .u8 0, .int .u8 0, .int .u8 0, .int .u8 0, .int .u8 0, .int .u8 0, .int .u8 0, .int .u8 0, .int .u8 0, .int .u8 0, .int .u8 0, .int .u8 0, .int .u8 0, .int .u8 0, .int .u8 0, .int .u8 0, .int .u8 0, .int .u8 0, .int .u8 0, .int .u8 0, .int .u8 0, .int .u8 0, .int .u8 0, .int .u8 0, .int .u8 0, .int .u8 0] 35)).drew.setRow W.heap.size y.V).heap[W.heap.size]? = some (.cells y.V 35 (0, 0)) := hR
    generalize (W.alloc (.cells #[.int .u8 0, .int .u8 0, .int .u8 0, .int .u8 0, .int .u8 0, .int .u8 0, .int .u8 0, .int .u8 0, .int .u8 0, .int .u8 0, .int .u8 0, .int .u8 0, .int .u8 0, .int .u8 0, .int .u8 0, .int .u8 0, .int .u8 0, .int .u8 0, .int .u8 0, .int .u8 0, .int .u8 0, .int .u8 0, .int .u8 0, .int .u8 0, .int .u8 0, .int .u8 0, .int .u8 0, .int .u8 0, .int .u8 0, .int .u8 0, .int .u8 0, .int .u8 0] 35)).drew.setRow W.heap.size y.V = W6 at hR hx6 ⊢
    obtain ⟨Yb, hYb⟩ : ∃ Y, W.heap.size = Y := ⟨_, rfl⟩
    have HYC := Hs.hid (show C < Yb by have := lt_of_heap hC; omega)
    try rw [hYb]
    rw [hYb] at hR
    replace hA := hx6.same hA List.not_mem_nil
    replace hB := hx6.same hB List.not_mem_nil
    replace hC := hx6.same hC List.not_mem_nil
    have HE := Hs.hid (hx0.trans0 hx6)
    clear hYb hrg hsbW hx0 hx6
    have hSRC := hR
    have HNE := Hs.hid (show Yb ≠ B ∧ Yb ≠ C ∧ C ≠ B by have := HAB.out; have := HYC.out; omega)
    go_upto_region 8 with fail
    refine wp_region_noPanic ?_
    refine wp_region_held_drew (S := (fun w' => w'.heap[Yb]? = some (.cells y.V 35 (0, 0)))) (by kernel_rfl) ?_ (fun hHeld => ?_)
    · ((try dsimp only); exact hSRC)
    refine wpAnyH_take (i := 0) (v := _) rfl (by kernel_rfl) (by kernel_rfl) (by kernel_rfl) (fun _ _ _ h => h) (yieldsIf_of (.agg y.V) (by rfl) (fun w' hw => exec_load_rowV (.tmp 15) rfl Yb rfl y w' ⟨_, hw⟩)) (by assumption) ?_
    try simp only [Act.put, List.getElem_toArray, List.getElem_cons_succ, List.getElem_cons_zero, List.setIfInBounds_toArray, List.set_cons_zero, List.set_cons_succ]
    refine wpAnyH_take (i := 1) (v := _) rfl (by kernel_rfl) (by kernel_rfl) (by kernel_rfl) (fun _ _ _ h => h) (yieldsIf_of (.agg y.V) (by rfl) (fun w' hw => exec_load_rowV (.tmp 15) rfl Yb rfl y w' ⟨_, hw⟩)) (by assumption) ?_
    try simp only [Act.put, List.getElem_toArray, List.getElem_cons_succ, List.getElem_cons_zero, List.setIfInBounds_toArray, List.set_cons_zero, List.set_cons_succ]
    refine wpAnyH_take (i := 2) (v := ?_) rfl (by kernel_rfl) (by kernel_rfl) (by kernel_rfl) (fun _ _ _ h => h) (Or.inl ⟨by rfl, ?_⟩) (by assumption) ?_
    rotate_left
    · (intro w hSw; (try dsimp only at hSw); first | (go_simp; done) | (go_simp; with_reducible rfl))
    try simp only [Act.put, List.getElem_toArray, List.getElem_cons_succ, List.getElem_cons_zero, List.setIfInBounds_toArray, List.set_cons_zero, List.set_cons_succ]
    refine wpAnyH_take (i := 3) (v := ?_) rfl (by kernel_rfl) (by kernel_rfl) (by kernel_rfl) (fun _ _ _ h => h) (Or.inl ⟨by rfl, ?_⟩) (by assumption) ?_
    rotate_left
    · (intro w hSw; (try dsimp only at hSw); first | (go_simp; done) | (go_simp; with_reducible rfl))
    try simp only [Act.put, List.getElem_toArray, List.getElem_cons_succ, List.getElem_cons_zero, List.setIfInBounds_toArray, List.set_cons_zero, List.set_cons_succ]
    refine wpAnyH_take (i := 4) (v := ?_) rfl (by kernel_rfl) (by kernel_rfl) (by kernel_rfl) (fun _ _ _ h => h) (Or.inl ⟨by rfl, ?_⟩) (by assumption) ?_
    rotate_left
    · (intro w hSw; (try dsimp only at hSw); first | (go_simp; done) | (go_simp; with_reducible rfl))
    try simp only [Act.put, List.getElem_toArray, List.getElem_cons_succ, List.getElem_cons_zero, List.setIfInBounds_toArray, List.set_cons_zero, List.set_cons_succ]
    refine wpAnyH_ready (rs := [5]) (by kernel_rfl) (by simp) ?_
    refine AllReadyH.cons rfl (fun K hK => ?_) AllReadyH.nil
    rw [if_pos (by rfl)]
    (refine wp_store_row 35 _ _ rfl B y.V rfl rfl _ _ hB (by rw [y.size]; exact infoSum) (by rw [y.size]; rfl) y.one ?_)
    refine hK.out _ _ ?_ (fun hHeld => ?_)
    · ((try dsimp only); exact setRow_keep _ hHeld HNE.out.1)
    clear hK K
    try simp only [Act.put, List.getElem_toArray, List.getElem_cons_succ, List.getElem_cons_zero, List.setIfInBounds_toArray, List.set_cons_zero, List.set_cons_succ]
    refine wpAnyH_ready (rs := [6]) (by kernel_rfl) (by simp) ?_
    refine AllReadyH.cons rfl (fun K hK => ?_) AllReadyH.nil
    rw [if_pos (by rfl)]
    (refine wp_store_row 35 _ _ rfl C y.V rfl rfl _ _ (setRow_keep _ hC HNE.out.2.2) (by rw [y.size]; exact infoSum) (by rw [y.size]; rfl) y.one ?_)
    refine hK.out _ _ ?_ (fun hHeld => ?_)
    · ((try dsimp only); exact setRow_keep _ hHeld HNE.out.2.1)
    clear hK K
    try simp only [Act.put, List.getElem_toArray, List.getElem_cons_succ, List.getElem_cons_zero, List.setIfInBounds_toArray, List.set_cons_zero, List.set_cons_succ]
    refine wpAnyH_take (i := 7) (v := ?_) rfl (by kernel_rfl) (by kernel_rfl) (by kernel_rfl) (fun _ _ _ h => h) (Or.inl ⟨by rfl, ?_⟩) (by assumption) ?_
    rotate_left
    · (intro w hSw; (try dsimp only at hSw); first | (go_simp; done) | (go_simp; with_reducible rfl))
    try simp only [Act.put, List.getElem_toArray, List.getElem_cons_succ, List.getElem_cons_zero, List.setIfInBounds_toArray, List.set_cons_zero, List.set_cons_succ]
    refine wpAnyH_take (i := 8) (v := ?_) rfl (by kernel_rfl) (by kernel_rfl) (by kernel_rfl) (fun _ _ _ h => h) (Or.inl ⟨by rfl, ?_⟩) (by assumption) ?_
    rotate_left
    · (intro w hSw; (try dsimp only at hSw); first | (go_simp; done) | (go_simp; with_reducible rfl))
    try simp only [Act.put, List.getElem_toArray, List.getElem_cons_succ, List.getElem_cons_zero, List.setIfInBounds_toArray, List.set_cons_zero, List.set_cons_succ]
    refine wpAnyH_done (by kernel_rfl) ?_ _
    refine NoPanic.normal ?_
    go_wp2
    refine bodyPost_ret (v := .tuple #[.agg y.V, .agg y.V, .slice none 0 0, .bool ((ys.length : Int) == 0)]) (results_two Try.results34 _ rfl rfl rfl rfl (setRow_keep _ (setRow_heap _ _ _ _ _ _ hB) (Ne.symm HNE.out.2.2)) y.size (setRow_heap _ _ _ _ _ _ (setRow_keep _ hC HNE.out.2.2)) y.size) rfl ⟨y, y, .slice none 0 0, [], ((ys.length : Int) == 0), rfl, Hs.hid ?_, OwnP.nil _, (fun g hg => by cases hg), Nat.zero_le _, ?_⟩
    · rw [HP.out]; congr 1; cases ys <;> simp; omega
    · exact ((HE.out.drew).trans (setRow_ext _ _) (fun g hg => .inr (by simp at hg; have := HRR.out; omega))).trans (setRow_ext _ _) (fun g hg => .inr (by simp at hg; have := HRR.out; omega))
end Go.Proofs.Ytjicjadibaomkaa
set_option linter.unusedSimpArgs false
set_option linter.unusedVariables false
set_option maxHeartbeats 4000000
set_option maxRecDepth 100000
namespace Go.Proofs.Ytjicjadibaomkaa
open Go.RowKit Go.Hs Go.Dg

theorem side_left (b o : Nat) (L : List ByteArray) (HL : Hid (L.length ≤ 40 ∧ ∀ s ∈ L, s.size ≤ 20)) (n f m off cap k : Nat) (whole : Bool) (old : S32) (ys : List S32) (y : S32) (sb so cap2 : Nat) (h1 : 1 ≤ m) (hlt : m < n) (hk : halfN n = k) (hi : m ≤ k) (hfn : f + n ≤ L.length) (hoff : off = o + f) (hcap : n ≤ cap) (hcm : cap ≤ 9223372036854775807)
    (ih : ∀ w' : World, LeafAt w'.heap b o L → Sums32 w'.heap (some ⟨sb, so, none⟩) cap2 ys → Calls Try.prog 34 #[.int .i64 m, .slice (some ⟨b, off, none⟩) k cap, .slice (some ⟨sb, so, none⟩) ys.length cap2, .bool whole, .agg old.V] w' (SideE w' L k f m whole old ys)) (w : World) (hLA : LeafAt w.heap b o L) (hT : Sums32 w.heap (some ⟨sb, so, none⟩) cap2 (ys ++ [y])) :
    Calls Try.prog 34 #[.int .i64 m, .slice (some ⟨b, off, none⟩) n cap, .slice (some ⟨sb, so, none⟩) (ys.length + 1) cap2, .bool whole, .agg old.V] w (SideE w L n f m whole old (ys ++ [y])) := by
    have hL40 := HL.out.1
    have hmax := hT.2.1
    have hcap2 := hT.1
    obtain ⟨hA, hB, hC, hx0⟩ := side_start w old
    have hyl : (ys ++ [y]).length = ys.length + 1 := by simp
    have hTi := hT.init
    rw [hyl] at hcap2
    have m0 : ¬ (((ys.length : Nat) : Int) + 1 = 0) := by omega
    have m1 : (((ys.length : Nat) : Int) + 1 == 0) = false := by simp; omega
    have m2 : ((ys.length : Nat) : Int) + 1 - 1 = (ys.length : Int) := by omega
    have m3 : (ys.length : Int) < (ys.length : Int) + 1 := by omega
    have m4 : (ys.length : Int) ≤ cap2 := by omega
    have m5 : (0 : Int) ≤ ys.length := by omega
    have m6 : ys.length ≤ cap2 := by omega
    have m7 : IntKind.i64.wrap (ys.length : Int) = (ys.length : Int) := by rw [IntKind.wrap_i64]; omega
    have m8 : ((ys.length : Int)).toNat = ys.length := by omega
    have HTX := Hs.hid hT
    have HTI := Hs.hid hTi
    have HLA0 := Hs.hid hLA
    have h2 : 2 ≤ n := by omega
    have hmnI : ((m : Int) == (n : Int)) = false := by simp; omega
    have hkl := halfN_lt h2
    have hkp := halfN_pos n
    have hnode := mthT_node (L := L) (f := f) h2
    have hhalf := chalf_any n h2 (by have : (2 : Nat) ^ 40 = 1099511627776 := (by decide); omega)
    rw [hk] at hkl hkp hnode hhalf
    have hrt1 := croot_mth b o L HL k k f off cap (by omega) (by omega) (by omega) hoff (by omega) hcm
    have hrt2 := croot_mth b o L HL (n - k) (n - k) (f + k) (off + k) (cap - k) (by omega) (by omega) (by omega) (by omega) (by omega) (by omega)
    have hnk : (n : Int) - k = ((n - k : Nat) : Int) := by omega
    have b1 : (k : Int) ≤ n ∧ (0 : Int) ≤ k ∧ (k : Int) ≤ cap ∧ (n : Int) ≤ 40 ∧ (2 : Int) ≤ n := by omega
    obtain ⟨b1, b2, b3, b4, b5⟩ := b1
    have hck : ¬ cap = k := by omega
    have HKN := Hs.hid (show k < n ∧ n - k < n ∧ n ≤ 40 by omega)
    have HHF := Hs.hid hhalf
    have HRT := Hs.hid (And.intro hrt1 hrt2)
    obtain ⟨T0, hT0⟩ : ∃ t, mthT L n f = t := ⟨_, rfl⟩
    have hspl := fun (x y' : S32) (ps : List (ByteArray × ByteArray)) (ok : Bool) (hr : sidesP L k f m whole old ys = ⟨x, y', ps, ok⟩) => sidesP_left L n f m k whole old ys y hlt h2 hk hi _ hr
    have IH := Hs.hid ih
    rw [hT0] at hspl hnode
    have HND0 := Hs.hid (show node2 (dig (mthT L k f)).s (dig (mthT L (n - k) (f + k))).s = T0 by rw [hnode, nodeT_dig])
    have HSP := Hs.hid hspl
    have hiI : (m : Int) ≤ k := by omega
    clear hspl hnode hhalf hrt1 hrt2 hT0 hk hfn hoff hLA hT hTi hL40 ih
    go_enter Try.func34, Try.ntmps34
    go_upto_region 1 with fail
    generalize ((w.alloc (.cells old.V 35)).alloc (.cells #[.int .u8 0, .int .u8 0, .int .u8 0, .int .u8 0, .int .u8 0, .int .u8 0, .int .u8 0, .int .u8 0, .int .u8 0, .int .u8 0, .int .u8 0, .int .u8 0, .int .u8 0, .int .u8 0, .int .u8 0, .int .u8 0, .int .u8 0, .int .u8 0, .int .u8 0, .int .u8 0, .int .u8 0, .int .u8 0, .int .u8 0, .int .u8 0, .int .u8 0, .int .u8 0, .int .u8 0, .int .u8 0, .int .u8 0, .int .u8 0, .int .u8 0, .int .u8 0] 35)).alloc (.cells #[.int .u8 0, .int .u8 0, .int .u8 0, .int .u8 0, .int .u8 0, .int .u8 0, .int .u8 0, .int .u8 0, .int .u8 0, .int .u8 0, .int .u8 0, .int .u8 0, .int .u8 0, .int .u8 0, .int .u8 0, .int .u8 0, .int .u8 0, .int .u8 0, .int .u8 0, .int .u8 0, .int .u8 0, .int .u8 0, .int .u8 0, .int .u8 0, .int .u8 0, .int .u8 0, .int .u8 0, .int .u8 0, .int .u8 0, .int .u8 0, .int .u8 0, .int .u8 0] 35) = W at hA hB hC hx0 ⊢
    obtain ⟨A, hAA⟩ : ∃ A, w.heap.size = A := ⟨_, rfl⟩
    obtain ⟨B, hBB⟩ : ∃ B, A + 1 = B := ⟨_, rfl⟩
    obtain ⟨C, hCC⟩ : ∃ C, B + 1 = C := ⟨_, rfl⟩
    rw [hAA] at hA hB hC
    rw [hBB] at hB hC
    rw [hCC] at hC
    try rw [hAA]
    try rw [hBB]
    try rw [hCC]
    have HRR := Hs.hid (show w.heap.size ≤ A ∧ w.heap.size ≤ B ∧ w.heap.size ≤ C by omega)
    have HAB := Hs.hid (show A < B ∧ B < C by omega)
    clear hAA hBB hCC
    obtain ⟨hsbW, hrg⟩ := (HTX.out.ext hx0 (by simp)).range (k := ys.length) (x := y) (by simp)
    go_upto_region 6 with fail
    refine wp_region_noPanic ?_
    refine wp_region_held_drew (S := (fun w' => w'.rangeAt sb (so + ys.length * 32) y.V.toList)) (by kernel_rfl) ?_ (fun hHeld => ?_)
    · ((try dsimp only); exact hrg)
    refine wpAnyH_take (i := 0) (v := ?_) rfl (by kernel_rfl) (by kernel_rfl) (by kernel_rfl) (fun _ _ _ h => h) (Or.inl ⟨by rfl, ?_⟩) (by assumption) ?_
    rotate_left
    · (intro w hSw; (try dsimp only at hSw); first | (go_simp; done) | (go_simp; with_reducible rfl))
    try simp only [Act.put, List.getElem_toArray, List.getElem_cons_succ, List.getElem_cons_zero, List.setIfInBounds_toArray, List.set_cons_zero, List.set_cons_succ]
    refine wpAnyH_take (i := 1) (v := ?_) rfl (by kernel_rfl) (by kernel_rfl) (by kernel_rfl) (fun _ _ _ h => h) (Or.inl ⟨by rfl, ?_⟩) (by assumption) ?_
    rotate_left
    · (intro w hSw; (try dsimp only at hSw); first | (go_simp; done) | (go_simp; with_reducible rfl))
    try simp only [Act.put, List.getElem_toArray, List.getElem_cons_succ, List.getElem_cons_zero, List.setIfInBounds_toArray, List.set_cons_zero, List.set_cons_succ]
    refine wpAnyH_take (i := 2) (v := ?_) rfl (by kernel_rfl) (by kernel_rfl) (by kernel_rfl) (fun _ _ _ h => h) (Or.inl ⟨by rfl, ?_⟩) (by assumption) ?_
    rotate_left
    · (intro w hSw; (try dsimp only at hSw); first | (go_simp; done) | (go_simp; with_reducible rfl))
    try simp only [Act.put, List.getElem_toArray, List.getElem_cons_succ, List.getElem_cons_zero, List.setIfInBounds_toArray, List.set_cons_zero, List.set_cons_succ]
    refine wpAnyH_take (i := 3) (v := ?_) rfl (by kernel_rfl) (by kernel_rfl) (by kernel_rfl) (fun _ _ _ h => h) (Or.inl ⟨by rfl, ?_⟩) (by assumption) ?_
    rotate_left
    · (intro w hSw; (try dsimp only at hSw); first | (go_simp; done) | (go_simp; with_reducible rfl))
    try simp only [Act.put, List.getElem_toArray, List.getElem_cons_succ, List.getElem_cons_zero, List.setIfInBounds_toArray, List.set_cons_zero, List.set_cons_succ]
    refine wpAnyH_take (i := 4) (v := ?_) rfl (by kernel_rfl) (by kernel_rfl) (by kernel_rfl) (fun _ _ _ h => h) (Or.inl ⟨by rfl, ?_⟩) (by assumption) ?_
    rotate_left
    · (intro w hSw; (try dsimp only at hSw); first | (go_simp; done) | (go_simp; with_reducible rfl))
    try simp only [Act.put, List.getElem_toArray, List.getElem_cons_succ, List.getElem_cons_zero, List.setIfInBounds_toArray, List.set_cons_zero, List.set_cons_succ]
    refine wpAnyH_take (i := 5) (v := _) rfl (by kernel_rfl) (by kernel_rfl) (by kernel_rfl) (fun _ _ _ h => h) (yieldsIf_of (.agg y.V) (by rfl) (fun w' hw => exec_load_midV _ rfl sb _ rfl y w' hw)) (by assumption) ?_
    try simp only [Act.put, List.getElem_toArray, List.getElem_cons_succ, List.getElem_cons_zero, List.setIfInBounds_toArray, List.set_cons_zero, List.set_cons_succ]
    refine wpAnyH_take (i := 6) (v := ?_) rfl (by kernel_rfl) (by kernel_rfl) (by kernel_rfl) (fun _ _ _ h => h) (Or.inl ⟨by rfl, ?_⟩) (by assumption) ?_
    rotate_left
    · (intro w hSw; (try dsimp only at hSw); first | (go_simp; done) | (go_simp; with_reducible rfl))
    try simp only [Act.put, List.getElem_toArray, List.getElem_cons_succ, List.getElem_cons_zero, List.setIfInBounds_toArray, List.set_cons_zero, List.set_cons_succ]
    refine wpAnyH_take (i := 7) (v := ?_) rfl (by kernel_rfl) (by kernel_rfl) (by kernel_rfl) (fun _ _ _ h => h) (Or.inl ⟨by rfl, ?_⟩) (by assumption) ?_
    rotate_left
    · (intro w hSw; (try dsimp only at hSw); first | (go_simp; done) | (go_simp; with_reducible rfl))
    try simp only [Act.put, List.getElem_toArray, List.getElem_cons_succ, List.getElem_cons_zero, List.setIfInBounds_toArray, List.set_cons_zero, List.set_cons_succ]
    refine wpAnyH_take (i := 8) (v := ?_) rfl (by kernel_rfl) (by kernel_rfl) (by kernel_rfl) (fun _ _ _ h => h) (Or.inl ⟨by rfl, ?_⟩) (by assumption) ?_
    rotate_left
    · (intro w hSw; (try dsimp only at hSw); first | (go_simp; done) | (go_simp; with_reducible rfl))
    try simp only [Act.put, List.getElem_toArray, List.getElem_cons_succ, List.getElem_cons_zero, List.setIfInBounds_toArray, List.set_cons_zero, List.set_cons_succ]
    refine wpAnyH_take (i := 9) (v := ?_) rfl (by kernel_rfl) (by kernel_rfl) (by kernel_rfl) (fun _ _ _ h => h) (Or.inl ⟨by rfl, ?_⟩) (by assumption) ?_
    rotate_left
    · (intro w hSw; (try dsimp only at hSw); first | (go_simp; done) | (go_simp; with_reducible rfl))
    try simp only [Act.put, List.getElem_toArray, List.getElem_cons_succ, List.getElem_cons_zero, List.setIfInBounds_toArray, List.set_cons_zero, List.set_cons_succ]
    refine wpAnyH_take (i := 10) (v := ?_) rfl (by kernel_rfl) (by kernel_rfl) (by kernel_rfl) (fun _ _ _ h => h) (Or.inl ⟨by rfl, ?_⟩) (by assumption) ?_
    rotate_left
    · (intro w hSw; (try dsimp only at hSw); first | (go_simp; done) | (go_simp; with_reducible rfl))
    try simp only [Act.put, List.getElem_toArray, List.getElem_cons_succ, List.getElem_cons_zero, List.setIfInBounds_toArray, List.set_cons_zero, List.set_cons_succ]
    refine wpAnyH_ready (rs := [11]) (by kernel_rfl) (by simp) ?_
    refine AllReadyH.cons rfl (fun K hK => ?_) AllReadyH.nil
    rw [if_pos (by rfl)]
    go_simp
    refine hK.out _ _ ?_ (fun hHeld => ?_)
    · ((try dsimp only); exact World.rangeAt_alloc hHeld _)
    clear hK K
    try simp only [Act.put, List.getElem_toArray, List.getElem_cons_succ, List.getElem_cons_zero, List.setIfInBounds_toArray, List.set_cons_zero, List.set_cons_succ]
    refine wpAnyH_ready (rs := [12]) (by kernel_rfl) (by simp) ?_
    refine AllReadyH.cons rfl (fun K hK => ?_) AllReadyH.nil
    rw [if_pos (by rfl)]
    (have hR := setRow_heap _ _ _ y.V _ _ (heap_new W.drew (.cells zeroS.V 35)); rw [zeroS_lit] at hR; refine wp_store_row 35 _ _ rfl _ y.V rfl rfl _ _ (heap_new _ _) (by rw [y.size]; exact infoSum) (by rw [y.size]; rfl) y.one ?_)
    refine hK.out _ _ ?_ (fun hHeld => ?_)
    · ((try dsimp only); (intro j v hj; have q1 := hHeld j v hj; have q2 := World.block_lt_of_cell? _ _ q1; rw [← q1]; unfold World.cell?; rw [setRow_other _ _ _ _ (by simp only [] at hsbW ⊢; omega)]))
    clear hK K
    try simp only [Act.put, List.getElem_toArray, List.getElem_cons_succ, List.getElem_cons_zero, List.setIfInBounds_toArray, List.set_cons_zero, List.set_cons_succ]
    refine wpAnyH_take (i := 13) (v := ?_) rfl (by kernel_rfl) (by kernel_rfl) (by kernel_rfl) (fun _ _ _ h => h) (Or.inl ⟨by rfl, ?_⟩) (by assumption) ?_
    rotate_left
    · (intro w hSw; (try dsimp only at hSw); first | (go_simp; done) | (go_simp; with_reducible rfl))
    try simp only [Act.put, List.getElem_toArray, List.getElem_cons_succ, List.getElem_cons_zero, List.setIfInBounds_toArray, List.set_cons_zero, List.set_cons_succ]
    refine wpAnyH_done (by kernel_rfl) ?_ _
    refine NoPanic.normal ?_
    have hx6 : Ext [] W ((W.alloc (.cells #[.int .u8 0, .int .u8 0, .int .u8 0, .int .u8 0, .int .u8 0, .int .u8 0, .int .u8 0, .int .u8 0, .int .u8 0, .int .u8 0, .int .u8 0, .int .u8 0, .int .u8 0, .int .u8 0, .int .u8 0, .int .u8 0, .int .u8 0, .int .u8 0, .int .u8 0, .int .u8 0, .int .u8 0, .int .u8 0, .int .u8 0, .int .u8 0, .int .u8 0, .int .u8 0, .int .u8 0, .int .u8 0, .int .u8 0, .int .u8 0, .int .u8 0, .int .u8 0] 35)).drew.setRow W.heap.size y.V) := ((Ext.refl [] W).alloc (.cells #[.int .u8 0, .int .u8 0, .int .u8 0, .int .u8 0, .int .u8 0, .int .u8 0, .int .u8 0, .int .u8 0, .int .u8 0, .int .u8 0, .int .u8 0, .int .u8 0, .int .u8 0, .int .u8 0, .int .u8 0, .int .u8 0, .int .u8 0, .int .u8 0, .int .u8 0, .int .u8 0, .int .u8 0, .int .u8 0, .int .u8 0, .int .u8 0, .int .u8 0, .int .u8 0, .int .u8 0, .int .u8 0, .int .u8 0, .int .u8 0, .int .u8 0, .int .u8 0] 35)).drew.trans (setRow_ext _ _) (fun g hg => .inr (by simp at hg; omega))
    replace hR : ((W.alloc (.cells #[.int .u8 0, .int .u8 0, .int .u8 0, .int .u8 0, .int .u8 0, .int .u8 0, .int .u8 0, .int .u8 0, .int .u8 0, .int .u8 0, .int .u8 0, .int .u8 0, .int .u8 0, .int .u8 0, .int .u8 0, .int .u8 0, .int .u8 0, .int .u8 0, .int .u8 0, .int .u8 0, .int .u8 0, .int .u8 0, .int .u8 0, .int .u8 0, .int .u8 0, .int .u8 0, .int .u8 0, .int .u8 0, .int .u8 0, .int .u8 0, .int .u8 0, .int .u8 0] 35)).drew.setRow W.heap.size y.V).heap[W.heap.size]? = some (.cells y.V 35 (0, 0)) := hR
    generalize (W.alloc (.cells #[.int .u8 0, .int .u8 0, .int .u8 0, .int .u8 0, .int .u8 0, .int .u8 0, .int .u8 0, .int .u8 0, .int .u8 0, .int .u8 0, .int .u8 0, .int .u8 0, .int .u8 0, .int .u8 0, .int .u8 0, .int .u8 0, .int .u8 0, .int .u8 0, .int .u8 0, .int .u8 0, .int .u8 0, .int .u8 0, .int .u8 0, .int .u8 0, .int .u8 0, .int .u8 0, .int .u8 0, .int .u8 0, .int .u8 0, .int .u8 0, .int .u8 0, .int .u8 0] 35)).drew.setRow W.heap.size y.V = W6 at hR hx6 ⊢
    obtain ⟨Yb, hYb⟩ : ∃ Y, W.heap.size = Y := ⟨_, rfl⟩
    have HYC := Hs.hid (show C < Yb by have := lt_of_heap hC; omega)
    try rw [hYb]
    rw [hYb] at hR
    replace hA := hx6.same hA List.not_mem_nil
    replace hB := hx6.same hB List.not_mem_nil
    replace hC := hx6.same hC List.not_mem_nil
    have HE := Hs.hid (hx0.trans0 hx6)
    clear hYb hrg hsbW hx0 hx6
    have hY := hR
    clear hR
    have hLA6 : LeafAt W6.drew.heap b o L := HLA0.out.ext0 HE.out.drew
    go_upto_region 10 with (go_at_call 27; refine (HHF.out _).mono ?_; rintro e w7 ⟨rfl, hx7⟩; subst w7)
    refine wp_region_noPanic ?_
    refine wp_region_held_drew (S := (fun _ => True)) (by kernel_rfl) ?_ (fun hHeld => ?_)
    · ((try dsimp only); all_goals trivial)
    refine wpAnyH_take (i := 0) (v := ?_) rfl (by kernel_rfl) (by kernel_rfl) (by kernel_rfl) (fun _ _ _ h => h) (Or.inl ⟨by rfl, ?_⟩) (by assumption) ?_
    rotate_left
    · (intro w hSw; (try dsimp only at hSw); first | (go_simp; done) | (go_simp; with_reducible rfl))
    try simp only [Act.put, List.getElem_toArray, List.getElem_cons_succ, List.getElem_cons_zero, List.setIfInBounds_toArray, List.set_cons_zero, List.set_cons_succ]
    refine wpAnyH_take (i := 1) (v := ?_) rfl (by kernel_rfl) (by kernel_rfl) (by kernel_rfl) (fun _ _ _ h => h) (Or.inl ⟨by rfl, ?_⟩) (by assumption) ?_
    rotate_left
    · (intro w hSw; (try dsimp only at hSw); first | (go_simp; done) | (go_simp; with_reducible rfl))
    try simp only [Act.put, List.getElem_toArray, List.getElem_cons_succ, List.getElem_cons_zero, List.setIfInBounds_toArray, List.set_cons_zero, List.set_cons_succ]
    refine wpAnyH_take (i := 2) (v := ?_) rfl (by kernel_rfl) (by kernel_rfl) (by kernel_rfl) (fun _ _ _ h => h) (Or.inl ⟨by rfl, ?_⟩) (by assumption) ?_
    rotate_left
    · (intro w hSw; (try dsimp only at hSw); first | (go_simp; done) | (go_simp; with_reducible rfl))
    try simp only [Act.put, List.getElem_toArray, List.getElem_cons_succ, List.getElem_cons_zero, List.setIfInBounds_toArray, List.set_cons_zero, List.set_cons_succ]
    refine wpAnyH_take (i := 4) (v := ?_) rfl (by kernel_rfl) (by kernel_rfl) (by kernel_rfl) (fun _ _ _ h => h) (Or.inl ⟨by rfl, ?_⟩) (by assumption) ?_
    rotate_left
    · (intro w hSw; (try dsimp only at hSw); first | (go_simp; done) | (go_simp; with_reducible rfl))
    try simp only [Act.put, List.getElem_toArray, List.getElem_cons_succ, List.getElem_cons_zero, List.setIfInBounds_toArray, List.set_cons_zero, List.set_cons_succ]
    refine wpAnyH_take (i := 5) (v := ?_) rfl (by kernel_rfl) (by kernel_rfl) (by kernel_rfl) (fun _ _ _ h => h) (Or.inl ⟨by rfl, ?_⟩) (by assumption) ?_
    rotate_left
    · (intro w hSw; (try dsimp only at hSw); first | (go_simp; done) | (go_simp; with_reducible rfl))
    try simp only [Act.put, List.getElem_toArray, List.getElem_cons_succ, List.getElem_cons_zero, List.setIfInBounds_toArray, List.set_cons_zero, List.set_cons_succ]
    refine wpAnyH_take (i := 6) (v := ?_) rfl (by kernel_rfl) (by kernel_rfl) (by kernel_rfl) (fun _ _ _ h => h) (Or.inl ⟨by rfl, ?_⟩) (by assumption) ?_
    rotate_left
    · (intro w hSw; (try dsimp only at hSw); first | (go_simp; done) | (go_simp; with_reducible rfl))
    try simp only [Act.put, List.getElem_toArray, List.getElem_cons_succ, List.getElem_cons_zero, List.setIfInBounds_toArray, List.set_cons_zero, List.set_cons_succ]
    refine wpAnyH_ready (rs := [3]) (by kernel_rfl) (by simp) ?_
    refine AllReadyH.cons rfl (fun K hK => ?_) AllReadyH.nil
    go_simp
    (go_at_call 36; (with_reducible refine (HRT.out.1 _ hLA6).mono ?_); rintro e w8 ⟨r1, rfl, hr1, hx8⟩; have hLA8 := hLA6.ext0 hx8)
    go_wp2_with fail
    refine hK.out _ _ ?_ (fun hHeld => ?_)
    · ((try dsimp only); all_goals trivial)
    clear hK K
    try simp only [Act.put, List.getElem_toArray, List.getElem_cons_succ, List.getElem_cons_zero, List.setIfInBounds_toArray, List.set_cons_zero, List.set_cons_succ]
    refine wpAnyH_ready (rs := [7]) (by kernel_rfl) (by simp) ?_
    refine AllReadyH.cons rfl (fun K hK => ?_) AllReadyH.nil
    go_simp
    (go_at_call 36; (with_reducible refine (HRT.out.2 _ hLA8).mono ?_); rintro e w9 ⟨r2, rfl, hr2, hx9⟩)
    go_wp2_with fail
    refine hK.out _ _ ?_ (fun hHeld => ?_)
    · ((try dsimp only); all_goals trivial)
    clear hK K
    try simp only [Act.put, List.getElem_toArray, List.getElem_cons_succ, List.getElem_cons_zero, List.setIfInBounds_toArray, List.set_cons_zero, List.set_cons_succ]
    refine wpAnyH_ready (rs := [8]) (by kernel_rfl) (by simp) ?_
    refine AllReadyH.cons rfl (fun K hK => ?_) AllReadyH.nil
    go_simp
    (go_at_call 28; refine (nodeC_eq r1 r2 T0 (by rw [hr1.out, hr2.out, HND0.out]) _).mono ?_; rintro e w10 ⟨rfl, hx10⟩; have hxx : Ext [] W6 w10 := (((Ext.refl [] W6).drew.trans0 hx8).trans0 hx9).trans0 hx10)
    go_wp2_with fail
    refine hK.out _ _ ?_ (fun hHeld => ?_)
    · ((try dsimp only); all_goals trivial)
    clear hK K
    try simp only [Act.put, List.getElem_toArray, List.getElem_cons_succ, List.getElem_cons_zero, List.setIfInBounds_toArray, List.set_cons_zero, List.set_cons_succ]
    refine wpAnyH_take (i := 9) (v := ?_) rfl (by kernel_rfl) (by kernel_rfl) (by kernel_rfl) (fun _ _ _ h => h) (Or.inl ⟨by rfl, ?_⟩) (by assumption) ?_
    rotate_left
    · (intro w hSw; (try dsimp only at hSw); first | (go_simp; done) | (go_simp; with_reducible rfl))
    try simp only [Act.put, List.getElem_toArray, List.getElem_cons_succ, List.getElem_cons_zero, List.setIfInBounds_toArray, List.set_cons_zero, List.set_cons_succ]
    refine wpAnyH_done (by kernel_rfl) ?_ _
    refine NoPanic.normal ?_
    replace hA := hxx.same hA List.not_mem_nil
    replace hB := hxx.same hB List.not_mem_nil
    replace hC := hxx.same hC List.not_mem_nil
    replace hY := hxx.same hY List.not_mem_nil
    replace HE := Hs.hid (HE.out.trans0 hxx)
    have HLA := Hs.hid (fun w' (h : Ext [] w10 w') => HLA0.out.ext0 (HE.out.trans0 h))
    have HSU := Hs.hid (fun w' (h : Ext [] w10 w') => HTI.out.ext (HE.out.trans0 h) (by simp))
    clear hxx hx8 hx9 hx10 hr1 hr2 hLA6 hLA8 HRT HND0
    go_upto_region 12 with fail
    go_cut [19, 20, 21, 22] (fun sP sQ sV sO wx => ∃ (P Q : Nat) (x1 y1 : S32) (v1 : Value) (ps1 : List (ByteArray × ByteArray)) (ok1 : Bool), sP = .pointer (some ⟨P, 0, none⟩) ∧ sQ = .pointer (some ⟨Q, 0, none⟩) ∧ v1 = sV ∧ sO = .bool ok1 ∧ wx.heap[P]? = some (.cells x1.V 35 (0, 0)) ∧ wx.heap[Q]? = some (.cells y1.V 35 (0, 0)) ∧ Hid (sidesP L k f m whole old ys = ⟨x1, y1, ps1, ok1⟩ ∧ OwnP wx.heap v1 ps1 ∧ (∀ g, v1.ownBlock = some g → w.heap.size ≤ g) ∧ ps1.length ≤ k ∧ w10.heap.size ≤ P ∧ w10.heap.size ≤ Q) ∧ Ext [] w10 wx)
    case first =>
      refine wp_region_noPanic ?_
      refine wp_region_held_drew (S := (fun w' => Ext [] w10 w')) (by kernel_rfl) ?_ (fun hHeld => ?_)
      · ((try dsimp only); exact (Ext.refl [] w10).drew)
      replace hHeld : Ext [] w10 w10.drew := hHeld
      have HWW := Hs.hid (show w.heap.size ≤ w10.heap.size from HE.out.size)
      generalize w10.drew = wd at hHeld ⊢
      refine wpAnyH_take (i := 0) (v := ?_) rfl (by kernel_rfl) (by kernel_rfl) (by kernel_rfl) (fun _ _ _ h => h) (Or.inl ⟨by rfl, ?_⟩) (by assumption) ?_
      rotate_left
      · (intro w hSw; (try dsimp only at hSw); first | (go_simp; done) | (go_simp; with_reducible rfl))
      try simp only [Act.put, List.getElem_toArray, List.getElem_cons_succ, List.getElem_cons_zero, List.setIfInBounds_toArray, List.set_cons_zero, List.set_cons_succ]
      refine wpAnyH_take (i := 1) (v := ?_) rfl (by kernel_rfl) (by kernel_rfl) (by kernel_rfl) (fun _ _ _ h => h) (Or.inl ⟨by rfl, ?_⟩) (by assumption) ?_
      rotate_left
      · (intro w hSw; (try dsimp only at hSw); first | (go_simp; done) | (go_simp; with_reducible rfl))
      try simp only [Act.put, List.getElem_toArray, List.getElem_cons_succ, List.getElem_cons_zero, List.setIfInBounds_toArray, List.set_cons_zero, List.set_cons_succ]
      refine wpAnyH_take (i := 2) (v := ?_) rfl (by kernel_rfl) (by kernel_rfl) (by kernel_rfl) (fun _ _ _ h => h) (Or.inl ⟨by rfl, ?_⟩) (by assumption) ?_
      rotate_left
      · (intro w hSw; (try dsimp only at hSw); first | (go_simp; done) | (go_simp; with_reducible rfl))
      try simp only [Act.put, List.getElem_toArray, List.getElem_cons_succ, List.getElem_cons_zero, List.setIfInBounds_toArray, List.set_cons_zero, List.set_cons_succ]
      refine wpAnyH_take (i := 3) (v := ?_) rfl (by kernel_rfl) (by kernel_rfl) (by kernel_rfl) (fun _ _ _ h => h) (Or.inl ⟨by rfl, ?_⟩) (by assumption) ?_
      rotate_left
      · (intro w hSw; (try dsimp only at hSw); first | (go_simp; done) | (go_simp; with_reducible rfl))
      try simp only [Act.put, List.getElem_toArray, List.getElem_cons_succ, List.getElem_cons_zero, List.setIfInBounds_toArray, List.set_cons_zero, List.set_cons_succ]
      refine wpAnyH_take (i := 4) (v := ?_) rfl (by kernel_rfl) (by kernel_rfl) (by kernel_rfl) (fun _ _ _ h => h) (Or.inl ⟨by rfl, ?_⟩) (by assumption) ?_
      rotate_left
      · (intro w hSw; (try dsimp only at hSw); first | (go_simp; done) | (go_simp; with_reducible rfl))
      try simp only [Act.put, List.getElem_toArray, List.getElem_cons_succ, List.getElem_cons_zero, List.setIfInBounds_toArray, List.set_cons_zero, List.set_cons_succ]
      refine wpAnyH_take (i := 5) (v := ?_) rfl (by kernel_rfl) (by kernel_rfl) (by kernel_rfl) (fun _ _ _ h => h) (Or.inl ⟨by rfl, ?_⟩) (by assumption) ?_
      rotate_left
      · (intro w hSw; (try dsimp only at hSw); first | (go_simp; done) | (go_simp; with_reducible rfl))
      try simp only [Act.put, List.getElem_toArray, List.getElem_cons_succ, List.getElem_cons_zero, List.setIfInBounds_toArray, List.set_cons_zero, List.set_cons_succ]
      refine wpAnyH_take (i := 6) (v := _) rfl (by kernel_rfl) (by kernel_rfl) (by kernel_rfl) (fun _ _ _ h => h) (yieldsIf_of (.agg old.V) (by rfl) (fun w' hw => exec_load_rowV (.tmp 9) rfl A rfl old w' ⟨_, hw.same hA List.not_mem_nil⟩)) (by assumption) ?_
      try simp only [Act.put, List.getElem_toArray, List.getElem_cons_succ, List.getElem_cons_zero, List.setIfInBounds_toArray, List.set_cons_zero, List.set_cons_succ]
      refine wpAnyH_ready (rs := [7, 13, 14]) (by kernel_rfl) (by simp) ?_
      refine AllReadyH.cons rfl (fun K hK => ?_) (AllReadyH.cons rfl (fun K hK => ?_) (AllReadyH.cons rfl (fun K hK => ?_) AllReadyH.nil))
      · go_simp
        (go_at_call 34; have hge7 := Ext.size hHeld; (with_reducible refine (IH.out _ (HLA.out _ hHeld) (HSU.out _ hHeld)).mono ?_); intro e w7 hr; unfold SideE at hr; obtain ⟨x1, y1, v1, ps1, ok1, rfl, hr1, hO1, hg1, hn1, hx7⟩ := hr)
        go_wp2_with fail
        refine hK.out _ _ ?_ (fun hHeld => ?_)
        · ((try dsimp only); exact Ext.trans0 hHeld hx7)
        clear hK K
        try simp only [Act.put, List.getElem_toArray, List.getElem_cons_succ, List.getElem_cons_zero, List.setIfInBounds_toArray, List.set_cons_zero, List.set_cons_succ]
        replace hHeld : Ext [] w10 w7 := hHeld
        replace hg1 : ∀ g, v1.ownBlock = some g → w10.heap.size ≤ g := fun g hg => Nat.le_trans (by have := hge7; omega) (hg1 g hg)
        refine wpAnyH_take (i := 8) (v := ?_) rfl (by kernel_rfl) (by kernel_rfl) (by kernel_rfl) (fun _ _ _ h => h) (Or.inl ⟨by rfl, ?_⟩) (by assumption) ?_
        rotate_left
        · (intro w hSw; (try dsimp only at hSw); first | (go_simp; done) | (go_simp; with_reducible rfl))
        try simp only [Act.put, List.getElem_toArray, List.getElem_cons_succ, List.getElem_cons_zero, List.setIfInBounds_toArray, List.set_cons_zero, List.set_cons_succ]
        refine wpAnyH_take (i := 9) (v := ?_) rfl (by kernel_rfl) (by kernel_rfl) (by kernel_rfl) (fun _ _ _ h => h) (Or.inl ⟨by rfl, ?_⟩) (by assumption) ?_
        rotate_left
        · (intro w hSw; (try dsimp only at hSw); first | (go_simp; done) | (go_simp; with_reducible rfl))
        try simp only [Act.put, List.getElem_toArray, List.getElem_cons_succ, List.getElem_cons_zero, List.setIfInBounds_toArray, List.set_cons_zero, List.set_cons_succ]
        refine wpAnyH_take (i := 10) (v := ?_) rfl (by kernel_rfl) (by kernel_rfl) (by kernel_rfl) (fun _ _ _ h => h) (Or.inl ⟨by rfl, ?_⟩) (by assumption) ?_
        rotate_left
        · (intro w hSw; (try dsimp only at hSw); first | (go_simp; done) | (go_simp; with_reducible rfl))
        try simp only [Act.put, List.getElem_toArray, List.getElem_cons_succ, List.getElem_cons_zero, List.setIfInBounds_toArray, List.set_cons_zero, List.set_cons_succ]
        refine wpAnyH_take (i := 11) (v := ?_) rfl (by kernel_rfl) (by kernel_rfl) (by kernel_rfl) (fun _ _ _ h => h) (Or.inl ⟨by rfl, ?_⟩) (by assumption) ?_
        rotate_left
        · (intro w hSw; (try dsimp only at hSw); first | (go_simp; done) | (go_simp; with_reducible rfl))
        try simp only [Act.put, List.getElem_toArray, List.getElem_cons_succ, List.getElem_cons_zero, List.setIfInBounds_toArray, List.set_cons_zero, List.set_cons_succ]
        refine wpAnyH_take (i := 12) (v := ?_) rfl (by kernel_rfl) (by kernel_rfl) (by kernel_rfl) (fun _ _ _ h => h) (Or.inl ⟨by rfl, ?_⟩) (by assumption) ?_
        rotate_left
        · (intro w hSw; (try dsimp only at hSw); first | (go_simp; done) | (go_simp; with_reducible rfl))
        try simp only [Act.put, List.getElem_toArray, List.getElem_cons_succ, List.getElem_cons_zero, List.setIfInBounds_toArray, List.set_cons_zero, List.set_cons_succ]
        refine wpAnyH_ready (rs := [13, 14]) (by kernel_rfl) (by simp) ?_
        refine AllReadyH.cons rfl (fun K hK => ?_) (AllReadyH.cons rfl (fun K hK => ?_) AllReadyH.nil)
        · rw [if_pos (by rfl)]
          (go_simp; have hgeP := Ext.size hHeld)
          refine hK.out _ _ ?_ (fun hHeld => ?_)
          · ((try dsimp only); exact Ext.alloc hHeld _)
          clear hK K
          try simp only [Act.put, List.getElem_toArray, List.getElem_cons_succ, List.getElem_cons_zero, List.setIfInBounds_toArray, List.set_cons_zero, List.set_cons_succ]
          have hqP := heap_new w7 (.cells #[.int .u8 0, .int .u8 0, .int .u8 0, .int .u8 0, .int .u8 0, .int .u8 0, .int .u8 0, .int .u8 0, .int .u8 0, .int .u8 0, .int .u8 0, .int .u8 0, .int .u8 0, .int .u8 0, .int .u8 0, .int .u8 0, .int .u8 0, .int .u8 0, .int .u8 0, .int .u8 0, .int .u8 0, .int .u8 0, .int .u8 0, .int .u8 0, .int .u8 0, .int .u8 0, .int .u8 0, .int .u8 0, .int .u8 0, .int .u8 0, .int .u8 0, .int .u8 0] 35)
          have hxP := (Ext.refl [] w7).alloc (.cells #[.int .u8 0, .int .u8 0, .int .u8 0, .int .u8 0, .int .u8 0, .int .u8 0, .int .u8 0, .int .u8 0, .int .u8 0, .int .u8 0, .int .u8 0, .int .u8 0, .int .u8 0, .int .u8 0, .int .u8 0, .int .u8 0, .int .u8 0, .int .u8 0, .int .u8 0, .int .u8 0, .int .u8 0, .int .u8 0, .int .u8 0, .int .u8 0, .int .u8 0, .int .u8 0, .int .u8 0, .int .u8 0, .int .u8 0, .int .u8 0, .int .u8 0, .int .u8 0] 35)
          replace hHeld : Ext [] w10 (w7.alloc (.cells #[.int .u8 0, .int .u8 0, .int .u8 0, .int .u8 0, .int .u8 0, .int .u8 0, .int .u8 0, .int .u8 0, .int .u8 0, .int .u8 0, .int .u8 0, .int .u8 0, .int .u8 0, .int .u8 0, .int .u8 0, .int .u8 0, .int .u8 0, .int .u8 0, .int .u8 0, .int .u8 0, .int .u8 0, .int .u8 0, .int .u8 0, .int .u8 0, .int .u8 0, .int .u8 0, .int .u8 0, .int .u8 0, .int .u8 0, .int .u8 0, .int .u8 0, .int .u8 0] 35)) := hHeld
          have hzP : (w7.alloc (.cells #[.int .u8 0, .int .u8 0, .int .u8 0, .int .u8 0, .int .u8 0, .int .u8 0, .int .u8 0, .int .u8 0, .int .u8 0, .int .u8 0, .int .u8 0, .int .u8 0, .int .u8 0, .int .u8 0, .int .u8 0, .int .u8 0, .int .u8 0, .int .u8 0, .int .u8 0, .int .u8 0, .int .u8 0, .int .u8 0, .int .u8 0, .int .u8 0, .int .u8 0, .int .u8 0, .int .u8 0, .int .u8 0, .int .u8 0, .int .u8 0, .int .u8 0, .int .u8 0] 35)).heap.size = w7.heap.size + 1 := by simp
          generalize w7.alloc (.cells #[.int .u8 0, .int .u8 0, .int .u8 0, .int .u8 0, .int .u8 0, .int .u8 0, .int .u8 0, .int .u8 0, .int .u8 0, .int .u8 0, .int .u8 0, .int .u8 0, .int .u8 0, .int .u8 0, .int .u8 0, .int .u8 0, .int .u8 0, .int .u8 0, .int .u8 0, .int .u8 0, .int .u8 0, .int .u8 0, .int .u8 0, .int .u8 0, .int .u8 0, .int .u8 0, .int .u8 0, .int .u8 0, .int .u8 0, .int .u8 0, .int .u8 0, .int .u8 0] 35) = wP at hqP hxP hzP hHeld ⊢
          obtain ⟨P, hsP⟩ : ∃ p, w7.heap.size = p := ⟨_, rfl⟩
          rw [hsP] at hqP hgeP hzP ⊢
          have HzP := Hs.hid hzP
          clear hzP hsP
          refine wpAnyH_ready (rs := [14]) (by kernel_rfl) (by simp) ?_
          refine AllReadyH.cons rfl (fun K hK => ?_) AllReadyH.nil
          rw [if_pos (by rfl)]
          (go_simp; have hgeQ := Ext.size hHeld)
          refine hK.out _ _ ?_ (fun hHeld => ?_)
          · ((try dsimp only); exact Ext.alloc hHeld _)
          clear hK K
          try simp only [Act.put, List.getElem_toArray, List.getElem_cons_succ, List.getElem_cons_zero, List.setIfInBounds_toArray, List.set_cons_zero, List.set_cons_succ]
          have hqQ := heap_new wP (.cells #[.int .u8 0, .int .u8 0, .int .u8 0, .int .u8 0, .int .u8 0, .int .u8 0, .int .u8 0, .int .u8 0, .int .u8 0, .int .u8 0, .int .u8 0, .int .u8 0, .int .u8 0, .int .u8 0, .int .u8 0, .int .u8 0, .int .u8 0, .int .u8 0, .int .u8 0, .int .u8 0, .int .u8 0, .int .u8 0, .int .u8 0, .int .u8 0, .int .u8 0, .int .u8 0, .int .u8 0, .int .u8 0, .int .u8 0, .int .u8 0, .int .u8 0, .int .u8 0] 35)
          have hxQ := (Ext.refl [] wP).alloc (.cells #[.int .u8 0, .int .u8 0, .int .u8 0, .int .u8 0, .int .u8 0, .int .u8 0, .int .u8 0, .int .u8 0, .int .u8 0, .int .u8 0, .int .u8 0, .int .u8 0, .int .u8 0, .int .u8 0, .int .u8 0, .int .u8 0, .int .u8 0, .int .u8 0, .int .u8 0, .int .u8 0, .int .u8 0, .int .u8 0, .int .u8 0, .int .u8 0, .int .u8 0, .int .u8 0, .int .u8 0, .int .u8 0, .int .u8 0, .int .u8 0, .int .u8 0, .int .u8 0] 35)
          replace hHeld : Ext [] w10 (wP.alloc (.cells #[.int .u8 0, .int .u8 0, .int .u8 0, .int .u8 0, .int .u8 0, .int .u8 0, .int .u8 0, .int .u8 0, .int .u8 0, .int .u8 0, .int .u8 0, .int .u8 0, .int .u8 0, .int .u8 0, .int .u8 0, .int .u8 0, .int .u8 0, .int .u8 0, .int .u8 0, .int .u8 0, .int .u8 0, .int .u8 0, .int .u8 0, .int .u8 0, .int .u8 0, .int .u8 0, .int .u8 0, .int .u8 0, .int .u8 0, .int .u8 0, .int .u8 0, .int .u8 0] 35)) := hHeld
          have hzQ : (wP.alloc (.cells #[.int .u8 0, .int .u8 0, .int .u8 0, .int .u8 0, .int .u8 0, .int .u8 0, .int .u8 0, .int .u8 0, .int .u8 0, .int .u8 0, .int .u8 0, .int .u8 0, .int .u8 0, .int .u8 0, .int .u8 0, .int .u8 0, .int .u8 0, .int .u8 0, .int .u8 0, .int .u8 0, .int .u8 0, .int .u8 0, .int .u8 0, .int .u8 0, .int .u8 0, .int .u8 0, .int .u8 0, .int .u8 0, .int .u8 0, .int .u8 0, .int .u8 0, .int .u8 0] 35)).heap.size = wP.heap.size + 1 := by simp
          generalize wP.alloc (.cells #[.int .u8 0, .int .u8 0, .int .u8 0, .int .u8 0, .int .u8 0, .int .u8 0, .int .u8 0, .int .u8 0, .int .u8 0, .int .u8 0, .int .u8 0, .int .u8 0, .int .u8 0, .int .u8 0, .int .u8 0, .int .u8 0, .int .u8 0, .int .u8 0, .int .u8 0, .int .u8 0, .int .u8 0, .int .u8 0, .int .u8 0, .int .u8 0, .int .u8 0, .int .u8 0, .int .u8 0, .int .u8 0, .int .u8 0, .int .u8 0, .int .u8 0, .int .u8 0] 35) = wQ at hqQ hxQ hzQ hHeld ⊢
          obtain ⟨Q, hsQ⟩ : ∃ p, wP.heap.size = p := ⟨_, rfl⟩
          rw [hsQ] at hqQ hgeQ hzQ ⊢
          have HzQ := Hs.hid hzQ
          have hgtPQ : wP.heap.size ≤ Q := by have := hsQ; omega
          clear hzQ hsQ
          have hfP := (hxQ.same hqP List.not_mem_nil)
          have hfQ := hqQ
          have hfO := ((hO1.ext hxP (fun _ _ => List.not_mem_nil)).ext hxQ (fun _ _ => List.not_mem_nil))
          have hne : P ≠ Q := by have h1 := lt_of_heap hqP; have h2 := lt_of_heap hqQ; have h3 := HzP.out; have h4 := HzQ.out; have h5 := hgtPQ; omega
          have hEE := hHeld
          refine wpAnyH_ready (rs := [15]) (by kernel_rfl) (by simp) ?_
          refine AllReadyH.cons rfl (fun K hK => ?_) AllReadyH.nil
          rw [if_pos (by rfl)]
          (refine wp_store_row 35 _ _ rfl P x1.V rfl rfl _ _ hfP (by rw [x1.size]; exact infoSum) (by rw [x1.size]; rfl) x1.one ?_)
          refine hK.out _ _ ?_ (fun hHeld => ?_)
          · ((try dsimp only); exact Ext.trans hHeld (setRow_ext _ _) (fun g hg => .inr (by simp at hg; omega)))
          clear hK K
          try simp only [Act.put, List.getElem_toArray, List.getElem_cons_succ, List.getElem_cons_zero, List.setIfInBounds_toArray, List.set_cons_zero, List.set_cons_succ]
          refine wpAnyH_ready (rs := [16]) (by kernel_rfl) (by simp) ?_
          refine AllReadyH.cons rfl (fun K hK => ?_) AllReadyH.nil
          rw [if_pos (by rfl)]
          (refine wp_store_row 35 _ _ rfl Q y1.V rfl rfl _ _ (setRow_keep _ hfQ (Ne.symm hne)) (by rw [y1.size]; exact infoSum) (by rw [y1.size]; rfl) y1.one ?_)
          refine hK.out _ _ ?_ (fun hHeld => ?_)
          · ((try dsimp only); exact Ext.trans hHeld (setRow_ext _ _) (fun g hg => .inr (by simp at hg; omega)))
          clear hK K
          try simp only [Act.put, List.getElem_toArray, List.getElem_cons_succ, List.getElem_cons_zero, List.setIfInBounds_toArray, List.set_cons_zero, List.set_cons_succ]
          refine wpAnyH_take (i := 17) (v := ?_) rfl (by kernel_rfl) (by kernel_rfl) (by kernel_rfl) (fun _ _ _ h => h) (Or.inl ⟨by rfl, ?_⟩) (by assumption) ?_
          rotate_left
          · (intro w hSw; (try dsimp only at hSw); first | (go_simp; done) | (go_simp; with_reducible rfl))
          try simp only [Act.put, List.getElem_toArray, List.getElem_cons_succ, List.getElem_cons_zero, List.setIfInBounds_toArray, List.set_cons_zero, List.set_cons_succ]
          refine wpAnyH_take (i := 18) (v := ?_) rfl (by kernel_rfl) (by kernel_rfl) (by kernel_rfl) (fun _ _ _ h => h) (Or.inl ⟨by rfl, ?_⟩) (by assumption) ?_
          rotate_left
          · (intro w hSw; (try dsimp only at hSw); first | (go_simp; done) | (go_simp; with_reducible rfl))
          try simp only [Act.put, List.getElem_toArray, List.getElem_cons_succ, List.getElem_cons_zero, List.setIfInBounds_toArray, List.set_cons_zero, List.set_cons_succ]
          refine wpAnyH_done (by kernel_rfl) ?_ _
          refine NoPanic.normal ?_
          go_wp2
          go_meet
          exact ⟨P, Q, x1, y1, v1, ps1, ok1, rfl, rfl, rfl, rfl, setRow_keep _ (setRow_heap _ _ _ _ _ _ hfP) hne, setRow_heap _ _ _ _ _ _ (setRow_keep _ hfQ (Ne.symm hne)), Hs.hid ⟨hr1.out, (hfO.set hfP _).set (setRow_keep _ hfQ (Ne.symm hne)) _, fun g hg => Nat.le_trans HWW.out (hg1 g hg), hn1, hgeP, hgeQ⟩, ((hEE.trans (setRow_ext _ _) (fun g hg => .inr (by simp at hg; omega))).trans (setRow_ext _ _) (fun g hg => .inr (by simp at hg; omega)))⟩
        · rw [if_pos (by rfl)]
          (go_simp; have hgeQ := Ext.size hHeld)
          refine hK.out _ _ ?_ (fun hHeld => ?_)
          · ((try dsimp only); exact Ext.alloc hHeld _)
          clear hK K
          try simp only [Act.put, List.getElem_toArray, List.getElem_cons_succ, List.getElem_cons_zero, List.setIfInBounds_toArray, List.set_cons_zero, List.set_cons_succ]
          have hqQ := heap_new w7 (.cells #[.int .u8 0, .int .u8 0, .int .u8 0, .int .u8 0, .int .u8 0, .int .u8 0, .int .u8 0, .int .u8 0, .int .u8 0, .int .u8 0, .int .u8 0, .int .u8 0, .int .u8 0, .int .u8 0, .int .u8 0, .int .u8 0, .int .u8 0, .int .u8 0, .int .u8 0, .int .u8 0, .int .u8 0, .int .u8 0, .int .u8 0, .int .u8 0, .int .u8 0, .int .u8 0, .int .u8 0, .int .u8 0, .int .u8 0, .int .u8 0, .int .u8 0, .int .u8 0] 35)
          have hxQ := (Ext.refl [] w7).alloc (.cells #[.int .u8 0, .int .u8 0, .int .u8 0, .int .u8 0, .int .u8 0, .int .u8 0, .int .u8 0, .int .u8 0, .int .u8 0, .int .u8 0, .int .u8 0, .int .u8 0, .int .u8 0, .int .u8 0, .int .u8 0, .int .u8 0, .int .u8 0, .int .u8 0, .int .u8 0, .int .u8 0, .int .u8 0, .int .u8 0, .int .u8 0, .int .u8 0, .int .u8 0, .int .u8 0, .int .u8 0, .int .u8 0, .int .u8 0, .int .u8 0, .int .u8 0, .int .u8 0] 35)
          replace hHeld : Ext [] w10 (w7.alloc (.cells #[.int .u8 0, .int .u8 0, .int .u8 0, .int .u8 0, .int .u8 0, .int .u8 0, .int .u8 0, .int .u8 0, .int .u8 0, .int .u8 0, .int .u8 0, .int .u8 0, .int .u8 0, .int .u8 0, .int .u8 0, .int .u8 0, .int .u8 0, .int .u8 0, .int .u8 0, .int .u8 0, .int .u8 0, .int .u8 0, .int .u8 0, .int .u8 0, .int .u8 0, .int .u8 0, .int .u8 0, .int .u8 0, .int .u8 0, .int .u8 0, .int .u8 0, .int .u8 0] 35)) := hHeld
          have hzQ : (w7.alloc (.cells #[.int .u8 0, .int .u8 0, .int .u8 0, .int .u8 0, .int .u8 0, .int .u8 0, .int .u8 0, .int .u8 0, .int .u8 0, .int .u8 0, .int .u8 0, .int .u8 0, .int .u8 0, .int .u8 0, .int .u8 0, .int .u8 0, .int .u8 0, .int .u8 0, .int .u8 0, .int .u8 0, .int .u8 0, .int .u8 0, .int .u8 0, .int .u8 0, .int .u8 0, .int .u8 0, .int .u8 0, .int .u8 0, .int .u8 0, .int .u8 0, .int .u8 0, .int .u8 0] 35)).heap.size = w7.heap.size + 1 := by simp
          generalize w7.alloc (.cells #[.int .u8 0, .int .u8 0, .int .u8 0, .int .u8 0, .int .u8 0, .int .u8 0, .int .u8 0, .int .u8 0, .int .u8 0, .int .u8 0, .int .u8 0, .int .u8 0, .int .u8 0, .int .u8 0, .int .u8 0, .int .u8 0, .int .u8 0, .int .u8 0, .int .u8 0, .int .u8 0, .int .u8 0, .int .u8 0, .int .u8 0, .int .u8 0, .int .u8 0, .int .u8 0, .int .u8 0, .int .u8 0, .int .u8 0, .int .u8 0, .int .u8 0, .int .u8 0] 35) = wQ at hqQ hxQ hzQ hHeld ⊢
          obtain ⟨Q, hsQ⟩ : ∃ p, w7.heap.size = p := ⟨_, rfl⟩
          rw [hsQ] at hqQ hgeQ hzQ ⊢
          have HzQ := Hs.hid hzQ
          clear hzQ hsQ
          refine wpAnyH_ready (rs := [13]) (by kernel_rfl) (by simp) ?_
          refine AllReadyH.cons rfl (fun K hK => ?_) AllReadyH.nil
          rw [if_pos (by rfl)]
          (go_simp; have hgeP := Ext.size hHeld)
          refine hK.out _ _ ?_ (fun hHeld => ?_)
          · ((try dsimp only); exact Ext.alloc hHeld _)
          clear hK K
          try simp only [Act.put, List.getElem_toArray, List.getElem_cons_succ, List.getElem_cons_zero, List.setIfInBounds_toArray, List.set_cons_zero, List.set_cons_succ]
          have hqP := heap_new wQ (.cells #[.int .u8 0, .int .u8 0, .int .u8 0, .int .u8 0, .int .u8 0, .int .u8 0, .int .u8 0, .int .u8 0, .int .u8 0, .int .u8 0, .int .u8 0, .int .u8 0, .int .u8 0, .int .u8 0, .int .u8 0, .int .u8 0, .int .u8 0, .int .u8 0, .int .u8 0, .int .u8 0, .int .u8 0, .int .u8 0, .int .u8 0, .int .u8 0, .int .u8 0, .int .u8 0, .int .u8 0, .int .u8 0, .int .u8 0, .int .u8 0, .int .u8 0, .int .u8 0] 35)
          have hxP := (Ext.refl [] wQ).alloc (.cells #[.int .u8 0, .int .u8 0, .int .u8 0, .int .u8 0, .int .u8 0, .int .u8 0, .int .u8 0, .int .u8 0, .int .u8 0, .int .u8 0, .int .u8 0, .int .u8 0, .int .u8 0, .int .u8 0, .int .u8 0, .int .u8 0, .int .u8 0, .int .u8 0, .int .u8 0, .int .u8 0, .int .u8 0, .int .u8 0, .int .u8 0, .int .u8 0, .int .u8 0, .int .u8 0, .int .u8 0, .int .u8 0, .int .u8 0, .int .u8 0, .int .u8 0, .int .u8 0] 35)
          replace hHeld : Ext [] w10 (wQ.alloc (.cells #[.int .u8 0, .int .u8 0, .int .u8 0, .int .u8 0, .int .u8 0, .int .u8 0, .int .u8 0, .int .u8 0, .int .u8 0, .int .u8 0, .int .u8 0, .int .u8 0, .int .u8 0, .int .u8 0, .int .u8 0, .int .u8 0, .int .u8 0, .int .u8 0, .int .u8 0, .int .u8 0, .int .u8 0, .int .u8 0, .int .u8 0, .int .u8 0, .int .u8 0, .int .u8 0, .int .u8 0, .int .u8 0, .int .u8 0, .int .u8 0, .int .u8 0, .int .u8 0] 35)) := hHeld
          have hzP : (wQ.alloc (.cells #[.int .u8 0, .int .u8 0, .int .u8 0, .int .u8 0, .int .u8 0, .int .u8 0, .int .u8 0, .int .u8 0, .int .u8 0, .int .u8 0, .int .u8 0, .int .u8 0, .int .u8 0, .int .u8 0, .int .u8 0, .int .u8 0, .int .u8 0, .int .u8 0, .int .u8 0, .int .u8 0, .int .u8 0, .int .u8 0, .int .u8 0, .int .u8 0, .int .u8 0, .int .u8 0, .int .u8 0, .int .u8 0, .int .u8 0, .int .u8 0, .int .u8 0, .int .u8 0] 35)).heap.size = wQ.heap.size + 1 := by simp
          generalize wQ.alloc (.cells #[.int .u8 0, .int .u8 0, .int .u8 0, .int .u8 0, .int .u8 0, .int .u8 0, .int .u8 0, .int .u8 0, .int .u8 0, .int .u8 0, .int .u8 0, .int .u8 0, .int .u8 0, .int .u8 0, .int .u8 0, .int .u8 0, .int .u8 0, .int .u8 0, .int .u8 0, .int .u8 0, .int .u8 0, .int .u8 0, .int .u8 0, .int .u8 0, .int .u8 0, .int .u8 0, .int .u8 0, .int .u8 0, .int .u8 0, .int .u8 0, .int .u8 0, .int .u8 0] 35) = wP at hqP hxP hzP hHeld ⊢
          obtain ⟨P, hsP⟩ : ∃ p, wQ.heap.size = p := ⟨_, rfl⟩
          rw [hsP] at hqP hgeP hzP ⊢
          have HzP := Hs.hid hzP
          have hgtQP : wQ.heap.size ≤ P := by have := hsP; omega
          clear hzP hsP
          have hfP := hqP
          have hfQ := (hxP.same hqQ List.not_mem_nil)
          have hfO := ((hO1.ext hxQ (fun _ _ => List.not_mem_nil)).ext hxP (fun _ _ => List.not_mem_nil))
          have hne : P ≠ Q := by have h1 := lt_of_heap hqP; have h2 := lt_of_heap hqQ; have h3 := HzP.out; have h4 := HzQ.out; have h5 := hgtQP; omega
          have hEE := hHeld
          refine wpAnyH_ready (rs := [15]) (by kernel_rfl) (by simp) ?_
          refine AllReadyH.cons rfl (fun K hK => ?_) AllReadyH.nil
          rw [if_pos (by rfl)]
          (refine wp_store_row 35 _ _ rfl P x1.V rfl rfl _ _ hfP (by rw [x1.size]; exact infoSum) (by rw [x1.size]; rfl) x1.one ?_)
          refine hK.out _ _ ?_ (fun hHeld => ?_)
          · ((try dsimp only); exact Ext.trans hHeld (setRow_ext _ _) (fun g hg => .inr (by simp at hg; omega)))
          clear hK K
          try simp only [Act.put, List.getElem_toArray, List.getElem_cons_succ, List.getElem_cons_zero, List.setIfInBounds_toArray, List.set_cons_zero, List.set_cons_succ]
          refine wpAnyH_ready (rs := [16]) (by kernel_rfl) (by simp) ?_
          refine AllReadyH.cons rfl (fun K hK => ?_) AllReadyH.nil
          rw [if_pos (by rfl)]
          (refine wp_store_row 35 _ _ rfl Q y1.V rfl rfl _ _ (setRow_keep _ hfQ (Ne.symm hne)) (by rw [y1.size]; exact infoSum) (by rw [y1.size]; rfl) y1.one ?_)
          refine hK.out _ _ ?_ (fun hHeld => ?_)
          · ((try dsimp only); exact Ext.trans hHeld (setRow_ext _ _) (fun g hg => .inr (by simp at hg; omega)))
          clear hK K
          try simp only [Act.put, List.getElem_toArray, List.getElem_cons_succ, List.getElem_cons_zero, List.setIfInBounds_toArray, List.set_cons_zero, List.set_cons_succ]
          refine wpAnyH_take (i := 17) (v := ?_) rfl (by kernel_rfl) (by kernel_rfl) (by kernel_rfl) (fun _ _ _ h => h) (Or.inl ⟨by rfl, ?_⟩) (by assumption) ?_
          rotate_left
          · (intro w hSw; (try dsimp only at hSw); first | (go_simp; done) | (go_simp; with_reducible rfl))
          try simp only [Act.put, List.getElem_toArray, List.getElem_cons_succ, List.getElem_cons_zero, List.setIfInBounds_toArray, List.set_cons_zero, List.set_cons_succ]
          refine wpAnyH_take (i := 18) (v := ?_) rfl (by kernel_rfl) (by kernel_rfl) (by kernel_rfl) (fun _ _ _ h => h) (Or.inl ⟨by rfl, ?_⟩) (by assumption) ?_
          rotate_left
          · (intro w hSw; (try dsimp only at hSw); first | (go_simp; done) | (go_simp; with_reducible rfl))
          try simp only [Act.put, List.getElem_toArray, List.getElem_cons_succ, List.getElem_cons_zero, List.setIfInBounds_toArray, List.set_cons_zero, List.set_cons_succ]
          refine wpAnyH_done (by kernel_rfl) ?_ _
          refine NoPanic.normal ?_
          go_wp2
          go_meet
          exact ⟨P, Q, x1, y1, v1, ps1, ok1, rfl, rfl, rfl, rfl, setRow_keep _ (setRow_heap _ _ _ _ _ _ hfP) hne, setRow_heap _ _ _ _ _ _ (setRow_keep _ hfQ (Ne.symm hne)), Hs.hid ⟨hr1.out, (hfO.set hfP _).set (setRow_keep _ hfQ (Ne.symm hne)) _, fun g hg => Nat.le_trans HWW.out (hg1 g hg), hn1, hgeP, hgeQ⟩, ((hEE.trans (setRow_ext _ _) (fun g hg => .inr (by simp at hg; omega))).trans (setRow_ext _ _) (fun g hg => .inr (by simp at hg; omega)))⟩
      · rw [if_pos (by rfl)]
        (go_simp; have hgeP := Ext.size hHeld)
        refine hK.out _ _ ?_ (fun hHeld => ?_)
        · ((try dsimp only); exact Ext.alloc hHeld _)
        clear hK K
        try simp only [Act.put, List.getElem_toArray, List.getElem_cons_succ, List.getElem_cons_zero, List.setIfInBounds_toArray, List.set_cons_zero, List.set_cons_succ]
        have hqP := heap_new wd (.cells #[.int .u8 0, .int .u8 0, .int .u8 0, .int .u8 0, .int .u8 0, .int .u8 0, .int .u8 0, .int .u8 0, .int .u8 0, .int .u8 0, .int .u8 0, .int .u8 0, .int .u8 0, .int .u8 0, .int .u8 0, .int .u8 0, .int .u8 0, .int .u8 0, .int .u8 0, .int .u8 0, .int .u8 0, .int .u8 0, .int .u8 0, .int .u8 0, .int .u8 0, .int .u8 0, .int .u8 0, .int .u8 0, .int .u8 0, .int .u8 0, .int .u8 0, .int .u8 0] 35)
        have hxP := (Ext.refl [] wd).alloc (.cells #[.int .u8 0, .int .u8 0, .int .u8 0, .int .u8 0, .int .u8 0, .int .u8 0, .int .u8 0, .int .u8 0, .int .u8 0, .int .u8 0, .int .u8 0, .int .u8 0, .int .u8 0, .int .u8 0, .int .u8 0, .int .u8 0, .int .u8 0, .int .u8 0, .int .u8 0, .int .u8 0, .int .u8 0, .int .u8 0, .int .u8 0, .int .u8 0, .int .u8 0, .int .u8 0, .int .u8 0, .int .u8 0, .int .u8 0, .int .u8 0, .int .u8 0, .int .u8 0] 35)
        replace hHeld : Ext [] w10 (wd.alloc (.cells #[.int .u8 0, .int .u8 0, .int .u8 0, .int .u8 0, .int .u8 0, .int .u8 0, .int .u8 0, .int .u8 0, .int .u8 0, .int .u8 0, .int .u8 0, .int .u8 0, .int .u8 0, .int .u8 0, .int .u8 0, .int .u8 0, .int .u8 0, .int .u8 0, .int .u8 0, .int .u8 0, .int .u8 0, .int .u8 0, .int .u8 0, .int .u8 0, .int .u8 0, .int .u8 0, .int .u8 0, .int .u8 0, .int .u8 0, .int .u8 0, .int .u8 0, .int .u8 0] 35)) := hHeld
        have hzP : (wd.alloc (.cells #[.int .u8 0, .int .u8 0, .int .u8 0, .int .u8 0, .int .u8 0, .int .u8 0, .int .u8 0, .int .u8 0, .int .u8 0, .int .u8 0, .int .u8 0, .int .u8 0, .int .u8 0, .int .u8 0, .int .u8 0, .int .u8 0, .int .u8 0, .int .u8 0, .int .u8 0, .int .u8 0, .int .u8 0, .int .u8 0, .int .u8 0, .int .u8 0, .int .u8 0, .int .u8 0, .int .u8 0, .int .u8 0, .int .u8 0, .int .u8 0, .int .u8 0, .int .u8 0] 35)).heap.size = wd.heap.size + 1 := by simp
        generalize wd.alloc (.cells #[.int .u8 0, .int .u8 0, .int .u8 0, .int .u8 0, .int .u8 0, .int .u8 0, .int .u8 0, .int .u8 0, .int .u8 0, .int .u8 0, .int .u8 0, .int .u8 0, .int .u8 0, .int .u8 0, .int .u8 0, .int .u8 0, .int .u8 0, .int .u8 0, .int .u8 0, .int .u8 0, .int .u8 0, .int .u8 0, .int .u8 0, .int .u8 0, .int .u8 0, .int .u8 0, .int .u8 0, .int .u8 0, .int .u8 0, .int .u8 0, .int .u8 0, .int .u8 0] 35) = wP at hqP hxP hzP hHeld ⊢
        obtain ⟨P, hsP⟩ : ∃ p, wd.heap.size = p := ⟨_, rfl⟩
        rw [hsP] at hqP hgeP hzP ⊢
        have HzP := Hs.hid hzP
        clear hzP hsP
        refine wpAnyH_ready (rs := [7, 14]) (by kernel_rfl) (by simp) ?_
        refine AllReadyH.cons rfl (fun K hK => ?_) (AllReadyH.cons rfl (fun K hK => ?_) AllReadyH.nil)
        · go_simp
          (go_at_call 34; have hge7 := Ext.size hHeld; (with_reducible refine (IH.out _ (HLA.out _ hHeld) (HSU.out _ hHeld)).mono ?_); intro e w7 hr; unfold SideE at hr; obtain ⟨x1, y1, v1, ps1, ok1, rfl, hr1, hO1, hg1, hn1, hx7⟩ := hr)
          go_wp2_with fail
          refine hK.out _ _ ?_ (fun hHeld => ?_)
          · ((try dsimp only); exact Ext.trans0 hHeld hx7)
          clear hK K
          try simp only [Act.put, List.getElem_toArray, List.getElem_cons_succ, List.getElem_cons_zero, List.setIfInBounds_toArray, List.set_cons_zero, List.set_cons_succ]
          replace hHeld : Ext [] w10 w7 := hHeld
          replace hg1 : ∀ g, v1.ownBlock = some g → w10.heap.size ≤ g := fun g hg => Nat.le_trans (by have := hge7; omega) (hg1 g hg)
          refine wpAnyH_take (i := 8) (v := ?_) rfl (by kernel_rfl) (by kernel_rfl) (by kernel_rfl) (fun _ _ _ h => h) (Or.inl ⟨by rfl, ?_⟩) (by assumption) ?_
          rotate_left
          · (intro w hSw; (try dsimp only at hSw); first | (go_simp; done) | (go_simp; with_reducible rfl))
          try simp only [Act.put, List.getElem_toArray, List.getElem_cons_succ, List.getElem_cons_zero, List.setIfInBounds_toArray, List.set_cons_zero, List.set_cons_succ]
          refine wpAnyH_take (i := 9) (v := ?_) rfl (by kernel_rfl) (by kernel_rfl) (by kernel_rfl) (fun _ _ _ h => h) (Or.inl ⟨by rfl, ?_⟩) (by assumption) ?_
          rotate_left
          · (intro w hSw; (try dsimp only at hSw); first | (go_simp; done) | (go_simp; with_reducible rfl))
          try simp only [Act.put, List.getElem_toArray, List.getElem_cons_succ, List.getElem_cons_zero, List.setIfInBounds_toArray, List.set_cons_zero, List.set_cons_succ]
          refine wpAnyH_take (i := 10) (v := ?_) rfl (by kernel_rfl) (by kernel_rfl) (by kernel_rfl) (fun _ _ _ h => h) (Or.inl ⟨by rfl, ?_⟩) (by assumption) ?_
          rotate_left
          · (intro w hSw; (try dsimp only at hSw); first | (go_simp; done) | (go_simp; with_reducible rfl))
          try simp only [Act.put, List.getElem_toArray, List.getElem_cons_succ, List.getElem_cons_zero, List.setIfInBounds_toArray, List.set_cons_zero, List.set_cons_succ]
          refine wpAnyH_take (i := 11) (v := ?_) rfl (by kernel_rfl) (by kernel_rfl) (by kernel_rfl) (fun _ _ _ h => h) (Or.inl ⟨by rfl, ?_⟩) (by assumption) ?_
          rotate_left
          · (intro w hSw; (try dsimp only at hSw); first | (go_simp; done) | (go_simp; with_reducible rfl))
          try simp only [Act.put, List.getElem_toArray, List.getElem_cons_succ, List.getElem_cons_zero, List.setIfInBounds_toArray, List.set_cons_zero, List.set_cons_succ]
          refine wpAnyH_take (i := 12) (v := ?_) rfl (by kernel_rfl) (by kernel_rfl) (by kernel_rfl) (fun _ _ _ h => h) (Or.inl ⟨by rfl, ?_⟩) (by assumption) ?_
          rotate_left
          · (intro w hSw; (try dsimp only at hSw); first | (go_simp; done) | (go_simp; with_reducible rfl))
          try simp only [Act.put, List.getElem_toArray, List.getElem_cons_succ, List.getElem_cons_zero, List.setIfInBounds_toArray, List.set_cons_zero, List.set_cons_succ]
          refine wpAnyH_ready (rs := [14]) (by kernel_rfl) (by simp) ?_
          refine AllReadyH.cons rfl (fun K hK => ?_) AllReadyH.nil
          rw [if_pos (by rfl)]
          (go_simp; have hgeQ := Ext.size hHeld)
          refine hK.out _ _ ?_ (fun hHeld => ?_)
          · ((try dsimp only); exact Ext.alloc hHeld _)
          clear hK K
          try simp only [Act.put, List.getElem_toArray, List.getElem_cons_succ, List.getElem_cons_zero, List.setIfInBounds_toArray, List.set_cons_zero, List.set_cons_succ]
          have hqQ := heap_new w7 (.cells #[.int .u8 0, .int .u8 0, .int .u8 0, .int .u8 0, .int .u8 0, .int .u8 0, .int .u8 0, .int .u8 0, .int .u8 0, .int .u8 0, .int .u8 0, .int .u8 0, .int .u8 0, .int .u8 0, .int .u8 0, .int .u8 0, .int .u8 0, .int .u8 0, .int .u8 0, .int .u8 0, .int .u8 0, .int .u8 0, .int .u8 0, .int .u8 0, .int .u8 0, .int .u8 0, .int .u8 0, .int .u8 0, .int .u8 0, .int .u8 0, .int .u8 0, .int .u8 0] 35)
          have hxQ := (Ext.refl [] w7).alloc (.cells #[.int .u8 0, .int .u8 0, .int .u8 0, .int .u8 0, .int .u8 0, .int .u8 0, .int .u8 0, .int .u8 0, .int .u8 0, .int .u8 0, .int .u8 0, .int .u8 0, .int .u8 0, .int .u8 0, .int .u8 0, .int .u8 0, .int .u8 0, .int .u8 0, .int .u8 0, .int .u8 0, .int .u8 0, .int .u8 0, .int .u8 0, .int .u8 0, .int .u8 0, .int .u8 0, .int .u8 0, .int .u8 0, .int .u8 0, .int .u8 0, .int .u8 0, .int .u8 0] 35)
          replace hHeld : Ext [] w10 (w7.alloc (.cells #[.int .u8 0, .int .u8 0, .int .u8 0, .int .u8 0, .int .u8 0, .int .u8 0, .int .u8 0, .int .u8 0, .int .u8 0, .int .u8 0, .int .u8 0, .int .u8 0, .int .u8 0, .int .u8 0, .int .u8 0, .int .u8 0, .int .u8 0, .int .u8 0, .int .u8 0, .int .u8 0, .int .u8 0, .int .u8 0, .int .u8 0, .int .u8 0, .int .u8 0, .int .u8 0, .int .u8 0, .int .u8 0, .int .u8 0, .int .u8 0, .int .u8 0, .int .u8 0] 35)) := hHeld
          have hzQ : (w7.alloc (.cells #[.int .u8 0, .int .u8 0, .int .u8 0, .int .u8 0, .int .u8 0, .int .u8 0, .int .u8 0, .int .u8 0, .int .u8 0, .int .u8 0, .int .u8 0, .int .u8 0, .int .u8 0, .int .u8 0, .int .u8 0, .int .u8 0, .int .u8 0, .int .u8 0, .int .u8 0, .int .u8 0, .int .u8 0, .int .u8 0, .int .u8 0, .int .u8 0, .int .u8 0, .int .u8 0, .int .u8 0, .int .u8 0, .int .u8 0, .int .u8 0, .int .u8 0, .int .u8 0] 35)).heap.size = w7.heap.size + 1 := by simp
          generalize w7.alloc (.cells #[.int .u8 0, .int .u8 0, .int .u8 0, .int .u8 0, .int .u8 0, .int .u8 0, .int .u8 0, .int .u8 0, .int .u8 0, .int .u8 0, .int .u8 0, .int .u8 0, .int .u8 0, .int .u8 0, .int .u8 0, .int .u8 0, .int .u8 0, .int .u8 0, .int .u8 0, .int .u8 0, .int .u8 0, .int .u8 0, .int .u8 0, .int .u8 0, .int .u8 0, .int .u8 0, .int .u8 0, .int .u8 0, .int .u8 0, .int .u8 0, .int .u8 0, .int .u8 0] 35) = wQ at hqQ hxQ hzQ hHeld ⊢
          obtain ⟨Q, hsQ⟩ : ∃ p, w7.heap.size = p := ⟨_, rfl⟩
          rw [hsQ] at hqQ hgeQ hzQ ⊢
          have HzQ := Hs.hid hzQ
          have hgtPQ : wP.heap.size ≤ Q := by have := hsQ; have := hx7.size; omega
          clear hzQ hsQ
          have hfP := (hxQ.same (hx7.same hqP List.not_mem_nil) List.not_mem_nil)
          have hfQ := hqQ
          have hfO := (hO1.ext hxQ (fun _ _ => List.not_mem_nil))
          have hne : P ≠ Q := by have h1 := lt_of_heap hqP; have h2 := lt_of_heap hqQ; have h3 := HzP.out; have h4 := HzQ.out; have h5 := hgtPQ; omega
          have hEE := hHeld
          refine wpAnyH_ready (rs := [15]) (by kernel_rfl) (by simp) ?_
          refine AllReadyH.cons rfl (fun K hK => ?_) AllReadyH.nil
          rw [if_pos (by rfl)]
          (refine wp_store_row 35 _ _ rfl P x1.V rfl rfl _ _ hfP (by rw [x1.size]; exact infoSum) (by rw [x1.size]; rfl) x1.one ?_)
          refine hK.out _ _ ?_ (fun hHeld => ?_)
          · ((try dsimp only); exact Ext.trans hHeld (setRow_ext _ _) (fun g hg => .inr (by simp at hg; omega)))
          clear hK K
          try simp only [Act.put, List.getElem_toArray, List.getElem_cons_succ, List.getElem_cons_zero, List.setIfInBounds_toArray, List.set_cons_zero, List.set_cons_succ]
          refine wpAnyH_ready (rs := [16]) (by kernel_rfl) (by simp) ?_
          refine AllReadyH.cons rfl (fun K hK => ?_) AllReadyH.nil
          rw [if_pos (by rfl)]
          (refine wp_store_row 35 _ _ rfl Q y1.V rfl rfl _ _ (setRow_keep _ hfQ (Ne.symm hne)) (by rw [y1.size]; exact infoSum) (by rw [y1.size]; rfl) y1.one ?_)
          refine hK.out _ _ ?_ (fun hHeld => ?_)
          · ((try dsimp only); exact Ext.trans hHeld (setRow_ext _ _) (fun g hg => .inr (by simp at hg; omega)))
          clear hK K
          try simp only [Act.put, List.getElem_toArray, List.getElem_cons_succ, List.getElem_cons_zero, List.setIfInBounds_toArray, List.set_cons_zero, List.set_cons_succ]
          refine wpAnyH_take (i := 17) (v := ?_) rfl (by kernel_rfl) (by kernel_rfl) (by kernel_rfl) (fun _ _ _ h => h) (Or.inl ⟨by rfl, ?_⟩) (by assumption) ?_
          rotate_left
          · (intro w hSw; (try dsimp only at hSw); first | (go_simp; done) | (go_simp; with_reducible rfl))
          try simp only [Act.put, List.getElem_toArray, List.getElem_cons_succ, List.getElem_cons_zero, List.setIfInBounds_toArray, List.set_cons_zero, List.set_cons_succ]
          refine wpAnyH_take (i := 18) (v := ?_) rfl (by kernel_rfl) (by kernel_rfl) (by kernel_rfl) (fun _ _ _ h => h) (Or.inl ⟨by rfl, ?_⟩) (by assumption) ?_
          rotate_left
          · (intro w hSw; (try dsimp only at hSw); first | (go_simp; done) | (go_simp; with_reducible rfl))
          try simp only [Act.put, List.getElem_toArray, List.getElem_cons_succ, List.getElem_cons_zero, List.setIfInBounds_toArray, List.set_cons_zero, List.set_cons_succ]
          refine wpAnyH_done (by kernel_rfl) ?_ _
          refine NoPanic.normal ?_
          go_wp2
          go_meet
          exact ⟨P, Q, x1, y1, v1, ps1, ok1, rfl, rfl, rfl, rfl, setRow_keep _ (setRow_heap _ _ _ _ _ _ hfP) hne, setRow_heap _ _ _ _ _ _ (setRow_keep _ hfQ (Ne.symm hne)), Hs.hid ⟨hr1.out, (hfO.set hfP _).set (setRow_keep _ hfQ (Ne.symm hne)) _, fun g hg => Nat.le_trans HWW.out (hg1 g hg), hn1, hgeP, hgeQ⟩, ((hEE.trans (setRow_ext _ _) (fun g hg => .inr (by simp at hg; omega))).trans (setRow_ext _ _) (fun g hg => .inr (by simp at hg; omega)))⟩
        · rw [if_pos (by rfl)]
          (go_simp; have hgeQ := Ext.size hHeld)
          refine hK.out _ _ ?_ (fun hHeld => ?_)
          · ((try dsimp only); exact Ext.alloc hHeld _)
          clear hK K
          try simp only [Act.put, List.getElem_toArray, List.getElem_cons_succ, List.getElem_cons_zero, List.setIfInBounds_toArray, List.set_cons_zero, List.set_cons_succ]
          have hqQ := heap_new wP (.cells #[.int .u8 0, .int .u8 0, .int .u8 0, .int .u8 0, .int .u8 0, .int .u8 0, .int .u8 0, .int .u8 0, .int .u8 0, .int .u8 0, .int .u8 0, .int .u8 0, .int .u8 0, .int .u8 0, .int .u8 0, .int .u8 0, .int .u8 0, .int .u8 0, .int .u8 0, .int .u8 0, .int .u8 0, .int .u8 0, .int .u8 0, .int .u8 0, .int .u8 0, .int .u8 0, .int .u8 0, .int .u8 0, .int .u8 0, .int .u8 0, .int .u8 0, .int .u8 0] 35)
          have hxQ := (Ext.refl [] wP).alloc (.cells #[.int .u8 0, .int .u8 0, .int .u8 0, .int .u8 0, .int .u8 0, .int .u8 0, .int .u8 0, .int .u8 0, .int .u8 0, .int .u8 0, .int .u8 0, .int .u8 0, .int .u8 0, .int .u8 0, .int .u8 0, .int .u8 0, .int .u8 0, .int .u8 0, .int .u8 0, .int .u8 0, .int .u8 0, .int .u8 0, .int .u8 0, .int .u8 0, .int .u8 0, .int .u8 0, .int .u8 0, .int .u8 0, .int .u8 0, .int .u8 0, .int .u8 0, .int .u8 0] 35)
          replace hHeld : Ext [] w10 (wP.alloc (.cells #[.int .u8 0, .int .u8 0, .int .u8 0, .int .u8 0, .int .u8 0, .int .u8 0, .int .u8 0, .int .u8 0, .int .u8 0, .int .u8 0, .int .u8 0, .int .u8 0, .int .u8 0, .int .u8 0, .int .u8 0, .int .u8 0, .int .u8 0, .int .u8 0, .int .u8 0, .int .u8 0, .int .u8 0, .int .u8 0, .int .u8 0, .int .u8 0, .int .u8 0, .int .u8 0, .int .u8 0, .int .u8 0, .int .u8 0, .int .u8 0, .int .u8 0, .int .u8 0] 35)) := hHeld
          have hzQ : (wP.alloc (.cells #[.int .u8 0, .int .u8 0, .int .u8 0, .int .u8 0, .int .u8 0, .int .u8 0, .int .u8 0, .int .u8 0, .int .u8 0, .int .u8 0, .int .u8 0, .int .u8 0, .int .u8 0, .int .u8 0, .int .u8 0, .int .u8 0, .int .u8 0, .int .u8 0, .int .u8 0, .int .u8 0, .int .u8 0, .int .u8 0, .int .u8 0, .int .u8 0, .int .u8 0, .int .u8 0, .int .u8 0, .int .u8 0, .int .u8 0, .int .u8 0, .int .u8 0, .int .u8 0] 35)).heap.size = wP.heap.size + 1 := by simp
          generalize wP.alloc (.cells #[.int .u8 0, .int .u8 0, .int .u8 0, .int .u8 0, .int .u8 0, .int .u8 0, .int .u8 0, .int .u8 0, .int .u8 0, .int .u8 0, .int .u8 0, .int .u8 0, .int .u8 0, .int .u8 0, .int .u8 0, .int .u8 0, .int .u8 0, .int .u8 0, .int .u8 0, .int .u8 0, .int .u8 0, .int .u8 0, .int .u8 0, .int .u8 0, .int .u8 0, .int .u8 0, .int .u8 0, .int .u8 0, .int .u8 0, .int .u8 0, .int .u8 0, .int .u8 0] 35) = wQ at hqQ hxQ hzQ hHeld ⊢
          obtain ⟨Q, hsQ⟩ : ∃ p, wP.heap.size = p := ⟨_, rfl⟩
          rw [hsQ] at hqQ hgeQ hzQ ⊢
          have HzQ := Hs.hid hzQ
          have hgtPQ : wP.heap.size ≤ Q := by have := hsQ; omega
          clear hzQ hsQ
          refine wpAnyH_ready (rs := [7]) (by kernel_rfl) (by simp) ?_
          refine AllReadyH.cons rfl (fun K hK => ?_) AllReadyH.nil
          go_simp
          (go_at_call 34; have hge7 := Ext.size hHeld; (with_reducible refine (IH.out _ (HLA.out _ hHeld) (HSU.out _ hHeld)).mono ?_); intro e w7 hr; unfold SideE at hr; obtain ⟨x1, y1, v1, ps1, ok1, rfl, hr1, hO1, hg1, hn1, hx7⟩ := hr)
          go_wp2_with fail
          refine hK.out _ _ ?_ (fun hHeld => ?_)
          · ((try dsimp only); exact Ext.trans0 hHeld hx7)
          clear hK K
          try simp only [Act.put, List.getElem_toArray, List.getElem_cons_succ, List.getElem_cons_zero, List.setIfInBounds_toArray, List.set_cons_zero, List.set_cons_succ]
          replace hHeld : Ext [] w10 w7 := hHeld
          replace hg1 : ∀ g, v1.ownBlock = some g → w10.heap.size ≤ g := fun g hg => Nat.le_trans (by have := hge7; omega) (hg1 g hg)
          refine wpAnyH_take (i := 8) (v := ?_) rfl (by kernel_rfl) (by kernel_rfl) (by kernel_rfl) (fun _ _ _ h => h) (Or.inl ⟨by rfl, ?_⟩) (by assumption) ?_
          rotate_left
          · (intro w hSw; (try dsimp only at hSw); first | (go_simp; done) | (go_simp; with_reducible rfl))
          try simp only [Act.put, List.getElem_toArray, List.getElem_cons_succ, List.getElem_cons_zero, List.setIfInBounds_toArray, List.set_cons_zero, List.set_cons_succ]
          refine wpAnyH_take (i := 9) (v := ?_) rfl (by kernel_rfl) (by kernel_rfl) (by kernel_rfl) (fun _ _ _ h => h) (Or.inl ⟨by rfl, ?_⟩) (by assumption) ?_
          rotate_left
          · (intro w hSw; (try dsimp only at hSw); first | (go_simp; done) | (go_simp; with_reducible rfl))
          try simp only [Act.put, List.getElem_toArray, List.getElem_cons_succ, List.getElem_cons_zero, List.setIfInBounds_toArray, List.set_cons_zero, List.set_cons_succ]
          refine wpAnyH_take (i := 10) (v := ?_) rfl (by kernel_rfl) (by kernel_rfl) (by kernel_rfl) (fun _ _ _ h => h) (Or.inl ⟨by rfl, ?_⟩) (by assumption) ?_
          rotate_left
          · (intro w hSw; (try dsimp only at hSw); first | (go_simp; done) | (go_simp; with_reducible rfl))
          try simp only [Act.put, List.getElem_toArray, List.getElem_cons_succ, List.getElem_cons_zero, List.setIfInBounds_toArray, List.set_cons_zero, List.set_cons_succ]
          refine wpAnyH_take (i := 11) (v := ?_) rfl (by kernel_rfl) (by kernel_rfl) (by kernel_rfl) (fun _ _ _ h => h) (Or.inl ⟨by rfl, ?_⟩) (by assumption) ?_
          rotate_left
          · (intro w hSw; (try dsimp only at hSw); first | (go_simp; done) | (go_simp; with_reducible rfl))
          try simp only [Act.put, List.getElem_toArray, List.getElem_cons_succ, List.getElem_cons_zero, List.setIfInBounds_toArray, List.set_cons_zero, List.set_cons_succ]
          refine wpAnyH_take (i := 12) (v := ?_) rfl (by kernel_rfl) (by kernel_rfl) (by kernel_rfl) (fun _ _ _ h => h) (Or.inl ⟨by rfl, ?_⟩) (by assumption) ?_
          rotate_left
          · (intro w hSw; (try dsimp only at hSw); first | (go_simp; done) | (go_simp; with_reducible rfl))
          try simp only [Act.put, List.getElem_toArray, List.getElem_cons_succ, List.getElem_cons_zero, List.setIfInBounds_toArray, List.set_cons_zero, List.set_cons_succ]
          have hfP := (hx7.same (hxQ.same hqP List.not_mem_nil) List.not_mem_nil)
          have hfQ := (hx7.same hqQ List.not_mem_nil)
          have hfO := hO1
          have hne : P ≠ Q := by have h1 := lt_of_heap hqP; have h2 := lt_of_heap hqQ; have h3 := HzP.out; have h4 := HzQ.out; have h5 := hgtPQ; omega
          have hEE := hHeld
          refine wpAnyH_ready (rs := [15]) (by kernel_rfl) (by simp) ?_
          refine AllReadyH.cons rfl (fun K hK => ?_) AllReadyH.nil
          rw [if_pos (by rfl)]
          (refine wp_store_row 35 _ _ rfl P x1.V rfl rfl _ _ hfP (by rw [x1.size]; exact infoSum) (by rw [x1.size]; rfl) x1.one ?_)
          refine hK.out _ _ ?_ (fun hHeld => ?_)
          · ((try dsimp only); exact Ext.trans hHeld (setRow_ext _ _) (fun g hg => .inr (by simp at hg; omega)))
          clear hK K
          try simp only [Act.put, List.getElem_toArray, List.getElem_cons_succ, List.getElem_cons_zero, List.setIfInBounds_toArray, List.set_cons_zero, List.set_cons_succ]
          refine wpAnyH_ready (rs := [16]) (by kernel_rfl) (by simp) ?_
          refine AllReadyH.cons rfl (fun K hK => ?_) AllReadyH.nil
          rw [if_pos (by rfl)]
          (refine wp_store_row 35 _ _ rfl Q y1.V rfl rfl _ _ (setRow_keep _ hfQ (Ne.symm hne)) (by rw [y1.size]; exact infoSum) (by rw [y1.size]; rfl) y1.one ?_)
          refine hK.out _ _ ?_ (fun hHeld => ?_)
          · ((try dsimp only); exact Ext.trans hHeld (setRow_ext _ _) (fun g hg => .inr (by simp at hg; omega)))
          clear hK K
          try simp only [Act.put, List.getElem_toArray, List.getElem_cons_succ, List.getElem_cons_zero, List.setIfInBounds_toArray, List.set_cons_zero, List.set_cons_succ]
          refine wpAnyH_take (i := 17) (v := ?_) rfl (by kernel_rfl) (by kernel_rfl) (by kernel_rfl) (fun _ _ _ h => h) (Or.inl ⟨by rfl, ?_⟩) (by assumption) ?_
          rotate_left
          · (intro w hSw; (try dsimp only at hSw); first | (go_simp; done) | (go_simp; with_reducible rfl))
          try simp only [Act.put, List.getElem_toArray, List.getElem_cons_succ, List.getElem_cons_zero, List.setIfInBounds_toArray, List.set_cons_zero, List.set_cons_succ]
          refine wpAnyH_take (i := 18) (v := ?_) rfl (by kernel_rfl) (by kernel_rfl) (by kernel_rfl) (fun _ _ _ h => h) (Or.inl ⟨by rfl, ?_⟩) (by assumption) ?_
          rotate_left
          · (intro w hSw; (try dsimp only at hSw); first | (go_simp; done) | (go_simp; with_reducible rfl))
          try simp only [Act.put, List.getElem_toArray, List.getElem_cons_succ, List.getElem_cons_zero, List.setIfInBounds_toArray, List.set_cons_zero, List.set_cons_succ]
          refine wpAnyH_done (by kernel_rfl) ?_ _
          refine NoPanic.normal ?_
          go_wp2
          go_meet
          exact ⟨P, Q, x1, y1, v1, ps1, ok1, rfl, rfl, rfl, rfl, setRow_keep _ (setRow_heap _ _ _ _ _ _ hfP) hne, setRow_heap _ _ _ _ _ _ (setRow_keep _ hfQ (Ne.symm hne)), Hs.hid ⟨hr1.out, (hfO.set hfP _).set (setRow_keep _ hfQ (Ne.symm hne)) _, fun g hg => Nat.le_trans HWW.out (hg1 g hg), hn1, hgeP, hgeQ⟩, ((hEE.trans (setRow_ext _ _) (fun g hg => .inr (by simp at hg; omega))).trans (setRow_ext _ _) (fun g hg => .inr (by simp at hg; omega)))⟩
      · rw [if_pos (by rfl)]
        (go_simp; have hgeQ := Ext.size hHeld)
        refine hK.out _ _ ?_ (fun hHeld => ?_)
        · ((try dsimp only); exact Ext.alloc hHeld _)
        clear hK K
        try simp only [Act.put, List.getElem_toArray, List.getElem_cons_succ, List.getElem_cons_zero, List.setIfInBounds_toArray, List.set_cons_zero, List.set_cons_succ]
        have hqQ := heap_new wd (.cells #[.int .u8 0, .int .u8 0, .int .u8 0, .int .u8 0, .int .u8 0, .int .u8 0, .int .u8 0, .int .u8 0, .int .u8 0, .int .u8 0, .int .u8 0, .int .u8 0, .int .u8 0, .int .u8 0, .int .u8 0, .int .u8 0, .int .u8 0, .int .u8 0, .int .u8 0, .int .u8 0, .int .u8 0, .int .u8 0, .int .u8 0, .int .u8 0, .int .u8 0, .int .u8 0, .int .u8 0, .int .u8 0, .int .u8 0, .int .u8 0, .int .u8 0, .int .u8 0] 35)
        have hxQ := (Ext.refl [] wd).alloc (.cells #[.int .u8 0, .int .u8 0, .int .u8 0, .int .u8 0, .int .u8 0, .int .u8 0, .int .u8 0, .int .u8 0, .int .u8 0, .int .u8 0, .int .u8 0, .int .u8 0, .int .u8 0, .int .u8 0, .int .u8 0, .int .u8 0, .int .u8 0, .int .u8 0, .int .u8 0, .int .u8 0, .int .u8 0, .int .u8 0, .int .u8 0, .int .u8 0, .int .u8 0, .int .u8 0, .int .u8 0, .int .u8 0, .int .u8 0, .int .u8 0, .int .u8 0, .int .u8 0] 35)
        replace hHeld : Ext [] w10 (wd.alloc (.cells #[.int .u8 0, .int .u8 0, .int .u8 0, .int .u8 0, .int .u8 0, .int .u8 0, .int .u8 0, .int .u8 0, .int .u8 0, .int .u8 0, .int .u8 0, .int .u8 0, .int .u8 0, .int .u8 0, .int .u8 0, .int .u8 0, .int .u8 0, .int .u8 0, .int .u8 0, .int .u8 0, .int .u8 0, .int .u8 0, .int .u8 0, .int .u8 0, .int .u8 0, .int .u8 0, .int .u8 0, .int .u8 0, .int .u8 0, .int .u8 0, .int .u8 0, .int .u8 0] 35)) := hHeld
        have hzQ : (wd.alloc (.cells #[.int .u8 0, .int .u8 0, .int .u8 0, .int .u8 0, .int .u8 0, .int .u8 0, .int .u8 0, .int .u8 0, .int .u8 0, .int .u8 0, .int .u8 0, .int .u8 0, .int .u8 0, .int .u8 0, .int .u8 0, .int .u8 0, .int .u8 0, .int .u8 0, .int .u8 0, .int .u8 0, .int .u8 0, .int .u8 0, .int .u8 0, .int .u8 0, .int .u8 0, .int .u8 0, .int .u8 0, .int .u8 0, .int .u8 0, .int .u8 0, .int .u8 0, .int .u8 0] 35)).heap.size = wd.heap.size + 1 := by simp
        generalize wd.alloc (.cells #[.int .u8 0, .int .u8 0, .int .u8 0, .int .u8 0, .int .u8 0, .int .u8 0, .int .u8 0, .int .u8 0, .int .u8 0, .int .u8 0, .int .u8 0, .int .u8 0, .int .u8 0, .int .u8 0, .int .u8 0, .int .u8 0, .int .u8 0, .int .u8 0, .int .u8 0, .int .u8 0, .int .u8 0, .int .u8 0, .int .u8 0, .int .u8 0, .int .u8 0, .int .u8 0, .int .u8 0, .int .u8 0, .int .u8 0, .int .u8 0, .int .u8 0, .int .u8 0] 35) = wQ at hqQ hxQ hzQ hHeld ⊢
        obtain ⟨Q, hsQ⟩ : ∃ p, wd.heap.size = p := ⟨_, rfl⟩
        rw [hsQ] at hqQ hgeQ hzQ ⊢
        have HzQ := Hs.hid hzQ
        clear hzQ hsQ
        refine wpAnyH_ready (rs := [7, 13]) (by kernel_rfl) (by simp) ?_
        refine AllReadyH.cons rfl (fun K hK => ?_) (AllReadyH.cons rfl (fun K hK => ?_) AllReadyH.nil)
        · go_simp
          (go_at_call 34; have hge7 := Ext.size hHeld; (with_reducible refine (IH.out _ (HLA.out _ hHeld) (HSU.out _ hHeld)).mono ?_); intro e w7 hr; unfold SideE at hr; obtain ⟨x1, y1, v1, ps1, ok1, rfl, hr1, hO1, hg1, hn1, hx7⟩ := hr)
          go_wp2_with fail
          refine hK.out _ _ ?_ (fun hHeld => ?_)
          · ((try dsimp only); exact Ext.trans0 hHeld hx7)
          clear hK K
          try simp only [Act.put, List.getElem_toArray, List.getElem_cons_succ, List.getElem_cons_zero, List.setIfInBounds_toArray, List.set_cons_zero, List.set_cons_succ]
          replace hHeld : Ext [] w10 w7 := hHeld
          replace hg1 : ∀ g, v1.ownBlock = some g → w10.heap.size ≤ g := fun g hg => Nat.le_trans (by have := hge7; omega) (hg1 g hg)
          refine wpAnyH_take (i := 8) (v := ?_) rfl (by kernel_rfl) (by kernel_rfl) (by kernel_rfl) (fun _ _ _ h => h) (Or.inl ⟨by rfl, ?_⟩) (by assumption) ?_
          rotate_left
          · (intro w hSw; (try dsimp only at hSw); first | (go_simp; done) | (go_simp; with_reducible rfl))
          try simp only [Act.put, List.getElem_toArray, List.getElem_cons_succ, List.getElem_cons_zero, List.setIfInBounds_toArray, List.set_cons_zero, List.set_cons_succ]
          refine wpAnyH_take (i := 9) (v := ?_) rfl (by kernel_rfl) (by kernel_rfl) (by kernel_rfl) (fun _ _ _ h => h) (Or.inl ⟨by rfl, ?_⟩) (by assumption) ?_
          rotate_left
          · (intro w hSw; (try dsimp only at hSw); first | (go_simp; done) | (go_simp; with_reducible rfl))
          try simp only [Act.put, List.getElem_toArray, List.getElem_cons_succ, List.getElem_cons_zero, List.setIfInBounds_toArray, List.set_cons_zero, List.set_cons_succ]
          refine wpAnyH_take (i := 10) (v := ?_) rfl (by kernel_rfl) (by kernel_rfl) (by kernel_rfl) (fun _ _ _ h => h) (Or.inl ⟨by rfl, ?_⟩) (by assumption) ?_
          rotate_left
          · (intro w hSw; (try dsimp only at hSw); first | (go_simp; done) | (go_simp; with_reducible rfl))
          try simp only [Act.put, List.getElem_toArray, List.getElem_cons_succ, List.getElem_cons_zero, List.setIfInBounds_toArray, List.set_cons_zero, List.set_cons_succ]
          refine wpAnyH_take (i := 11) (v := ?_) rfl (by kernel_rfl) (by kernel_rfl) (by kernel_rfl) (fun _ _ _ h => h) (Or.inl ⟨by rfl, ?_⟩) (by assumption) ?_
          rotate_left
          · (intro w hSw; (try dsimp only at hSw); first | (go_simp; done) | (go_simp; with_reducible rfl))
          try simp only [Act.put, List.getElem_toArray, List.getElem_cons_succ, List.getElem_cons_zero, List.setIfInBounds_toArray, List.set_cons_zero, List.set_cons_succ]
          refine wpAnyH_take (i := 12) (v := ?_) rfl (by kernel_rfl) (by kernel_rfl) (by kernel_rfl) (fun _ _ _ h => h) (Or.inl ⟨by rfl, ?_⟩) (by assumption) ?_
          rotate_left
          · (intro w hSw; (try dsimp only at hSw); first | (go_simp; done) | (go_simp; with_reducible rfl))
          try simp only [Act.put, List.getElem_toArray, List.getElem_cons_succ, List.getElem_cons_zero, List.setIfInBounds_toArray, List.set_cons_zero, List.set_cons_succ]
          refine wpAnyH_ready (rs := [13]) (by kernel_rfl) (by simp) ?_
          refine AllReadyH.cons rfl (fun K hK => ?_) AllReadyH.nil
          rw [if_pos (by rfl)]
          (go_simp; have hgeP := Ext.size hHeld)
          refine hK.out _ _ ?_ (fun hHeld => ?_)
          · ((try dsimp only); exact Ext.alloc hHeld _)
          clear hK K
          try simp only [Act.put, List.getElem_toArray, List.getElem_cons_succ, List.getElem_cons_zero, List.setIfInBounds_toArray, List.set_cons_zero, List.set_cons_succ]
          have hqP := heap_new w7 (.cells #[.int .u8 0, .int .u8 0, .int .u8 0, .int .u8 0, .int .u8 0, .int .u8 0, .int .u8 0, .int .u8 0, .int .u8 0, .int .u8 0, .int .u8 0, .int .u8 0, .int .u8 0, .int .u8 0, .int .u8 0, .int .u8 0, .int .u8 0, .int .u8 0, .int .u8 0, .int .u8 0, .int .u8 0, .int .u8 0, .int .u8 0, .int .u8 0, .int .u8 0, .int .u8 0, .int .u8 0, .int .u8 0, .int .u8 0, .int .u8 0, .int .u8 0, .int .u8 0] 35)
          have hxP := (Ext.refl [] w7).alloc (.cells #[.int .u8 0, .int .u8 0, .int .u8 0, .int .u8 0, .int .u8 0, .int .u8 0, .int .u8 0, .int .u8 0, .int .u8 0, .int .u8 0, .int .u8 0, .int .u8 0, .int .u8 0, .int .u8 0, .int .u8 0, .int .u8 0, .int .u8 0, .int .u8 0, .int .u8 0, .int .u8 0, .int .u8 0, .int .u8 0, .int .u8 0, .int .u8 0, .int .u8 0, .int .u8 0, .int .u8 0, .int .u8 0, .int .u8 0, .int .u8 0, .int .u8 0, .int .u8 0] 35)
          replace hHeld : Ext [] w10 (w7.alloc (.cells #[.int .u8 0, .int .u8 0, .int .u8 0, .int .u8 0, .int .u8 0, .int .u8 0, .int .u8 0, .int .u8 0, .int .u8 0, .int .u8 0, .int .u8 0, .int .u8 0, .int .u8 0, .int .u8 0, .int .u8 0, .int .u8 0, .int .u8 0, .int .u8 0, .int .u8 0, .int .u8 0, .int .u8 0, .int .u8 0, .int .u8 0, .int .u8 0, .int .u8 0, .int .u8 0, .int .u8 0, .int .u8 0, .int .u8 0, .int .u8 0, .int .u8 0, .int .u8 0] 35)) := hHeld
          have hzP : (w7.alloc (.cells #[.int .u8 0, .int .u8 0, .int .u8 0, .int .u8 0, .int .u8 0, .int .u8 0, .int .u8 0, .int .u8 0, .int .u8 0, .int .u8 0, .int .u8 0, .int .u8 0, .int .u8 0, .int .u8 0, .int .u8 0, .int .u8 0, .int .u8 0, .int .u8 0, .int .u8 0, .int .u8 0, .int .u8 0, .int .u8 0, .int .u8 0, .int .u8 0, .int .u8 0, .int .u8 0, .int .u8 0, .int .u8 0, .int .u8 0, .int .u8 0, .int .u8 0, .int .u8 0] 35)).heap.size = w7.heap.size + 1 := by simp
          generalize w7.alloc (.cells #[.int .u8 0, .int .u8 0, .int .u8 0, .int .u8 0, .int .u8 0, .int .u8 0, .int .u8 0, .int .u8 0, .int .u8 0, .int .u8 0, .int .u8 0, .int .u8 0, .int .u8 0, .int .u8 0, .int .u8 0, .int .u8 0, .int .u8 0, .int .u8 0, .int .u8 0, .int .u8 0, .int .u8 0, .int .u8 0, .int .u8 0, .int .u8 0, .int .u8 0, .int .u8 0, .int .u8 0, .int .u8 0, .int .u8 0, .int .u8 0, .int .u8 0, .int .u8 0] 35) = wP at hqP hxP hzP hHeld ⊢
          obtain ⟨P, hsP⟩ : ∃ p, w7.heap.size = p := ⟨_, rfl⟩
          rw [hsP] at hqP hgeP hzP ⊢
          have HzP := Hs.hid hzP
          have hgtQP : wQ.heap.size ≤ P := by have := hsP; have := hx7.size; omega
          clear hzP hsP
          have hfP := hqP
          have hfQ := (hxP.same (hx7.same hqQ List.not_mem_nil) List.not_mem_nil)
          have hfO := (hO1.ext hxP (fun _ _ => List.not_mem_nil))
          have hne : P ≠ Q := by have h1 := lt_of_heap hqP; have h2 := lt_of_heap hqQ; have h3 := HzP.out; have h4 := HzQ.out; have h5 := hgtQP; omega
          have hEE := hHeld
          refine wpAnyH_ready (rs := [15]) (by kernel_rfl) (by simp) ?_
          refine AllReadyH.cons rfl (fun K hK => ?_) AllReadyH.nil
          rw [if_pos (by rfl)]
          (refine wp_store_row 35 _ _ rfl P x1.V rfl rfl _ _ hfP (by rw [x1.size]; exact infoSum) (by rw [x1.size]; rfl) x1.one ?_)
          refine hK.out _ _ ?_ (fun hHeld => ?_)
          · ((try dsimp only); exact Ext.trans hHeld (setRow_ext _ _) (fun g hg => .inr (by simp at hg; omega)))
          clear hK K
          try simp only [Act.put, List.getElem_toArray, List.getElem_cons_succ, List.getElem_cons_zero, List.setIfInBounds_toArray, List.set_cons_zero, List.set_cons_succ]
          refine wpAnyH_ready (rs := [16]) (by kernel_rfl) (by simp) ?_
          refine AllReadyH.cons rfl (fun K hK => ?_) AllReadyH.nil
          rw [if_pos (by rfl)]
          (refine wp_store_row 35 _ _ rfl Q y1.V rfl rfl _ _ (setRow_keep _ hfQ (Ne.symm hne)) (by rw [y1.size]; exact infoSum) (by rw [y1.size]; rfl) y1.one ?_)
          refine hK.out _ _ ?_ (fun hHeld => ?_)
          · ((try dsimp only); exact Ext.trans hHeld (setRow_ext _ _) (fun g hg => .inr (by simp at hg; omega)))
          clear hK K
          try simp only [Act.put, List.getElem_toArray, List.getElem_cons_succ, List.getElem_cons_zero, List.setIfInBounds_toArray, List.set_cons_zero, List.set_cons_succ]
          refine wpAnyH_take (i := 17) (v := ?_) rfl (by kernel_rfl) (by kernel_rfl) (by kernel_rfl) (fun _ _ _ h => h) (Or.inl ⟨by rfl, ?_⟩) (by assumption) ?_
          rotate_left
          · (intro w hSw; (try dsimp only at hSw); first | (go_simp; done) | (go_simp; with_reducible rfl))
          try simp only [Act.put, List.getElem_toArray, List.getElem_cons_succ, List.getElem_cons_zero, List.setIfInBounds_toArray, List.set_cons_zero, List.set_cons_succ]
          refine wpAnyH_take (i := 18) (v := ?_) rfl (by kernel_rfl) (by kernel_rfl) (by kernel_rfl) (fun _ _ _ h => h) (Or.inl ⟨by rfl, ?_⟩) (by assumption) ?_
          rotate_left
          · (intro w hSw; (try dsimp only at hSw); first | (go_simp; done) | (go_simp; with_reducible rfl))
          try simp only [Act.put, List.getElem_toArray, List.getElem_cons_succ, List.getElem_cons_zero, List.setIfInBounds_toArray, List.set_cons_zero, List.set_cons_succ]
          refine wpAnyH_done (by kernel_rfl) ?_ _
          refine NoPanic.normal ?_
          go_wp2
          go_meet
          exact ⟨P, Q, x1, y1, v1, ps1, ok1, rfl, rfl, rfl, rfl, setRow_keep _ (setRow_heap _ _ _ _ _ _ hfP) hne, setRow_heap _ _ _ _ _ _ (setRow_keep _ hfQ (Ne.symm hne)), Hs.hid ⟨hr1.out, (hfO.set hfP _).set (setRow_keep _ hfQ (Ne.symm hne)) _, fun g hg => Nat.le_trans HWW.out (hg1 g hg), hn1, hgeP, hgeQ⟩, ((hEE.trans (setRow_ext _ _) (fun g hg => .inr (by simp at hg; omega))).trans (setRow_ext _ _) (fun g hg => .inr (by simp at hg; omega)))⟩
        · rw [if_pos (by rfl)]
          (go_simp; have hgeP := Ext.size hHeld)
          refine hK.out _ _ ?_ (fun hHeld => ?_)
          · ((try dsimp only); exact Ext.alloc hHeld _)
          clear hK K
          try simp only [Act.put, List.getElem_toArray, List.getElem_cons_succ, List.getElem_cons_zero, List.setIfInBounds_toArray, List.set_cons_zero, List.set_cons_succ]
          have hqP := heap_new wQ (.cells #[.int .u8 0, .int .u8 0, .int .u8 0, .int .u8 0, .int .u8 0, .int .u8 0, .int .u8 0, .int .u8 0, .int .u8 0, .int .u8 0, .int .u8 0, .int .u8 0, .int .u8 0, .int .u8 0, .int .u8 0, .int .u8 0, .int .u8 0, .int .u8 0, .int .u8 0, .int .u8 0, .int .u8 0, .int .u8 0, .int .u8 0, .int .u8 0, .int .u8 0, .int .u8 0, .int .u8 0, .int .u8 0, .int .u8 0, .int .u8 0, .int .u8 0, .int .u8 0] 35)
          have hxP := (Ext.refl [] wQ).alloc (.cells #[.int .u8 0, .int .u8 0, .int .u8 0, .int .u8 0, .int .u8 0, .int .u8 0, .int .u8 0, .int .u8 0, .int .u8 0, .int .u8 0, .int .u8 0, .int .u8 0, .int .u8 0, .int .u8 0, .int .u8 0, .int .u8 0, .int .u8 0, .int .u8 0, .int .u8 0, .int .u8 0, .int .u8 0, .int .u8 0, .int .u8 0, .int .u8 0, .int .u8 0, .int .u8 0, .int .u8 0, .int .u8 0, .int .u8 0, .int .u8 0, .int .u8 0, .int .u8 0] 35)
          replace hHeld : Ext [] w10 (wQ.alloc (.cells #[.int .u8 0, .int .u8 0, .int .u8 0, .int .u8 0, .int .u8 0, .int .u8 0, .int .u8 0, .int .u8 0, .int .u8 0, .int .u8 0, .int .u8 0, .int .u8 0, .int .u8 0, .int .u8 0, .int .u8 0, .int .u8 0, .int .u8 0, .int .u8 0, .int .u8 0, .int .u8 0, .int .u8 0, .int .u8 0, .int .u8 0, .int .u8 0, .int .u8 0, .int .u8 0, .int .u8 0, .int .u8 0, .int .u8 0, .int .u8 0, .int .u8 0, .int .u8 0] 35)) := hHeld
          have hzP : (wQ.alloc (.cells #[.int .u8 0, .int .u8 0, .int .u8 0, .int .u8 0, .int .u8 0, .int .u8 0, .int .u8 0, .int .u8 0, .int .u8 0, .int .u8 0, .int .u8 0, .int .u8 0, .int .u8 0, .int .u8 0, .int .u8 0, .int .u8 0, .int .u8 0, .int .u8 0, .int .u8 0, .int .u8 0, .int .u8 0, .int .u8 0, .int .u8 0, .int .u8 0, .int .u8 0, .int .u8 0, .int .u8 0, .int .u8 0, .int .u8 0, .int .u8 0, .int .u8 0, .int .u8 0] 35)).heap.size = wQ.heap.size + 1 := by simp
          generalize wQ.alloc (.cells #[.int .u8 0, .int .u8 0, .int .u8 0, .int .u8 0, .int .u8 0, .int .u8 0, .int .u8 0, .int .u8 0, .int .u8 0, .int .u8 0, .int .u8 0, .int .u8 0, .int .u8 0, .int .u8 0, .int .u8 0, .int .u8 0, .int .u8 0, .int .u8 0, .int .u8 0, .int .u8 0, .int .u8 0, .int .u8 0, .int .u8 0, .int .u8 0, .int .u8 0, .int .u8 0, .int .u8 0, .int .u8 0, .int .u8 0, .int .u8 0, .int .u8 0, .int .u8 0] 35) = wP at hqP hxP hzP hHeld ⊢
          obtain ⟨P, hsP⟩ : ∃ p, wQ.heap.size = p := ⟨_, rfl⟩
          rw [hsP] at hqP hgeP hzP ⊢
          have HzP := Hs.hid hzP
          have hgtQP : wQ.heap.size ≤ P := by have := hsP; omega
          clear hzP hsP
          refine wpAnyH_ready (rs := [7]) (by kernel_rfl) (by simp) ?_
          refine AllReadyH.cons rfl (fun K hK => ?_) AllReadyH.nil
          go_simp
          (go_at_call 34; have hge7 := Ext.size hHeld; (with_reducible refine (IH.out _ (HLA.out _ hHeld) (HSU.out _ hHeld)).mono ?_); intro e w7 hr; unfold SideE at hr; obtain ⟨x1, y1, v1, ps1, ok1, rfl, hr1, hO1, hg1, hn1, hx7⟩ := hr)
          go_wp2_with fail
          refine hK.out _ _ ?_ (fun hHeld => ?_)
          · ((try dsimp only); exact Ext.trans0 hHeld hx7)
          clear hK K
          try simp only [Act.put, List.getElem_toArray, List.getElem_cons_succ, List.getElem_cons_zero, List.setIfInBounds_toArray, List.set_cons_zero, List.set_cons_succ]
          replace hHeld : Ext [] w10 w7 := hHeld
          replace hg1 : ∀ g, v1.ownBlock = some g → w10.heap.size ≤ g := fun g hg => Nat.le_trans (by have := hge7; omega) (hg1 g hg)
          refine wpAnyH_take (i := 8) (v := ?_) rfl (by kernel_rfl) (by kernel_rfl) (by kernel_rfl) (fun _ _ _ h => h) (Or.inl ⟨by rfl, ?_⟩) (by assumption) ?_
          rotate_left
          · (intro w hSw; (try dsimp only at hSw); first | (go_simp; done) | (go_simp; with_reducible rfl))
          try simp only [Act.put, List.getElem_toArray, List.getElem_cons_succ, List.getElem_cons_zero, List.setIfInBounds_toArray, List.set_cons_zero, List.set_cons_succ]
          refine wpAnyH_take (i := 9) (v := ?_) rfl (by kernel_rfl) (by kernel_rfl) (by kernel_rfl) (fun _ _ _ h => h) (Or.inl ⟨by rfl, ?_⟩) (by assumption) ?_
          rotate_left
          · (intro w hSw; (try dsimp only at hSw); first | (go_simp; done) | (go_simp; with_reducible rfl))
          try simp only [Act.put, List.getElem_toArray, List.getElem_cons_succ, List.getElem_cons_zero, List.setIfInBounds_toArray, List.set_cons_zero, List.set_cons_succ]
          refine wpAnyH_take (i := 10) (v := ?_) rfl (by kernel_rfl) (by kernel_rfl) (by kernel_rfl) (fun _ _ _ h => h) (Or.inl ⟨by rfl, ?_⟩) (by assumption) ?_
          rotate_left
          · (intro w hSw; (try dsimp only at hSw); first | (go_simp; done) | (go_simp; with_reducible rfl))
          try simp only [Act.put, List.getElem_toArray, List.getElem_cons_succ, List.getElem_cons_zero, List.setIfInBounds_toArray, List.set_cons_zero, List.set_cons_succ]
          refine wpAnyH_take (i := 11) (v := ?_) rfl (by kernel_rfl) (by kernel_rfl) (by kernel_rfl) (fun _ _ _ h => h) (Or.inl ⟨by rfl, ?_⟩) (by assumption) ?_
          rotate_left
          · (intro w hSw; (try dsimp only at hSw); first | (go_simp; done) | (go_simp; with_reducible rfl))
          try simp only [Act.put, List.getElem_toArray, List.getElem_cons_succ, List.getElem_cons_zero, List.setIfInBounds_toArray, List.set_cons_zero, List.set_cons_succ]
          refine wpAnyH_take (i := 12) (v := ?_) rfl (by kernel_rfl) (by kernel_rfl) (by kernel_rfl) (fun _ _ _ h => h) (Or.inl ⟨by rfl, ?_⟩) (by assumption) ?_
          rotate_left
          · (intro w hSw; (try dsimp only at hSw); first | (go_simp; done) | (go_simp; with_reducible rfl))
          try simp only [Act.put, List.getElem_toArray, List.getElem_cons_succ, List.getElem_cons_zero, List.setIfInBounds_toArray, List.set_cons_zero, List.set_cons_succ]
          have hfP := (hx7.same hqP List.not_mem_nil)
          have hfQ := (hx7.same (hxP.same hqQ List.not_mem_nil) List.not_mem_nil)
          have hfO := hO1
          have hne : P ≠ Q := by have h1 := lt_of_heap hqP; have h2 := lt_of_heap hqQ; have h3 := HzP.out; have h4 := HzQ.out; have h5 := hgtQP; omega
          have hEE := hHeld
          refine wpAnyH_ready (rs := [15]) (by kernel_rfl) (by simp) ?_
          refine AllReadyH.cons rfl (fun K hK => ?_) AllReadyH.nil
          rw [if_pos (by rfl)]
          (refine wp_store_row 35 _ _ rfl P x1.V rfl rfl _ _ hfP (by rw [x1.size]; exact infoSum) (by rw [x1.size]; rfl) x1.one ?_)
          refine hK.out _ _ ?_ (fun hHeld => ?_)
          · ((try dsimp only); exact Ext.trans hHeld (setRow_ext _ _) (fun g hg => .inr (by simp at hg; omega)))
          clear hK K
          try simp only [Act.put, List.getElem_toArray, List.getElem_cons_succ, List.getElem_cons_zero, List.setIfInBounds_toArray, List.set_cons_zero, List.set_cons_succ]
          refine wpAnyH_ready (rs := [16]) (by kernel_rfl) (by simp) ?_
          refine AllReadyH.cons rfl (fun K hK => ?_) AllReadyH.nil
          rw [if_pos (by rfl)]
          (refine wp_store_row 35 _ _ rfl Q y1.V rfl rfl _ _ (setRow_keep _ hfQ (Ne.symm hne)) (by rw [y1.size]; exact infoSum) (by rw [y1.size]; rfl) y1.one ?_)
          refine hK.out _ _ ?_ (fun hHeld => ?_)
          · ((try dsimp only); exact Ext.trans hHeld (setRow_ext _ _) (fun g hg => .inr (by simp at hg; omega)))
          clear hK K
          try simp only [Act.put, List.getElem_toArray, List.getElem_cons_succ, List.getElem_cons_zero, List.setIfInBounds_toArray, List.set_cons_zero, List.set_cons_succ]
          refine wpAnyH_take (i := 17) (v := ?_) rfl (by kernel_rfl) (by kernel_rfl) (by kernel_rfl) (fun _ _ _ h => h) (Or.inl ⟨by rfl, ?_⟩) (by assumption) ?_
          rotate_left
          · (intro w hSw; (try dsimp only at hSw); first | (go_simp; done) | (go_simp; with_reducible rfl))
          try simp only [Act.put, List.getElem_toArray, List.getElem_cons_succ, List.getElem_cons_zero, List.setIfInBounds_toArray, List.set_cons_zero, List.set_cons_succ]
          refine wpAnyH_take (i := 18) (v := ?_) rfl (by kernel_rfl) (by kernel_rfl) (by kernel_rfl) (fun _ _ _ h => h) (Or.inl ⟨by rfl, ?_⟩) (by assumption) ?_
          rotate_left
          · (intro w hSw; (try dsimp only at hSw); first | (go_simp; done) | (go_simp; with_reducible rfl))
          try simp only [Act.put, List.getElem_toArray, List.getElem_cons_succ, List.getElem_cons_zero, List.setIfInBounds_toArray, List.set_cons_zero, List.set_cons_succ]
          refine wpAnyH_done (by kernel_rfl) ?_ _
          refine NoPanic.normal ?_
          go_wp2
          go_meet
          exact ⟨P, Q, x1, y1, v1, ps1, ok1, rfl, rfl, rfl, rfl, setRow_keep _ (setRow_heap _ _ _ _ _ _ hfP) hne, setRow_heap _ _ _ _ _ _ (setRow_keep _ hfQ (Ne.symm hne)), Hs.hid ⟨hr1.out, (hfO.set hfP _).set (setRow_keep _ hfQ (Ne.symm hne)) _, fun g hg => Nat.le_trans HWW.out (hg1 g hg), hn1, hgeP, hgeQ⟩, ((hEE.trans (setRow_ext _ _) (fun g hg => .inr (by simp at hg; omega))).trans (setRow_ext _ _) (fun g hg => .inr (by simp at hg; omega)))⟩
    case rest =>
      obtain ⟨P, Q, x1, y1, v1, ps1, ok1, rfl, rfl, rfl, rfl, hP, hQ, HCC, hE12⟩ := hcut
      have hYX := hE12.same hY List.not_mem_nil
      have hBX := hE12.same hB List.not_mem_nil
      have hCX := hE12.same hC List.not_mem_nil
      have HPN := Hs.hid (show (P ≠ B ∧ Q ≠ B ∧ Yb ≠ B) ∧ (P ≠ C ∧ Q ≠ C ∧ Yb ≠ C) by have q1 := lt_of_heap hB; have q2 := lt_of_heap hC; have q3 := HCC.out.2.2.2.2.1; have q4 := HCC.out.2.2.2.2.2; have q5 := HYC.out; have q6 := HAB.out; refine ⟨⟨?_, ?_, ?_⟩, ?_, ?_, ?_⟩ <;> omega)
      have HNE := Hs.hid (show True ∧ True ∧ C ≠ B by have q6 := HAB.out; exact ⟨trivial, trivial, by omega⟩)
      have HOW := Hs.hid HCC.out.2.1
      have HIN := Hs.hid (And.intro HCC.out.2.2.1 trivial)
      have HB := Hs.hid (show ps1.length ≤ 40 by have q1 := HCC.out.2.2.2.1; have q2 := HKN.out; omega)
      have HB2 := Hs.hid (show ps1.length + 1 ≤ n by have q1 := HCC.out.2.2.2.1; have q2 := HKN.out; omega)
      replace HE := Hs.hid (HE.out.trans0 hE12)
      have HEQ := Hs.hid (HSP.out _ _ _ _ HCC.out.1)
      obtain ⟨i0, hi0, hz0, hz1, hz2⟩ := info_parts infoPair
      have HI := Hs.hid (And.intro hi0 (And.intro hz0 (And.intro hz1 hz2)))
      obtain ⟨tx, htx⟩ : ∃ tx, node2 y1.s y.s = tx := ⟨_, rfl⟩
      have HND := Hs.hid (fun w => nodeC_eq y1 y tx htx w)
      have HTX := Hs.hid htx
      clear hi0 hz0 hz1 hz2 htx hE12 hA hB hC hY HCC
      go_upto_region 13 with fail
      refine wp_region_noPanic ?_
      refine wp_region_held_drew (S := (fun w' => w'.heap[P]? = some (.cells x1.V 35 (0, 0)) ∧ w'.heap[Q]? = some (.cells y1.V 35 (0, 0)) ∧ w'.heap[Yb]? = some (.cells y.V 35 (0, 0)))) (by kernel_rfl) ?_ (fun hHeld => ?_)
      · ((try dsimp only); exact ⟨hP, hQ, hYX⟩)
      refine wpAnyH_take (i := 0) (v := _) rfl (by kernel_rfl) (by kernel_rfl) (by kernel_rfl) (fun _ _ _ h => h) (yieldsIf_of (.agg x1.V) (by rfl) (fun w' hw => exec_load_rowV (.tmp 19) rfl P rfl x1 w' ⟨_, hw.1⟩)) (by assumption) ?_
      try simp only [Act.put, List.getElem_toArray, List.getElem_cons_succ, List.getElem_cons_zero, List.setIfInBounds_toArray, List.set_cons_zero, List.set_cons_succ]
      refine wpAnyH_take (i := 1) (v := _) rfl (by kernel_rfl) (by kernel_rfl) (by kernel_rfl) (fun _ _ _ h => h) (yieldsIf_of (.agg y1.V) (by rfl) (fun w' hw => exec_load_rowV (.tmp 20) rfl Q rfl y1 w' ⟨_, hw.2.1⟩)) (by assumption) ?_
      try simp only [Act.put, List.getElem_toArray, List.getElem_cons_succ, List.getElem_cons_zero, List.setIfInBounds_toArray, List.set_cons_zero, List.set_cons_succ]
      refine wpAnyH_take (i := 2) (v := _) rfl (by kernel_rfl) (by kernel_rfl) (by kernel_rfl) (fun _ _ _ h => h) (yieldsIf_of (.agg y.V) (by rfl) (fun w' hw => exec_load_rowV (.tmp 15) rfl Yb rfl y w' ⟨_, hw.2.2⟩)) (by assumption) ?_
      try simp only [Act.put, List.getElem_toArray, List.getElem_cons_succ, List.getElem_cons_zero, List.setIfInBounds_toArray, List.set_cons_zero, List.set_cons_succ]
      refine wpAnyH_take (i := 4) (v := ?_) rfl (by kernel_rfl) (by kernel_rfl) (by kernel_rfl) (fun _ _ _ h => h) (Or.inl ⟨by rfl, ?_⟩) (by assumption) ?_
      rotate_left
      · (intro w hSw; (try dsimp only at hSw); first | (go_simp; done) | (go_simp; with_reducible rfl))
      try simp only [Act.put, List.getElem_toArray, List.getElem_cons_succ, List.getElem_cons_zero, List.setIfInBounds_toArray, List.set_cons_zero, List.set_cons_succ]
      refine wpAnyH_take (i := 5) (v := ?_) rfl (by kernel_rfl) (by kernel_rfl) (by kernel_rfl) (fun _ _ _ h => h) (Or.inl ⟨by rfl, ?_⟩) (by assumption) ?_
      rotate_left
      · (intro w hSw; (try dsimp only at hSw); first | (go_simp; done) | (go_simp; with_reducible rfl))
      try simp only [Act.put, List.getElem_toArray, List.getElem_cons_succ, List.getElem_cons_zero, List.setIfInBounds_toArray, List.set_cons_zero, List.set_cons_succ]
      refine wpAnyH_take (i := 6) (v := _) rfl (by kernel_rfl) (by kernel_rfl) (by kernel_rfl) (fun _ _ _ h => h) (yieldsIf_of (.agg y1.V) (by rfl) (fun w' hw => exec_load_rowV (.tmp 20) rfl Q rfl y1 w' ⟨_, hw.2.1⟩)) (by assumption) ?_
      try simp only [Act.put, List.getElem_toArray, List.getElem_cons_succ, List.getElem_cons_zero, List.setIfInBounds_toArray, List.set_cons_zero, List.set_cons_succ]
      refine wpAnyH_take (i := 7) (v := _) rfl (by kernel_rfl) (by kernel_rfl) (by kernel_rfl) (fun _ _ _ h => h) (yieldsIf_of (.agg y.V) (by rfl) (fun w' hw => exec_load_rowV (.tmp 15) rfl Yb rfl y w' ⟨_, hw.2.2⟩)) (by assumption) ?_
      try simp only [Act.put, List.getElem_toArray, List.getElem_cons_succ, List.getElem_cons_zero, List.setIfInBounds_toArray, List.set_cons_zero, List.set_cons_succ]
      refine wpAnyH_take (i := 12) (v := ?_) rfl (by kernel_rfl) (by kernel_rfl) (by kernel_rfl) (fun _ _ _ h => h) (Or.inl ⟨by rfl, ?_⟩) (by assumption) ?_
      rotate_left
      · (intro w hSw; (try dsimp only at hSw); first | (go_simp; done) | (go_simp; with_reducible rfl))
      try simp only [Act.put, List.getElem_toArray, List.getElem_cons_succ, List.getElem_cons_zero, List.setIfInBounds_toArray, List.set_cons_zero, List.set_cons_succ]
      refine wpAnyH_ready (rs := [3]) (by kernel_rfl) (by simp) ?_
      refine AllReadyH.cons rfl (fun K hK => ?_) AllReadyH.nil
      go_simp
      (go_at_call 24; (with_reducible refine (nodeY_any y1 y _).mono ?_); rintro e w3 ⟨z3, rfl, hz3, hx3⟩)
      go_wp2_with fail
      refine hK.out _ _ ?_ (fun hHeld => ?_)
      · ((try dsimp only); exact ⟨hx3.same hHeld.1 List.not_mem_nil, hx3.same hHeld.2.1 List.not_mem_nil, hx3.same hHeld.2.2 List.not_mem_nil⟩)
      clear hK K
      try simp only [Act.put, List.getElem_toArray, List.getElem_cons_succ, List.getElem_cons_zero, List.setIfInBounds_toArray, List.set_cons_zero, List.set_cons_succ]
      refine wpAnyH_ready (rs := [8]) (by kernel_rfl) (by simp) ?_
      refine AllReadyH.cons rfl (fun K hK => ?_) AllReadyH.nil
      go_simp
      (go_at_call 28; (with_reducible refine (HND.out _).mono ?_); rintro e w8 ⟨rfl, hx8⟩; have hE8 : Ext [] wc w8 := ((Ext.refl [] wc).drew.trans0 hx3).trans0 hx8; have hO8 := HOW.out.ext (hE8.alloc (.cells #[.string T0, .string tx] 43)) (fun _ _ => List.not_mem_nil))
      go_wp2_with fail
      refine hK.out _ _ ?_ (fun hHeld => ?_)
      · ((try dsimp only); exact ⟨hx8.same hHeld.1 List.not_mem_nil, hx8.same hHeld.2.1 List.not_mem_nil, hx8.same hHeld.2.2 List.not_mem_nil⟩)
      clear hK K
      try simp only [Act.put, List.getElem_toArray, List.getElem_cons_succ, List.getElem_cons_zero, List.setIfInBounds_toArray, List.set_cons_zero, List.set_cons_succ]
      refine wpAnyH_take (i := 9) (v := ?_) rfl (by kernel_rfl) (by kernel_rfl) (by kernel_rfl) (fun _ _ _ h => h) (Or.inl ⟨by rfl, ?_⟩) (by assumption) ?_
      rotate_left
      · (intro w hSw; (try dsimp only at hSw); first | (go_simp; done) | (go_simp; with_reducible rfl))
      try simp only [Act.put, List.getElem_toArray, List.getElem_cons_succ, List.getElem_cons_zero, List.setIfInBounds_toArray, List.set_cons_zero, List.set_cons_succ]
      refine wpAnyH_ready (rs := [10]) (by kernel_rfl) (by simp) ?_
      refine AllReadyH.cons rfl (fun K hK => ?_) AllReadyH.nil
      rw [if_pos (by rfl)]
      go_simp
      refine hK.out _ _ ?_ (fun hHeld => ?_)
      · ((try dsimp only); exact ⟨heap_old' _ _ hHeld.1, heap_old' _ _ hHeld.2.1, heap_old' _ _ hHeld.2.2⟩)
      clear hK K
      try simp only [Act.put, List.getElem_toArray, List.getElem_cons_succ, List.getElem_cons_zero, List.setIfInBounds_toArray, List.set_cons_zero, List.set_cons_succ]
      refine wpAnyH_ready (rs := [11]) (by kernel_rfl) (by simp) ?_
      refine AllReadyH.cons rfl (fun K hK => ?_) AllReadyH.nil
      (refine step_append_own rfl (.tmp 95) (.tmp 101) 39 rfl 43 i0 _ 2 32 Try.underlying39 HI.out.1 HI.out.2.1 HI.out.2.2.1 HI.out.2.2.2 rfl (by decide) v1 ps1.length (flatP ps1) rfl hO8 ⟨w8.heap.size, 0, none⟩ 1 1 [.string T0, .string tx] rfl rfl (news_new w8 _ _) (by simp [Value.oneCell']) (by unfold maxLen; have := HB.out; omega) (by have := HB.out; omega) ?_; intro ao9 cap9 w9 hO9 hx9 hf9; have hB9 := hx9.same ((hE8.alloc (.cells #[.string T0, .string tx] 43)).same hBX List.not_mem_nil) (own_farS hO8 ((hE8.alloc (.cells #[.string T0, .string tx] 43)).same hBX List.not_mem_nil) (by decide)); have hC9 := hx9.same ((hE8.alloc (.cells #[.string T0, .string tx] 43)).same hCX List.not_mem_nil) (own_farS hO8 ((hE8.alloc (.cells #[.string T0, .string tx] 43)).same hCX List.not_mem_nil) (by decide)))
      refine hK.out _ _ ?_ (fun hHeld => ?_)
      · ((try dsimp only); exact ⟨hx9.same hHeld.1 (own_farS hO8 hHeld.1 (by decide)), hx9.same hHeld.2.1 (own_farS hO8 hHeld.2.1 (by decide)), hx9.same hHeld.2.2 (own_farS hO8 hHeld.2.2 (by decide))⟩)
      clear hK K
      try simp only [Act.put, List.getElem_toArray, List.getElem_cons_succ, List.getElem_cons_zero, List.setIfInBounds_toArray, List.set_cons_zero, List.set_cons_succ]
      refine wpAnyH_ready (rs := [13]) (by kernel_rfl) (by simp) ?_
      refine AllReadyH.cons rfl (fun K hK => ?_) AllReadyH.nil
      rw [if_pos (by rfl)]
      (refine wp_store_row 35 _ _ rfl B x1.V rfl rfl _ _ hB9 (by rw [x1.size]; exact infoSum) (by rw [x1.size]; rfl) x1.one ?_)
      refine hK.out _ _ ?_ (fun hHeld => ?_)
      · ((try dsimp only); exact ⟨setRow_keep _ hHeld.1 HPN.out.1.1, setRow_keep _ hHeld.2.1 HPN.out.1.2.1, setRow_keep _ hHeld.2.2 HPN.out.1.2.2⟩)
      clear hK K
      try simp only [Act.put, List.getElem_toArray, List.getElem_cons_succ, List.getElem_cons_zero, List.setIfInBounds_toArray, List.set_cons_zero, List.set_cons_succ]
      refine wpAnyH_ready (rs := [14]) (by kernel_rfl) (by simp) ?_
      refine AllReadyH.cons rfl (fun K hK => ?_) AllReadyH.nil
      rw [if_pos (by rfl)]
      (refine wp_store_row 35 _ _ rfl C z3.V rfl rfl _ _ (setRow_keep _ hC9 HNE.out.2.2) (by rw [z3.size]; exact infoSum) (by rw [z3.size]; rfl) z3.one ?_)
      refine hK.out _ _ ?_ (fun hHeld => ?_)
      · ((try dsimp only); exact ⟨setRow_keep _ hHeld.1 HPN.out.2.1, setRow_keep _ hHeld.2.1 HPN.out.2.2.1, setRow_keep _ hHeld.2.2 HPN.out.2.2.2⟩)
      clear hK K
      try simp only [Act.put, List.getElem_toArray, List.getElem_cons_succ, List.getElem_cons_zero, List.setIfInBounds_toArray, List.set_cons_zero, List.set_cons_succ]
      refine wpAnyH_take (i := 15) (v := ?_) rfl (by kernel_rfl) (by kernel_rfl) (by kernel_rfl) (fun _ _ _ h => h) (Or.inl ⟨by rfl, ?_⟩) (by assumption) ?_
      rotate_left
      · (intro w hSw; (try dsimp only at hSw); first | (go_simp; done) | (go_simp; with_reducible rfl))
      try simp only [Act.put, List.getElem_toArray, List.getElem_cons_succ, List.getElem_cons_zero, List.setIfInBounds_toArray, List.set_cons_zero, List.set_cons_succ]
      refine wpAnyH_take (i := 16) (v := ?_) rfl (by kernel_rfl) (by kernel_rfl) (by kernel_rfl) (fun _ _ _ h => h) (Or.inl ⟨by rfl, ?_⟩) (by assumption) ?_
      rotate_left
      · (intro w hSw; (try dsimp only at hSw); first | (go_simp; done) | (go_simp; with_reducible rfl))
      try simp only [Act.put, List.getElem_toArray, List.getElem_cons_succ, List.getElem_cons_zero, List.setIfInBounds_toArray, List.set_cons_zero, List.set_cons_succ]
      refine wpAnyH_done (by kernel_rfl) ?_ _
      refine NoPanic.normal ?_
      go_wp2
      refine bodyPost_ret (v := .tuple #[.agg x1.V, .agg z3.V, .slice ao9 (ps1.length + 1) cap9, .bool ok1]) (results_two Try.results34 _ rfl rfl rfl rfl (setRow_keep _ (setRow_heap _ _ _ _ _ _ hB9) (Ne.symm HNE.out.2.2)) x1.size (setRow_heap _ _ _ _ _ _ (setRow_keep _ hC9 HNE.out.2.2)) z3.size) rfl ⟨x1, z3, .slice ao9 (ps1.length + 1) cap9, ps1 ++ [(T0, tx)], ok1, rfl, Hs.hid ?_, ?_, ?_, ?_, ?_⟩
      · rw [HEQ.out, hz3.out, ← HTX.out]
      · have hOO : OwnP w9.heap (.slice ao9 (ps1.length + 1) cap9) (ps1 ++ [(T0, tx)]) := by
          unfold OwnP; rw [flatP_append, List.length_append]; exact hO9
        exact (hOO.set hB9 _).set (setRow_keep _ hC9 HNE.out.2.2) _
      · intro g hg
        rcases hf9 g hg with h | h
        · exact HIN.out.1 g h
        · have q1 := hE8.size; have q2 := HE.out.size; simp at h; omega
      · have := HB2.out; simp; omega
      · exact (((HE.out.trans0 (hE8.alloc _)).trans hx9 (fun g hg => .inr (HIN.out.1 g (by simpa using hg)))).trans (setRow_ext _ _) (fun g hg => .inr (by simp at hg; have := HRR.out; omega))).trans (setRow_ext _ _) (fun g hg => .inr (by simp at hg; have := HRR.out; omega))
end Go.Proofs.Ytjicjadibaomkaa
set_option linter.unusedSimpArgs false
set_option linter.unusedVariables false
set_option maxHeartbeats 4000000
set_option maxRecDepth 100000
namespace Go.Proofs.Ytjicjadibaomkaa
open Go.RowKit Go.Hs Go.Dg

theorem side_right_ (b o : Nat) (L : List ByteArray) (HL : Hid (L.length ≤ 40 ∧ ∀ s ∈ L, s.size ≤ 20)) (n f m off cap k : Nat) (whole : Bool) (old : S32) (ys : List S32) (y : S32) (sb so cap2 : Nat) (h1 : 1 ≤ m) (hlt : m < n) (hk : halfN n = k) (hi : ¬ m ≤ k) (hfn : f + n ≤ L.length) (hoff : off = o + f) (hcap : n ≤ cap) (hcm : cap ≤ 9223372036854775807)
    (ih : ∀ w' : World, LeafAt w'.heap b o L → Sums32 w'.heap (some ⟨sb, so, none⟩) cap2 ys → Calls Try.prog 34 #[.int .i64 ((m - k : Nat) : Int), .slice (some ⟨b, off + k, none⟩) (n - k) (cap - k), .slice (some ⟨sb, so, none⟩) ys.length cap2, .bool false, .agg old.V] w' (SideE w' L (n - k) (f + k) (m - k) false old ys)) (w : World) (hLA : LeafAt w.heap b o L) (hT : Sums32 w.heap (some ⟨sb, so, none⟩) cap2 (ys ++ [y])) :
    Calls Try.prog 34 #[.int .i64 m, .slice (some ⟨b, off, none⟩) n cap, .slice (some ⟨sb, so, none⟩) (ys.length + 1) cap2, .bool whole, .agg old.V] w (SideE w L n f m whole old (ys ++ [y])) := by
    have hL40 := HL.out.1
    have hmax := hT.2.1
    have hcap2 := hT.1
    obtain ⟨hA, hB, hC, hx0⟩ := side_start w old
    have hyl : (ys ++ [y]).length = ys.length + 1 := by simp
    have hTi := hT.init
    rw [hyl] at hcap2
    have m0 : ¬ (((ys.length : Nat) : Int) + 1 = 0) := by omega
    have m1 : (((ys.length : Nat) : Int) + 1 == 0) = false := by simp; omega
    have m2 : ((ys.length : Nat) : Int) + 1 - 1 = (ys.length : Int) := by omega
    have m3 : (ys.length : Int) < (ys.length : Int) + 1 := by omega
    have m4 : (ys.length : Int) ≤ cap2 := by omega
    have m5 : (0 : Int) ≤ ys.length := by omega
    have m6 : ys.length ≤ cap2 := by omega
    have m7 : IntKind.i64.wrap (ys.length : Int) = (ys.length : Int) := by rw [IntKind.wrap_i64]; omega
    have m8 : ((ys.length : Int)).toNat = ys.length := by omega
    have HTX := Hs.hid hT
    have HTI := Hs.hid hTi
    have HLA0 := Hs.hid hLA
    have h2 : 2 ≤ n := by omega
    have hmnI : ((m : Int) == (n : Int)) = false := by simp; omega
    have hkl := halfN_lt h2
    have hkp := halfN_pos n
    have hnode := mthT_node (L := L) (f := f) h2
    have hhalf := chalf_any n h2 (by have : (2 : Nat) ^ 40 = 1099511627776 := (by decide); omega)
    rw [hk] at hkl hkp hnode hhalf
    have hrt1 := croot_mth b o L HL k k f off cap (by omega) (by omega) (by omega) hoff (by omega) hcm
    have hrt2 := croot_mth b o L HL (n - k) (n - k) (f + k) (off + k) (cap - k) (by omega) (by omega) (by omega) (by omega) (by omega) (by omega)
    have hnk : (n : Int) - k = ((n - k : Nat) : Int) := by omega
    have b1 : (k : Int) ≤ n ∧ (0 : Int) ≤ k ∧ (k : Int) ≤ cap ∧ (n : Int) ≤ 40 ∧ (2 : Int) ≤ n := by omega
    obtain ⟨b1, b2, b3, b4, b5⟩ := b1
    have hck : ¬ cap = k := by omega
    have HKN := Hs.hid (show k < n ∧ n - k < n ∧ n ≤ 40 by omega)
    have HHF := Hs.hid hhalf
    have HRT := Hs.hid (And.intro hrt1 hrt2)
    obtain ⟨T0, hT0⟩ : ∃ t, mthT L n f = t := ⟨_, rfl⟩
    have hspr := fun (x y' : S32) (ps : List (ByteArray × ByteArray)) (ok : Bool) (hr : sidesP L (n - k) (f + k) (m - k) false old ys = ⟨x, y', ps, ok⟩) => sidesP_right L n f m k whole old ys y hlt h2 hk hi _ hr
    have IH := Hs.hid ih
    rw [hT0] at hspr hnode
    have HND0 := Hs.hid (show node2 (dig (mthT L k f)).s (dig (mthT L (n - k) (f + k))).s = T0 by rw [hnode, nodeT_dig])
    have HSP := Hs.hid hspr
    have hiI : ¬ (m : Int) ≤ k := by omega
    have hmk : (m : Int) - k = ((m - k : Nat) : Int) := by omega
    have mw : IntKind.i64.wrap ((m - k : Nat) : Int) = ((m - k : Nat) : Int) := by rw [IntKind.wrap_i64]; omega
    clear hspr hnode hhalf hrt1 hrt2 hT0 hk hfn hoff hLA hT hTi hL40 ih
    go_enter Try.func34, Try.ntmps34
    go_upto_region 1 with fail
    generalize ((w.alloc (.cells old.V 35)).alloc (.cells #[.int .u8 0, .int .u8 0, .int .u8 0, .int .u8 0, .int .u8 0, .int .u8 0, .int .u8 0, .int .u8 0, .int .u8 0, .int .u8 0, .int .u8 0, .int .u8 0, .int .u8 0, .int .u8 0, .int .u8 0, .int .u8 0, .int .u8 0, .int .u8 0, .int .u8 0, .int .u8 0, .int .u8 0, .int .u8 0, .int .u8 0, .int .u8 0, .int .u8 0, .int .u8 0, .int .u8 0, .int .u8 0, .int .u8 0, .int .u8 0, .int .u8 0, .int .u8 0] 35)).alloc (.cells #[.int .u8 0, .int .u8 0, .int .u8 0, .int .u8 0, .int .u8 0, .int .u8 0, .int .u8 0, .int .u8 0, .int .u8 0, .int .u8 0, .int .u8 0, .int .u8 0, .int .u8 0, .int .u8 0, .int .u8 0, .int .u8 0, .int .u8 0, .int .u8 0, .int .u8 0, .int .u8 0, .int .u8 0, .int .u8 0, .int .u8 0, .int .u8 0, .int .u8 0, .int .u8 0, .int .u8 0, .int .u8 0, .int .u8 0, .int .u8 0, .int .u8 0, .int .u8 0] 35) = W at hA hB hC hx0 ⊢
    obtain ⟨A, hAA⟩ : ∃ A, w.heap.size = A := ⟨_, rfl⟩
    obtain ⟨B, hBB⟩ : ∃ B, A + 1 = B := ⟨_, rfl⟩
    obtain ⟨C, hCC⟩ : ∃ C, B + 1 = C := ⟨_, rfl⟩
    rw [hAA] at hA hB hC
    rw [hBB] at hB hC
    rw [hCC] at hC
    try rw [hAA]
    try rw [hBB]
    try rw [hCC]
    have HRR := Hs.hid (show w.heap.size ≤ A ∧ w.heap.size ≤ B ∧ w.heap.size ≤ C by omega)
    have HAB := Hs.hid (show A < B ∧ B < C by omega)
    clear hAA hBB hCC
    obtain ⟨hsbW, hrg⟩ := (HTX.out.ext hx0 (by simp)).range (k := ys.length) (x := y) (by simp)
    go_upto_region 6 with fail
    refine wp_region_noPanic ?_
    refine wp_region_held_drew (S := (fun w' => w'.rangeAt sb (so + ys.length * 32) y.V.toList)) (by kernel_rfl) ?_ (fun hHeld => ?_)
    · ((try dsimp only); exact hrg)
    refine wpAnyH_take (i := 0) (v := ?_) rfl (by kernel_rfl) (by kernel_rfl) (by kernel_rfl) (fun _ _ _ h => h) (Or.inl ⟨by rfl, ?_⟩) (by assumption) ?_
    rotate_left
    · (intro w hSw; (try dsimp only at hSw); first | (go_simp; done) | (go_simp; with_reducible rfl))
    try simp only [Act.put, List.getElem_toArray, List.getElem_cons_succ, List.getElem_cons_zero, List.setIfInBounds_toArray, List.set_cons_zero, List.set_cons_succ]
    refine wpAnyH_take (i := 1) (v := ?_) rfl (by kernel_rfl) (by kernel_rfl) (by kernel_rfl) (fun _ _ _ h => h) (Or.inl ⟨by rfl, ?_⟩) (by assumption) ?_
    rotate_left
    · (intro w hSw; (try dsimp only at hSw); first | (go_simp; done) | (go_simp; with_reducible rfl))
    try simp only [Act.put, List.getElem_toArray, List.getElem_cons_succ, List.getElem_cons_zero, List.setIfInBounds_toArray, List.set_cons_zero, List.set_cons_succ]
    refine wpAnyH_take (i := 2) (v := ?_) rfl (by kernel_rfl) (by kernel_rfl) (by kernel_rfl) (fun _ _ _ h => h) (Or.inl ⟨by rfl, ?_⟩) (by assumption) ?_
    rotate_left
    · (intro w hSw; (try dsimp only at hSw); first | (go_simp; done) | (go_simp; with_reducible rfl))
    try simp only [Act.put, List.getElem_toArray, List.getElem_cons_succ, List.getElem_cons_zero, List.setIfInBounds_toArray, List.set_cons_zero, List.set_cons_succ]
    refine wpAnyH_take (i := 3) (v := ?_) rfl (by kernel_rfl) (by kernel_rfl) (by kernel_rfl) (fun _ _ _ h => h) (Or.inl ⟨by rfl, ?_⟩) (by assumption) ?_
    rotate_left
    · (intro w hSw; (try dsimp only at hSw); first | (go_simp; done) | (go_simp; with_reducible rfl))
    try simp only [Act.put, List.getElem_toArray, List.getElem_cons_succ, List.getElem_cons_zero, List.setIfInBounds_toArray, List.set_cons_zero, List.set_cons_succ]
    refine wpAnyH_take (i := 4) (v := ?_) rfl (by kernel_rfl) (by kernel_rfl) (by kernel_rfl) (fun _ _ _ h => h) (Or.inl ⟨by rfl, ?_⟩) (by assumption) ?_
    rotate_left
    · (intro w hSw; (try dsimp only at hSw); first | (go_simp; done) | (go_simp; with_reducible rfl))
    try simp only [Act.put, List.getElem_toArray, List.getElem_cons_succ, List.getElem_cons_zero, List.setIfInBounds_toArray, List.set_cons_zero, List.set_cons_succ]
    refine wpAnyH_take (i := 5) (v := _) rfl (by kernel_rfl) (by kernel_rfl) (by kernel_rfl) (fun _ _ _ h => h) (yieldsIf_of (.agg y.V) (by rfl) (fun w' hw => exec_load_midV _ rfl sb _ rfl y w' hw)) (by assumption) ?_
    try simp only [Act.put, List.getElem_toArray, List.getElem_cons_succ, List.getElem_cons_zero, List.setIfInBounds_toArray, List.set_cons_zero, List.set_cons_succ]
    refine wpAnyH_take (i := 6) (v := ?_) rfl (by kernel_rfl) (by kernel_rfl) (by kernel_rfl) (fun _ _ _ h => h) (Or.inl ⟨by rfl, ?_⟩) (by assumption) ?_
    rotate_left
    · (intro w hSw; (try dsimp only at hSw); first | (go_simp; done) | (go_simp; with_reducible rfl))
    try simp only [Act.put, List.getElem_toArray, List.getElem_cons_succ, List.getElem_cons_zero, List.setIfInBounds_toArray, List.set_cons_zero, List.set_cons_succ]
    refine wpAnyH_take (i := 7) (v := ?_) rfl (by kernel_rfl) (by kernel_rfl) (by kernel_rfl) (fun _ _ _ h => h) (Or.inl ⟨by rfl, ?_⟩) (by assumption) ?_
    rotate_left
    · (intro w hSw; (try dsimp only at hSw); first | (go_simp; done) | (go_simp; with_reducible rfl))
    try simp only [Act.put, List.getElem_toArray, List.getElem_cons_succ, List.getElem_cons_zero, List.setIfInBounds_toArray, List.set_cons_zero, List.set_cons_succ]
    refine wpAnyH_take (i := 8) (v := ?_) rfl (by kernel_rfl) (by kernel_rfl) (by kernel_rfl) (fun _ _ _ h => h) (Or.inl ⟨by rfl, ?_⟩) (by assumption) ?_
    rotate_left
    · (intro w hSw; (try dsimp only at hSw); first | (go_simp; done) | (go_simp; with_reducible rfl))
    try simp only [Act.put, List.getElem_toArray, List.getElem_cons_succ, List.getElem_cons_zero, List.setIfInBounds_toArray, List.set_cons_zero, List.set_cons_succ]
    refine wpAnyH_take (i := 9) (v := ?_) rfl (by kernel_rfl) (by kernel_rfl) (by kernel_rfl) (fun _ _ _ h => h) (Or.inl ⟨by rfl, ?_⟩) (by assumption) ?_
    rotate_left
    · (intro w hSw; (try dsimp only at hSw); first | (go_simp; done) | (go_simp; with_reducible rfl))
    try simp only [Act.put, List.getElem_toArray, List.getElem_cons_succ, List.getElem_cons_zero, List.setIfInBounds_toArray, List.set_cons_zero, List.set_cons_succ]
    refine wpAnyH_take (i := 10) (v := ?_) rfl (by kernel_rfl) (by kernel_rfl) (by kernel_rfl) (fun _ _ _ h => h) (Or.inl ⟨by rfl, ?_⟩) (by assumption) ?_
    rotate_left
    · (intro w hSw; (try dsimp only at hSw); first | (go_simp; done) | (go_simp; with_reducible rfl))
    try simp only [Act.put, List.getElem_toArray, List.getElem_cons_succ, List.getElem_cons_zero, List.setIfInBounds_toArray, List.set_cons_zero, List.set_cons_succ]
    refine wpAnyH_ready (rs := [11]) (by kernel_rfl) (by simp) ?_
    refine AllReadyH.cons rfl (fun K hK => ?_) AllReadyH.nil
    rw [if_pos (by rfl)]
    go_simp
    refine hK.out _ _ ?_ (fun hHeld => ?_)
    · ((try dsimp only); exact World.rangeAt_alloc hHeld _)
    clear hK K
    try simp only [Act.put, List.getElem_toArray, List.getElem_cons_succ, List.getElem_cons_zero, List.setIfInBounds_toArray, List.set_cons_zero, List.set_cons_succ]
    refine wpAnyH_ready (rs := [12]) (by kernel_rfl) (by simp) ?_
    refine AllReadyH.cons rfl (fun K hK => ?_) AllReadyH.nil
    rw [if_pos (by rfl)]
    (have hR := setRow_heap _ _ _ y.V _ _ (heap_new W.drew (.cells zeroS.V 35)); rw [zeroS_lit] at hR; refine wp_store_row 35 _ _ rfl _ y.V rfl rfl _ _ (heap_new _ _) (by rw [y.size]; exact infoSum) (by rw [y.size]; rfl) y.one ?_)
    refine hK.out _ _ ?_ (fun hHeld => ?_)
    · ((try dsimp only); (intro j v hj; have q1 := hHeld j v hj; have q2 := World.block_lt_of_cell? _ _ q1; rw [← q1]; unfold World.cell?; rw [setRow_other _ _ _ _ (by simp only [] at hsbW ⊢; omega)]))
    clear hK K
    try simp only [Act.put, List.getElem_toArray, List.getElem_cons_succ, List.getElem_cons_zero, List.setIfInBounds_toArray, List.set_cons_zero, List.set_cons_succ]
    refine wpAnyH_take (i := 13) (v := ?_) rfl (by kernel_rfl) (by kernel_rfl) (by kernel_rfl) (fun _ _ _ h => h) (Or.inl ⟨by rfl, ?_⟩) (by assumption) ?_
    rotate_left
    · (intro w hSw; (try dsimp only at hSw); first | (go_simp; done) | (go_simp; with_reducible rfl))
    try simp only [Act.put, List.getElem_toArray, List.getElem_cons_succ, List.getElem_cons_zero, List.setIfInBounds_toArray, List.set_cons_zero, List.set_cons_succ]
    refine wpAnyH_done (by kernel_rfl) ?_ _
    refine NoPanic.normal ?_
    have hx6 : Ext [] W ((W.alloc (.cells #[.int .u8 0, .int .u8 0, .int .u8 0, .int .u8 0, .int .u8 0, .int .u8 0, .int .u8 0, .int .u8 0, .int .u8 0, .int .u8 0, .int .u8 0, .int .u8 0, .int .u8 0, .int .u8 0, .int .u8 0, .int .u8 0, .int .u8 0, .int .u8 0, .int .u8 0, .int .u8 0, .int .u8 0, .int .u8 0, .int .u8 0, .int .u8 0, .int .u8 0, .int .u8 0, .int .u8 0, .int .u8 0, .int .u8 0, .int .u8 0, .int .u8 0, .int .u8 0] 35)).drew.setRow W.heap.size y.V) := ((Ext.refl [] W).alloc (.cells #[.int .u8 0, .int .u8 0, .int .u8 0, .int .u8 0, .int .u8 0, .int .u8 0, .int .u8 0, .int .u8 0, .int .u8 0, .int .u8 0, .int .u8 0, .int .u8 0, .int .u8 0, .int .u8 0, .int .u8 0, .int .u8 0, .int .u8 0, .int .u8 0, .int .u8 0, .int .u8 0, .int .u8 0, .int .u8 0, .int .u8 0, .int .u8 0, .int .u8 0, .int .u8 0, .int .u8 0, .int .u8 0, .int .u8 0, .int .u8 0, .int .u8 0, .int .u8 0] 35)).drew.trans (setRow_ext _ _) (fun g hg => .inr (by simp at hg; omega))
    replace hR : ((W.alloc (.cells #[.int .u8 0, .int .u8 0, .int .u8 0, .int .u8 0, .int .u8 0, .int .u8 0, .int .u8 0, .int .u8 0, .int .u8 0, .int .u8 0, .int .u8 0, .int .u8 0, .int .u8 0, .int .u8 0, .int .u8 0, .int .u8 0, .int .u8 0, .int .u8 0, .int .u8 0, .int .u8 0, .int .u8 0, .int .u8 0, .int .u8 0, .int .u8 0, .int .u8 0, .int .u8 0, .int .u8 0, .int .u8 0, .int .u8 0, .int .u8 0, .int .u8 0, .int .u8 0] 35)).drew.setRow W.heap.size y.V).heap[W.heap.size]? = some (.cells y.V 35 (0, 0)) := hR
    generalize (W.alloc (.cells #[.int .u8 0, .int .u8 0, .int .u8 0, .int .u8 0, .int .u8 0, .int .u8 0, .int .u8 0, .int .u8 0, .int .u8 0, .int .u8 0, .int .u8 0, .int .u8 0, .int .u8 0, .int .u8 0, .int .u8 0, .int .u8 0, .int .u8 0, .int .u8 0, .int .u8 0, .int .u8 0, .int .u8 0, .int .u8 0, .int .u8 0, .int .u8 0, .int .u8 0, .int .u8 0, .int .u8 0, .int .u8 0, .int .u8 0, .int .u8 0, .int .u8 0, .int .u8 0] 35)).drew.setRow W.heap.size y.V = W6 at hR hx6 ⊢
    obtain ⟨Yb, hYb⟩ : ∃ Y, W.heap.size = Y := ⟨_, rfl⟩
    have HYC := Hs.hid (show C < Yb by have := lt_of_heap hC; omega)
    try rw [hYb]
    rw [hYb] at hR
    replace hA := hx6.same hA List.not_mem_nil
    replace hB := hx6.same hB List.not_mem_nil
    replace hC := hx6.same hC List.not_mem_nil
    have HE := Hs.hid (hx0.trans0 hx6)
    clear hYb hrg hsbW hx0 hx6
    have hY := hR
    clear hR
    have hLA6 : LeafAt W6.drew.heap b o L := HLA0.out.ext0 HE.out.drew
    go_upto_region 10 with (go_at_call 27; refine (HHF.out _).mono ?_; rintro e w7 ⟨rfl, hx7⟩; subst w7)
    refine wp_region_noPanic ?_
    refine wp_region_held_drew (S := (fun _ => True)) (by kernel_rfl) ?_ (fun hHeld => ?_)
    · ((try dsimp only); all_goals trivial)
    refine wpAnyH_take (i := 0) (v := ?_) rfl (by kernel_rfl) (by kernel_rfl) (by kernel_rfl) (fun _ _ _ h => h) (Or.inl ⟨by rfl, ?_⟩) (by assumption) ?_
    rotate_left
    · (intro w hSw; (try dsimp only at hSw); first | (go_simp; done) | (go_simp; with_reducible rfl))
    try simp only [Act.put, List.getElem_toArray, List.getElem_cons_succ, List.getElem_cons_zero, List.setIfInBounds_toArray, List.set_cons_zero, List.set_cons_succ]
    refine wpAnyH_take (i := 1) (v := ?_) rfl (by kernel_rfl) (by kernel_rfl) (by kernel_rfl) (fun _ _ _ h => h) (Or.inl ⟨by rfl, ?_⟩) (by assumption) ?_
    rotate_left
    · (intro w hSw; (try dsimp only at hSw); first | (go_simp; done) | (go_simp; with_reducible rfl))
    try simp only [Act.put, List.getElem_toArray, List.getElem_cons_succ, List.getElem_cons_zero, List.setIfInBounds_toArray, List.set_cons_zero, List.set_cons_succ]
    refine wpAnyH_take (i := 2) (v := ?_) rfl (by kernel_rfl) (by kernel_rfl) (by kernel_rfl) (fun _ _ _ h => h) (Or.inl ⟨by rfl, ?_⟩) (by assumption) ?_
    rotate_left
    · (intro w hSw; (try dsimp only at hSw); first | (go_simp; done) | (go_simp; with_reducible rfl))
    try simp only [Act.put, List.getElem_toArray, List.getElem_cons_succ, List.getElem_cons_zero, List.setIfInBounds_toArray, List.set_cons_zero, List.set_cons_succ]
    refine wpAnyH_take (i := 4) (v := ?_) rfl (by kernel_rfl) (by kernel_rfl) (by kernel_rfl) (fun _ _ _ h => h) (Or.inl ⟨by rfl, ?_⟩) (by assumption) ?_
    rotate_left
    · (intro w hSw; (try dsimp only at hSw); first | (go_simp; done) | (go_simp; with_reducible rfl))
    try simp only [Act.put, List.getElem_toArray, List.getElem_cons_succ, List.getElem_cons_zero, List.setIfInBounds_toArray, List.set_cons_zero, List.set_cons_succ]
    refine wpAnyH_take (i := 5) (v := ?_) rfl (by kernel_rfl) (by kernel_rfl) (by kernel_rfl) (fun _ _ _ h => h) (Or.inl ⟨by rfl, ?_⟩) (by assumption) ?_
    rotate_left
    · (intro w hSw; (try dsimp only at hSw); first | (go_simp; done) | (go_simp; with_reducible rfl))
    try simp only [Act.put, List.getElem_toArray, List.getElem_cons_succ, List.getElem_cons_zero, List.setIfInBounds_toArray, List.set_cons_zero, List.set_cons_succ]
    refine wpAnyH_take (i := 6) (v := ?_) rfl (by kernel_rfl) (by kernel_rfl) (by kernel_rfl) (fun _ _ _ h => h) (Or.inl ⟨by rfl, ?_⟩) (by assumption) ?_
    rotate_left
    · (intro w hSw; (try dsimp only at hSw); first | (go_simp; done) | (go_simp; with_reducible rfl))
    try simp only [Act.put, List.getElem_toArray, List.getElem_cons_succ, List.getElem_cons_zero, List.setIfInBounds_toArray, List.set_cons_zero, List.set_cons_succ]
    refine wpAnyH_ready (rs := [3]) (by kernel_rfl) (by simp) ?_
    refine AllReadyH.cons rfl (fun K hK => ?_) AllReadyH.nil
    go_simp
    (go_at_call 36; (with_reducible refine (HRT.out.1 _ hLA6).mono ?_); rintro e w8 ⟨r1, rfl, hr1, hx8⟩; have hLA8 := hLA6.ext0 hx8)
    go_wp2_with fail
    refine hK.out _ _ ?_ (fun hHeld => ?_)
    · ((try dsimp only); all_goals trivial)
    clear hK K
    try simp only [Act.put, List.getElem_toArray, List.getElem_cons_succ, List.getElem_cons_zero, List.setIfInBounds_toArray, List.set_cons_zero, List.set_cons_succ]
    refine wpAnyH_ready (rs := [7]) (by kernel_rfl) (by simp) ?_
    refine AllReadyH.cons rfl (fun K hK => ?_) AllReadyH.nil
    go_simp
    (go_at_call 36; (with_reducible refine (HRT.out.2 _ hLA8).mono ?_); rintro e w9 ⟨r2, rfl, hr2, hx9⟩)
    go_wp2_with fail
    refine hK.out _ _ ?_ (fun hHeld => ?_)
    · ((try dsimp only); all_goals trivial)
    clear hK K
    try simp only [Act.put, List.getElem_toArray, List.getElem_cons_succ, List.getElem_cons_zero, List.setIfInBounds_toArray, List.set_cons_zero, List.set_cons_succ]
    refine wpAnyH_ready (rs := [8]) (by kernel_rfl) (by simp) ?_
    refine AllReadyH.cons rfl (fun K hK => ?_) AllReadyH.nil
    go_simp
    (go_at_call 28; refine (nodeC_eq r1 r2 T0 (by rw [hr1.out, hr2.out, HND0.out]) _).mono ?_; rintro e w10 ⟨rfl, hx10⟩; have hxx : Ext [] W6 w10 := (((Ext.refl [] W6).drew.trans0 hx8).trans0 hx9).trans0 hx10)
    go_wp2_with fail
    refine hK.out _ _ ?_ (fun hHeld => ?_)
    · ((try dsimp only); all_goals trivial)
    clear hK K
    try simp only [Act.put, List.getElem_toArray, List.getElem_cons_succ, List.getElem_cons_zero, List.setIfInBounds_toArray, List.set_cons_zero, List.set_cons_succ]
    refine wpAnyH_take (i := 9) (v := ?_) rfl (by kernel_rfl) (by kernel_rfl) (by kernel_rfl) (fun _ _ _ h => h) (Or.inl ⟨by rfl, ?_⟩) (by assumption) ?_
    rotate_left
    · (intro w hSw; (try dsimp only at hSw); first | (go_simp; done) | (go_simp; with_reducible rfl))
    try simp only [Act.put, List.getElem_toArray, List.getElem_cons_succ, List.getElem_cons_zero, List.setIfInBounds_toArray, List.set_cons_zero, List.set_cons_succ]
    refine wpAnyH_done (by kernel_rfl) ?_ _
    refine NoPanic.normal ?_
    replace hA := hxx.same hA List.not_mem_nil
    replace hB := hxx.same hB List.not_mem_nil
    replace hC := hxx.same hC List.not_mem_nil
    replace hY := hxx.same hY List.not_mem_nil
    replace HE := Hs.hid (HE.out.trans0 hxx)
    have HLA := Hs.hid (fun w' (h : Ext [] w10 w') => HLA0.out.ext0 (HE.out.trans0 h))
    have HSU := Hs.hid (fun w' (h : Ext [] w10 w') => HTI.out.ext (HE.out.trans0 h) (by simp))
    clear hxx hx8 hx9 hx10 hr1 hr2 hLA6 hLA8 HRT HND0
    go_upto_region 14 with fail
    go_cut [23, 24, 25, 26] (fun sP sQ sV sO wx => ∃ (P Q : Nat) (x1 y1 : S32) (v1 : Value) (ps1 : List (ByteArray × ByteArray)) (ok1 : Bool), sP = .pointer (some ⟨P, 0, none⟩) ∧ sQ = .pointer (some ⟨Q, 0, none⟩) ∧ v1 = sV ∧ sO = .bool ok1 ∧ wx.heap[P]? = some (.cells x1.V 35 (0, 0)) ∧ wx.heap[Q]? = some (.cells y1.V 35 (0, 0)) ∧ Hid (sidesP L (n - k) (f + k) (m - k) false old ys = ⟨x1, y1, ps1, ok1⟩ ∧ OwnP wx.heap v1 ps1 ∧ (∀ g, v1.ownBlock = some g → w.heap.size ≤ g) ∧ ps1.length ≤ n - k ∧ w10.heap.size ≤ P ∧ w10.heap.size ≤ Q) ∧ Ext [] w10 wx)
    case first =>
      refine wp_region_noPanic ?_
      refine wp_region_held_drew (S := (fun w' => Ext [] w10 w')) (by kernel_rfl) ?_ (fun hHeld => ?_)
      · ((try dsimp only); exact (Ext.refl [] w10).drew)
      replace hHeld : Ext [] w10 w10.drew := hHeld
      have HWW := Hs.hid (show w.heap.size ≤ w10.heap.size from HE.out.size)
      generalize w10.drew = wd at hHeld ⊢
      refine wpAnyH_take (i := 0) (v := ?_) rfl (by kernel_rfl) (by kernel_rfl) (by kernel_rfl) (fun _ _ _ h => h) (Or.inl ⟨by rfl, ?_⟩) (by assumption) ?_
      rotate_left
      · (intro w hSw; (try dsimp only at hSw); first | (go_simp; done) | (go_simp; with_reducible rfl))
      try simp only [Act.put, List.getElem_toArray, List.getElem_cons_succ, List.getElem_cons_zero, List.setIfInBounds_toArray, List.set_cons_zero, List.set_cons_succ]
      refine wpAnyH_take (i := 1) (v := ?_) rfl (by kernel_rfl) (by kernel_rfl) (by kernel_rfl) (fun _ _ _ h => h) (Or.inl ⟨by rfl, ?_⟩) (by assumption) ?_
      rotate_left
      · (intro w hSw; (try dsimp only at hSw); first | (go_simp; done) | (go_simp; with_reducible rfl))
      try simp only [Act.put, List.getElem_toArray, List.getElem_cons_succ, List.getElem_cons_zero, List.setIfInBounds_toArray, List.set_cons_zero, List.set_cons_succ]
      refine wpAnyH_take (i := 2) (v := ?_) rfl (by kernel_rfl) (by kernel_rfl) (by kernel_rfl) (fun _ _ _ h => h) (Or.inl ⟨by rfl, ?_⟩) (by assumption) ?_
      rotate_left
      · (intro w hSw; (try dsimp only at hSw); first | (go_simp; done) | (go_simp; with_reducible rfl))
      try simp only [Act.put, List.getElem_toArray, List.getElem_cons_succ, List.getElem_cons_zero, List.setIfInBounds_toArray, List.set_cons_zero, List.set_cons_succ]
      refine wpAnyH_take (i := 3) (v := ?_) rfl (by kernel_rfl) (by kernel_rfl) (by kernel_rfl) (fun _ _ _ h => h) (Or.inl ⟨by rfl, ?_⟩) (by assumption) ?_
      rotate_left
      · (intro w hSw; (try dsimp only at hSw); first | (go_simp; done) | (go_simp; with_reducible rfl))
      try simp only [Act.put, List.getElem_toArray, List.getElem_cons_succ, List.getElem_cons_zero, List.setIfInBounds_toArray, List.set_cons_zero, List.set_cons_succ]
      refine wpAnyH_take (i := 4) (v := ?_) rfl (by kernel_rfl) (by kernel_rfl) (by kernel_rfl) (fun _ _ _ h => h) (Or.inl ⟨by rfl, ?_⟩) (by assumption) ?_
      rotate_left
      · (intro w hSw; (try dsimp only at hSw); first | (go_simp; done) | (go_simp; with_reducible rfl))
      try simp only [Act.put, List.getElem_toArray, List.getElem_cons_succ, List.getElem_cons_zero, List.setIfInBounds_toArray, List.set_cons_zero, List.set_cons_succ]
      refine wpAnyH_take (i := 5) (v := ?_) rfl (by kernel_rfl) (by kernel_rfl) (by kernel_rfl) (fun _ _ _ h => h) (Or.inl ⟨by rfl, ?_⟩) (by assumption) ?_
      rotate_left
      · (intro w hSw; (try dsimp only at hSw); first | (go_simp; done) | (go_simp; with_reducible rfl))
      try simp only [Act.put, List.getElem_toArray, List.getElem_cons_succ, List.getElem_cons_zero, List.setIfInBounds_toArray, List.set_cons_zero, List.set_cons_succ]
      refine wpAnyH_take (i := 6) (v := ?_) rfl (by kernel_rfl) (by kernel_rfl) (by kernel_rfl) (fun _ _ _ h => h) (Or.inl ⟨by rfl, ?_⟩) (by assumption) ?_
      rotate_left
      · (intro w hSw; (try dsimp only at hSw); first | (go_simp; done) | (go_simp; with_reducible rfl))
      try simp only [Act.put, List.getElem_toArray, List.getElem_cons_succ, List.getElem_cons_zero, List.setIfInBounds_toArray, List.set_cons_zero, List.set_cons_succ]
      refine wpAnyH_take (i := 7) (v := _) rfl (by kernel_rfl) (by kernel_rfl) (by kernel_rfl) (fun _ _ _ h => h) (yieldsIf_of (.agg old.V) (by rfl) (fun w' hw => exec_load_rowV (.tmp 9) rfl A rfl old w' ⟨_, hw.same hA List.not_mem_nil⟩)) (by assumption) ?_
      try simp only [Act.put, List.getElem_toArray, List.getElem_cons_succ, List.getElem_cons_zero, List.setIfInBounds_toArray, List.set_cons_zero, List.set_cons_succ]
      refine wpAnyH_ready (rs := [8, 14, 15]) (by kernel_rfl) (by simp) ?_
      refine AllReadyH.cons rfl (fun K hK => ?_) (AllReadyH.cons rfl (fun K hK => ?_) (AllReadyH.cons rfl (fun K hK => ?_) AllReadyH.nil))
      · go_simp
        (go_at_call 34; have hge7 := Ext.size hHeld; (with_reducible refine (IH.out _ (HLA.out _ hHeld) (HSU.out _ hHeld)).mono ?_); intro e w7 hr; unfold SideE at hr; obtain ⟨x1, y1, v1, ps1, ok1, rfl, hr1, hO1, hg1, hn1, hx7⟩ := hr)
        go_wp2_with fail
        refine hK.out _ _ ?_ (fun hHeld => ?_)
        · ((try dsimp only); exact Ext.trans0 hHeld hx7)
        clear hK K
        try simp only [Act.put, List.getElem_toArray, List.getElem_cons_succ, List.getElem_cons_zero, List.setIfInBounds_toArray, List.set_cons_zero, List.set_cons_succ]
        replace hHeld : Ext [] w10 w7 := hHeld
        replace hg1 : ∀ g, v1.ownBlock = some g → w10.heap.size ≤ g := fun g hg => Nat.le_trans (by have := hge7; omega) (hg1 g hg)
        refine wpAnyH_take (i := 9) (v := ?_) rfl (by kernel_rfl) (by kernel_rfl) (by kernel_rfl) (fun _ _ _ h => h) (Or.inl ⟨by rfl, ?_⟩) (by assumption) ?_
        rotate_left
        · (intro w hSw; (try dsimp only at hSw); first | (go_simp; done) | (go_simp; with_reducible rfl))
        try simp only [Act.put, List.getElem_toArray, List.getElem_cons_succ, List.getElem_cons_zero, List.setIfInBounds_toArray, List.set_cons_zero, List.set_cons_succ]
        refine wpAnyH_take (i := 10) (v := ?_) rfl (by kernel_rfl) (by kernel_rfl) (by kernel_rfl) (fun _ _ _ h => h) (Or.inl ⟨by rfl, ?_⟩) (by assumption) ?_
        rotate_left
        · (intro w hSw; (try dsimp only at hSw); first | (go_simp; done) | (go_simp; with_reducible rfl))
        try simp only [Act.put, List.getElem_toArray, List.getElem_cons_succ, List.getElem_cons_zero, List.setIfInBounds_toArray, List.set_cons_zero, List.set_cons_succ]
        refine wpAnyH_take (i := 11) (v := ?_) rfl (by kernel_rfl) (by kernel_rfl) (by kernel_rfl) (fun _ _ _ h => h) (Or.inl ⟨by rfl, ?_⟩) (by assumption) ?_
        rotate_left
        · (intro w hSw; (try dsimp only at hSw); first | (go_simp; done) | (go_simp; with_reducible rfl))
        try simp only [Act.put, List.getElem_toArray, List.getElem_cons_succ, List.getElem_cons_zero, List.setIfInBounds_toArray, List.set_cons_zero, List.set_cons_succ]
        refine wpAnyH_take (i := 12) (v := ?_) rfl (by kernel_rfl) (by kernel_rfl) (by kernel_rfl) (fun _ _ _ h => h) (Or.inl ⟨by rfl, ?_⟩) (by assumption) ?_
        rotate_left
        · (intro w hSw; (try dsimp only at hSw); first | (go_simp; done) | (go_simp; with_reducible rfl))
        try simp only [Act.put, List.getElem_toArray, List.getElem_cons_succ, List.getElem_cons_zero, List.setIfInBounds_toArray, List.set_cons_zero, List.set_cons_succ]
        refine wpAnyH_take (i := 13) (v := ?_) rfl (by kernel_rfl) (by kernel_rfl) (by kernel_rfl) (fun _ _ _ h => h) (Or.inl ⟨by rfl, ?_⟩) (by assumption) ?_
        rotate_left
        · (intro w hSw; (try dsimp only at hSw); first | (go_simp; done) | (go_simp; with_reducible rfl))
        try simp only [Act.put, List.getElem_toArray, List.getElem_cons_succ, List.getElem_cons_zero, List.setIfInBounds_toArray, List.set_cons_zero, List.set_cons_succ]
        refine wpAnyH_ready (rs := [14, 15]) (by kernel_rfl) (by simp) ?_
        refine AllReadyH.cons rfl (fun K hK => ?_) (AllReadyH.cons rfl (fun K hK => ?_) AllReadyH.nil)
        · rw [if_pos (by rfl)]
          (go_simp; have hgeP := Ext.size hHeld)
          refine hK.out _ _ ?_ (fun hHeld => ?_)
          · ((try dsimp only); exact Ext.alloc hHeld _)
          clear hK K
          try simp only [Act.put, List.getElem_toArray, List.getElem_cons_succ, List.getElem_cons_zero, List.setIfInBounds_toArray, List.set_cons_zero, List.set_cons_succ]
          have hqP := heap_new w7 (.cells #[.int .u8 0, .int .u8 0, .int .u8 0, .int .u8 0, .int .u8 0, .int .u8 0, .int .u8 0, .int .u8 0, .int .u8 0, .int .u8 0, .int .u8 0, .int .u8 0, .int .u8 0, .int .u8 0, .int .u8 0, .int .u8 0, .int .u8 0, .int .u8 0, .int .u8 0, .int .u8 0, .int .u8 0, .int .u8 0, .int .u8 0, .int .u8 0, .int .u8 0, .int .u8 0, .int .u8 0, .int .u8 0, .int .u8 0, .int .u8 0, .int .u8 0, .int .u8 0] 35)
          have hxP := (Ext.refl [] w7).alloc (.cells #[.int .u8 0, .int .u8 0, .int .u8 0, .int .u8 0, .int .u8 0, .int .u8 0, .int .u8 0, .int .u8 0, .int .u8 0, .int .u8 0, .int .u8 0, .int .u8 0, .int .u8 0, .int .u8 0, .int .u8 0, .int .u8 0, .int .u8 0, .int .u8 0, .int .u8 0, .int .u8 0, .int .u8 0, .int .u8 0, .int .u8 0, .int .u8 0, .int .u8 0, .int .u8 0, .int .u8 0, .int .u8 0, .int .u8 0, .int .u8 0, .int .u8 0, .int .u8 0] 35)
          replace hHeld : Ext [] w10 (w7.alloc (.cells #[.int .u8 0, .int .u8 0, .int .u8 0, .int .u8 0, .int .u8 0, .int .u8 0, .int .u8 0, .int .u8 0, .int .u8 0, .int .u8 0, .int .u8 0, .int .u8 0, .int .u8 0, .int .u8 0, .int .u8 0, .int .u8 0, .int .u8 0, .int .u8 0, .int .u8 0, .int .u8 0, .int .u8 0, .int .u8 0, .int .u8 0, .int .u8 0, .int .u8 0, .int .u8 0, .int .u8 0, .int .u8 0, .int .u8 0, .int .u8 0, .int .u8 0, .int .u8 0] 35)) := hHeld
          have hzP : (w7.alloc (.cells #[.int .u8 0, .int .u8 0, .int .u8 0, .int .u8 0, .int .u8 0, .int .u8 0, .int .u8 0, .int .u8 0, .int .u8 0, .int .u8 0, .int .u8 0, .int .u8 0, .int .u8 0, .int .u8 0, .int .u8 0, .int .u8 0, .int .u8 0, .int .u8 0, .int .u8 0, .int .u8 0, .int .u8 0, .int .u8 0, .int .u8 0, .int .u8 0, .int .u8 0, .int .u8 0, .int .u8 0, .int .u8 0, .int .u8 0, .int .u8 0, .int .u8 0, .int .u8 0] 35)).heap.size = w7.heap.size + 1 := by simp
          generalize w7.alloc (.cells #[.int .u8 0, .int .u8 0, .int .u8 0, .int .u8 0, .int .u8 0, .int .u8 0, .int .u8 0, .int .u8 0, .int .u8 0, .int .u8 0, .int .u8 0, .int .u8 0, .int .u8 0, .int .u8 0, .int .u8 0, .int .u8 0, .int .u8 0, .int .u8 0, .int .u8 0, .int .u8 0, .int .u8 0, .int .u8 0, .int .u8 0, .int .u8 0, .int .u8 0, .int .u8 0, .int .u8 0, .int .u8 0, .int .u8 0, .int .u8 0, .int .u8 0, .int .u8 0] 35) = wP at hqP hxP hzP hHeld ⊢
          obtain ⟨P, hsP⟩ : ∃ p, w7.heap.size = p := ⟨_, rfl⟩
          rw [hsP] at hqP hgeP hzP ⊢
          have HzP := Hs.hid hzP
          clear hzP hsP
          refine wpAnyH_ready (rs := [15]) (by kernel_rfl) (by simp) ?_
          refine AllReadyH.cons rfl (fun K hK => ?_) AllReadyH.nil
          rw [if_pos (by rfl)]
          (go_simp; have hgeQ := Ext.size hHeld)
          refine hK.out _ _ ?_ (fun hHeld => ?_)
          · ((try dsimp only); exact Ext.alloc hHeld _)
          clear hK K
          try simp only [Act.put, List.getElem_toArray, List.getElem_cons_succ, List.getElem_cons_zero, List.setIfInBounds_toArray, List.set_cons_zero, List.set_cons_succ]
          have hqQ := heap_new wP (.cells #[.int .u8 0, .int .u8 0, .int .u8 0, .int .u8 0, .int .u8 0, .int .u8 0, .int .u8 0, .int .u8 0, .int .u8 0, .int .u8 0, .int .u8 0, .int .u8 0, .int .u8 0, .int .u8 0, .int .u8 0, .int .u8 0, .int .u8 0, .int .u8 0, .int .u8 0, .int .u8 0, .int .u8 0, .int .u8 0, .int .u8 0, .int .u8 0, .int .u8 0, .int .u8 0, .int .u8 0, .int .u8 0, .int .u8 0, .int .u8 0, .int .u8 0, .int .u8 0] 35)
          have hxQ := (Ext.refl [] wP).alloc (.cells #[.int .u8 0, .int .u8 0, .int .u8 0, .int .u8 0, .int .u8 0, .int .u8 0, .int .u8 0, .int .u8 0, .int .u8 0, .int .u8 0, .int .u8 0, .int .u8 0, .int .u8 0, .int .u8 0, .int .u8 0, .int .u8 0, .int .u8 0, .int .u8 0, .int .u8 0, .int .u8 0, .int .u8 0, .int .u8 0, .int .u8 0, .int .u8 0, .int .u8 0, .int .u8 0, .int .u8 0, .int .u8 0, .int .u8 0, .int .u8 0, .int .u8 0, .int .u8 0] 35)
          replace hHeld : Ext [] w10 (wP.alloc (.cells #[.int .u8 0, .int .u8 0, .int .u8 0, .int .u8 0, .int .u8 0, .int .u8 0, .int .u8 0, .int .u8 0, .int .u8 0, .int .u8 0, .int .u8 0, .int .u8 0, .int .u8 0, .int .u8 0, .int .u8 0, .int .u8 0, .int .u8 0, .int .u8 0, .int .u8 0, .int .u8 0, .int .u8 0, .int .u8 0, .int .u8 0, .int .u8 0, .int .u8 0, .int .u8 0, .int .u8 0, .int .u8 0, .int .u8 0, .int .u8 0, .int .u8 0, .int .u8 0] 35)) := hHeld
          have hzQ : (wP.alloc (.cells #[.int .u8 0, .int .u8 0, .int .u8 0, .int .u8 0, .int .u8 0, .int .u8 0, .int .u8 0, .int .u8 0, .int .u8 0, .int .u8 0, .int .u8 0, .int .u8 0, .int .u8 0, .int .u8 0, .int .u8 0, .int .u8 0, .int .u8 0, .int .u8 0, .int .u8 0, .int .u8 0, .int .u8 0, .int .u8 0, .int .u8 0, .int .u8 0, .int .u8 0, .int .u8 0, .int .u8 0, .int .u8 0, .int .u8 0, .int .u8 0, .int .u8 0, .int .u8 0] 35)).heap.size = wP.heap.size + 1 := by simp
          generalize wP.alloc (.cells #[.int .u8 0, .int .u8 0, .int .u8 0, .int .u8 0, .int .u8 0, .int .u8 0, .int .u8 0, .int .u8 0, .int .u8 0, .int .u8 0, .int .u8 0, .int .u8 0, .int .u8 0, .int .u8 0, .int .u8 0, .int .u8 0, .int .u8 0, .int .u8 0, .int .u8 0, .int .u8 0, .int .u8 0, .int .u8 0, .int .u8 0, .int .u8 0, .int .u8 0, .int .u8 0, .int .u8 0, .int .u8 0, .int .u8 0, .int .u8 0, .int .u8 0, .int .u8 0] 35) = wQ at hqQ hxQ hzQ hHeld ⊢
          obtain ⟨Q, hsQ⟩ : ∃ p, wP.heap.size = p := ⟨_, rfl⟩
          rw [hsQ] at hqQ hgeQ hzQ ⊢
          have HzQ := Hs.hid hzQ
          have hgtPQ : wP.heap.size ≤ Q := by have := hsQ; omega
          clear hzQ hsQ
          have hfP := (hxQ.same hqP List.not_mem_nil)
          have hfQ := hqQ
          have hfO := ((hO1.ext hxP (fun _ _ => List.not_mem_nil)).ext hxQ (fun _ _ => List.not_mem_nil))
          have hne : P ≠ Q := by have h1 := lt_of_heap hqP; have h2 := lt_of_heap hqQ; have h3 := HzP.out; have h4 := HzQ.out; have h5 := hgtPQ; omega
          have hEE := hHeld
          refine wpAnyH_ready (rs := [16]) (by kernel_rfl) (by simp) ?_
          refine AllReadyH.cons rfl (fun K hK => ?_) AllReadyH.nil
          rw [if_pos (by rfl)]
          (refine wp_store_row 35 _ _ rfl P x1.V rfl rfl _ _ hfP (by rw [x1.size]; exact infoSum) (by rw [x1.size]; rfl) x1.one ?_)
          refine hK.out _ _ ?_ (fun hHeld => ?_)
          · ((try dsimp only); exact Ext.trans hHeld (setRow_ext _ _) (fun g hg => .inr (by simp at hg; omega)))
          clear hK K
          try simp only [Act.put, List.getElem_toArray, List.getElem_cons_succ, List.getElem_cons_zero, List.setIfInBounds_toArray, List.set_cons_zero, List.set_cons_succ]
          refine wpAnyH_ready (rs := [17]) (by kernel_rfl) (by simp) ?_
          refine AllReadyH.cons rfl (fun K hK => ?_) AllReadyH.nil
          rw [if_pos (by rfl)]
          (refine wp_store_row 35 _ _ rfl Q y1.V rfl rfl _ _ (setRow_keep _ hfQ (Ne.symm hne)) (by rw [y1.size]; exact infoSum) (by rw [y1.size]; rfl) y1.one ?_)
          refine hK.out _ _ ?_ (fun hHeld => ?_)
          · ((try dsimp only); exact Ext.trans hHeld (setRow_ext _ _) (fun g hg => .inr (by simp at hg; omega)))
          clear hK K
          try simp only [Act.put, List.getElem_toArray, List.getElem_cons_succ, List.getElem_cons_zero, List.setIfInBounds_toArray, List.set_cons_zero, List.set_cons_succ]
          refine wpAnyH_take (i := 18) (v := ?_) rfl (by kernel_rfl) (by kernel_rfl) (by kernel_rfl) (fun _ _ _ h => h) (Or.inl ⟨by rfl, ?_⟩) (by assumption) ?_
          rotate_left
          · (intro w hSw; (try dsimp only at hSw); first | (go_simp; done) | (go_simp; with_reducible rfl))
          try simp only [Act.put, List.getElem_toArray, List.getElem_cons_succ, List.getElem_cons_zero, List.setIfInBounds_toArray, List.set_cons_zero, List.set_cons_succ]
          refine wpAnyH_take (i := 19) (v := ?_) rfl (by kernel_rfl) (by kernel_rfl) (by kernel_rfl) (fun _ _ _ h => h) (Or.inl ⟨by rfl, ?_⟩) (by assumption) ?_
          rotate_left
          · (intro w hSw; (try dsimp only at hSw); first | (go_simp; done) | (go_simp; with_reducible rfl))
          try simp only [Act.put, List.getElem_toArray, List.getElem_cons_succ, List.getElem_cons_zero, List.setIfInBounds_toArray, List.set_cons_zero, List.set_cons_succ]
          refine wpAnyH_done (by kernel_rfl) ?_ _
          refine NoPanic.normal ?_
          go_wp2
          go_meet
          exact ⟨P, Q, x1, y1, v1, ps1, ok1, rfl, rfl, rfl, rfl, setRow_keep _ (setRow_heap _ _ _ _ _ _ hfP) hne, setRow_heap _ _ _ _ _ _ (setRow_keep _ hfQ (Ne.symm hne)), Hs.hid ⟨hr1.out, (hfO.set hfP _).set (setRow_keep _ hfQ (Ne.symm hne)) _, fun g hg => Nat.le_trans HWW.out (hg1 g hg), hn1, hgeP, hgeQ⟩, ((hEE.trans (setRow_ext _ _) (fun g hg => .inr (by simp at hg; omega))).trans (setRow_ext _ _) (fun g hg => .inr (by simp at hg; omega)))⟩
        · rw [if_pos (by rfl)]
          (go_simp; have hgeQ := Ext.size hHeld)
          refine hK.out _ _ ?_ (fun hHeld => ?_)
          · ((try dsimp only); exact Ext.alloc hHeld _)
          clear hK K
          try simp only [Act.put, List.getElem_toArray, List.getElem_cons_succ, List.getElem_cons_zero, List.setIfInBounds_toArray, List.set_cons_zero, List.set_cons_succ]
          have hqQ := heap_new w7 (.cells #[.int .u8 0, .int .u8 0, .int .u8 0, .int .u8 0, .int .u8 0, .int .u8 0, .int .u8 0, .int .u8 0, .int .u8 0, .int .u8 0, .int .u8 0, .int .u8 0, .int .u8 0, .int .u8 0, .int .u8 0, .int .u8 0, .int .u8 0, .int .u8 0, .int .u8 0, .int .u8 0, .int .u8 0, .int .u8 0, .int .u8 0, .int .u8 0, .int .u8 0, .int .u8 0, .int .u8 0, .int .u8 0, .int .u8 0, .int .u8 0, .int .u8 0, .int .u8 0] 35)
          have hxQ := (Ext.refl [] w7).alloc (.cells #[.int .u8 0, .int .u8 0, .int .u8 0, .int .u8 0, .int .u8 0, .int .u8 0, .int .u8 0, .int .u8 0, .int .u8 0, .int .u8 0, .int .u8 0, .int .u8 0, .int .u8 0, .int .u8 0, .int .u8 0, .int .u8 0, .int .u8 0, .int .u8 0, .int .u8 0, .int .u8 0, .int .u8 0, .int .u8 0, .int .u8 0, .int .u8 0, .int .u8 0, .int .u8 0, .int .u8 0, .int .u8 0, .int .u8 0, .int .u8 0, .int .u8 0, .int .u8 0] 35)
          replace hHeld : Ext [] w10 (w7.alloc (.cells #[.int .u8 0, .int .u8 0, .int .u8 0, .int .u8 0, .int .u8 0, .int .u8 0, .int .u8 0, .int .u8 0, .int .u8 0, .int .u8 0, .int .u8 0, .int .u8 0, .int .u8 0, .int .u8 0, .int .u8 0, .int .u8 0, .int .u8 0, .int .u8 0, .int .u8 0, .int .u8 0, .int .u8 0, .int .u8 0, .int .u8 0, .int .u8 0, .int .u8 0, .int .u8 0, .int .u8 0, .int .u8 0, .int .u8 0, .int .u8 0, .int .u8 0, .int .u8 0] 35)) := hHeld
          have hzQ : (w7.alloc (.cells #[.int .u8 0, .int .u8 0, .int .u8 0, .int .u8 0, .int .u8 0, .int .u8 0, .int .u8 0, .int .u8 0, .int .u8 0, .int .u8 0, .int .u8 0, .int .u8 0, .int .u8 0, .int .u8 0, .int .u8 0, .int .u8 0, .int .u8 0, .int .u8 0, .int .u8 0, .int .u8 0, .int .u8 0, .int .u8 0, .int .u8 0, .int .u8 0, .int .u8 0, .int .u8 0, .int .u8 0, .int .u8 0, .int .u8 0, .int .u8 0, .int .u8 0, .int .u8 0] 35)).heap.size = w7.heap.size + 1 := by simp
          generalize w7.alloc (.cells #[.int .u8 0, .int .u8 0, .int .u8 0, .int .u8 0, .int .u8 0, .int .u8 0, .int .u8 0, .int .u8 0, .int .u8 0, .int .u8 0, .int .u8 0, .int .u8 0, .int .u8 0, .int .u8 0, .int .u8 0, .int .u8 0, .int .u8 0, .int .u8 0, .int .u8 0, .int .u8 0, .int .u8 0, .int .u8 0, .int .u8 0, .int .u8 0, .int .u8 0, .int .u8 0, .int .u8 0, .int .u8 0, .int .u8 0, .int .u8 0, .int .u8 0, .int .u8 0] 35) = wQ at hqQ hxQ hzQ hHeld ⊢
          obtain ⟨Q, hsQ⟩ : ∃ p, w7.heap.size = p := ⟨_, rfl⟩
          rw [hsQ] at hqQ hgeQ hzQ ⊢
          have HzQ := Hs.hid hzQ
          clear hzQ hsQ
          refine wpAnyH_ready (rs := [14]) (by kernel_rfl) (by simp) ?_
          refine AllReadyH.cons rfl (fun K hK => ?_) AllReadyH.nil
          rw [if_pos (by rfl)]
          (go_simp; have hgeP := Ext.size hHeld)
          refine hK.out _ _ ?_ (fun hHeld => ?_)
          · ((try dsimp only); exact Ext.alloc hHeld _)
          clear hK K
          try simp only [Act.put, List.getElem_toArray, List.getElem_cons_succ, List.getElem_cons_zero, List.setIfInBounds_toArray, List.set_cons_zero, List.set_cons_succ]
          have hqP := heap_new wQ (.cells #[.int .u8 0, .int .u8 0, .int .u8 0, .int .u8 0, .int .u8 0, .int .u8 0, .int .u8 0, .int .u8 0, .int .u8 0, .int .u8 0, .int .u8 0, .int .u8 0, .int .u8 0, .int .u8 0, .int .u8 0, .int .u8 0, .int .u8 0, .int .u8 0, .int .u8 0, .int .u8 0, .int .u8 0, .int .u8 0, .int .u8 0, .int .u8 0, .int .u8 0, .int .u8 0, .int .u8 0, .int .u8 0, .int .u8 0, .int .u8 0, .int .u8 0, .int .u8 0] 35)
          have hxP := (Ext.refl [] wQ).alloc (.cells #[.int .u8 0, .int .u8 0, .int .u8 0, .int .u8 0, .int .u8 0, .int .u8 0, .int .u8 0, .int .u8 0, .int .u8 0, .int .u8 0, .int .u8 0, .int .u8 0, .int .u8 0, .int .u8 0, .int .u8 0, .int .u8 0, .int .u8 0, .int .u8 0, .int .u8 0, .int .u8 0, .int .u8 0, .int .u8 0, .int .u8 0, .int .u8 0, .int .u8 0, .int .u8 0, .int .u8 0, .int .u8 0, .int .u8 0, .int .u8 0, .int .u8 0, .int .u8 0] 35)
          replace hHeld : Ext [] w10 (wQ.alloc (.cells #[.int .u8 0, .int .u8 0, .int .u8 0, .int .u8 0, .int .u8 0, .int .u8 0, .int .u8 0, .int .u8 0, .int .u8 0, .int .u8 0, .int .u8 0, .int .u8 0, .int .u8 0, .int .u8 0, .int .u8 0, .int .u8 0, .int .u8 0, .int .u8 0, .int .u8 0, .int .u8 0, .int .u8 0, .int .u8 0, .int .u8 0, .int .u8 0, .int .u8 0, .int .u8 0, .int .u8 0, .int .u8 0, .int .u8 0, .int .u8 0, .int .u8 0, .int .u8 0] 35)) := hHeld
          have hzP : (wQ.alloc (.cells #[.int .u8 0, .int .u8 0, .int .u8 0, .int .u8 0, .int .u8 0, .int .u8 0, .int .u8 0, .int .u8 0, .int .u8 0, .int .u8 0, .int .u8 0, .int .u8 0, .int .u8 0, .int .u8 0, .int .u8 0, .int .u8 0, .int .u8 0, .int .u8 0, .int .u8 0, .int .u8 0, .int .u8 0, .int .u8 0, .int .u8 0, .int .u8 0, .int .u8 0, .int .u8 0, .int .u8 0, .int .u8 0, .int .u8 0, .int .u8 0, .int .u8 0, .int .u8 0] 35)).heap.size = wQ.heap.size + 1 := by simp
          generalize wQ.alloc (.cells #[.int .u8 0, .int .u8 0, .int .u8 0, .int .u8 0, .int .u8 0, .int .u8 0, .int .u8 0, .int .u8 0, .int .u8 0, .int .u8 0, .int .u8 0, .int .u8 0, .int .u8 0, .int .u8 0, .int .u8 0, .int .u8 0, .int .u8 0, .int .u8 0, .int .u8 0, .int .u8 0, .int .u8 0, .int .u8 0, .int .u8 0, .int .u8 0, .int .u8 0, .int .u8 0, .int .u8 0, .int .u8 0, .int .u8 0, .int .u8 0, .int .u8 0, .int .u8 0] 35) = wP at hqP hxP hzP hHeld ⊢
          obtain ⟨P, hsP⟩ : ∃ p, wQ.heap.size = p := ⟨_, rfl⟩
          rw [hsP] at hqP hgeP hzP ⊢
          have HzP := Hs.hid hzP
          have hgtQP : wQ.heap.size ≤ P := by have := hsP; omega
          clear hzP hsP
          have hfP := hqP
          have hfQ := (hxP.same hqQ List.not_mem_nil)
          have hfO := ((hO1.ext hxQ (fun _ _ => List.not_mem_nil)).ext hxP (fun _ _ => List.not_mem_nil))
          have hne : P ≠ Q := by have h1 := lt_of_heap hqP; have h2 := lt_of_heap hqQ; have h3 := HzP.out; have h4 := HzQ.out; have h5 := hgtQP; omega
          have hEE := hHeld
          refine wpAnyH_ready (rs := [16]) (by kernel_rfl) (by simp) ?_
          refine AllReadyH.cons rfl (fun K hK => ?_) AllReadyH.nil
          rw [if_pos (by rfl)]
          (refine wp_store_row 35 _ _ rfl P x1.V rfl rfl _ _ hfP (by rw [x1.size]; exact infoSum) (by rw [x1.size]; rfl) x1.one ?_)
          refine hK.out _ _ ?_ (fun hHeld => ?_)
          · ((try dsimp only); exact Ext.trans hHeld (setRow_ext _ _) (fun g hg => .inr (by simp at hg; omega)))
          clear hK K
          try simp only [Act.put, List.getElem_toArray, List.getElem_cons_succ, List.getElem_cons_zero, List.setIfInBounds_toArray, List.set_cons_zero, List.set_cons_succ]
          refine wpAnyH_ready (rs := [17]) (by kernel_rfl) (by simp) ?_
          refine AllReadyH.cons rfl (fun K hK => ?_) AllReadyH.nil
          rw [if_pos (by rfl)]
          (refine wp_store_row 35 _ _ rfl Q y1.V rfl rfl _ _ (setRow_keep _ hfQ (Ne.symm hne)) (by rw [y1.size]; exact infoSum) (by rw [y1.size]; rfl) y1.one ?_)
          refine hK.out _ _ ?_ (fun hHeld => ?_)
          · ((try dsimp only); exact Ext.trans hHeld (setRow_ext _ _) (fun g hg => .inr (by simp at hg; omega)))
          clear hK K
          try simp only [Act.put, List.getElem_toArray, List.getElem_cons_succ, List.getElem_cons_zero, List.setIfInBounds_toArray, List.set_cons_zero, List.set_cons_succ]
          refine wpAnyH_take (i := 18) (v := ?_) rfl (by kernel_rfl) (by kernel_rfl) (by kernel_rfl) (fun _ _ _ h => h) (Or.inl ⟨by rfl, ?_⟩) (by assumption) ?_
          rotate_left
          · (intro w hSw; (try dsimp only at hSw); first | (go_simp; done) | (go_simp; with_reducible rfl))
          try simp only [Act.put, List.getElem_toArray, List.getElem_cons_succ, List.getElem_cons_zero, List.setIfInBounds_toArray, List.set_cons_zero, List.set_cons_succ]
          refine wpAnyH_take (i := 19) (v := ?_) rfl (by kernel_rfl) (by kernel_rfl) (by kernel_rfl) (fun _ _ _ h => h) (Or.inl ⟨by rfl, ?_⟩) (by assumption) ?_
          rotate_left
          · (intro w hSw; (try dsimp only at hSw); first | (go_simp; done) | (go_simp; with_reducible rfl))
          try simp only [Act.put, List.getElem_toArray, List.getElem_cons_succ, List.getElem_cons_zero, List.setIfInBounds_toArray, List.set_cons_zero, List.set_cons_succ]
          refine wpAnyH_done (by kernel_rfl) ?_ _
          refine NoPanic.normal ?_
          go_wp2
          go_meet
          exact ⟨P, Q, x1, y1, v1, ps1, ok1, rfl, rfl, rfl, rfl, setRow_keep _ (setRow_heap _ _ _ _ _ _ hfP) hne, setRow_heap _ _ _ _ _ _ (setRow_keep _ hfQ (Ne.symm hne)), Hs.hid ⟨hr1.out, (hfO.set hfP _).set (setRow_keep _ hfQ (Ne.symm hne)) _, fun g hg => Nat.le_trans HWW.out (hg1 g hg), hn1, hgeP, hgeQ⟩, ((hEE.trans (setRow_ext _ _) (fun g hg => .inr (by simp at hg; omega))).trans (setRow_ext _ _) (fun g hg => .inr (by simp at hg; omega)))⟩
      · rw [if_pos (by rfl)]
        (go_simp; have hgeP := Ext.size hHeld)
        refine hK.out _ _ ?_ (fun hHeld => ?_)
        · ((try dsimp only); exact Ext.alloc hHeld _)
        clear hK K
        try simp only [Act.put, List.getElem_toArray, List.getElem_cons_succ, List.getElem_cons_zero, List.setIfInBounds_toArray, List.set_cons_zero, List.set_cons_succ]
        have hqP := heap_new wd (.cells #[.int .u8 0, .int .u8 0, .int .u8 0, .int .u8 0, .int .u8 0, .int .u8 0, .int .u8 0, .int .u8 0, .int .u8 0, .int .u8 0, .int .u8 0, .int .u8 0, .int .u8 0, .int .u8 0, .int .u8 0, .int .u8 0, .int .u8 0, .int .u8 0, .int .u8 0, .int .u8 0, .int .u8 0, .int .u8 0, .int .u8 0, .int .u8 0, .int .u8 0, .int .u8 0, .int .u8 0, .int .u8 0, .int .u8 0, .int .u8 0, .int .u8 0, .int .u8 0] 35)
        have hxP := (Ext.refl [] wd).alloc (.cells #[.int .u8 0, .int .u8 0, .int .u8 0, .int .u8 0, .int .u8 0, .int .u8 0, .int .u8 0, .int .u8 0, .int .u8 0, .int .u8 0, .int .u8 0, .int .u8 0, .int .u8 0, .int .u8 0, .int .u8 0, .int .u8 0, .int .u8 0, .int .u8 0, .int .u8 0, .int .u8 0, .int .u8 0, .int .u8 0, .int .u8 0, .int .u8 0, .int .u8 0, .int .u8 0, .int .u8 0, .int .u8 0, .int .u8 0, .int .u8 0, .int .u8 0, .int .u8 0] 35)
        replace hHeld : Ext [] w10 (wd.alloc (.cells #[.int .u8 0, .int .u8 0, .int .u8 0, .int .u8 0, .int .u8 0, .int .u8 0, .int .u8 0, .int .u8 0, .int .u8 0, .int .u8 0, .int .u8 0, .int .u8 0, .int .u8 0, .int .u8 0, .int .u8 0, .int .u8 0, .int .u8 0, .int .u8 0, .int .u8 0, .int .u8 0, .int .u8 0, .int .u8 0, .int .u8 0, .int .u8 0, .int .u8 0, .int .u8 0, .int .u8 0, .int .u8 0, .int .u8 0, .int .u8 0, .int .u8 0, .int .u8 0] 35)) := hHeld
        have hzP : (wd.alloc (.cells #[.int .u8 0, .int .u8 0, .int .u8 0, .int .u8 0, .int .u8 0, .int .u8 0, .int .u8 0, .int .u8 0, .int .u8 0, .int .u8 0, .int .u8 0, .int .u8 0, .int .u8 0, .int .u8 0, .int .u8 0, .int .u8 0, .int .u8 0, .int .u8 0, .int .u8 0, .int .u8 0, .int .u8 0, .int .u8 0, .int .u8 0, .int .u8 0, .int .u8 0, .int .u8 0, .int .u8 0, .int .u8 0, .int .u8 0, .int .u8 0, .int .u8 0, .int .u8 0] 35)).heap.size = wd.heap.size + 1 := by simp
        generalize wd.alloc (.cells #[.int .u8 0, .int .u8 0, .int .u8 0, .int .u8 0, .int .u8 0, .int .u8 0, .int .u8 0, .int .u8 0, .int .u8 0, .int .u8 0, .int .u8 0, .int .u8 0, .int .u8 0, .int .u8 0, .int .u8 0, .int .u8 0, .int .u8 0, .int .u8 0, .int .u8 0, .int .u8 0, .int .u8 0, .int .u8 0, .int .u8 0, .int .u8 0, .int .u8 0, .int .u8 0, .int .u8 0, .int .u8 0, .int .u8 0, .int .u8 0, .int .u8 0, .int .u8 0] 35) = wP at hqP hxP hzP hHeld ⊢
        obtain ⟨P, hsP⟩ : ∃ p, wd.heap.size = p := ⟨_, rfl⟩
        rw [hsP] at hqP hgeP hzP ⊢
        have HzP := Hs.hid hzP
        clear hzP hsP
        refine wpAnyH_ready (rs := [8, 15]) (by kernel_rfl) (by simp) ?_
        refine AllReadyH.cons rfl (fun K hK => ?_) (AllReadyH.cons rfl (fun K hK => ?_) AllReadyH.nil)
        · go_simp
          (go_at_call 34; have hge7 := Ext.size hHeld; (with_reducible refine (IH.out _ (HLA.out _ hHeld) (HSU.out _ hHeld)).mono ?_); intro e w7 hr; unfold SideE at hr; obtain ⟨x1, y1, v1, ps1, ok1, rfl, hr1, hO1, hg1, hn1, hx7⟩ := hr)
          go_wp2_with fail
          refine hK.out _ _ ?_ (fun hHeld => ?_)
          · ((try dsimp only); exact Ext.trans0 hHeld hx7)
          clear hK K
          try simp only [Act.put, List.getElem_toArray, List.getElem_cons_succ, List.getElem_cons_zero, List.setIfInBounds_toArray, List.set_cons_zero, List.set_cons_succ]
          replace hHeld : Ext [] w10 w7 := hHeld
          replace hg1 : ∀ g, v1.ownBlock = some g → w10.heap.size ≤ g := fun g hg => Nat.le_trans (by have := hge7; omega) (hg1 g hg)
          refine wpAnyH_take (i := 9) (v := ?_) rfl (by kernel_rfl) (by kernel_rfl) (by kernel_rfl) (fun _ _ _ h => h) (Or.inl ⟨by rfl, ?_⟩) (by assumption) ?_
          rotate_left
          · (intro w hSw; (try dsimp only at hSw); first | (go_simp; done) | (go_simp; with_reducible rfl))
          try simp only [Act.put, List.getElem_toArray, List.getElem_cons_succ, List.getElem_cons_zero, List.setIfInBounds_toArray, List.set_cons_zero, List.set_cons_succ]
          refine wpAnyH_take (i := 10) (v := ?_) rfl (by kernel_rfl) (by kernel_rfl) (by kernel_rfl) (fun _ _ _ h => h) (Or.inl ⟨by rfl, ?_⟩) (by assumption) ?_
          rotate_left
          · (intro w hSw; (try dsimp only at hSw); first | (go_simp; done) | (go_simp; with_reducible rfl))
          try simp only [Act.put, List.getElem_toArray, List.getElem_cons_succ, List.getElem_cons_zero, List.setIfInBounds_toArray, List.set_cons_zero, List.set_cons_succ]
          refine wpAnyH_take (i := 11) (v := ?_) rfl (by kernel_rfl) (by kernel_rfl) (by kernel_rfl) (fun _ _ _ h => h) (Or.inl ⟨by rfl, ?_⟩) (by assumption) ?_
          rotate_left
          · (intro w hSw; (try dsimp only at hSw); first | (go_simp; done) | (go_simp; with_reducible rfl))
          try simp only [Act.put, List.getElem_toArray, List.getElem_cons_succ, List.getElem_cons_zero, List.setIfInBounds_toArray, List.set_cons_zero, List.set_cons_succ]
          refine wpAnyH_take (i := 12) (v := ?_) rfl (by kernel_rfl) (by kernel_rfl) (by kernel_rfl) (fun _ _ _ h => h) (Or.inl ⟨by rfl, ?_⟩) (by assumption) ?_
          rotate_left
          · (intro w hSw; (try dsimp only at hSw); first | (go_simp; done) | (go_simp; with_reducible rfl))
          try simp only [Act.put, List.getElem_toArray, List.getElem_cons_succ, List.getElem_cons_zero, List.setIfInBounds_toArray, List.set_cons_zero, List.set_cons_succ]
          refine wpAnyH_take (i := 13) (v := ?_) rfl (by kernel_rfl) (by kernel_rfl) (by kernel_rfl) (fun _ _ _ h => h) (Or.inl ⟨by rfl, ?_⟩) (by assumption) ?_
          rotate_left
          · (intro w hSw; (try dsimp only at hSw); first | (go_simp; done) | (go_simp; with_reducible rfl))
          try simp only [Act.put, List.getElem_toArray, List.getElem_cons_succ, List.getElem_cons_zero, List.setIfInBounds_toArray, List.set_cons_zero, List.set_cons_succ]
          refine wpAnyH_ready (rs := [15]) (by kernel_rfl) (by simp) ?_
          refine AllReadyH.cons rfl (fun K hK => ?_) AllReadyH.nil
          rw [if_pos (by rfl)]
          (go_simp; have hgeQ := Ext.size hHeld)
          refine hK.out _ _ ?_ (fun hHeld => ?_)
          · ((try dsimp only); exact Ext.alloc hHeld _)
          clear hK K
          try simp only [Act.put, List.getElem_toArray, List.getElem_cons_succ, List.getElem_cons_zero, List.setIfInBounds_toArray, List.set_cons_zero, List.set_cons_succ]
          have hqQ := heap_new w7 (.cells #[.int .u8 0, .int .u8 0, .int .u8 0, .int .u8 0, .int .u8 0, .int .u8 0, .int .u8 0, .int .u8 0, .int .u8 0, .int .u8 0, .int .u8 0, .int .u8 0, .int .u8 0, .int .u8 0, .int .u8 0, .int .u8 0, .int .u8 0, .int .u8 0, .int .u8 0, .int .u8 0, .int .u8 0, .int .u8 0, .int .u8 0, .int .u8 0, .int .u8 0, .int .u8 0, .int .u8 0, .int .u8 0, .int .u8 0, .int .u8 0, .int .u8 0, .int .u8 0] 35)
          have hxQ := (Ext.refl [] w7).alloc (.cells #[.int .u8 0, .int .u8 0, .int .u8 0, .int .u8 0, .int .u8 0, .int .u8 0, .int .u8 0, .int .u8 0, .int .u8 0, .int .u8 0, .int .u8 0, .int .u8 0, .int .u8 0, .int .u8 0, .int .u8 0, .int .u8 0, .int .u8 0, .int .u8 0, .int .u8 0, .int .u8 0, .int .u8 0, .int .u8 0, .int .u8 0, .int .u8 0, .int .u8 0, .int .u8 0, .int .u8 0, .int .u8 0, .int .u8 0, .int .u8 0, .int .u8 0, .int .u8 0] 35)
          replace hHeld : Ext [] w10 (w7.alloc (.cells #[.int .u8 0, .int .u8 0, .int .u8 0, .int .u8 0, .int .u8 0, .int .u8 0, .int .u8 0, .int .u8 0, .int .u8 0, .int .u8 0, .int .u8 0, .int .u8 0, .int .u8 0, .int .u8 0, .int .u8 0, .int .u8 0, .int .u8 0, .int .u8 0, .int .u8 0, .int .u8 0, .int .u8 0, .int .u8 0, .int .u8 0, .int .u8 0, .int .u8 0, .int .u8 0, .int .u8 0, .int .u8 0, .int .u8 0, .int .u8 0, .int .u8 0, .int .u8 0] 35)) := hHeld
          have hzQ : (w7.alloc (.cells #[.int .u8 0, .int .u8 0, .int .u8 0, .int .u8 0, .int .u8 0, .int .u8 0, .int .u8 0, .int .u8 0, .int .u8 0, .int .u8 0, .int .u8 0, .int .u8 0, .int .u8 0, .int .u8 0, .int .u8 0, .int .u8 0, .int .u8 0, .int .u8 0, .int .u8 0, .int .u8 0, .int .u8 0, .int .u8 0, .int .u8 0, .int .u8 0, .int .u8 0, .int .u8 0, .int .u8 0, .int .u8 0, .int .u8 0, .int .u8 0, .int .u8 0, .int .u8 0] 35)).heap.size = w7.heap.size + 1 := by simp
          generalize w7.alloc (.cells #[.int .u8 0, .int .u8 0, .int .u8 0, .int .u8 0, .int .u8 0, .int .u8 0, .int .u8 0, .int .u8 0, .int .u8 0, .int .u8 0, .int .u8 0, .int .u8 0, .int .u8 0, .int .u8 0, .int .u8 0, .int .u8 0, .int .u8 0, .int .u8 0, .int .u8 0, .int .u8 0, .int .u8 0, .int .u8 0, .int .u8 0, .int .u8 0, .int .u8 0, .int .u8 0, .int .u8 0, .int .u8 0, .int .u8 0, .int .u8 0, .int .u8 0, .int .u8 0] 35) = wQ at hqQ hxQ hzQ hHeld ⊢
          obtain ⟨Q, hsQ⟩ : ∃ p, w7.heap.size = p := ⟨_, rfl⟩
          rw [hsQ] at hqQ hgeQ hzQ ⊢
          have HzQ := Hs.hid hzQ
          have hgtPQ : wP.heap.size ≤ Q := by have := hsQ; have := hx7.size; omega
          clear hzQ hsQ
          have hfP := (hxQ.same (hx7.same hqP List.not_mem_nil) List.not_mem_nil)
          have hfQ := hqQ
          have hfO := (hO1.ext hxQ (fun _ _ => List.not_mem_nil))
          have hne : P ≠ Q := by have h1 := lt_of_heap hqP; have h2 := lt_of_heap hqQ; have h3 := HzP.out; have h4 := HzQ.out; have h5 := hgtPQ; omega
          have hEE := hHeld
          refine wpAnyH_ready (rs := [16]) (by kernel_rfl) (by simp) ?_
          refine AllReadyH.cons rfl (fun K hK => ?_) AllReadyH.nil
          rw [if_pos (by rfl)]
          (refine wp_store_row 35 _ _ rfl P x1.V rfl rfl _ _ hfP (by rw [x1.size]; exact infoSum) (by rw [x1.size]; rfl) x1.one ?_)
          refine hK.out _ _ ?_ (fun hHeld => ?_)
          · ((try dsimp only); exact Ext.trans hHeld (setRow_ext _ _) (fun g hg => .inr (by simp at hg; omega)))
          clear hK K
          try simp only [Act.put, List.getElem_toArray, List.getElem_cons_succ, List.getElem_cons_zero, List.setIfInBounds_toArray, List.set_cons_zero, List.set_cons_succ]
          refine wpAnyH_ready (rs := [17]) (by kernel_rfl) (by simp) ?_
          refine AllReadyH.cons rfl (fun K hK => ?_) AllReadyH.nil
          rw [if_pos (by rfl)]
          (refine wp_store_row 35 _ _ rfl Q y1.V rfl rfl _ _ (setRow_keep _ hfQ (Ne.symm hne)) (by rw [y1.size]; exact infoSum) (by rw [y1.size]; rfl) y1.one ?_)
          refine hK.out _ _ ?_ (fun hHeld => ?_)
          · ((try dsimp only); exact Ext.trans hHeld (setRow_ext _ _) (fun g hg => .inr (by simp at hg; omega)))
          clear hK K
          try simp only [Act.put, List.getElem_toArray, List.getElem_cons_succ, List.getElem_cons_zero, List.setIfInBounds_toArray, List.set_cons_zero, List.set_cons_succ]
          refine wpAnyH_take (i := 18) (v := ?_) rfl (by kernel_rfl) (by kernel_rfl) (by kernel_rfl) (fun _ _ _ h => h) (Or.inl ⟨by rfl, ?_⟩) (by assumption) ?_
          rotate_left
          · (intro w hSw; (try dsimp only at hSw); first | (go_simp; done) | (go_simp; with_reducible rfl))
          try simp only [Act.put, List.getElem_toArray, List.getElem_cons_succ, List.getElem_cons_zero, List.setIfInBounds_toArray, List.set_cons_zero, List.set_cons_succ]
          refine wpAnyH_take (i := 19) (v := ?_) rfl (by kernel_rfl) (by kernel_rfl) (by kernel_rfl) (fun _ _ _ h => h) (Or.inl ⟨by rfl, ?_⟩) (by assumption) ?_
          rotate_left
          · (intro w hSw; (try dsimp only at hSw); first | (go_simp; done) | (go_simp; with_reducible rfl))
          try simp only [Act.put, List.getElem_toArray, List.getElem_cons_succ, List.getElem_cons_zero, List.setIfInBounds_toArray, List.set_cons_zero, List.set_cons_succ]
          refine wpAnyH_done (by kernel_rfl) ?_ _
          refine NoPanic.normal ?_
          go_wp2
          go_meet
          exact ⟨P, Q, x1, y1, v1, ps1, ok1, rfl, rfl, rfl, rfl, setRow_keep _ (setRow_heap _ _ _ _ _ _ hfP) hne, setRow_heap _ _ _ _ _ _ (setRow_keep _ hfQ (Ne.symm hne)), Hs.hid ⟨hr1.out, (hfO.set hfP _).set (setRow_keep _ hfQ (Ne.symm hne)) _, fun g hg => Nat.le_trans HWW.out (hg1 g hg), hn1, hgeP, hgeQ⟩, ((hEE.trans (setRow_ext _ _) (fun g hg => .inr (by simp at hg; omega))).trans (setRow_ext _ _) (fun g hg => .inr (by simp at hg; omega)))⟩
        · rw [if_pos (by rfl)]
          (go_simp; have hgeQ := Ext.size hHeld)
          refine hK.out _ _ ?_ (fun hHeld => ?_)
          · ((try dsimp only); exact Ext.alloc hHeld _)
          clear hK K
          try simp only [Act.put, List.getElem_toArray, List.getElem_cons_succ, List.getElem_cons_zero, List.setIfInBounds_toArray, List.set_cons_zero, List.set_cons_succ]
          have hqQ := heap_new wP (.cells #[.int .u8 0, .int .u8 0, .int .u8 0, .int .u8 0, .int .u8 0, .int .u8 0, .int .u8 0, .int .u8 0, .int .u8 0, .int .u8 0, .int .u8 0, .int .u8 0, .int .u8 0, .int .u8 0, .int .u8 0, .int .u8 0, .int .u8 0, .int .u8 0, .int .u8 0, .int .u8 0, .int .u8 0, .int .u8 0, .int .u8 0, .int .u8 0, .int .u8 0, .int .u8 0, .int .u8 0, .int .u8 0, .int .u8 0, .int .u8 0, .int .u8 0, .int .u8 0] 35)
          have hxQ := (Ext.refl [] wP).alloc (.cells #[.int .u8 0, .int .u8 0, .int .u8 0, .int .u8 0, .int .u8 0, .int .u8 0, .int .u8 0, .int .u8 0, .int .u8 0, .int .u8 0, .int .u8 0, .int .u8 0, .int .u8 0, .int .u8 0, .int .u8 0, .int .u8 0, .int .u8 0, .int .u8 0, .int .u8 0, .int .u8 0, .int .u8 0, .int .u8 0, .int .u8 0, .int .u8 0, .int .u8 0, .int .u8 0, .int .u8 0, .int .u8 0, .int .u8 0, .int .u8 0, .int .u8 0, .int .u8 0] 35)
          replace hHeld : Ext [] w10 (wP.alloc (.cells #[.int .u8 0, .int .u8 0, .int .u8 0, .int .u8 0, .int .u8 0, .int .u8 0, .int .u8 0, .int .u8 0, .int .u8 0, .int .u8 0, .int .u8 0, .int .u8 0, .int .u8 0, .int .u8 0, .int .u8 0, .int .u8 0, .int .u8 0, .int .u8 0, .int .u8 0, .int .u8 0, .int .u8 0, .int .u8 0, .int .u8 0, .int .u8 0, .int .u8 0, .int .u8 0, .int .u8 0, .int .u8 0, .int .u8 0, .int .u8 0, .int .u8 0, .int .u8 0] 35)) := hHeld
          have hzQ : (wP.alloc (.cells #[.int .u8 0, .int .u8 0, .int .u8 0, .int .u8 0, .int .u8 0, .int .u8 0, .int .u8 0, .int .u8 0, .int .u8 0, .int .u8 0, .int .u8 0, .int .u8 0, .int .u8 0, .int .u8 0, .int .u8 0, .int .u8 0, .int .u8 0, .int .u8 0, .int .u8 0, .int .u8 0, .int .u8 0, .int .u8 0, .int .u8 0, .int .u8 0, .int .u8 0, .int .u8 0, .int .u8 0, .int .u8 0, .int .u8 0, .int .u8 0, .int .u8 0, .int .u8 0] 35)).heap.size = wP.heap.size + 1 := by simp
          generalize wP.alloc (.cells #[.int .u8 0, .int .u8 0, .int .u8 0, .int .u8 0, .int .u8 0, .int .u8 0, .int .u8 0, .int .u8 0, .int .u8 0, .int .u8 0, .int .u8 0, .int .u8 0, .int .u8 0, .int .u8 0, .int .u8 0, .int .u8 0, .int .u8 0, .int .u8 0, .int .u8 0, .int .u8 0, .int .u8 0, .int .u8 0, .int .u8 0, .int .u8 0, .int .u8 0, .int .u8 0, .int .u8 0, .int .u8 0, .int .u8 0, .int .u8 0, .int .u8 0, .int .u8 0] 35) = wQ at hqQ hxQ hzQ hHeld ⊢
          obtain ⟨Q, hsQ⟩ : ∃ p, wP.heap.size = p := ⟨_, rfl⟩
          rw [hsQ] at hqQ hgeQ hzQ ⊢
          have HzQ := Hs.hid hzQ
          have hgtPQ : wP.heap.size ≤ Q := by have := hsQ; omega
          clear hzQ hsQ
          refine wpAnyH_ready (rs := [8]) (by kernel_rfl) (by simp) ?_
          refine AllReadyH.cons rfl (fun K hK => ?_) AllReadyH.nil
          go_simp
          (go_at_call 34; have hge7 := Ext.size hHeld; (with_reducible refine (IH.out _ (HLA.out _ hHeld) (HSU.out _ hHeld)).mono ?_); intro e w7 hr; unfold SideE at hr; obtain ⟨x1, y1, v1, ps1, ok1, rfl, hr1, hO1, hg1, hn1, hx7⟩ := hr)
          go_wp2_with fail
          refine hK.out _ _ ?_ (fun hHeld => ?_)
          · ((try dsimp only); exact Ext.trans0 hHeld hx7)
          clear hK K
          try simp only [Act.put, List.getElem_toArray, List.getElem_cons_succ, List.getElem_cons_zero, List.setIfInBounds_toArray, List.set_cons_zero, List.set_cons_succ]
          replace hHeld : Ext [] w10 w7 := hHeld
          replace hg1 : ∀ g, v1.ownBlock = some g → w10.heap.size ≤ g := fun g hg => Nat.le_trans (by have := hge7; omega) (hg1 g hg)
          refine wpAnyH_take (i := 9) (v := ?_) rfl (by kernel_rfl) (by kernel_rfl) (by kernel_rfl) (fun _ _ _ h => h) (Or.inl ⟨by rfl, ?_⟩) (by assumption) ?_
          rotate_left
          · (intro w hSw; (try dsimp only at hSw); first | (go_simp; done) | (go_simp; with_reducible rfl))
          try simp only [Act.put, List.getElem_toArray, List.getElem_cons_succ, List.getElem_cons_zero, List.setIfInBounds_toArray, List.set_cons_zero, List.set_cons_succ]
          refine wpAnyH_take (i := 10) (v := ?_) rfl (by kernel_rfl) (by kernel_rfl) (by kernel_rfl) (fun _ _ _ h => h) (Or.inl ⟨by rfl, ?_⟩) (by assumption) ?_
          rotate_left
          · (intro w hSw; (try dsimp only at hSw); first | (go_simp; done) | (go_simp; with_reducible rfl))
          try simp only [Act.put, List.getElem_toArray, List.getElem_cons_succ, List.getElem_cons_zero, List.setIfInBounds_toArray, List.set_cons_zero, List.set_cons_succ]
          refine wpAnyH_take (i := 11) (v := ?_) rfl (by kernel_rfl) (by kernel_rfl) (by kernel_rfl) (fun _ _ _ h => h) (Or.inl ⟨by rfl, ?_⟩) (by assumption) ?_
          rotate_left
          · (intro w hSw; (try dsimp only at hSw); first | (go_simp; done) | (go_simp; with_reducible rfl))
          try simp only [Act.put, List.getElem_toArray, List.getElem_cons_succ, List.getElem_cons_zero, List.setIfInBounds_toArray, List.set_cons_zero, List.set_cons_succ]
          refine wpAnyH_take (i := 12) (v := ?_) rfl (by kernel_rfl) (by kernel_rfl) (by kernel_rfl) (fun _ _ _ h => h) (Or.inl ⟨by rfl, ?_⟩) (by assumption) ?_
          rotate_left
          · (intro w hSw; (try dsimp only at hSw); first | (go_simp; done) | (go_simp; with_reducible rfl))
          try simp only [Act.put, List.getElem_toArray, List.getElem_cons_succ, List.getElem_cons_zero, List.setIfInBounds_toArray, List.set_cons_zero, List.set_cons_succ]
          refine wpAnyH_take (i := 13) (v := ?_) rfl (by kernel_rfl) (by kernel_rfl) (by kernel_rfl) (fun _ _ _ h => h) (Or.inl ⟨by rfl, ?_⟩) (by assumption) ?_
          rotate_left
          · (intro w hSw; (try dsimp only at hSw); first | (go_simp; done) | (go_simp; with_reducible rfl))
          try simp only [Act.put, List.getElem_toArray, List.getElem_cons_succ, List.getElem_cons_zero, List.setIfInBounds_toArray, List.set_cons_zero, List.set_cons_succ]
          have hfP := (hx7.same (hxQ.same hqP List.not_mem_nil) List.not_mem_nil)
          have hfQ := (hx7.same hqQ List.not_mem_nil)
          have hfO := hO1
          have hne : P ≠ Q := by have h1 := lt_of_heap hqP; have h2 := lt_of_heap hqQ; have h3 := HzP.out; have h4 := HzQ.out; have h5 := hgtPQ; omega
          have hEE := hHeld
          refine wpAnyH_ready (rs := [16]) (by kernel_rfl) (by simp) ?_
          refine AllReadyH.cons rfl (fun K hK => ?_) AllReadyH.nil
          rw [if_pos (by rfl)]
          (refine wp_store_row 35 _ _ rfl P x1.V rfl rfl _ _ hfP (by rw [x1.size]; exact infoSum) (by rw [x1.size]; rfl) x1.one ?_)
          refine hK.out _ _ ?_ (fun hHeld => ?_)
          · ((try dsimp only); exact Ext.trans hHeld (setRow_ext _ _) (fun g hg => .inr (by simp at hg; omega)))
          clear hK K
          try simp only [Act.put, List.getElem_toArray, List.getElem_cons_succ, List.getElem_cons_zero, List.setIfInBounds_toArray, List.set_cons_zero, List.set_cons_succ]
          refine wpAnyH_ready (rs := [17]) (by kernel_rfl) (by simp) ?_
          refine AllReadyH.cons rfl (fun K hK => ?_) AllReadyH.nil
          rw [if_pos (by rfl)]
          (refine wp_store_row 35 _ _ rfl Q y1.V rfl rfl _ _ (setRow_keep _ hfQ (Ne.symm hne)) (by rw [y1.size]; exact infoSum) (by rw [y1.size]; rfl) y1.one ?_)
          refine hK.out _ _ ?_ (fun hHeld => ?_)
          · ((try dsimp only); exact Ext.trans hHeld (setRow_ext _ _) (fun g hg => .inr (by simp at hg; omega)))
          clear hK K
          try simp only [Act.put, List.getElem_toArray, List.getElem_cons_succ, List.getElem_cons_zero, List.setIfInBounds_toArray, List.set_cons_zero, List.set_cons_succ]
          refine wpAnyH_take (i := 18) (v := ?_) rfl (by kernel_rfl) (by kernel_rfl) (by kernel_rfl) (fun _ _ _ h => h) (Or.inl ⟨by rfl, ?_⟩) (by assumption) ?_
          rotate_left
          · (intro w hSw; (try dsimp only at hSw); first | (go_simp; done) | (go_simp; with_reducible rfl))
          try simp only [Act.put, List.getElem_toArray, List.getElem_cons_succ, List.getElem_cons_zero, List.setIfInBounds_toArray, List.set_cons_zero, List.set_cons_succ]
          refine wpAnyH_take (i := 19) (v := ?_) rfl (by kernel_rfl) (by kernel_rfl) (by kernel_rfl) (fun _ _ _ h => h) (Or.inl ⟨by rfl, ?_⟩) (by assumption) ?_
          rotate_left
          · (intro w hSw; (try dsimp only at hSw); first | (go_simp; done) | (go_simp; with_reducible rfl))
          try simp only [Act.put, List.getElem_toArray, List.getElem_cons_succ, List.getElem_cons_zero, List.setIfInBounds_toArray, List.set_cons_zero, List.set_cons_succ]
          refine wpAnyH_done (by kernel_rfl) ?_ _
          refine NoPanic.normal ?_
          go_wp2
          go_meet
          exact ⟨P, Q, x1, y1, v1, ps1, ok1, rfl, rfl, rfl, rfl, setRow_keep _ (setRow_heap _ _ _ _ _ _ hfP) hne, setRow_heap _ _ _ _ _ _ (setRow_keep _ hfQ (Ne.symm hne)), Hs.hid ⟨hr1.out, (hfO.set hfP _).set (setRow_keep _ hfQ (Ne.symm hne)) _, fun g hg => Nat.le_trans HWW.out (hg1 g hg), hn1, hgeP, hgeQ⟩, ((hEE.trans (setRow_ext _ _) (fun g hg => .inr (by simp at hg; omega))).trans (setRow_ext _ _) (fun g hg => .inr (by simp at hg; omega)))⟩
      · rw [if_pos (by rfl)]
        (go_simp; have hgeQ := Ext.size hHeld)
        refine hK.out _ _ ?_ (fun hHeld => ?_)
        · ((try dsimp only); exact Ext.alloc hHeld _)
        clear hK K
        try simp only [Act.put, List.getElem_toArray, List.getElem_cons_succ, List.getElem_cons_zero, List.setIfInBounds_toArray, List.set_cons_zero, List.set_cons_succ]
        have hqQ := heap_new wd (.cells #[.int .u8 0, .int .u8 0, .int .u8 0, .int .u8 0, .int .u8 0, .int .u8 0, .int .u8 0, .int .u8 0, .int .u8 0, .int .u8 0, .int .u8 0, .int .u8 0, .int .u8 0, .int .u8 0, .int .u8 0, .int .u8 0, .int .u8 0, .int .u8 0, .int .u8 0, .int .u8 0, .int .u8 0, .int .u8 0, .int .u8 0, .int .u8 0, .int .u8 0, .int .u8 0, .int .u8 0, .int .u8 0, .int .u8 0, .int .u8 0, .int .u8 0, .int .u8 0] 35)
        have hxQ := (Ext.refl [] wd).alloc (.cells #[.int .u8 0, .int .u8 0, .int .u8 0, .int .u8 0, .int .u8 0, .int .u8 0, .int .u8 0, .int .u8 0, .int .u8 0, .int .u8 0, .int .u8 0, .int .u8 0, .int .u8 0, .int .u8 0, .int .u8 0, .int .u8 0, .int .u8 0, .int .u8 0, .int .u8 0, .int .u8 0, .int .u8 0, .int .u8 0, .int .u8 0, .int .u8 0, .int .u8 0, .int .u8 0, .int .u8 0, .int .u8 0, .int .u8 0, .int .u8 0, .int .u8 0, .int .u8 0] 35)
        replace hHeld : Ext [] w10 (wd.alloc (.cells #[.int .u8 0, .int .u8 0, .int .u8 0, .int .u8 0, .int .u8 0, .int .u8 0, .int .u8 0, .int .u8 0, .int .u8 0, .int .u8 0, .int .u8 0, .int .u8 0, .int .u8 0, .int .u8 0, .int .u8 0, .int .u8 0, .int .u8 0, .int .u8 0, .int .u8 0, .int .u8 0, .int .u8 0, .int .u8 0, .int .u8 0, .int .u8 0, .int .u8 0, .int .u8 0, .int .u8 0, .int .u8 0, .int .u8 0, .int .u8 0, .int .u8 0, .int .u8 0] 35)) := hHeld
        have hzQ : (wd.alloc (.cells #[.int .u8 0, .int .u8 0, .int .u8 0, .int .u8 0, .int .u8 0, .int .u8 0, .int .u8 0, .int .u8 0, .int .u8 0, .int .u8 0, .int .u8 0, .int .u8 0, .int .u8 0, .int .u8 0, .int .u8 0, .int .u8 0, .int .u8 0, .int .u8 0, .int .u8 0, .int .u8 0, .int .u8 0, .int .u8 0, .int .u8 0, .int .u8 0, .int .u8 0, .int .u8 0, .int .u8 0, .int .u8 0, .int .u8 0, .int .u8 0, .int .u8 0, .int .u8 0] 35)).heap.size = wd.heap.size + 1 := by simp
        generalize wd.alloc (.cells #[.int .u8 0, .int .u8 0, .int .u8 0, .int .u8 0, .int .u8 0, .int .u8 0, .int .u8 0, .int .u8 0, .int .u8 0, .int .u8 0, .int .u8 0, .int .u8 0, .int .u8 0, .int .u8 0, .int .u8 0, .int .u8 0, .int .u8 0, .int .u8 0, .int .u8 0, .int .u8 0, .int .u8 0, .int .u8 0, .int .u8 0, .int .u8 0, .int .u8 0, .int .u8 0, .int .u8 0, .int .u8 0, .int .u8 0, .int .u8 0, .int .u8 0, .int .u8 0] 35) = wQ at hqQ hxQ hzQ hHeld ⊢
        obtain ⟨Q, hsQ⟩ : ∃ p, wd.heap.size = p := ⟨_, rfl⟩
        rw [hsQ] at hqQ hgeQ hzQ ⊢
        have HzQ := Hs.hid hzQ
        clear hzQ hsQ
        refine wpAnyH_ready (rs := [8, 14]) (by kernel_rfl) (by simp) ?_
        refine AllReadyH.cons rfl (fun K hK => ?_) (AllReadyH.cons rfl (fun K hK => ?_) AllReadyH.nil)
        · go_simp
          (go_at_call 34; have hge7 := Ext.size hHeld; (with_reducible refine (IH.out _ (HLA.out _ hHeld) (HSU.out _ hHeld)).mono ?_); intro e w7 hr; unfold SideE at hr; obtain ⟨x1, y1, v1, ps1, ok1, rfl, hr1, hO1, hg1, hn1, hx7⟩ := hr)
          go_wp2_with fail
          refine hK.out _ _ ?_ (fun hHeld => ?_)
          · ((try dsimp only); exact Ext.trans0 hHeld hx7)
          clear hK K
          try simp only [Act.put, List.getElem_toArray, List.getElem_cons_succ, List.getElem_cons_zero, List.setIfInBounds_toArray, List.set_cons_zero, List.set_cons_succ]
          replace hHeld : Ext [] w10 w7 := hHeld
          replace hg1 : ∀ g, v1.ownBlock = some g → w10.heap.size ≤ g := fun g hg => Nat.le_trans (by have := hge7; omega) (hg1 g hg)
          refine wpAnyH_take (i := 9) (v := ?_) rfl (by kernel_rfl) (by kernel_rfl) (by kernel_rfl) (fun _ _ _ h => h) (Or.inl ⟨by rfl, ?_⟩) (by assumption) ?_
          rotate_left
          · (intro w hSw; (try dsimp only at hSw); first | (go_simp; done) | (go_simp; with_reducible rfl))
          try simp only [Act.put, List.getElem_toArray, List.getElem_cons_succ, List.getElem_cons_zero, List.setIfInBounds_toArray, List.set_cons_zero, List.set_cons_succ]
          refine wpAnyH_take (i := 10) (v := ?_) rfl (by kernel_rfl) (by kernel_rfl) (by kernel_rfl) (fun _ _ _ h => h) (Or.inl ⟨by rfl, ?_⟩) (by assumption) ?_
          rotate_left
          · (intro w hSw; (try dsimp only at hSw); first | (go_simp; done) | (go_simp; with_reducible rfl))
          try simp only [Act.put, List.getElem_toArray, List.getElem_cons_succ, List.getElem_cons_zero, List.setIfInBounds_toArray, List.set_cons_zero, List.set_cons_succ]
          refine wpAnyH_take (i := 11) (v := ?_) rfl (by kernel_rfl) (by kernel_rfl) (by kernel_rfl) (fun _ _ _ h => h) (Or.inl ⟨by rfl, ?_⟩) (by assumption) ?_
          rotate_left
          · (intro w hSw; (try dsimp only at hSw); first | (go_simp; done) | (go_simp; with_reducible rfl))
          try simp only [Act.put, List.getElem_toArray, List.getElem_cons_succ, List.getElem_cons_zero, List.setIfInBounds_toArray, List.set_cons_zero, List.set_cons_succ]
          refine wpAnyH_take (i := 12) (v := ?_) rfl (by kernel_rfl) (by kernel_rfl) (by kernel_rfl) (fun _ _ _ h => h) (Or.inl ⟨by rfl, ?_⟩) (by assumption) ?_
          rotate_left
          · (intro w hSw; (try dsimp only at hSw); first | (go_simp; done) | (go_simp; with_reducible rfl))
          try simp only [Act.put, List.getElem_toArray, List.getElem_cons_succ, List.getElem_cons_zero, List.setIfInBounds_toArray, List.set_cons_zero, List.set_cons_succ]
          refine wpAnyH_take (i := 13) (v := ?_) rfl (by kernel_rfl) (by kernel_rfl) (by kernel_rfl) (fun _ _ _ h => h) (Or.inl ⟨by rfl, ?_⟩) (by assumption) ?_
          rotate_left
          · (intro w hSw; (try dsimp only at hSw); first | (go_simp; done) | (go_simp; with_reducible rfl))
          try simp only [Act.put, List.getElem_toArray, List.getElem_cons_succ, List.getElem_cons_zero, List.setIfInBounds_toArray, List.set_cons_zero, List.set_cons_succ]
          refine wpAnyH_ready (rs := [14]) (by kernel_rfl) (by simp) ?_
          refine AllReadyH.cons rfl (fun K hK => ?_) AllReadyH.nil
          rw [if_pos (by rfl)]
          (go_simp; have hgeP := Ext.size hHeld)
          refine hK.out _ _ ?_ (fun hHeld => ?_)
          · ((try dsimp only); exact Ext.alloc hHeld _)
          clear hK K
          try simp only [Act.put, List.getElem_toArray, List.getElem_cons_succ, List.getElem_cons_zero, List.setIfInBounds_toArray, List.set_cons_zero, List.set_cons_succ]
          have hqP := heap_new w7 (.cells #[.int .u8 0, .int .u8 0, .int .u8 0, .int .u8 0, .int .u8 0, .int .u8 0, .int .u8 0, .int .u8 0, .int .u8 0, .int .u8 0, .int .u8 0, .int .u8 0, .int .u8 0, .int .u8 0, .int .u8 0, .int .u8 0, .int .u8 0, .int .u8 0, .int .u8 0, .int .u8 0, .int .u8 0, .int .u8 0, .int .u8 0, .int .u8 0, .int .u8 0, .int .u8 0, .int .u8 0, .int .u8 0, .int .u8 0, .int .u8 0, .int .u8 0, .int .u8 0] 35)
          have hxP := (Ext.refl [] w7).alloc (.cells #[.int .u8 0, .int .u8 0, .int .u8 0, .int .u8 0, .int .u8 0, .int .u8 0, .int .u8 0, .int .u8 0, .int .u8 0, .int .u8 0, .int .u8 0, .int .u8 0, .int .u8 0, .int .u8 0, .int .u8 0, .int .u8 0, .int .u8 0, .int .u8 0, .int .u8 0, .int .u8 0, .int .u8 0, .int .u8 0, .int .u8 0, .int .u8 0, .int .u8 0, .int .u8 0, .int .u8 0, .int .u8 0, .int .u8 0, .int .u8 0, .int .u8 0, .int .u8 0] 35)
          replace hHeld : Ext [] w10 (w7.alloc (.cells #[.int .u8 0, .int .u8 0, .int .u8 0, .int .u8 0, .int .u8 0, .int .u8 0, .int .u8 0, .int .u8 0, .int .u8 0, .int .u8 0, .int .u8 0, .int .u8 0, .int .u8 0, .int .u8 0, .int .u8 0, .int .u8 0, .int .u8 0, .int .u8 0, .int .u8 0, .int .u8 0, .int .u8 0, .int .u8 0, .int .u8 0, .int .u8 0, .int .u8 0, .int .u8 0, .int .u8 0, .int .u8 0, .int .u8 0, .int .u8 0, .int .u8 0, .int .u8 0] 35)) := hHeld
          have hzP : (w7.alloc (.cells #[.int .u8 0, .int .u8 0, .int .u8 0, .int .u8 0, .int .u8 0, .int .u8 0, .int .u8 0, .int .u8 0, .int .u8 0, .int .u8 0, .int .u8 0, .int .u8 0, .int .u8 0, .int .u8 0, .int .u8 0, .int .u8 0, .int .u8 0, .int .u8 0, .int .u8 0, .int .u8 0, .int .u8 0, .int .u8 0, .int .u8 0, .int .u8 0, .int .u8 0, .int .u8 0, .int .u8 0, .int .u8 0, .int .u8 0, .int .u8 0, .int .u8 0, .int .u8 0] 35)).heap.size = w7.heap.size + 1 := by simp
          generalize w7.alloc (.cells #[.int .u8 0, .int .u8 0, .int .u8 0, .int .u8 0, .int .u8 0, .int .u8 0, .int .u8 0, .int .u8 0, .int .u8 0, .int .u8 0, .int .u8 0, .int .u8 0, .int .u8 0, .int .u8 0, .int .u8 0, .int .u8 0, .int .u8 0, .int .u8 0, .int .u8 0, .int .u8 0, .int .u8 0, .int .u8 0, .int .u8 0, .int .u8 0, .int .u8 0, .int .u8 0, .int .u8 0, .int .u8 0, .int .u8 0, .int .u8 0, .int .u8 0, .int .u8 0] 35) = wP at hqP hxP hzP hHeld ⊢
          obtain ⟨P, hsP⟩ : ∃ p, w7.heap.size = p := ⟨_, rfl⟩
          rw [hsP] at hqP hgeP hzP ⊢
          have HzP := Hs.hid hzP
          have hgtQP : wQ.heap.size ≤ P := by have := hsP; have := hx7.size; omega
          clear hzP hsP
          have hfP := hqP
          have hfQ := (hxP.same (hx7.same hqQ List.not_mem_nil) List.not_mem_nil)
          have hfO := (hO1.ext hxP (fun _ _ => List.not_mem_nil))
          have hne : P ≠ Q := by have h1 := lt_of_heap hqP; have h2 := lt_of_heap hqQ; have h3 := HzP.out; have h4 := HzQ.out; have h5 := hgtQP; omega
          have hEE := hHeld
          refine wpAnyH_ready (rs := [16]) (by kernel_rfl) (by simp) ?_
          refine AllReadyH.cons rfl (fun K hK => ?_) AllReadyH.nil
          rw [if_pos (by rfl)]
          (refine wp_store_row 35 _ _ rfl P x1.V rfl rfl _ _ hfP (by rw [x1.size]; exact infoSum) (by rw [x1.size]; rfl) x1.one ?_)
          refine hK.out _ _ ?_ (fun hHeld => ?_)
          · ((try dsimp only); exact Ext.trans hHeld (setRow_ext _ _) (fun g hg => .inr (by simp at hg; omega)))
          clear hK K
          try simp only [Act.put, List.getElem_toArray, List.getElem_cons_succ, List.getElem_cons_zero, List.setIfInBounds_toArray, List.set_cons_zero, List.set_cons_succ]
          refine wpAnyH_ready (rs := [17]) (by kernel_rfl) (by simp) ?_
          refine AllReadyH.cons rfl (fun K hK => ?_) AllReadyH.nil
          rw [if_pos (by rfl)]
          (refine wp_store_row 35 _ _ rfl Q y1.V rfl rfl _ _ (setRow_keep _ hfQ (Ne.symm hne)) (by rw [y1.size]; exact infoSum) (by rw [y1.size]; rfl) y1.one ?_)
          refine hK.out _ _ ?_ (fun hHeld => ?_)
          · ((try dsimp only); exact Ext.trans hHeld (setRow_ext _ _) (fun g hg => .inr (by simp at hg; omega)))
          clear hK K
          try simp only [Act.put, List.getElem_toArray, List.getElem_cons_succ, List.getElem_cons_zero, List.setIfInBounds_toArray, List.set_cons_zero, List.set_cons_succ]
          refine wpAnyH_take (i := 18) (v := ?_) rfl (by kernel_rfl) (by kernel_rfl) (by kernel_rfl) (fun _ _ _ h => h) (Or.inl ⟨by rfl, ?_⟩) (by assumption) ?_
          rotate_left
          · (intro w hSw; (try dsimp only at hSw); first | (go_simp; done) | (go_simp; with_reducible rfl))
          try simp only [Act.put, List.getElem_toArray, List.getElem_cons_succ, List.getElem_cons_zero, List.setIfInBounds_toArray, List.set_cons_zero, List.set_cons_succ]
          refine wpAnyH_take (i := 19) (v := ?_) rfl (by kernel_rfl) (by kernel_rfl) (by kernel_rfl) (fun _ _ _ h => h) (Or.inl ⟨by rfl, ?_⟩) (by assumption) ?_
          rotate_left
          · (intro w hSw; (try dsimp only at hSw); first | (go_simp; done) | (go_simp; with_reducible rfl))
          try simp only [Act.put, List.getElem_toArray, List.getElem_cons_succ, List.getElem_cons_zero, List.setIfInBounds_toArray, List.set_cons_zero, List.set_cons_succ]
          refine wpAnyH_done (by kernel_rfl) ?_ _
          refine NoPanic.normal ?_
          go_wp2
          go_meet
          exact ⟨P, Q, x1, y1, v1, ps1, ok1, rfl, rfl, rfl, rfl, setRow_keep _ (setRow_heap _ _ _ _ _ _ hfP) hne, setRow_heap _ _ _ _ _ _ (setRow_keep _ hfQ (Ne.symm hne)), Hs.hid ⟨hr1.out, (hfO.set hfP _).set (setRow_keep _ hfQ (Ne.symm hne)) _, fun g hg => Nat.le_trans HWW.out (hg1 g hg), hn1, hgeP, hgeQ⟩, ((hEE.trans (setRow_ext _ _) (fun g hg => .inr (by simp at hg; omega))).trans (setRow_ext _ _) (fun g hg => .inr (by simp at hg; omega)))⟩
        · rw [if_pos (by rfl)]
          (go_simp; have hgeP := Ext.size hHeld)
          refine hK.out _ _ ?_ (fun hHeld => ?_)
          · ((try dsimp only); exact Ext.alloc hHeld _)
          clear hK K
          try simp only [Act.put, List.getElem_toArray, List.getElem_cons_succ, List.getElem_cons_zero, List.setIfInBounds_toArray, List.set_cons_zero, List.set_cons_succ]
          have hqP := heap_new wQ (.cells #[.int .u8 0, .int .u8 0, .int .u8 0, .int .u8 0, .int .u8 0, .int .u8 0, .int .u8 0, .int .u8 0, .int .u8 0, .int .u8 0, .int .u8 0, .int .u8 0, .int .u8 0, .int .u8 0, .int .u8 0, .int .u8 0, .int .u8 0, .int .u8 0, .int .u8 0, .int .u8 0, .int .u8 0, .int .u8 0, .int .u8 0, .int .u8 0, .int .u8 0, .int .u8 0, .int .u8 0, .int .u8 0, .int .u8 0, .int .u8 0, .int .u8 0, .int .u8 0] 35)
          have hxP := (Ext.refl [] wQ).alloc (.cells #[.int .u8 0, .int .u8 0, .int .u8 0, .int .u8 0, .int .u8 0, .int .u8 0, .int .u8 0, .int .u8 0, .int .u8 0, .int .u8 0, .int .u8 0, .int .u8 0, .int .u8 0, .int .u8 0, .int .u8 0, .int .u8 0, .int .u8 0, .int .u8 0, .int .u8 0, .int .u8 0, .int .u8 0, .int .u8 0, .int .u8 0, .int .u8 0, .int .u8 0, .int .u8 0, .int .u8 0, .int .u8 0, .int .u8 0, .int .u8 0, .int .u8 0, .int .u8 0] 35)
          replace hHeld : Ext [] w10 (wQ.alloc (.cells #[.int .u8 0, .int .u8 0, .int .u8 0, .int .u8 0, .int .u8 0, .int .u8 0, .int .u8 0, .int .u8 0, .int .u8 0, .int .u8 0, .int .u8 0, .int .u8 0, .int .u8 0, .int .u8 0, .int .u8 0, .int .u8 0, .int .u8 0, .int .u8 0, .int .u8 0, .int .u8 0, .int .u8 0, .int .u8 0, .int .u8 0, .int .u8 0, .int .u8 0, .int .u8 0, .int .u8 0, .int .u8 0, .int .u8 0, .int .u8 0, .int .u8 0, .int .u8 0] 35)) := hHeld
          have hzP : (wQ.alloc (.cells #[.int .u8 0, .int .u8 0, .int .u8 0, .int .u8 0, .int .u8 0, .int .u8 0, .int .u8 0, .int .u8 0, .int .u8 0, .int .u8 0, .int .u8 0, .int .u8 0, .int .u8 0, .int .u8 0, .int .u8 0, .int .u8 0, .int .u8 0, .int .u8 0, .int .u8 0, .int .u8 0, .int .u8 0, .int .u8 0, .int .u8 0, .int .u8 0, .int .u8 0, .int .u8 0, .int .u8 0, .int .u8 0, .int .u8 0, .int .u8 0, .int .u8 0, .int .u8 0] 35)).heap.size = wQ.heap.size + 1 := by simp
          generalize wQ.alloc (.cells #[.int .u8 0, .int .u8 0, .int .u8 0, .int .u8 0, .int .u8 0, .int .u8 0, .int .u8 0, .int .u8 0, .int .u8 0, .int .u8 0, .int .u8 0, .int .u8 0, .int .u8 0, .int .u8 0, .int .u8 0, .int .u8 0, .int .u8 0, .int .u8 0, .int .u8 0, .int .u8 0, .int .u8 0, .int .u8 0, .int .u8 0, .int .u8 0, .int .u8 0, .int .u8 0, .int .u8 0, .int .u8 0, .int .u8 0, .int .u8 0, .int .u8 0, .int .u8 0] 35) = wP at hqP hxP hzP hHeld ⊢
          obtain ⟨P, hsP⟩ : ∃ p, wQ.heap.size = p := ⟨_, rfl⟩
          rw [hsP] at hqP hgeP hzP ⊢
          have HzP := Hs.hid hzP
          have hgtQP : wQ.heap.size ≤ P := by have := hsP; omega
          clear hzP hsP
          refine wpAnyH_ready (rs := [8]) (by kernel_rfl) (by simp) ?_
          refine AllReadyH.cons rfl (fun K hK => ?_) AllReadyH.nil
          go_simp
          (go_at_call 34; have hge7 := Ext.size hHeld; (with_reducible refine (IH.out _ (HLA.out _ hHeld) (HSU.out _ hHeld)).mono ?_); intro e w7 hr; unfold SideE at hr; obtain ⟨x1, y1, v1, ps1, ok1, rfl, hr1, hO1, hg1, hn1, hx7⟩ := hr)
          go_wp2_with fail
          refine hK.out _ _ ?_ (fun hHeld => ?_)
          · ((try dsimp only); exact Ext.trans0 hHeld hx7)
          clear hK K
          try simp only [Act.put, List.getElem_toArray, List.getElem_cons_succ, List.getElem_cons_zero, List.setIfInBounds_toArray, List.set_cons_zero, List.set_cons_succ]
          replace hHeld : Ext [] w10 w7 := hHeld
          replace hg1 : ∀ g, v1.ownBlock = some g → w10.heap.size ≤ g := fun g hg => Nat.le_trans (by have := hge7; omega) (hg1 g hg)
          refine wpAnyH_take (i := 9) (v := ?_) rfl (by kernel_rfl) (by kernel_rfl) (by kernel_rfl) (fun _ _ _ h => h) (Or.inl ⟨by rfl, ?_⟩) (by assumption) ?_
          rotate_left
          · (intro w hSw; (try dsimp only at hSw); first | (go_simp; done) | (go_simp; with_reducible rfl))
          try simp only [Act.put, List.getElem_toArray, List.getElem_cons_succ, List.getElem_cons_zero, List.setIfInBounds_toArray, List.set_cons_zero, List.set_cons_succ]
          refine wpAnyH_take (i := 10) (v := ?_) rfl (by kernel_rfl) (by kernel_rfl) (by kernel_rfl) (fun _ _ _ h => h) (Or.inl ⟨by rfl, ?_⟩) (by assumption) ?_
          rotate_left
          · (intro w hSw; (try dsimp only at hSw); first | (go_simp; done) | (go_simp; with_reducible rfl))
          try simp only [Act.put, List.getElem_toArray, List.getElem_cons_succ, List.getElem_cons_zero, List.setIfInBounds_toArray, List.set_cons_zero, List.set_cons_succ]
          refine wpAnyH_take (i := 11) (v := ?_) rfl (by kernel_rfl) (by kernel_rfl) (by kernel_rfl) (fun _ _ _ h => h) (Or.inl ⟨by rfl, ?_⟩) (by assumption) ?_
          rotate_left
          · (intro w hSw; (try dsimp only at hSw); first | (go_simp; done) | (go_simp; with_reducible rfl))
          try simp only [Act.put, List.getElem_toArray, List.getElem_cons_succ, List.getElem_cons_zero, List.setIfInBounds_toArray, List.set_cons_zero, List.set_cons_succ]
          refine wpAnyH_take (i := 12) (v := ?_) rfl (by kernel_rfl) (by kernel_rfl) (by kernel_rfl) (fun _ _ _ h => h) (Or.inl ⟨by rfl, ?_⟩) (by assumption) ?_
          rotate_left
          · (intro w hSw; (try dsimp only at hSw); first | (go_simp; done) | (go_simp; with_reducible rfl))
          try simp only [Act.put, List.getElem_toArray, List.getElem_cons_succ, List.getElem_cons_zero, List.setIfInBounds_toArray, List.set_cons_zero, List.set_cons_succ]
          refine wpAnyH_take (i := 13) (v := ?_) rfl (by kernel_rfl) (by kernel_rfl) (by kernel_rfl) (fun _ _ _ h => h) (Or.inl ⟨by rfl, ?_⟩) (by assumption) ?_
          rotate_left
          · (intro w hSw; (try dsimp only at hSw); first | (go_simp; done) | (go_simp; with_reducible rfl))
          try simp only [Act.put, List.getElem_toArray, List.getElem_cons_succ, List.getElem_cons_zero, List.setIfInBounds_toArray, List.set_cons_zero, List.set_cons_succ]
          have hfP := (hx7.same hqP List.not_mem_nil)
          have hfQ := (hx7.same (hxP.same hqQ List.not_mem_nil) List.not_mem_nil)
          have hfO := hO1
          have hne : P ≠ Q := by have h1 := lt_of_heap hqP; have h2 := lt_of_heap hqQ; have h3 := HzP.out; have h4 := HzQ.out; have h5 := hgtQP; omega
          have hEE := hHeld
          refine wpAnyH_ready (rs := [16]) (by kernel_rfl) (by simp) ?_
          refine AllReadyH.cons rfl (fun K hK => ?_) AllReadyH.nil
          rw [if_pos (by rfl)]
          (refine wp_store_row 35 _ _ rfl P x1.V rfl rfl _ _ hfP (by rw [x1.size]; exact infoSum) (by rw [x1.size]; rfl) x1.one ?_)
          refine hK.out _ _ ?_ (fun hHeld => ?_)
          · ((try dsimp only); exact Ext.trans hHeld (setRow_ext _ _) (fun g hg => .inr (by simp at hg; omega)))
          clear hK K
          try simp only [Act.put, List.getElem_toArray, List.getElem_cons_succ, List.getElem_cons_zero, List.setIfInBounds_toArray, List.set_cons_zero, List.set_cons_succ]
          refine wpAnyH_ready (rs := [17]) (by kernel_rfl) (by simp) ?_
          refine AllReadyH.cons rfl (fun K hK => ?_) AllReadyH.nil
          rw [if_pos (by rfl)]
          (refine wp_store_row 35 _ _ rfl Q y1.V rfl rfl _ _ (setRow_keep _ hfQ (Ne.symm hne)) (by rw [y1.size]; exact infoSum) (by rw [y1.size]; rfl) y1.one ?_)
          refine hK.out _ _ ?_ (fun hHeld => ?_)
          · ((try dsimp only); exact Ext.trans hHeld (setRow_ext _ _) (fun g hg => .inr (by simp at hg; omega)))
          clear hK K
          try simp only [Act.put, List.getElem_toArray, List.getElem_cons_succ, List.getElem_cons_zero, List.setIfInBounds_toArray, List.set_cons_zero, List.set_cons_succ]
          refine wpAnyH_take (i := 18) (v := ?_) rfl (by kernel_rfl) (by kernel_rfl) (by kernel_rfl) (fun _ _ _ h => h) (Or.inl ⟨by rfl, ?_⟩) (by assumption) ?_
          rotate_left
          · (intro w hSw; (try dsimp only at hSw); first | (go_simp; done) | (go_simp; with_reducible rfl))
          try simp only [Act.put, List.getElem_toArray, List.getElem_cons_succ, List.getElem_cons_zero, List.setIfInBounds_toArray, List.set_cons_zero, List.set_cons_succ]
          refine wpAnyH_take (i := 19) (v := ?_) rfl (by kernel_rfl) (by kernel_rfl) (by kernel_rfl) (fun _ _ _ h => h) (Or.inl ⟨by rfl, ?_⟩) (by assumption) ?_
          rotate_left
          · (intro w hSw; (try dsimp only at hSw); first | (go_simp; done) | (go_simp; with_reducible rfl))
          try simp only [Act.put, List.getElem_toArray, List.getElem_cons_succ, List.getElem_cons_zero, List.setIfInBounds_toArray, List.set_cons_zero, List.set_cons_succ]
          refine wpAnyH_done (by kernel_rfl) ?_ _
          refine NoPanic.normal ?_
          go_wp2
          go_meet
          exact ⟨P, Q, x1, y1, v1, ps1, ok1, rfl, rfl, rfl, rfl, setRow_keep _ (setRow_heap _ _ _ _ _ _ hfP) hne, setRow_heap _ _ _ _ _ _ (setRow_keep _ hfQ (Ne.symm hne)), Hs.hid ⟨hr1.out, (hfO.set hfP _).set (setRow_keep _ hfQ (Ne.symm hne)) _, fun g hg => Nat.le_trans HWW.out (hg1 g hg), hn1, hgeP, hgeQ⟩, ((hEE.trans (setRow_ext _ _) (fun g hg => .inr (by simp at hg; omega))).trans (setRow_ext _ _) (fun g hg => .inr (by simp at hg; omega)))⟩
    case rest =>
      obtain ⟨P, Q, x1, y1, v1, ps1, ok1, rfl, rfl, rfl, rfl, hP, hQ, HCC, hE12⟩ := hcut
      have hYX := hE12.same hY List.not_mem_nil
      have hBX := hE12.same hB List.not_mem_nil
      have hCX := hE12.same hC List.not_mem_nil
      have HPN := Hs.hid (show (P ≠ B ∧ Q ≠ B ∧ Yb ≠ B) ∧ (P ≠ C ∧ Q ≠ C ∧ Yb ≠ C) by have q1 := lt_of_heap hB; have q2 := lt_of_heap hC; have q3 := HCC.out.2.2.2.2.1; have q4 := HCC.out.2.2.2.2.2; have q5 := HYC.out; have q6 := HAB.out; refine ⟨⟨?_, ?_, ?_⟩, ?_, ?_, ?_⟩ <;> omega)
      have HNE := Hs.hid (show True ∧ True ∧ C ≠ B by have q6 := HAB.out; exact ⟨trivial, trivial, by omega⟩)
      have HOW := Hs.hid HCC.out.2.1
      have HIN := Hs.hid (And.intro HCC.out.2.2.1 trivial)
      have HB := Hs.hid (show ps1.length ≤ 40 by have q1 := HCC.out.2.2.2.1; have q2 := HKN.out; omega)
      have HB2 := Hs.hid (show ps1.length + 1 ≤ n by have q1 := HCC.out.2.2.2.1; have q2 := HKN.out; omega)
      replace HE := Hs.hid (HE.out.trans0 hE12)
      have HEQ := Hs.hid (HSP.out _ _ _ _ HCC.out.1)
      obtain ⟨i0, hi0, hz0, hz1, hz2⟩ := info_parts infoPair
      have HI := Hs.hid (And.intro hi0 (And.intro hz0 (And.intro hz1 hz2)))
      obtain ⟨tx, htx⟩ : ∃ tx, node2 y.s y1.s = tx := ⟨_, rfl⟩
      have HND := Hs.hid (fun w => nodeC_eq y y1 tx htx w)
      have HTX := Hs.hid htx
      clear hi0 hz0 hz1 hz2 htx hE12 hA hB hC hY HCC
      go_upto_region 15 with fail
      refine wp_region_noPanic ?_
      refine wp_region_held_drew (S := (fun w' => w'.heap[P]? = some (.cells x1.V 35 (0, 0)) ∧ w'.heap[Q]? = some (.cells y1.V 35 (0, 0)) ∧ w'.heap[Yb]? = some (.cells y.V 35 (0, 0)))) (by kernel_rfl) ?_ (fun hHeld => ?_)
      · ((try dsimp only); exact ⟨hP, hQ, hYX⟩)
      refine wpAnyH_take (i := 0) (v := _) rfl (by kernel_rfl) (by kernel_rfl) (by kernel_rfl) (fun _ _ _ h => h) (yieldsIf_of (.agg y.V) (by rfl) (fun w' hw => exec_load_rowV (.tmp 15) rfl Yb rfl y w' ⟨_, hw.2.2⟩)) (by assumption) ?_
      try simp only [Act.put, List.getElem_toArray, List.getElem_cons_succ, List.getElem_cons_zero, List.setIfInBounds_toArray, List.set_cons_zero, List.set_cons_succ]
      refine wpAnyH_take (i := 1) (v := _) rfl (by kernel_rfl) (by kernel_rfl) (by kernel_rfl) (fun _ _ _ h => h) (yieldsIf_of (.agg x1.V) (by rfl) (fun w' hw => exec_load_rowV (.tmp 23) rfl P rfl x1 w' ⟨_, hw.1⟩)) (by assumption) ?_
      try simp only [Act.put, List.getElem_toArray, List.getElem_cons_succ, List.getElem_cons_zero, List.setIfInBounds_toArray, List.set_cons_zero, List.set_cons_succ]
      refine wpAnyH_take (i := 3) (v := _) rfl (by kernel_rfl) (by kernel_rfl) (by kernel_rfl) (fun _ _ _ h => h) (yieldsIf_of (.agg y.V) (by rfl) (fun w' hw => exec_load_rowV (.tmp 15) rfl Yb rfl y w' ⟨_, hw.2.2⟩)) (by assumption) ?_
      try simp only [Act.put, List.getElem_toArray, List.getElem_cons_succ, List.getElem_cons_zero, List.setIfInBounds_toArray, List.set_cons_zero, List.set_cons_succ]
      refine wpAnyH_take (i := 4) (v := _) rfl (by kernel_rfl) (by kernel_rfl) (by kernel_rfl) (fun _ _ _ h => h) (yieldsIf_of (.agg y1.V) (by rfl) (fun w' hw => exec_load_rowV (.tmp 24) rfl Q rfl y1 w' ⟨_, hw.2.1⟩)) (by assumption) ?_
      try simp only [Act.put, List.getElem_toArray, List.getElem_cons_succ, List.getElem_cons_zero, List.setIfInBounds_toArray, List.set_cons_zero, List.set_cons_succ]
      refine wpAnyH_take (i := 6) (v := ?_) rfl (by kernel_rfl) (by kernel_rfl) (by kernel_rfl) (fun _ _ _ h => h) (Or.inl ⟨by rfl, ?_⟩) (by assumption) ?_
      rotate_left
      · (intro w hSw; (try dsimp only at hSw); first | (go_simp; done) | (go_simp; with_reducible rfl))
      try simp only [Act.put, List.getElem_toArray, List.getElem_cons_succ, List.getElem_cons_zero, List.setIfInBounds_toArray, List.set_cons_zero, List.set_cons_succ]
      refine wpAnyH_take (i := 7) (v := ?_) rfl (by kernel_rfl) (by kernel_rfl) (by kernel_rfl) (fun _ _ _ h => h) (Or.inl ⟨by rfl, ?_⟩) (by assumption) ?_
      rotate_left
      · (intro w hSw; (try dsimp only at hSw); first | (go_simp; done) | (go_simp; with_reducible rfl))
      try simp only [Act.put, List.getElem_toArray, List.getElem_cons_succ, List.getElem_cons_zero, List.setIfInBounds_toArray, List.set_cons_zero, List.set_cons_succ]
      refine wpAnyH_take (i := 8) (v := _) rfl (by kernel_rfl) (by kernel_rfl) (by kernel_rfl) (fun _ _ _ h => h) (yieldsIf_of (.agg y.V) (by rfl) (fun w' hw => exec_load_rowV (.tmp 15) rfl Yb rfl y w' ⟨_, hw.2.2⟩)) (by assumption) ?_
      try simp only [Act.put, List.getElem_toArray, List.getElem_cons_succ, List.getElem_cons_zero, List.setIfInBounds_toArray, List.set_cons_zero, List.set_cons_succ]
      refine wpAnyH_take (i := 9) (v := _) rfl (by kernel_rfl) (by kernel_rfl) (by kernel_rfl) (fun _ _ _ h => h) (yieldsIf_of (.agg y1.V) (by rfl) (fun w' hw => exec_load_rowV (.tmp 24) rfl Q rfl y1 w' ⟨_, hw.2.1⟩)) (by assumption) ?_
      try simp only [Act.put, List.getElem_toArray, List.getElem_cons_succ, List.getElem_cons_zero, List.setIfInBounds_toArray, List.set_cons_zero, List.set_cons_succ]
      refine wpAnyH_take (i := 14) (v := ?_) rfl (by kernel_rfl) (by kernel_rfl) (by kernel_rfl) (fun _ _ _ h => h) (Or.inl ⟨by rfl, ?_⟩) (by assumption) ?_
      rotate_left
      · (intro w hSw; (try dsimp only at hSw); first | (go_simp; done) | (go_simp; with_reducible rfl))
      try simp only [Act.put, List.getElem_toArray, List.getElem_cons_succ, List.getElem_cons_zero, List.setIfInBounds_toArray, List.set_cons_zero, List.set_cons_succ]
      refine wpAnyH_ready (rs := [2]) (by kernel_rfl) (by simp) ?_
      refine AllReadyH.cons rfl (fun K hK => ?_) AllReadyH.nil
      go_simp
      (go_at_call 24; (with_reducible refine (nodeY_any y x1 _).mono ?_); rintro e w3 ⟨z3, rfl, hz3, hx3⟩)
      go_wp2_with fail
      refine hK.out _ _ ?_ (fun hHeld => ?_)
      · ((try dsimp only); exact ⟨hx3.same hHeld.1 List.not_mem_nil, hx3.same hHeld.2.1 List.not_mem_nil, hx3.same hHeld.2.2 List.not_mem_nil⟩)
      clear hK K
      try simp only [Act.put, List.getElem_toArray, List.getElem_cons_succ, List.getElem_cons_zero, List.setIfInBounds_toArray, List.set_cons_zero, List.set_cons_succ]
      refine wpAnyH_ready (rs := [5]) (by kernel_rfl) (by simp) ?_
      refine AllReadyH.cons rfl (fun K hK => ?_) AllReadyH.nil
      go_simp
      (go_at_call 24; (with_reducible refine (nodeY_any y y1 _).mono ?_); rintro e w4 ⟨z4, rfl, hz4, hx4⟩)
      go_wp2_with fail
      refine hK.out _ _ ?_ (fun hHeld => ?_)
      · ((try dsimp only); exact ⟨hx4.same hHeld.1 List.not_mem_nil, hx4.same hHeld.2.1 List.not_mem_nil, hx4.same hHeld.2.2 List.not_mem_nil⟩)
      clear hK K
      try simp only [Act.put, List.getElem_toArray, List.getElem_cons_succ, List.getElem_cons_zero, List.setIfInBounds_toArray, List.set_cons_zero, List.set_cons_succ]
      refine wpAnyH_ready (rs := [10]) (by kernel_rfl) (by simp) ?_
      refine AllReadyH.cons rfl (fun K hK => ?_) AllReadyH.nil
      go_simp
      (go_at_call 28; (with_reducible refine (HND.out _).mono ?_); rintro e w8 ⟨rfl, hx8⟩; have hE8 : Ext [] wc w8 := (((Ext.refl [] wc).drew.trans0 hx3).trans0 hx4).trans0 hx8; have hO8 := HOW.out.ext (hE8.alloc (.cells #[.string T0, .string tx] 43)) (fun _ _ => List.not_mem_nil))
      go_wp2_with fail
      refine hK.out _ _ ?_ (fun hHeld => ?_)
      · ((try dsimp only); exact ⟨hx8.same hHeld.1 List.not_mem_nil, hx8.same hHeld.2.1 List.not_mem_nil, hx8.same hHeld.2.2 List.not_mem_nil⟩)
      clear hK K
      try simp only [Act.put, List.getElem_toArray, List.getElem_cons_succ, List.getElem_cons_zero, List.setIfInBounds_toArray, List.set_cons_zero, List.set_cons_succ]
      refine wpAnyH_take (i := 11) (v := ?_) rfl (by kernel_rfl) (by kernel_rfl) (by kernel_rfl) (fun _ _ _ h => h) (Or.inl ⟨by rfl, ?_⟩) (by assumption) ?_
      rotate_left
      · (intro w hSw; (try dsimp only at hSw); first | (go_simp; done) | (go_simp; with_reducible rfl))
      try simp only [Act.put, List.getElem_toArray, List.getElem_cons_succ, List.getElem_cons_zero, List.setIfInBounds_toArray, List.set_cons_zero, List.set_cons_succ]
      refine wpAnyH_ready (rs := [12]) (by kernel_rfl) (by simp) ?_
      refine AllReadyH.cons rfl (fun K hK => ?_) AllReadyH.nil
      rw [if_pos (by rfl)]
      go_simp
      refine hK.out _ _ ?_ (fun hHeld => ?_)
      · ((try dsimp only); exact ⟨heap_old' _ _ hHeld.1, heap_old' _ _ hHeld.2.1, heap_old' _ _ hHeld.2.2⟩)
      clear hK K
      try simp only [Act.put, List.getElem_toArray, List.getElem_cons_succ, List.getElem_cons_zero, List.setIfInBounds_toArray, List.set_cons_zero, List.set_cons_succ]
      refine wpAnyH_ready (rs := [13]) (by kernel_rfl) (by simp) ?_
      refine AllReadyH.cons rfl (fun K hK => ?_) AllReadyH.nil
      (refine step_append_own rfl (.tmp 124) (.tmp 130) 39 rfl 43 i0 _ 2 32 Try.underlying39 HI.out.1 HI.out.2.1 HI.out.2.2.1 HI.out.2.2.2 rfl (by decide) v1 ps1.length (flatP ps1) rfl hO8 ⟨w8.heap.size, 0, none⟩ 1 1 [.string T0, .string tx] rfl rfl (news_new w8 _ _) (by simp [Value.oneCell']) (by unfold maxLen; have := HB.out; omega) (by have := HB.out; omega) ?_; intro ao9 cap9 w9 hO9 hx9 hf9; have hB9 := hx9.same ((hE8.alloc (.cells #[.string T0, .string tx] 43)).same hBX List.not_mem_nil) (own_farS hO8 ((hE8.alloc (.cells #[.string T0, .string tx] 43)).same hBX List.not_mem_nil) (by decide)); have hC9 := hx9.same ((hE8.alloc (.cells #[.string T0, .string tx] 43)).same hCX List.not_mem_nil) (own_farS hO8 ((hE8.alloc (.cells #[.string T0, .string tx] 43)).same hCX List.not_mem_nil) (by decide)))
      refine hK.out _ _ ?_ (fun hHeld => ?_)
      · ((try dsimp only); exact ⟨hx9.same hHeld.1 (own_farS hO8 hHeld.1 (by decide)), hx9.same hHeld.2.1 (own_farS hO8 hHeld.2.1 (by decide)), hx9.same hHeld.2.2 (own_farS hO8 hHeld.2.2 (by decide))⟩)
      clear hK K
      try simp only [Act.put, List.getElem_toArray, List.getElem_cons_succ, List.getElem_cons_zero, List.setIfInBounds_toArray, List.set_cons_zero, List.set_cons_succ]
      refine wpAnyH_ready (rs := [15]) (by kernel_rfl) (by simp) ?_
      refine AllReadyH.cons rfl (fun K hK => ?_) AllReadyH.nil
      rw [if_pos (by rfl)]
      (refine wp_store_row 35 _ _ rfl B z3.V rfl rfl _ _ hB9 (by rw [z3.size]; exact infoSum) (by rw [z3.size]; rfl) z3.one ?_)
      refine hK.out _ _ ?_ (fun hHeld => ?_)
      · ((try dsimp only); exact ⟨setRow_keep _ hHeld.1 HPN.out.1.1, setRow_keep _ hHeld.2.1 HPN.out.1.2.1, setRow_keep _ hHeld.2.2 HPN.out.1.2.2⟩)
      clear hK K
      try simp only [Act.put, List.getElem_toArray, List.getElem_cons_succ, List.getElem_cons_zero, List.setIfInBounds_toArray, List.set_cons_zero, List.set_cons_succ]
      refine wpAnyH_ready (rs := [16]) (by kernel_rfl) (by simp) ?_
      refine AllReadyH.cons rfl (fun K hK => ?_) AllReadyH.nil
      rw [if_pos (by rfl)]
      (refine wp_store_row 35 _ _ rfl C z4.V rfl rfl _ _ (setRow_keep _ hC9 HNE.out.2.2) (by rw [z4.size]; exact infoSum) (by rw [z4.size]; rfl) z4.one ?_)
      refine hK.out _ _ ?_ (fun hHeld => ?_)
      · ((try dsimp only); exact ⟨setRow_keep _ hHeld.1 HPN.out.2.1, setRow_keep _ hHeld.2.1 HPN.out.2.2.1, setRow_keep _ hHeld.2.2 HPN.out.2.2.2⟩)
      clear hK K
      try simp only [Act.put, List.getElem_toArray, List.getElem_cons_succ, List.getElem_cons_zero, List.setIfInBounds_toArray, List.set_cons_zero, List.set_cons_succ]
      refine wpAnyH_take (i := 17) (v := ?_) rfl (by kernel_rfl) (by kernel_rfl) (by kernel_rfl) (fun _ _ _ h => h) (Or.inl ⟨by rfl, ?_⟩) (by assumption) ?_
      rotate_left
      · (intro w hSw; (try dsimp only at hSw); first | (go_simp; done) | (go_simp; with_reducible rfl))
      try simp only [Act.put, List.getElem_toArray, List.getElem_cons_succ, List.getElem_cons_zero, List.setIfInBounds_toArray, List.set_cons_zero, List.set_cons_succ]
      refine wpAnyH_take (i := 18) (v := ?_) rfl (by kernel_rfl) (by kernel_rfl) (by kernel_rfl) (fun _ _ _ h => h) (Or.inl ⟨by rfl, ?_⟩) (by assumption) ?_
      rotate_left
      · (intro w hSw; (try dsimp only at hSw); first | (go_simp; done) | (go_simp; with_reducible rfl))
      try simp only [Act.put, List.getElem_toArray, List.getElem_cons_succ, List.getElem_cons_zero, List.setIfInBounds_toArray, List.set_cons_zero, List.set_cons_succ]
      refine wpAnyH_done (by kernel_rfl) ?_ _
      refine NoPanic.normal ?_
      go_wp2
      refine bodyPost_ret (v := .tuple #[.agg z3.V, .agg z4.V, .slice ao9 (ps1.length + 1) cap9, .bool ok1]) (results_two Try.results34 _ rfl rfl rfl rfl (setRow_keep _ (setRow_heap _ _ _ _ _ _ hB9) (Ne.symm HNE.out.2.2)) z3.size (setRow_heap _ _ _ _ _ _ (setRow_keep _ hC9 HNE.out.2.2)) z4.size) rfl ⟨z3, z4, .slice ao9 (ps1.length + 1) cap9, ps1 ++ [(T0, tx)], ok1, rfl, Hs.hid ?_, ?_, ?_, ?_, ?_⟩
      · rw [HEQ.out, hz3.out, hz4.out, ← HTX.out]
      · have hOO : OwnP w9.heap (.slice ao9 (ps1.length + 1) cap9) (ps1 ++ [(T0, tx)]) := by
          unfold OwnP; rw [flatP_append, List.length_append]; exact hO9
        exact (hOO.set hB9 _).set (setRow_keep _ hC9 HNE.out.2.2) _
      · intro g hg
        rcases hf9 g hg with h | h
        · exact HIN.out.1 g h
        · have q1 := hE8.size; have q2 := HE.out.size; simp at h; omega
      · have := HB2.out; simp; omega
      · exact (((HE.out.trans0 (hE8.alloc _)).trans hx9 (fun g hg => .inr (HIN.out.1 g (by simpa using hg)))).trans (setRow_ext _ _) (fun g hg => .inr (by simp at hg; have := HRR.out; omega))).trans (setRow_ext _ _) (fun g hg => .inr (by simp at hg; have := HRR.out; omega))
end Go.Proofs.Ytjicjadibaomkaa
set_option linter.unusedSimpArgs false
set_option linter.unusedVariables false
set_option maxHeartbeats 4000000
set_option maxRecDepth 100000
namespace Go.Proofs.Ytjicjadibaomkaa
open Go.RowKit Go.Hs Go.Dg

theorem csides_mth (b o : Nat) (L : List ByteArray) (HL : Hid (L.length ≤ 40 ∧ ∀ s ∈ L, s.size ≤ 20)) : ∀ (N n f m off cap : Nat) (whole : Bool) (old : S32) (xs : List S32) (ao2 : Option Addr) (cap2 : Nat), n ≤ N → 1 ≤ m → m ≤ n → f + n ≤ L.length → off = o + f → n ≤ cap → cap ≤ 9223372036854775807 →
    ∀ w : World, LeafAt w.heap b o L → Sums32 w.heap ao2 cap2 xs → Calls Try.prog 34 #[.int .i64 m, .slice (some ⟨b, off, none⟩) n cap, .slice ao2 xs.length cap2, .bool whole, .agg old.V] w (SideE w L n f m whole old xs)
  | 0, n, f, m, off, cap, whole, old, xs, ao2, cap2, hN, h1, hm, _, _, _, _, w, _, _ => by omega
  | N + 1, n, f, m, off, cap, whole, old, xs, ao2, cap2, hN, h1, hm, hfn, hoff, hcap, hcm, w, hLA, hT => by
    have hL40 := HL.out.1
    have hmax := hT.2.1
    have hcap2 := hT.1
    obtain ⟨hA, hB, hC, hx0⟩ := side_start w old
    by_cases hwh : m = n ∧ whole = true
    · obtain ⟨rfl, rfl⟩ := hwh
      have e0 : ((m : Int) == (m : Int)) = true := by simp
      have HP := Hs.hid (sidesP_whole L m f old xs)
      clear hN hfn hoff hLA hT hL40
      go_enter Try.func34, Try.ntmps34
      go_upto_region 1 with fail
      generalize ((w.alloc (.cells old.V 35)).alloc (.cells #[.int .u8 0, .int .u8 0, .int .u8 0, .int .u8 0, .int .u8 0, .int .u8 0, .int .u8 0, .int .u8 0, .int .u8 0, .int .u8 0, .int .u8 0, .int .u8 0, .int .u8 0, .int .u8 0, .int .u8 0, .int .u8 0, .int .u8 0, .int .u8 0, .int .u8 0, .int .u8 0, .int .u8 0, .int .u8 0, .int .u8 0, .int .u8 0, .int .u8 0, .int .u8 0, .int .u8 0, .int .u8 0, .int .u8 0, .int .u8 0, .int .u8 0, .int .u8 0] 35)).alloc (.cells #[.int .u8 0, .int .u8 0, .int .u8 0, .int .u8 0, .int .u8 0, .int .u8 0, .int .u8 0, .int .u8 0, .int .u8 0, .int .u8 0, .int .u8 0, .int .u8 0, .int .u8 0, .int .u8 0, .int .u8 0, .int .u8 0, .int .u8 0, .int .u8 0, .int .u8 0, .int .u8 0, .int .u8 0, .int .u8 0, .int .u8 0, .int .u8 0, .int .u8 0, .int .u8 0, .int .u8 0, .int .u8 0, .int .u8 0, .int .u8 0, .int .u8 0, .int .u8 0] 35) = W at hA hB hC hx0 ⊢
      obtain ⟨A, hAA⟩ : ∃ A, w.heap.size = A := ⟨_, rfl⟩
      obtain ⟨B, hBB⟩ : ∃ B, A + 1 = B := ⟨_, rfl⟩
      obtain ⟨C, hCC⟩ : ∃ C, B + 1 = C := ⟨_, rfl⟩
      rw [hAA] at hA hB hC
      rw [hBB] at hB hC
      rw [hCC] at hC
      try rw [hAA]
      try rw [hBB]
      try rw [hCC]
      have HRR := Hs.hid (show w.heap.size ≤ A ∧ w.heap.size ≤ B ∧ w.heap.size ≤ C by omega)
      have HAB := Hs.hid (show A < B ∧ B < C by omega)
      clear hAA hBB hCC
      have HNE := Hs.hid (show A ≠ B ∧ A ≠ C ∧ C ≠ B by have := HAB.out; omega)
      have hSRC := hA
      go_upto_region 3 with fail
      refine wp_region_noPanic ?_
      refine wp_region_held_drew (S := (fun w' => w'.heap[A]? = some (.cells old.V 35 (0, 0)))) (by kernel_rfl) ?_ (fun hHeld => ?_)
      · ((try dsimp only); exact hSRC)
      refine wpAnyH_take (i := 0) (v := _) rfl (by kernel_rfl) (by kernel_rfl) (by kernel_rfl) (fun _ _ _ h => h) (yieldsIf_of (.agg old.V) (by rfl) (fun w' hw => exec_load_rowV (.tmp 9) rfl A rfl old w' ⟨_, hw⟩)) (by assumption) ?_
      try simp only [Act.put, List.getElem_toArray, List.getElem_cons_succ, List.getElem_cons_zero, List.setIfInBounds_toArray, List.set_cons_zero, List.set_cons_succ]
      refine wpAnyH_take (i := 1) (v := _) rfl (by kernel_rfl) (by kernel_rfl) (by kernel_rfl) (fun _ _ _ h => h) (yieldsIf_of (.agg old.V) (by rfl) (fun w' hw => exec_load_rowV (.tmp 9) rfl A rfl old w' ⟨_, hw⟩)) (by assumption) ?_
      try simp only [Act.put, List.getElem_toArray, List.getElem_cons_succ, List.getElem_cons_zero, List.setIfInBounds_toArray, List.set_cons_zero, List.set_cons_succ]
      refine wpAnyH_take (i := 2) (v := ?_) rfl (by kernel_rfl) (by kernel_rfl) (by kernel_rfl) (fun _ _ _ h => h) (Or.inl ⟨by rfl, ?_⟩) (by assumption) ?_
      rotate_left
      · (intro w hSw; (try dsimp only at hSw); first | (go_simp; done) | (go_simp; with_reducible rfl))
      try simp only [Act.put, List.getElem_toArray, List.getElem_cons_succ, List.getElem_cons_zero, List.setIfInBounds_toArray, List.set_cons_zero, List.set_cons_succ]
      refine wpAnyH_take (i := 3) (v := ?_) rfl (by kernel_rfl) (by kernel_rfl) (by kernel_rfl) (fun _ _ _ h => h) (Or.inl ⟨by rfl, ?_⟩) (by assumption) ?_
      rotate_left
      · (intro w hSw; (try dsimp only at hSw); first | (go_simp; done) | (go_simp; with_reducible rfl))
      try simp only [Act.put, List.getElem_toArray, List.getElem_cons_succ, List.getElem_cons_zero, List.setIfInBounds_toArray, List.set_cons_zero, List.set_cons_succ]
      refine wpAnyH_take (i := 4) (v := ?_) rfl (by kernel_rfl) (by kernel_rfl) (by kernel_rfl) (fun _ _ _ h => h) (Or.inl ⟨by rfl, ?_⟩) (by assumption) ?_
      rotate_left
      · (intro w hSw; (try dsimp only at hSw); first | (go_simp; done) | (go_simp; with_reducible rfl))
      try simp only [Act.put, List.getElem_toArray, List.getElem_cons_succ, List.getElem_cons_zero, List.setIfInBounds_toArray, List.set_cons_zero, List.set_cons_succ]
      refine wpAnyH_ready (rs := [5]) (by kernel_rfl) (by simp) ?_
      refine AllReadyH.cons rfl (fun K hK => ?_) AllReadyH.nil
      rw [if_pos (by rfl)]
      (refine wp_store_row 35 _ _ rfl B old.V rfl rfl _ _ hB (by rw [old.size]; exact infoSum) (by rw [old.size]; rfl) old.one ?_)
      refine hK.out _ _ ?_ (fun hHeld => ?_)
      · ((try dsimp only); exact setRow_keep _ hHeld HNE.out.1)
      clear hK K
      try simp only [Act.put, List.getElem_toArray, List.getElem_cons_succ, List.getElem_cons_zero, List.setIfInBounds_toArray, List.set_cons_zero, List.set_cons_succ]
      refine wpAnyH_ready (rs := [6]) (by kernel_rfl) (by simp) ?_
      refine AllReadyH.cons rfl (fun K hK => ?_) AllReadyH.nil
      rw [if_pos (by rfl)]
      (refine wp_store_row 35 _ _ rfl C old.V rfl rfl _ _ (setRow_keep _ hC HNE.out.2.2) (by rw [old.size]; exact infoSum) (by rw [old.size]; rfl) old.one ?_)
      refine hK.out _ _ ?_ (fun hHeld => ?_)
      · ((try dsimp only); exact setRow_keep _ hHeld HNE.out.2.1)
      clear hK K
      try simp only [Act.put, List.getElem_toArray, List.getElem_cons_succ, List.getElem_cons_zero, List.setIfInBounds_toArray, List.set_cons_zero, List.set_cons_succ]
      refine wpAnyH_take (i := 7) (v := ?_) rfl (by kernel_rfl) (by kernel_rfl) (by kernel_rfl) (fun _ _ _ h => h) (Or.inl ⟨by rfl, ?_⟩) (by assumption) ?_
      rotate_left
      · (intro w hSw; (try dsimp only at hSw); first | (go_simp; done) | (go_simp; with_reducible rfl))
      try simp only [Act.put, List.getElem_toArray, List.getElem_cons_succ, List.getElem_cons_zero, List.setIfInBounds_toArray, List.set_cons_zero, List.set_cons_succ]
      refine wpAnyH_take (i := 8) (v := ?_) rfl (by kernel_rfl) (by kernel_rfl) (by kernel_rfl) (fun _ _ _ h => h) (Or.inl ⟨by rfl, ?_⟩) (by assumption) ?_
      rotate_left
      · (intro w hSw; (try dsimp only at hSw); first | (go_simp; done) | (go_simp; with_reducible rfl))
      try simp only [Act.put, List.getElem_toArray, List.getElem_cons_succ, List.getElem_cons_zero, List.setIfInBounds_toArray, List.set_cons_zero, List.set_cons_succ]
      refine wpAnyH_done (by kernel_rfl) ?_ _
      refine NoPanic.normal ?_
      go_wp2
      refine bodyPost_ret (v := .tuple #[.agg old.V, .agg old.V, .slice none 0 0, .bool ((xs.length : Int) == 0)]) (results_two Try.results34 _ rfl rfl rfl rfl (setRow_keep _ (setRow_heap _ _ _ _ _ _ hB) (Ne.symm HNE.out.2.2)) old.size (setRow_heap _ _ _ _ _ _ (setRow_keep _ hC HNE.out.2.2)) old.size) rfl ⟨old, old, .slice none 0 0, [], ((xs.length : Int) == 0), rfl, Hs.hid ?_, OwnP.nil _, (fun g hg => by cases hg), Nat.zero_le _, ?_⟩
      · rw [HP.out]; congr 1; cases xs <;> simp; omega
      · exact ((hx0.drew).trans (setRow_ext _ _) (fun g hg => .inr (by simp at hg; have := HRR.out; omega))).trans (setRow_ext _ _) (fun g hg => .inr (by simp at hg; have := HRR.out; omega))
    · rcases snoc_casesV xs with rfl | ⟨ys, y, rfl⟩
      · have HP := Hs.hid (sidesP_nil L n f m whole old hwh)
        have hl0 : ([] : List S32).length = 0 := rfl
        rw [hl0] at hcap2 ⊢
        have hb2 : (if (m : Int) == n then whole else false) = false := by
          cases whole
          · simp
          · rw [if_neg]; simp; intro h; exact hwh ⟨by omega, rfl⟩
        clear hN hfn hoff hLA hT hL40
        go_enter Try.func34, Try.ntmps34
        go_upto_region 1 with fail
        generalize ((w.alloc (.cells old.V 35)).alloc (.cells #[.int .u8 0, .int .u8 0, .int .u8 0, .int .u8 0, .int .u8 0, .int .u8 0, .int .u8 0, .int .u8 0, .int .u8 0, .int .u8 0, .int .u8 0, .int .u8 0, .int .u8 0, .int .u8 0, .int .u8 0, .int .u8 0, .int .u8 0, .int .u8 0, .int .u8 0, .int .u8 0, .int .u8 0, .int .u8 0, .int .u8 0, .int .u8 0, .int .u8 0, .int .u8 0, .int .u8 0, .int .u8 0, .int .u8 0, .int .u8 0, .int .u8 0, .int .u8 0] 35)).alloc (.cells #[.int .u8 0, .int .u8 0, .int .u8 0, .int .u8 0, .int .u8 0, .int .u8 0, .int .u8 0, .int .u8 0, .int .u8 0, .int .u8 0, .int .u8 0, .int .u8 0, .int .u8 0, .int .u8 0, .int .u8 0, .int .u8 0, .int .u8 0, .int .u8 0, .int .u8 0, .int .u8 0, .int .u8 0, .int .u8 0, .int .u8 0, .int .u8 0, .int .u8 0, .int .u8 0, .int .u8 0, .int .u8 0, .int .u8 0, .int .u8 0, .int .u8 0, .int .u8 0] 35) = W at hA hB hC hx0 ⊢
        obtain ⟨A, hAA⟩ : ∃ A, w.heap.size = A := ⟨_, rfl⟩
        obtain ⟨B, hBB⟩ : ∃ B, A + 1 = B := ⟨_, rfl⟩
        obtain ⟨C, hCC⟩ : ∃ C, B + 1 = C := ⟨_, rfl⟩
        rw [hAA] at hA hB hC
        rw [hBB] at hB hC
        rw [hCC] at hC
        try rw [hAA]
        try rw [hBB]
        try rw [hCC]
        have HRR := Hs.hid (show w.heap.size ≤ A ∧ w.heap.size ≤ B ∧ w.heap.size ≤ C by omega)
        have HAB := Hs.hid (show A < B ∧ B < C by omega)
        clear hAA hBB hCC
        have HNE := Hs.hid (show A ≠ B ∧ A ≠ C ∧ C ≠ B by have := HAB.out; omega)
        have hEnd : ∀ wz : World, wz = wz := fun _ => rfl
        cases whole
        · cases hmn : ((m : Int) == (n : Int))
          all_goals go_wp2_with (first
            | (refine wpList_store_row rfl 35 (.tmp 10) (.tmp 43) rfl B zeroS.V rfl rfl _ _ hB (by rw [zeroS.size]; exact infoSum) rfl zeroS.one ?_)
            | (refine wpList_store_row rfl 35 (.tmp 11) (.tmp 44) rfl C zeroS.V rfl rfl _ _ (setRow_keep _ hC HNE.out.2.2) (by rw [zeroS.size]; exact infoSum) rfl zeroS.one ?_))
          all_goals refine bodyPost_ret (v := .tuple #[.agg zeroS.V, .agg zeroS.V, .slice none 0 0, .bool false]) (results_two Try.results34 _ rfl rfl rfl rfl (setRow_keep _ (setRow_heap _ _ _ _ _ _ hB) (Ne.symm HNE.out.2.2)) zeroS.size (setRow_heap _ _ _ _ _ _ (setRow_keep _ hC HNE.out.2.2)) zeroS.size) rfl ⟨zeroS, zeroS, .slice none 0 0, [], false, rfl, Hs.hid ?_, OwnP.nil _, (fun g hg => by cases hg), Nat.zero_le _, ?_⟩
          all_goals first | exact HP.out | exact ((hx0).trans (setRow_ext _ _) (fun g hg => .inr (by simp at hg; have := HRR.out; omega))).trans (setRow_ext _ _) (fun g hg => .inr (by simp at hg; have := HRR.out; omega))
        · have hmn : ((m : Int) == (n : Int)) = false := by simp; intro h; exact hwh ⟨by omega, rfl⟩
          go_wp2_with (first
            | (refine wpList_store_row rfl 35 (.tmp 10) (.tmp 43) rfl B zeroS.V rfl rfl _ _ hB (by rw [zeroS.size]; exact infoSum) rfl zeroS.one ?_)
            | (refine wpList_store_row rfl 35 (.tmp 11) (.tmp 44) rfl C zeroS.V rfl rfl _ _ (setRow_keep _ hC HNE.out.2.2) (by rw [zeroS.size]; exact infoSum) rfl zeroS.one ?_))
          refine bodyPost_ret (v := .tuple #[.agg zeroS.V, .agg zeroS.V, .slice none 0 0, .bool false]) (results_two Try.results34 _ rfl rfl rfl rfl (setRow_keep _ (setRow_heap _ _ _ _ _ _ hB) (Ne.symm HNE.out.2.2)) zeroS.size (setRow_heap _ _ _ _ _ _ (setRow_keep _ hC HNE.out.2.2)) zeroS.size) rfl ⟨zeroS, zeroS, .slice none 0 0, [], false, rfl, Hs.hid ?_, OwnP.nil _, (fun g hg => by cases hg), Nat.zero_le _, ?_⟩
          · exact HP.out
          · exact ((hx0).trans (setRow_ext _ _) (fun g hg => .inr (by simp at hg; have := HRR.out; omega))).trans (setRow_ext _ _) (fun g hg => .inr (by simp at hg; have := HRR.out; omega))
      · obtain ⟨sb, so, rfl, hsb, hrg⟩ := hT.at (k := ys.length) (x := y) (by simp)
        have hyl : (ys ++ [y]).length = ys.length + 1 := by simp
        rw [hyl]
        by_cases hmn : m = n
        · subst hmn
          obtain rfl : whole = false := by cases whole; rfl; exact absurd ⟨rfl, rfl⟩ hwh
          exact side_end b o L HL f m off cap old ys y sb so cap2 h1 hfn hoff hcap hcm w hLA hT
        · have h2 : 2 ≤ n := by omega
          have hkl := halfN_lt h2
          have hkp := halfN_pos n
          obtain ⟨k, hk⟩ : ∃ k, halfN n = k := ⟨_, rfl⟩
          rw [hk] at hkl hkp
          by_cases hi : m ≤ k
          · exact side_left b o L HL n f m off cap k whole old ys y sb so cap2 h1 (by omega) hk hi hfn hoff hcap hcm (fun w' => csides_mth b o L HL N k f m off cap whole old ys (some ⟨sb, so, none⟩) cap2 (by omega) h1 hi (by omega) hoff (by omega) hcm w') w hLA hT
          · exact side_right_ b o L HL n f m off cap k whole old ys y sb so cap2 h1 (by omega) hk hi hfn hoff hcap hcm (fun w' => csides_mth b o L HL N (n - k) (f + k) (m - k) (off + k) (cap - k) false old ys (some ⟨sb, so, none⟩) cap2 (by omega) (by omega) (by omega) (by omega) (by omega) (by omega) (by omega) w') w hLA hT
end Go.Proofs.Ytjicjadibaomkaa
set_option linter.unusedSimpArgs false
set_option linter.unusedVariables false
set_option maxHeartbeats 2000000
set_option maxRecDepth 100000
namespace Go.Proofs.Ytjicjadibaomkaa
open Go.RowKit Go.Hs Go.Dg

theorem infoPair2 : (Try.prog.info? 43).map (·.size) = some 2 := by kernel_rfl
theorem wp_load_pair {op : Oper} {a : Act} {w : World} {K : Act → World → Prop} {Q : Exit → Act → World → Prop} (x : Operand) (ho : op.op = .load 43 x)
    (b o : Nat) (hx : a.eval x = .pointer (some ⟨b, o, none⟩)) (s t : ByteArray) (hc : w.rangeAt b o [.string s, .string t]) (h : K (a.put op.dst (.agg #[.string s, .string t])) w) : op.wp Try.prog a w K Q :=
  wp_load_mid 43 x ho b o hx [.string s, .string t] _ hc Try.underlying43 rfl infoPair2 h
theorem wp_store_pair {op : Oper} {a : Act} {w : World} {K : Act → World → Prop} {Q : Exit → Act → World → Prop} (x y : Operand) (ho : op.op = .store 43 x y)
    (b o : Nat) (s t : ByteArray) (hx : a.eval x = .pointer (some ⟨b, o, none⟩)) (hy : a.eval y = .agg #[.string s, .string t]) (ht : w.there b o 2) (h : K (a.put op.dst undef) (w.setCells b o [.string s, .string t])) : op.wp Try.prog a w K Q :=
  wp_store_mid 43 x y ho b o #[.string s, .string t] hx hy ht infoPair2 (by simp [Value.oneCell']) h
theorem flatP_get : ∀ (L : List (ByteArray × ByteArray)) (i : Nat) (p : ByteArray × ByteArray), L[i]? = some p → (flatP L)[i * 2]? = some (.string p.1) ∧ (flatP L)[i * 2 + 1]? = some (.string p.2)
  | [], i, p, h => by simp at h
  | q :: L, 0, p, h => by simp at h; subst h; exact ⟨rfl, rfl⟩
  | q :: L, i + 1, p, h => by
    have := flatP_get L i p (by simpa using h)
    rw [show (i + 1) * 2 = i * 2 + 2 by omega]
    exact this
theorem flatP_set : ∀ (L : List (ByteArray × ByteArray)) (i : Nat) (p : ByteArray × ByteArray), i < L.length → flatP (L.set i p) = ((flatP L).set (i * 2) (.string p.1)).set (i * 2 + 1) (.string p.2)
  | [], i, p, h => by simp at h
  | q :: L, 0, p, h => rfl
  | q :: L, i + 1, p, h => by
    have := flatP_set L i p (by simpa using h)
    rw [show (i + 1) * 2 = i * 2 + 2 by omega, List.set_cons_succ]
    show .string q.1 :: .string q.2 :: flatP (L.set i p) = _
    rw [this]; rfl
theorem flatP_len (L : List (ByteArray × ByteArray)) : (flatP L).length = L.length * 2 := by
  induction L with
  | nil => rfl
  | cons q L ih => show (flatP L).length + 1 + 1 = _; rw [ih, List.length_cons]; omega
theorem OwnP.block {w : World} {g n cap : Nat} {ps : List (ByteArray × ByteArray)} (o : OwnP w.heap (.slice (some ⟨g, 0, none⟩) n cap) ps) : ∃ cur, n = ps.length ∧ n ≤ cap ∧ w.heap[g]? = some (.cells cur 43 (0, 0)) ∧ cur.size = cap * 2 ∧ cur.toList.take (n * 2) = flatP ps := by
  have hn : n = ps.length := by obtain ⟨a, c, h⟩ := Own.form (w := w) o; simp at h; exact h.2.1
  rcases o.2 with ⟨h1, h0⟩ | ⟨g', cap', cur, h1, _, hg, hnc, hm, hs, ht⟩
  · simp at h1
  · simp at h1
    obtain ⟨rfl, _, rfl⟩ := h1
    exact ⟨cur, hn, by rw [hn]; exact hnc, hg, hs, by rw [hn]; exact ht⟩
theorem OwnP.size63 {w : World} {n : Nat} {ao : Option Addr} {cap : Nat} {ps : List (ByteArray × ByteArray)} (o : OwnP w.heap (.slice ao n cap) ps) : (n : Int) ≤ 9223372036854775807 := by
  obtain ⟨a, c, h⟩ := Own.form (w := w) o
  rcases o.2 with ⟨h1, h0⟩ | ⟨g', cap', cur, h1, _, hg, hnc, hm, hs, ht⟩
  · simp at h1; omega
  · simp at h1; unfold maxLen at hm; omega
theorem OwnP.at {w : World} {g n cap : Nat} {ps : List (ByteArray × ByteArray)} (o : OwnP w.heap (.slice (some ⟨g, 0, none⟩) n cap) ps) {i : Nat} {p : ByteArray × ByteArray} (hi : ps[i]? = some p) :
    w.rangeAt g (i * 2) [.string p.1, .string p.2] ∧ w.there g (i * 2) 2 := by
  obtain ⟨cur, hn, hc, hg, hs, ht⟩ := o.block
  have hil := (List.getElem?_eq_some_iff.1 hi).1
  obtain ⟨h0, h1⟩ := flatP_get ps i p hi
  rw [← ht, List.getElem?_take, if_pos (by omega), Array.getElem?_toList] at h0 h1
  constructor
  · intro j v hj
    rw [cellAt hg]
    match j, hj with
    | 0, hj => simp at hj; subst hj; exact h0
    | 1, hj => simp at hj; subst hj; exact h1
  · intro j hj
    refine ⟨?_, freeAt hg _⟩
    rw [cellAt hg, Array.getElem?_eq_getElem (by omega)]; rfl
theorem OwnP.put {w : World} {g n cap : Nat} {ps : List (ByteArray × ByteArray)} (o : OwnP w.heap (.slice (some ⟨g, 0, none⟩) n cap) ps) {i : Nat} (hi : i < n) (s t : ByteArray) :
    OwnP (w.setCells g (i * 2) [.string s, .string t]).heap (.slice (some ⟨g, 0, none⟩) n cap) (ps.set i (s, t)) ∧ Ext [g] w (w.setCells g (i * 2) [.string s, .string t]) := by
  obtain ⟨cur, hn, hc, hg, hs, ht⟩ := o.block
  have e : w.setCells g (i * 2) [.string s, .string t] = (w.setCell ⟨g, i * 2, none⟩ (.string s)).setCell ⟨g, i * 2 + 1, none⟩ (.string t) := by
    rw [World.setCells, World.setCells, World.setCells]
  rw [e]
  have h1 := heap_set hg (i * 2) (.string s)
  have h2 := heap_set h1 (i * 2 + 1) (.string t)
  refine ⟨⟨by rw [flatP_len], .inr ⟨g, cap, _, by simp [hn], Nat.zero_le _, h2, ?_, ?_, by simpa using hs, ?_⟩⟩, ((Ext.refl [g] w).set' (by simp) _ _).set' (by simp) _ _⟩
  · simp; omega
  · rcases o.2 with ⟨h1, h0⟩ | ⟨g', cap', cur', h1, _, hg', hnc, hm, hs', ht'⟩
    · simp at h1
    · simp at h1; rw [h1.2.2]; exact hm
  · simp only [Array.toList_setIfInBounds, List.length_set]
    rw [← hn, List.take_set, List.take_set, ht, flatP_set _ _ _ (by omega)]
/-- So far reversed. -/
structure RevI (ps : List (ByteArray × ByteArray)) (i : Nat) (qs : List (ByteArray × ByteArray)) : Prop where
  len : qs.length = ps.length
  get : ∀ k, k < ps.length → qs[k]? = if k < i ∨ ps.length ≤ k + i then ps[ps.length - 1 - k]? else ps[k]?
theorem RevI.start (ps : List (ByteArray × ByteArray)) : RevI ps 0 ps := ⟨rfl, fun k hk => by rw [if_neg (by omega)]⟩
theorem RevI.swap {ps qs : List (ByteArray × ByteArray)} {i j : Nat} {p q : ByteArray × ByteArray} (r : RevI ps i qs) (hp : qs[i]? = some p) (hq : qs[j]? = some q) (hij : i < j) (hs : i + j + 1 = ps.length) : RevI ps (i + 1) ((qs.set i q).set j p) := by
  refine ⟨by simp [r.len], fun k hk => ?_⟩
  have hl := r.len
  have e1 := r.get i (by omega)
  have e2 := r.get j (by omega)
  rw [if_neg (by omega), hp] at e1
  rw [if_neg (by omega), hq] at e2
  rw [List.getElem?_set, List.getElem?_set]
  by_cases hkj : j = k
  · subst hkj
    rw [if_pos rfl, if_pos (by simp; omega), if_pos (by omega), e1]; congr 1; omega
  · rw [if_neg hkj]
    by_cases hki : i = k
    · subst hki
      rw [if_pos rfl, if_pos (by omega), if_pos (by omega), e2]; congr 1; omega
    · rw [if_neg hki, r.get k hk]
      by_cases hc : k < i ∨ ps.length ≤ k + i
      · rw [if_pos hc, if_pos (by omega)]
      · rw [if_neg hc, if_neg (by omega)]
theorem RevI.done {ps qs : List (ByteArray × ByteArray)} {i : Nat} (r : RevI ps i qs) (h : ps.length ≤ 2 * i + 1) : qs = ps.reverse := by
  apply List.ext_getElem?
  intro k
  by_cases hk : k < ps.length
  · rw [List.getElem?_reverse hk, r.get k hk]
    split
    · rfl
    · congr 1; omega
  · rw [List.getElem?_eq_none (by rw [r.len]; omega), List.getElem?_eq_none (by simp; omega)]
theorem crev_any (v : Value) (ps : List (ByteArray × ByteArray)) (w : World) (hO : OwnP w.heap v ps) (hl : ps.length ≤ 1000) : Calls Try.prog 35 #[v] w fun e w' => e = .returned (.tuple #[]) ∧ OwnP w'.heap v ps.reverse ∧ Ext v.ownBlock.toList w w' := by
  obtain ⟨ao, cap, rfl⟩ := Own.form (w := w) hO
  obtain ⟨n, hn⟩ : ∃ n, ps.length = n := ⟨_, rfl⟩
  have HN := Hs.hid hn
  have hl2 : (n : Int) ≤ 1000 := by omega
  rw [hn] at hO ⊢
  have HO := Hs.hid hO
  clear hn hl hO
  go_enter Try.func35, Try.ntmps35
  go_wp2_with fail
  go_loopw [2, 3] (fun iv jv wr => ∃ (i : Nat) (j : Int) (qs : List (ByteArray × ByteArray)), iv = .int .i64 i ∧ jv = .int .i64 j ∧ (i : Int) + j = n - 1 ∧ Hid (RevI ps i qs) ∧ OwnP wr.heap (.slice ao n cap) qs ∧ Ext (Value.slice ao n cap).ownBlock.toList w wr) (fun iv _ _ => n - (intOf iv).toNat)
  case atStart => exact ⟨0, (n : Int) - 1, ps, rfl, rfl, by omega, Hs.hid (RevI.start ps), HO.out, Ext.refl _ _⟩
  case round =>
    clear HO
    obtain ⟨i, jI, qs, rfl, rfl, hij, HR, hO, hE⟩ := hrel
    by_cases hlt : (i : Int) < jI
    · obtain ⟨j, rfl⟩ : ∃ j : Nat, jI = j := ⟨jI.toNat, by omega⟩
      have hqn : qs.length = n := by rw [HR.out.len, HN.out]
      obtain ⟨g, rfl⟩ : ∃ g, ao = some ⟨g, 0, none⟩ := by
        rcases hO.2 with ⟨_, h0⟩ | ⟨g, cap', cur, h1, _⟩
        · omega
        · simp at h1; exact ⟨g, h1.1⟩
      obtain ⟨p, hp⟩ : ∃ p, qs[i]? = some p := ⟨_, List.getElem?_eq_getElem (by omega)⟩
      obtain ⟨q, hq⟩ : ∃ q, qs[j]? = some q := ⟨_, List.getElem?_eq_getElem (by omega)⟩
      replace hO : OwnP wr.drew.heap (.slice (some ⟨g, 0, none⟩) n cap) qs := hO
      replace hE := hE.drew
      have h1 := hO.at hp
      have h2 := hO.at hq
      have HQ := Hs.hid (And.intro h1 h2)
      obtain ⟨hO2, hE2⟩ := hO.put (i := i) (by omega) q.1 q.2
      obtain ⟨hO3, hE3'⟩ := hO2.put (i := j) (by omega) p.1 p.2
      have hE3 := (hE.trans' hE2).trans' hE3'
      have b1 : (i : Int) < n ∧ (j : Int) < n ∧ (0 : Int) ≤ i ∧ (0 : Int) ≤ j := by omega
      obtain ⟨b1, b2, b3, b4⟩ := b1
      have HP := Hs.hid (And.intro hp hq)
      clear hqn h1 h2 hO2 hE2 hE3' hE hO
      go_upto_region 3 with fail
      refine wp_region_noPanic ?_
      refine wp_region_held_drew (S := (fun _ => True)) (by kernel_rfl) ?_ (fun hHeld => ?_)
      · ((try dsimp only); all_goals trivial)
      refine wpAnyH_take (i := 0) (v := ?_) rfl (by kernel_rfl) (by kernel_rfl) (by kernel_rfl) (fun _ _ _ h => h) (Or.inl ⟨by rfl, ?_⟩) (by assumption) ?_
      rotate_left
      · (intro w hSw; (try dsimp only at hSw); first | (go_simp; done) | (go_simp; with_reducible rfl))
      try simp only [Act.put, List.getElem_toArray, List.getElem_cons_succ, List.getElem_cons_zero, List.setIfInBounds_toArray, List.set_cons_zero, List.set_cons_succ]
      refine wpAnyH_take (i := 1) (v := ?_) rfl (by kernel_rfl) (by kernel_rfl) (by kernel_rfl) (fun _ _ _ h => h) (Or.inl ⟨by rfl, ?_⟩) (by assumption) ?_
      rotate_left
      · (intro w hSw; (try dsimp only at hSw); first | (go_simp; done) | (go_simp; with_reducible rfl))
      try simp only [Act.put, List.getElem_toArray, List.getElem_cons_succ, List.getElem_cons_zero, List.setIfInBounds_toArray, List.set_cons_zero, List.set_cons_succ]
      refine wpAnyH_take (i := 2) (v := ?_) rfl (by kernel_rfl) (by kernel_rfl) (by kernel_rfl) (fun _ _ _ h => h) (Or.inl ⟨by rfl, ?_⟩) (by assumption) ?_
      rotate_left
      · (intro w hSw; (try dsimp only at hSw); first | (go_simp; done) | (go_simp; with_reducible rfl))
      try simp only [Act.put, List.getElem_toArray, List.getElem_cons_succ, List.getElem_cons_zero, List.setIfInBounds_toArray, List.set_cons_zero, List.set_cons_succ]
      refine wpAnyH_take (i := 3) (v := ?_) rfl (by kernel_rfl) (by kernel_rfl) (by kernel_rfl) (fun _ _ _ h => h) (Or.inl ⟨by rfl, ?_⟩) (by assumption) ?_
      rotate_left
      · (intro w hSw; (try dsimp only at hSw); first | (go_simp; done) | (go_simp; with_reducible rfl))
      try simp only [Act.put, List.getElem_toArray, List.getElem_cons_succ, List.getElem_cons_zero, List.setIfInBounds_toArray, List.set_cons_zero, List.set_cons_succ]
      refine wpAnyH_take (i := 4) (v := ?_) rfl (by kernel_rfl) (by kernel_rfl) (by kernel_rfl) (fun _ _ _ h => h) (Or.inl ⟨by rfl, ?_⟩) (by assumption) ?_
      rotate_left
      · (intro w hSw; (try dsimp only at hSw); first | (go_simp; done) | (go_simp; with_reducible rfl))
      try simp only [Act.put, List.getElem_toArray, List.getElem_cons_succ, List.getElem_cons_zero, List.setIfInBounds_toArray, List.set_cons_zero, List.set_cons_succ]
      refine wpAnyH_take (i := 5) (v := ?_) rfl (by kernel_rfl) (by kernel_rfl) (by kernel_rfl) (fun _ _ _ h => h) (Or.inl ⟨by rfl, ?_⟩) (by assumption) ?_
      rotate_left
      · (intro w hSw; (try dsimp only at hSw); first | (go_simp; done) | (go_simp; with_reducible rfl))
      try simp only [Act.put, List.getElem_toArray, List.getElem_cons_succ, List.getElem_cons_zero, List.setIfInBounds_toArray, List.set_cons_zero, List.set_cons_succ]
      refine wpAnyH_take (i := 6) (v := ?_) rfl (by kernel_rfl) (by kernel_rfl) (by kernel_rfl) (fun _ _ _ h => h) (Or.inl ⟨by rfl, ?_⟩) (by assumption) ?_
      rotate_left
      · (intro w hSw; (try dsimp only at hSw); first | (go_simp; done) | (go_simp; with_reducible rfl))
      try simp only [Act.put, List.getElem_toArray, List.getElem_cons_succ, List.getElem_cons_zero, List.setIfInBounds_toArray, List.set_cons_zero, List.set_cons_succ]
      refine wpAnyH_take (i := 8) (v := ?_) rfl (by kernel_rfl) (by kernel_rfl) (by kernel_rfl) (fun _ _ _ h => h) (Or.inl ⟨by rfl, ?_⟩) (by assumption) ?_
      rotate_left
      · (intro w hSw; (try dsimp only at hSw); first | (go_simp; done) | (go_simp; with_reducible rfl))
      try simp only [Act.put, List.getElem_toArray, List.getElem_cons_succ, List.getElem_cons_zero, List.setIfInBounds_toArray, List.set_cons_zero, List.set_cons_succ]
      refine wpAnyH_take (i := 9) (v := ?_) rfl (by kernel_rfl) (by kernel_rfl) (by kernel_rfl) (fun _ _ _ h => h) (Or.inl ⟨by rfl, ?_⟩) (by assumption) ?_
      rotate_left
      · (intro w hSw; (try dsimp only at hSw); first | (go_simp; done) | (go_simp; with_reducible rfl))
      try simp only [Act.put, List.getElem_toArray, List.getElem_cons_succ, List.getElem_cons_zero, List.setIfInBounds_toArray, List.set_cons_zero, List.set_cons_succ]
      refine wpAnyH_take (i := 10) (v := ?_) rfl (by kernel_rfl) (by kernel_rfl) (by kernel_rfl) (fun _ _ _ h => h) (Or.inl ⟨by rfl, ?_⟩) (by assumption) ?_
      rotate_left
      · (intro w hSw; (try dsimp only at hSw); first | (go_simp; done) | (go_simp; with_reducible rfl))
      try simp only [Act.put, List.getElem_toArray, List.getElem_cons_succ, List.getElem_cons_zero, List.setIfInBounds_toArray, List.set_cons_zero, List.set_cons_succ]
      refine wpAnyH_ready (rs := [7, 11]) (by kernel_rfl) (by simp) ?_
      refine AllReadyH.cons rfl (fun K hK => ?_) (AllReadyH.cons rfl (fun K hK => ?_) AllReadyH.nil)
      · rw [if_pos (by rfl)]
        (refine wp_load_pair _ rfl g (j * 2) rfl q.1 q.2 HQ.out.2.1 ?_)
        refine hK.out _ _ ?_ (fun hHeld => ?_)
        · ((try dsimp only); all_goals trivial)
        clear hK K
        try simp only [Act.put, List.getElem_toArray, List.getElem_cons_succ, List.getElem_cons_zero, List.setIfInBounds_toArray, List.set_cons_zero, List.set_cons_succ]
        refine wpAnyH_ready (rs := [11]) (by kernel_rfl) (by simp) ?_
        refine AllReadyH.cons rfl (fun K hK => ?_) AllReadyH.nil
        rw [if_pos (by rfl)]
        (refine wp_load_pair _ rfl g (i * 2) rfl p.1 p.2 HQ.out.1.1 ?_)
        refine hK.out _ _ ?_ (fun hHeld => ?_)
        · ((try dsimp only); all_goals trivial)
        clear hK K
        try simp only [Act.put, List.getElem_toArray, List.getElem_cons_succ, List.getElem_cons_zero, List.setIfInBounds_toArray, List.set_cons_zero, List.set_cons_succ]
        refine wpAnyH_take (i := 12) (v := ?_) rfl (by kernel_rfl) (by kernel_rfl) (by kernel_rfl) (fun _ _ _ h => h) (Or.inl ⟨by rfl, ?_⟩) (by assumption) ?_
        rotate_left
        · (intro w hSw; (try dsimp only at hSw); first | (go_simp; done) | (go_simp; with_reducible rfl))
        try simp only [Act.put, List.getElem_toArray, List.getElem_cons_succ, List.getElem_cons_zero, List.setIfInBounds_toArray, List.set_cons_zero, List.set_cons_succ]
        refine wpAnyH_ready (rs := [13]) (by kernel_rfl) (by simp) ?_
        refine AllReadyH.cons rfl (fun K hK => ?_) AllReadyH.nil
        rw [if_pos (by rfl)]
        (refine wp_store_pair _ _ rfl g (i * 2) q.1 q.2 rfl rfl HQ.out.1.2 ?_)
        refine hK.out _ _ ?_ (fun hHeld => ?_)
        · ((try dsimp only); all_goals trivial)
        clear hK K
        try simp only [Act.put, List.getElem_toArray, List.getElem_cons_succ, List.getElem_cons_zero, List.setIfInBounds_toArray, List.set_cons_zero, List.set_cons_succ]
        refine wpAnyH_take (i := 14) (v := ?_) rfl (by kernel_rfl) (by kernel_rfl) (by kernel_rfl) (fun _ _ _ h => h) (Or.inl ⟨by rfl, ?_⟩) (by assumption) ?_
        rotate_left
        · (intro w hSw; (try dsimp only at hSw); first | (go_simp; done) | (go_simp; with_reducible rfl))
        try simp only [Act.put, List.getElem_toArray, List.getElem_cons_succ, List.getElem_cons_zero, List.setIfInBounds_toArray, List.set_cons_zero, List.set_cons_succ]
        refine wpAnyH_ready (rs := [15]) (by kernel_rfl) (by simp) ?_
        refine AllReadyH.cons rfl (fun K hK => ?_) AllReadyH.nil
        rw [if_pos (by rfl)]
        (refine wp_store_pair _ _ rfl g (j * 2) p.1 p.2 rfl rfl (World.there_setCells HQ.out.2.2 _ _ _) ?_)
        refine hK.out _ _ ?_ (fun hHeld => ?_)
        · ((try dsimp only); all_goals trivial)
        clear hK K
        try simp only [Act.put, List.getElem_toArray, List.getElem_cons_succ, List.getElem_cons_zero, List.setIfInBounds_toArray, List.set_cons_zero, List.set_cons_succ]
        refine wpAnyH_done (by kernel_rfl) ?_ _
        refine NoPanic.normal ?_
        go_wp2_with fail
        go_round
        case rel => exact ⟨i + 1, (j : Int) - 1, _, by go_num, by go_num, by omega, Hs.hid (HR.out.swap HP.out.1 HP.out.2 (by omega) (by have := HN.out; omega)), hO3, hE3⟩
        case measure => simp [intOf]; omega
      · rw [if_pos (by rfl)]
        (refine wp_load_pair _ rfl g (i * 2) rfl p.1 p.2 HQ.out.1.1 ?_)
        refine hK.out _ _ ?_ (fun hHeld => ?_)
        · ((try dsimp only); all_goals trivial)
        clear hK K
        try simp only [Act.put, List.getElem_toArray, List.getElem_cons_succ, List.getElem_cons_zero, List.setIfInBounds_toArray, List.set_cons_zero, List.set_cons_succ]
        refine wpAnyH_ready (rs := [7]) (by kernel_rfl) (by simp) ?_
        refine AllReadyH.cons rfl (fun K hK => ?_) AllReadyH.nil
        rw [if_pos (by rfl)]
        (refine wp_load_pair _ rfl g (j * 2) rfl q.1 q.2 HQ.out.2.1 ?_)
        refine hK.out _ _ ?_ (fun hHeld => ?_)
        · ((try dsimp only); all_goals trivial)
        clear hK K
        try simp only [Act.put, List.getElem_toArray, List.getElem_cons_succ, List.getElem_cons_zero, List.setIfInBounds_toArray, List.set_cons_zero, List.set_cons_succ]
        refine wpAnyH_take (i := 12) (v := ?_) rfl (by kernel_rfl) (by kernel_rfl) (by kernel_rfl) (fun _ _ _ h => h) (Or.inl ⟨by rfl, ?_⟩) (by assumption) ?_
        rotate_left
        · (intro w hSw; (try dsimp only at hSw); first | (go_simp; done) | (go_simp; with_reducible rfl))
        try simp only [Act.put, List.getElem_toArray, List.getElem_cons_succ, List.getElem_cons_zero, List.setIfInBounds_toArray, List.set_cons_zero, List.set_cons_succ]
        refine wpAnyH_ready (rs := [13]) (by kernel_rfl) (by simp) ?_
        refine AllReadyH.cons rfl (fun K hK => ?_) AllReadyH.nil
        rw [if_pos (by rfl)]
        (refine wp_store_pair _ _ rfl g (i * 2) q.1 q.2 rfl rfl HQ.out.1.2 ?_)
        refine hK.out _ _ ?_ (fun hHeld => ?_)
        · ((try dsimp only); all_goals trivial)
        clear hK K
        try simp only [Act.put, List.getElem_toArray, List.getElem_cons_succ, List.getElem_cons_zero, List.setIfInBounds_toArray, List.set_cons_zero, List.set_cons_succ]
        refine wpAnyH_take (i := 14) (v := ?_) rfl (by kernel_rfl) (by kernel_rfl) (by kernel_rfl) (fun _ _ _ h => h) (Or.inl ⟨by rfl, ?_⟩) (by assumption) ?_
        rotate_left
        · (intro w hSw; (try dsimp only at hSw); first | (go_simp; done) | (go_simp; with_reducible rfl))
        try simp only [Act.put, List.getElem_toArray, List.getElem_cons_succ, List.getElem_cons_zero, List.setIfInBounds_toArray, List.set_cons_zero, List.set_cons_succ]
        refine wpAnyH_ready (rs := [15]) (by kernel_rfl) (by simp) ?_
        refine AllReadyH.cons rfl (fun K hK => ?_) AllReadyH.nil
        rw [if_pos (by rfl)]
        (refine wp_store_pair _ _ rfl g (j * 2) p.1 p.2 rfl rfl (World.there_setCells HQ.out.2.2 _ _ _) ?_)
        refine hK.out _ _ ?_ (fun hHeld => ?_)
        · ((try dsimp only); all_goals trivial)
        clear hK K
        try simp only [Act.put, List.getElem_toArray, List.getElem_cons_succ, List.getElem_cons_zero, List.setIfInBounds_toArray, List.set_cons_zero, List.set_cons_succ]
        refine wpAnyH_done (by kernel_rfl) ?_ _
        refine NoPanic.normal ?_
        go_wp2_with fail
        go_round
        case rel => exact ⟨i + 1, (j : Int) - 1, _, by go_num, by go_num, by omega, Hs.hid (HR.out.swap HP.out.1 HP.out.2 (by omega) (by have := HN.out; omega)), hO3, hE3⟩
        case measure => simp [intOf]; omega
    · go_wp2_with fail
      go_end0
      exact ⟨rfl, by rw [← HR.out.done (by have := HN.out; omega)]; exact hO, hE⟩
end Go.Proofs.Ytjicjadibaomkaa
set_option linter.unusedSimpArgs false
set_option linter.unusedVariables false
set_option maxHeartbeats 4000000
set_option maxRecDepth 100000
namespace Go.Proofs.Ytjicjadibaomkaa
open Go.RowKit Go.Hs Go.Dg

theorem two_boxes (w : World) (x y : S32) : ((w.alloc (.cells #[.int .u8 0, .int .u8 0, .int .u8 0, .int .u8 0, .int .u8 0, .int .u8 0, .int .u8 0, .int .u8 0, .int .u8 0, .int .u8 0, .int .u8 0, .int .u8 0, .int .u8 0, .int .u8 0, .int .u8 0, .int .u8 0, .int .u8 0, .int .u8 0, .int .u8 0, .int .u8 0, .int .u8 0, .int .u8 0, .int .u8 0, .int .u8 0, .int .u8 0, .int .u8 0, .int .u8 0, .int .u8 0, .int .u8 0, .int .u8 0, .int .u8 0, .int .u8 0] 35)).alloc (.cells #[.int .u8 0, .int .u8 0, .int .u8 0, .int .u8 0, .int .u8 0, .int .u8 0, .int .u8 0, .int .u8 0, .int .u8 0, .int .u8 0, .int .u8 0, .int .u8 0, .int .u8 0, .int .u8 0, .int .u8 0, .int .u8 0, .int .u8 0, .int .u8 0, .int .u8 0, .int .u8 0, .int .u8 0, .int .u8 0, .int .u8 0, .int .u8 0, .int .u8 0, .int .u8 0, .int .u8 0, .int .u8 0, .int .u8 0, .int .u8 0, .int .u8 0, .int .u8 0] 35)).heap[w.heap.size]? = some (.cells zeroS.V 35 (0, 0)) ∧ (((w.alloc (.cells #[.int .u8 0, .int .u8 0, .int .u8 0, .int .u8 0, .int .u8 0, .int .u8 0, .int .u8 0, .int .u8 0, .int .u8 0, .int .u8 0, .int .u8 0, .int .u8 0, .int .u8 0, .int .u8 0, .int .u8 0, .int .u8 0, .int .u8 0, .int .u8 0, .int .u8 0, .int .u8 0, .int .u8 0, .int .u8 0, .int .u8 0, .int .u8 0, .int .u8 0, .int .u8 0, .int .u8 0, .int .u8 0, .int .u8 0, .int .u8 0, .int .u8 0, .int .u8 0] 35)).alloc (.cells #[.int .u8 0, .int .u8 0, .int .u8 0, .int .u8 0, .int .u8 0, .int .u8 0, .int .u8 0, .int .u8 0, .int .u8 0, .int .u8 0, .int .u8 0, .int .u8 0, .int .u8 0, .int .u8 0, .int .u8 0, .int .u8 0, .int .u8 0, .int .u8 0, .int .u8 0, .int .u8 0, .int .u8 0, .int .u8 0, .int .u8 0, .int .u8 0, .int .u8 0, .int .u8 0, .int .u8 0, .int .u8 0, .int .u8 0, .int .u8 0, .int .u8 0, .int .u8 0] 35)).setRow w.heap.size x.V).heap[w.heap.size + 1]? = some (.cells zeroS.V 35 (0, 0)) ∧
    Ext [] w ((((w.alloc (.cells #[.int .u8 0, .int .u8 0, .int .u8 0, .int .u8 0, .int .u8 0, .int .u8 0, .int .u8 0, .int .u8 0, .int .u8 0, .int .u8 0, .int .u8 0, .int .u8 0, .int .u8 0, .int .u8 0, .int .u8 0, .int .u8 0, .int .u8 0, .int .u8 0, .int .u8 0, .int .u8 0, .int .u8 0, .int .u8 0, .int .u8 0, .int .u8 0, .int .u8 0, .int .u8 0, .int .u8 0, .int .u8 0, .int .u8 0, .int .u8 0, .int .u8 0, .int .u8 0] 35)).alloc (.cells #[.int .u8 0, .int .u8 0, .int .u8 0, .int .u8 0, .int .u8 0, .int .u8 0, .int .u8 0, .int .u8 0, .int .u8 0, .int .u8 0, .int .u8 0, .int .u8 0, .int .u8 0, .int .u8 0, .int .u8 0, .int .u8 0, .int .u8 0, .int .u8 0, .int .u8 0, .int .u8 0, .int .u8 0, .int .u8 0, .int .u8 0, .int .u8 0, .int .u8 0, .int .u8 0, .int .u8 0, .int .u8 0, .int .u8 0, .int .u8 0, .int .u8 0, .int .u8 0] 35)).setRow w.heap.size x.V).setRow (w.heap.size + 1) y.V) := by
  obtain ⟨h1, h2, h3, _⟩ := alloc_two' w (.cells #[.int .u8 0, .int .u8 0, .int .u8 0, .int .u8 0, .int .u8 0, .int .u8 0, .int .u8 0, .int .u8 0, .int .u8 0, .int .u8 0, .int .u8 0, .int .u8 0, .int .u8 0, .int .u8 0, .int .u8 0, .int .u8 0, .int .u8 0, .int .u8 0, .int .u8 0, .int .u8 0, .int .u8 0, .int .u8 0, .int .u8 0, .int .u8 0, .int .u8 0, .int .u8 0, .int .u8 0, .int .u8 0, .int .u8 0, .int .u8 0, .int .u8 0, .int .u8 0] 35) (.cells #[.int .u8 0, .int .u8 0, .int .u8 0, .int .u8 0, .int .u8 0, .int .u8 0, .int .u8 0, .int .u8 0, .int .u8 0, .int .u8 0, .int .u8 0, .int .u8 0, .int .u8 0, .int .u8 0, .int .u8 0, .int .u8 0, .int .u8 0, .int .u8 0, .int .u8 0, .int .u8 0, .int .u8 0, .int .u8 0, .int .u8 0, .int .u8 0, .int .u8 0, .int .u8 0, .int .u8 0, .int .u8 0, .int .u8 0, .int .u8 0, .int .u8 0, .int .u8 0] 35)
  refine ⟨h1, setRow_keep _ h2 (by omega), (h3.trans (setRow_ext _ _) (fun g hg => .inr (by simp at hg; omega))).trans (setRow_ext _ _) (fun g hg => .inr (by simp at hg; omega))⟩
/-- What Sides answers. -/
structure SidesR (w' : World) (r : SideR) (v : Value) (ok : Bool) : Prop where
  isOk : ok = r.ok
  no : ok = false → v = .slice none 0 0
  yes : ok = true → OwnP w'.heap v r.ps.reverse
theorem csidesF_any (b : Nat) (L : List ByteArray) (HL : Hid (L.length ≤ 40 ∧ ∀ s ∈ L, s.size ≤ 20)) (n m cap : Nat) (old : S32) (xs : List S32) (ao2 : Option Addr) (cap2 : Nat) (h1 : 1 ≤ m) (hm : m ≤ n) (hn : n = L.length) (hcap : n ≤ cap) (hcm : cap ≤ 9223372036854775807) (nx : Nat) (hnx : xs.length = nx)
    (w : World) (hLA : LeafAt w.heap b 0 L) (hT : Sums32 w.heap ao2 cap2 xs) : Calls Try.prog 14 #[.int .i64 m, .agg old.V, .slice (some ⟨b, 0, none⟩) n cap, .slice ao2 nx cap2] w fun e w' => ∃ v ok, e = .returned (.tuple #[v, .bool ok]) ∧
      Hid (SidesR w' (sidesP L n 0 m true old xs) v ok) ∧ (∀ g, v.ownBlock = some g → w.heap.size ≤ g) ∧ Ext [] w w' := by
  subst hnx
  have hA := heap_new w (.cells old.V 35)
  have hx0 := (Ext.refl [] w).alloc (.cells old.V 35)
  have IH := Hs.hid (csides_mth b 0 L HL n n 0 m 0 cap true old xs ao2 cap2 (Nat.le_refl _) h1 hm (by omega) (by omega) hcap hcm _ (hLA.ext0 hx0) (hT.ext hx0 (by simp)))
  have b1 : ¬ (m : Int) < 1 ∧ (m : Int) ≤ n ∧ (0 : Int) ≤ m := by omega
  obtain ⟨b1, b2, b3⟩ := b1
  have b4 : ¬ (n : Int) < m := by omega
  have HL2 := HL.out.1
  have HNL := Hs.hid (show n ≤ 40 by omega)
  clear hLA hT hn HL2
  go_enter Try.func14, Try.ntmps14
  go_upto_region 3 with fail
  generalize w.alloc (.cells old.V 35) = W at hA hx0 IH ⊢
  obtain ⟨A, hAA⟩ : ∃ A, w.heap.size = A := ⟨_, rfl⟩
  rw [hAA] at hA ⊢
  have HAA := Hs.hid hAA
  clear hAA
  go_upto_region 4 with (first
    | (refine wpList_yield (.agg old.V) (by rfl) (exec_load_rowV (.tmp 5) rfl A rfl old _ ⟨_, hA⟩) ?_)
    | (go_at_call 34; with_reducible refine (IH.out).mono ?_; intro e w7 hr; unfold SideE at hr; obtain ⟨x1, y1, v1, ps1, ok1, rfl, hr1, hO1, hg1, hn1, hx7⟩ := hr)
    | (refine wpList_store_row rfl 35 (.tmp 10) (.tmp 28) rfl w7.heap.size x1.V rfl rfl _ _ (two_boxes w7 x1 y1).1 (by rw [x1.size]; exact infoSum) (by rw [x1.size]; rfl) x1.one ?_)
    | (refine wpList_store_row rfl 35 (.tmp 11) (.tmp 29) rfl (w7.heap.size + 1) y1.V rfl rfl _ _ (two_boxes w7 x1 y1).2.1 (by rw [y1.size]; exact infoSum) (by rw [y1.size]; rfl) y1.one ?_))
  have hx8 := (two_boxes w7 x1 y1).2.2
  generalize (((w7.alloc (.cells #[.int .u8 0, .int .u8 0, .int .u8 0, .int .u8 0, .int .u8 0, .int .u8 0, .int .u8 0, .int .u8 0, .int .u8 0, .int .u8 0, .int .u8 0, .int .u8 0, .int .u8 0, .int .u8 0, .int .u8 0, .int .u8 0, .int .u8 0, .int .u8 0, .int .u8 0, .int .u8 0, .int .u8 0, .int .u8 0, .int .u8 0, .int .u8 0, .int .u8 0, .int .u8 0, .int .u8 0, .int .u8 0, .int .u8 0, .int .u8 0, .int .u8 0, .int .u8 0] 35)).alloc (.cells #[.int .u8 0, .int .u8 0, .int .u8 0, .int .u8 0, .int .u8 0, .int .u8 0, .int .u8 0, .int .u8 0, .int .u8 0, .int .u8 0, .int .u8 0, .int .u8 0, .int .u8 0, .int .u8 0, .int .u8 0, .int .u8 0, .int .u8 0, .int .u8 0, .int .u8 0, .int .u8 0, .int .u8 0, .int .u8 0, .int .u8 0, .int .u8 0, .int .u8 0, .int .u8 0, .int .u8 0, .int .u8 0, .int .u8 0, .int .u8 0, .int .u8 0, .int .u8 0] 35)).setRow w7.heap.size x1.V).setRow (w7.heap.size + 1) y1.V = W8 at hx8 ⊢
  have hO8 := hO1.ext hx8 (fun _ _ => List.not_mem_nil)
  have HE8 := Hs.hid ((hx0.trans0 hx7).trans0 hx8)
  have HG := Hs.hid (And.intro hg1 (And.intro hn1 (hx0.size)))
  clear hO1 hx7 hx8 hx0 hA IH hg1 hn1
  cases ok1
  · go_wp2_with fail
    go_ret2
    exact ⟨.slice none 0 0, false, rfl, Hs.hid ⟨by rw [hr1.out], fun _ => rfl, fun h => by cases h⟩, (fun g hg => by cases hg), HE8.out⟩
  · go_wp2_with (go_at_call 35; with_reducible refine (crev_any v1 ps1 _ hO8 (by have := HG.out.2.1; have := HNL.out; omega)).mono ?_; rintro e w9 ⟨rfl, hO9, hx9⟩)
    go_ret2
    have hgw : ∀ g, v1.ownBlock = some g → w.heap.size ≤ g := fun g hg => Nat.le_trans HG.out.2.2 (HG.out.1 g hg)
    exact ⟨v1, true, rfl, Hs.hid ⟨by rw [hr1.out], (fun h => by cases h), fun _ => by rw [hr1.out]; exact hO9⟩, hgw, HE8.out.trans hx9 (fun g hg => .inr (hgw g (by simpa using hg)))⟩
end Go.Proofs.Ytjicjadibaomkaa
