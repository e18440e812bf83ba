/-
  digest.Of, Leaf, walked.
-/
import Derived.Test.YtnjjbolbemlceaaDig4
set_option linter.unusedSimpArgs false
set_option linter.unusedVariables false
set_option maxHeartbeats 1000000
set_option maxRecDepth 100000
namespace Go.Proofs.Ytnjjbolbemlceaa
open Go.RowKit Go.Hs Go.Dg

theorem infoSum : (Try.prog.info? 27).map (·.size) = some 32 := by kernel_rfl
theorem zeroLit : (#[.int .u8 0, .int .u8 0, .int .u8 0, .int .u8 0, .int .u8 0, .int .u8 0, .int .u8 0, .int .u8 0, .int .u8 0, .int .u8 0, .int .u8 0, .int .u8 0, .int .u8 0, .int .u8 0, .int .u8 0, .int .u8 0, .int .u8 0, .int .u8 0, .int .u8 0, .int .u8 0, .int .u8 0, .int .u8 0, .int .u8 0, .int .u8 0, .int .u8 0, .int .u8 0, .int .u8 0, .int .u8 0, .int .u8 0, .int .u8 0, .int .u8 0, .int .u8 0] : Array Value) = bytesL fun _ => 0 := by kernel_rfl
theorem zeroSum (w : World) : (w.alloc (.cells #[.int .u8 0, .int .u8 0, .int .u8 0, .int .u8 0, .int .u8 0, .int .u8 0, .int .u8 0, .int .u8 0, .int .u8 0, .int .u8 0, .int .u8 0, .int .u8 0, .int .u8 0, .int .u8 0, .int .u8 0, .int .u8 0, .int .u8 0, .int .u8 0, .int .u8 0, .int .u8 0, .int .u8 0, .int .u8 0, .int .u8 0, .int .u8 0, .int .u8 0, .int .u8 0, .int .u8 0, .int .u8 0, .int .u8 0, .int .u8 0, .int .u8 0, .int .u8 0] 27)).heap[w.heap.size]? = some (.cells (bytesL fun _ => 0) 27 (0, 0)) := by
  rw [← zeroLit]; exact heap_new _ _
theorem setRow_ext {w : World} (R : Nat) (cs : Array Value) : Ext [R] w (w.setRow R cs) := ⟨rfl, rfl, rfl, by simp, fun q _ hq => setRow_other _ _ _ _ (by simpa using hq)⟩
def IsSum (cs : Array Value) : Prop := cs.size = 32 ∧ cs.all (·.oneCell') = true
theorem IsSum.info {cs : Array Value} (h : IsSum cs) : (Try.prog.info? 27).map (·.size) = some cs.size := by rw [h.1]; exact infoSum
theorem IsSum.zero {cs : Array Value} (h : IsSum cs) : (bytesL fun _ => 0).size = cs.size := by rw [h.1, bytesL_size]
theorem isSum_digV (s : ByteArray) : IsSum (digV s) := ⟨digV_size s, digV_one s⟩
theorem digSum_cs (b : Nat) (t : St) (left : ByteArray) (n : Nat) (w : World) (hb : w.heap[b]? = some (hashCell t left n)) (hl : left.size < 64) (hn : n ≤ 2000000000) :
    Calls Try.prog 30 #[.pointer (some ⟨b, 0, none⟩)] w fun e w' => ∃ cs, e = .returned (.agg cs) ∧ Hid (IsSum cs ∧ cs = sumV t left n) ∧ Ext [] w w' :=
  (digSum_any b t left n w hb hl hn).mono fun e w' ⟨h1, h2⟩ => ⟨_, h1, Hs.hid ⟨⟨sumV_size t left n, sumV_one t left n⟩, rfl⟩, h2⟩
theorem of_any (s : ByteArray) (hs : s.size ≤ 100000000) (w : World) : Calls Try.prog 11 #[.string s] w fun e w' => ∃ cs, e = .returned (.agg cs) ∧ Hid (cs = digV s) ∧ Ext [] w w' := by
  have hR := zeroSum w
  have hx0 : Ext [] w (w.alloc (.cells #[.int .u8 0, .int .u8 0, .int .u8 0, .int .u8 0, .int .u8 0, .int .u8 0, .int .u8 0, .int .u8 0, .int .u8 0, .int .u8 0, .int .u8 0, .int .u8 0, .int .u8 0, .int .u8 0, .int .u8 0, .int .u8 0, .int .u8 0, .int .u8 0, .int .u8 0, .int .u8 0, .int .u8 0, .int .u8 0, .int .u8 0, .int .u8 0, .int .u8 0, .int .u8 0, .int .u8 0, .int .u8 0, .int .u8 0, .int .u8 0, .int .u8 0, .int .u8 0] 27)) := (Ext.refl _ _).alloc _
  have hl := eat_left begin0 s
  have hn : 0 + s.size ≤ 2000000000 := by omega
  have HL := Hs.hid (And.intro hl (And.intro hn hs))
  have hdv : digV s = sumV (eat begin0 s).1 (eat begin0 s).2 (0 + s.size) := by unfold digV sumF sumV; rw [Nat.zero_add]
  have HD := Hs.hid hdv
  clear hl hn hs hdv
  go_enter Try.func11, Try.ntmps11
  go_upto_region 1 with fail
  generalize w.alloc (.cells #[.int .u8 0, .int .u8 0, .int .u8 0, .int .u8 0, .int .u8 0, .int .u8 0, .int .u8 0, .int .u8 0, .int .u8 0, .int .u8 0, .int .u8 0, .int .u8 0, .int .u8 0, .int .u8 0, .int .u8 0, .int .u8 0, .int .u8 0, .int .u8 0, .int .u8 0, .int .u8 0, .int .u8 0, .int .u8 0, .int .u8 0, .int .u8 0, .int .u8 0, .int .u8 0, .int .u8 0, .int .u8 0, .int .u8 0, .int .u8 0, .int .u8 0, .int .u8 0] 27) = W at *
  obtain ⟨R, hRR⟩ : ∃ R, w.heap.size = R := ⟨_, rfl⟩
  rw [hRR] at hR ⊢
  have HRR := Hs.hid (show w.heap.size ≤ R from Nat.le_of_eq hRR)
  clear hRR
  go_upto_region 2 with (go_at_call 28; refine (digNew_any _).mono ?_; rintro e w1 ⟨b, rfl, hb, hx1, hbl⟩)
  have hR1 := hx1.same hR (by simp)
  have hbR : R ≠ b := by have := lt_of_heap hR; omega
  clear hR
  go_upto_region 3 with (go_at_call 29; refine (digAdd_any b begin0 ⟨#[]⟩ 0 s _ hb (by decide) HL.out.2.2 (by decide)).mono ?_; rintro e w2 ⟨rfl, hb2, hx2⟩)
  rw [empty_cat] at hb2
  have hR2 := hx2.same hR1 (by simpa using hbR)
  have hxb : Ext [] W w2 := hx1.trans hx2 (fun g hg => .inr (by simp at hg; subst hg; exact hbl))
  clear hR1 hb hx1 hx2
  go_wp2_with (first
    | (go_at_call 30; refine (digSum_cs b (eat begin0 s).1 (eat begin0 s).2 (0 + s.size) _ hb2 HL.out.1 HL.out.2.1).mono ?_; rintro e w3 ⟨cs, rfl, hcs, hx3⟩; have hR3 := hx3.same hR2 (by simp))
    | (refine wpList_store_row rfl 27 (.tmp 2) (.tmp 9) rfl R cs rfl rfl _ _ hR3 hcs.out.1.info hcs.out.1.zero hcs.out.1.2 ?_))
  have hxf : Ext [] w (w3.setRow R cs) := ((hx0.trans0 (hxb.trans0 hx3)).trans (setRow_ext R _) (fun g hg => .inr (by simp at hg; subst hg; exact HRR.out)))
  refine bodyPost_ret (v := .agg cs) (results_cell_row (P := Try.prog) Try.results11 _ _ R _ _ _ _ rfl (setRow_heap _ _ _ _ _ _ hR3) Try.underlying27 rfl (by rw [hcs.out.1.1]; exact infoSum)) rfl ⟨_, rfl, Hs.hid (by rw [HD.out, hcs.out.2]), hxf⟩
theorem leaf_any (s : ByteArray) (hs : s.size ≤ 99999999) (w : World) : Calls Try.prog 26 #[.string s] w fun e w' => ∃ cs, e = .returned (.agg cs) ∧ Hid (cs = digV (⟨#[0]⟩ ++ s)) ∧ Ext [] w w' := by
  have hR := zeroSum w
  have hx0 : Ext [] w (w.alloc (.cells #[.int .u8 0, .int .u8 0, .int .u8 0, .int .u8 0, .int .u8 0, .int .u8 0, .int .u8 0, .int .u8 0, .int .u8 0, .int .u8 0, .int .u8 0, .int .u8 0, .int .u8 0, .int .u8 0, .int .u8 0, .int .u8 0, .int .u8 0, .int .u8 0, .int .u8 0, .int .u8 0, .int .u8 0, .int .u8 0, .int .u8 0, .int .u8 0, .int .u8 0, .int .u8 0, .int .u8 0, .int .u8 0, .int .u8 0, .int .u8 0, .int .u8 0, .int .u8 0] 27)) := (Ext.refl _ _).alloc _
  have hsz : ((⟨#[0]⟩ : ByteArray) ++ s).size ≤ 100000000 := by rw [ByteArray.size_append]; show 1 + s.size ≤ _; omega
  have hc : ¬ 9223372036854775807 < 1 + s.size := by omega
  have HZ := Hs.hid hsz
  clear hsz hs
  go_enter Try.func26, Try.ntmps26
  go_upto_region 1 with fail
  generalize w.alloc (.cells #[.int .u8 0, .int .u8 0, .int .u8 0, .int .u8 0, .int .u8 0, .int .u8 0, .int .u8 0, .int .u8 0, .int .u8 0, .int .u8 0, .int .u8 0, .int .u8 0, .int .u8 0, .int .u8 0, .int .u8 0, .int .u8 0, .int .u8 0, .int .u8 0, .int .u8 0, .int .u8 0, .int .u8 0, .int .u8 0, .int .u8 0, .int .u8 0, .int .u8 0, .int .u8 0, .int .u8 0, .int .u8 0, .int .u8 0, .int .u8 0, .int .u8 0, .int .u8 0] 27) = W at *
  obtain ⟨R, hRR⟩ : ∃ R, w.heap.size = R := ⟨_, rfl⟩
  rw [hRR] at hR ⊢
  have HRR := Hs.hid (show w.heap.size ≤ R from Nat.le_of_eq hRR)
  clear hRR
  go_wp2_with (first
    | (go_at_call 11; refine (of_any _ HZ.out _).mono ?_; rintro e w1 ⟨cs, rfl, hcs, hx1⟩; have hR3 := hx1.same hR (by simp); have his : Hid (IsSum cs) := Hs.hid (by rw [hcs.out]; exact isSum_digV _))
    | (refine wpList_store_row rfl 27 (.tmp 2) (.tmp 5) rfl R cs rfl rfl _ _ hR3 his.out.info his.out.zero his.out.2 ?_))
  have hxf : Ext [] w (w1.setRow R cs) := ((hx0.trans0 hx1).trans (setRow_ext R _) (fun g hg => .inr (by simp at hg; subst hg; exact HRR.out)))
  refine bodyPost_ret (v := .agg cs) (results_cell_row (P := Try.prog) Try.results26 _ _ R _ _ _ _ rfl (setRow_heap _ _ _ _ _ _ hR3) Try.underlying27 rfl (by rw [his.out.1]; exact infoSum)) rfl ⟨_, rfl, hcs, hxf⟩
end Go.Proofs.Ytnjjbolbemlceaa
