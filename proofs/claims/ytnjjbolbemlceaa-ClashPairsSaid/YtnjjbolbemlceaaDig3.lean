/-
  digest.New, Add, walked.
-/
import Derived.Test.YtnjjbolbemlceaaDig2
import Derived.Test.YtnjjbolbemlceaaShelf
set_option linter.unusedSimpArgs false
set_option linter.unusedVariables false
set_option maxHeartbeats 1000000
set_option maxRecDepth 100000
namespace Go.Proofs.Ytnjjbolbemlceaa
open Go.RowKit Go.Hs Go.Dg

/-- A Hash. -/
abbrev hashCell (t : St) (left : ByteArray) (n : Nat) : Obj := .cells #[.int .u32 t.a, .int .u32 t.b, .int .u32 t.c, .int .u32 t.d, .int .u32 t.e, .int .u32 t.f, .int .u32 t.g, .int .u32 t.h, .string left, .int .i64 n] 75 (0, 0)
theorem digBegin_any (w : World) : Calls Try.prog 43 #[] w fun e w' => e = .returned (.agg #[.int .u32 (begin0).a, .int .u32 (begin0).b, .int .u32 (begin0).c, .int .u32 (begin0).d, .int .u32 (begin0).e, .int .u32 (begin0).f, .int .u32 (begin0).g, .int .u32 (begin0).h]) ∧ Ext [] w w' :=
  (PDg.digest_begin.calls _ _ _ _ _ _ _ _ w rfl).mono fun e w' ⟨h1, h2⟩ => ⟨h1, Ext.ofBelow h2⟩
theorem mix_lit (t : St) (s : ByteArray) (hs : 64 ≤ s.size) (hm : s.size ≤ maxLen) (w : World) :
    Calls Try.prog 44 #[.agg #[.int .u32 (t).a, .int .u32 (t).b, .int .u32 (t).c, .int .u32 (t).d, .int .u32 (t).e, .int .u32 (t).f, .int .u32 (t).g, .int .u32 (t).h], .string s] w fun e w' => e = .returned (.agg #[.int .u32 (mixF t s).a, .int .u32 (mixF t s).b, .int .u32 (mixF t s).c, .int .u32 (mixF t s).d, .int .u32 (mixF t s).e, .int .u32 (mixF t s).f, .int .u32 (mixF t s).g, .int .u32 (mixF t s).h]) ∧ Ext [] w w' := mix_any t s hs hm w
theorem digNew_any (w : World) : Calls Try.prog 28 #[] w fun e w' => ∃ b, e = .returned (.pointer (some ⟨b, 0, none⟩)) ∧ w'.heap[b]? = some (hashCell begin0 ⟨#[]⟩ 0) ∧ Ext [] w w' ∧ w.heap.size ≤ b := by
  go_enter Try.func28, Try.ntmps28
  go_wp2_with (go_at_call 43; refine (digBegin_any _).mono ?_; rintro e w4 ⟨rfl, hx⟩)
  go_ret
  exact ⟨_, rfl, heap_new _ _, hx.alloc _, hx.size⟩
theorem clone_any (s : ByteArray) (w : World) (hlim : s.size ≤ 281474976710656) : Calls Try.prog 45 #[.string s] w fun e w' => e = .returned (.string s) ∧ Ext [] w w' := by
  go_enter Try.func45, Try.ntmps45
  go_wp2_with (go_at_call 56; refine (Try.stringslite_Clone s _ hlim).mono ?_; rintro e w4 ⟨rfl, hx⟩)
  go_ret
  exact ⟨rfl, Ext.ofBelow hx⟩
theorem hcells {w : World} {b : Nat} {t : St} {left : ByteArray} {n : Nat} (h : w.heap[b]? = some (hashCell t left n)) : w.cell? ⟨b, 0, none⟩ = some (.int .u32 t.a) ∧ w.cell? ⟨b, 1, none⟩ = some (.int .u32 t.b) ∧ w.cell? ⟨b, 2, none⟩ = some (.int .u32 t.c) ∧ w.cell? ⟨b, 3, none⟩ = some (.int .u32 t.d) ∧
    w.cell? ⟨b, 4, none⟩ = some (.int .u32 t.e) ∧ w.cell? ⟨b, 5, none⟩ = some (.int .u32 t.f) ∧ w.cell? ⟨b, 6, none⟩ = some (.int .u32 t.g) ∧ w.cell? ⟨b, 7, none⟩ = some (.int .u32 t.h) ∧ w.cell? ⟨b, 8, none⟩ = some (.string left) ∧ w.cell? ⟨b, 9, none⟩ = some (.int .i64 n) :=
  ⟨cellAt h 0, cellAt h 1, cellAt h 2, cellAt h 3, cellAt h 4, cellAt h 5, cellAt h 6, cellAt h 7, cellAt h 8, cellAt h 9⟩
theorem hash_put {w : World} {b : Nat} {t : St} {left : ByteArray} {n : Nat} (hb : w.heap[b]? = some (hashCell t left n)) (u : St) :
    ((((((((w.setCell ⟨b, 0, none⟩ (.int .u32 u.a)).setCell ⟨b, 1, none⟩ (.int .u32 u.b)).setCell ⟨b, 2, none⟩ (.int .u32 u.c)).setCell ⟨b, 3, none⟩ (.int .u32 u.d)).setCell ⟨b, 4, none⟩ (.int .u32 u.e)).setCell ⟨b, 5, none⟩ (.int .u32 u.f)).setCell ⟨b, 6, none⟩ (.int .u32 u.g)).setCell ⟨b, 7, none⟩ (.int .u32 u.h)).heap[b]? = some (hashCell u left n) ∧ Ext [b] w ((((((((w.setCell ⟨b, 0, none⟩ (.int .u32 u.a)).setCell ⟨b, 1, none⟩ (.int .u32 u.b)).setCell ⟨b, 2, none⟩ (.int .u32 u.c)).setCell ⟨b, 3, none⟩ (.int .u32 u.d)).setCell ⟨b, 4, none⟩ (.int .u32 u.e)).setCell ⟨b, 5, none⟩ (.int .u32 u.f)).setCell ⟨b, 6, none⟩ (.int .u32 u.g)).setCell ⟨b, 7, none⟩ (.int .u32 u.h)) := by
  refine ⟨?_, ?_⟩
  · refine Eq.trans (heap_set (heap_set (heap_set (heap_set (heap_set (heap_set (heap_set (heap_set hb 0 _) 1 _) 2 _) 3 _) 4 _) 5 _) 6 _) 7 _) ?_
    simp
  · repeat (first | (with_reducible exact Ext.refl _ _) | (with_reducible refine Ext.set' (List.mem_singleton.2 rfl) ?_ _ _))
theorem digAdd_any (b : Nat) (t : St) (left : ByteArray) (n : Nat) (s : ByteArray) (w : World) (hb : w.heap[b]? = some (hashCell t left n)) (hl : left.size < 64) (hs : s.size ≤ 100000000) (hn : n ≤ 1000000000) :
    Calls Try.prog 29 #[.pointer (some ⟨b, 0, none⟩), .string s] w fun e w' => e = .returned (.tuple #[]) ∧ w'.heap[b]? = some (hashCell (eat t (left ++ s)).1 (eat t (left ++ s)).2 (n + s.size)) ∧ Ext [b] w w' := by
  obtain ⟨h0, h1, h2, h3, h4, h5, h6, h7, h8, h9⟩ := hcells hb
  have hf := freeAt hb
  have hsi : (s.size : Int) ≤ 100000000 := by omega
  have hni : (n : Int) ≤ 1000000000 := by omega
  have hn0 : (0 : Int) ≤ n := by omega
  have hsz : (left ++ s).size = left.size + s.size := ByteArray.size_append
  have hx0 : Ext [b] w (w.setCell ⟨b, 9, none⟩ (.int .i64 ((n : Int) + s.size))) := Ext.set' (by simp) (Ext.refl _ _) _ _
  have hb0 : (w.setCell ⟨b, 9, none⟩ (.int .i64 ((n : Int) + s.size))).heap[b]? = some (hashCell t left (n + s.size)) := by
    refine Eq.trans (heap_set hb 9 _) ?_
    simp
  have HE : Hid (eat t (left ++ s) = eat t (left ++ s)) := Hs.hid rfl
  have HZ := Hs.hid (show (left ++ s).size ≤ 200000000 by omega)
  obtain ⟨r1, hr1⟩ : ∃ r, eat t (left ++ s) = r := ⟨_, rfl⟩
  have HR := Hs.hid hr1
  rw [hr1]
  go_enter Try.func29, Try.ntmps29
  go_wp2
  clear h0 h1 h2 h3 h4 h5 h6 h7 h8 h9 hf hsz HE hr1
  obtain ⟨s1, hs1⟩ : ∃ s1, left ++ s = s1 := ⟨_, rfl⟩
  have hE : Hid (eat t s1 = r1) := Hs.hid (by rw [← hs1]; exact HR.out)
  have hZ : Hid (s1.size ≤ 200000000) := Hs.hid (by rw [← hs1]; exact HZ.out)
  rw [hs1]
  clear HR HZ hs1
  go_loopw [1] (fun v wr => ∃ s1 t1, v = .string s1 ∧ wr.heap[b]? = some (hashCell t1 left (n + s.size)) ∧ Ext [b] w wr ∧ Hid (eat t1 s1 = r1) ∧ Hid (s1.size ≤ 200000000)) (fun v _ => match v with | .string s1 => s1.size | _ => 0)
  case atStart => exact ⟨s1, t, rfl, hb0, hx0, hE, hZ⟩
  case round =>
    clear hb0 hx0 hE hZ hb
    obtain ⟨s1, t1, rfl, hb, hx, hE, hZ⟩ := hrel
    obtain ⟨h0, h1, h2, h3, h4, h5, h6, h7, h8, h9⟩ := hcells hb
    have hf := freeAt hb
    have hz := hZ.out
    have hzi : (s1.size : Int) ≤ 200000000 := by omega
    by_cases h64 : 64 ≤ s1.size
    · have hzi2 : (64 : Int) ≤ s1.size := by omega
      have hml : s1.size ≤ maxLen := by simp [maxLen]; omega
      have HL := Hs.hid (And.intro h64 hml)
      clear h64 hml hz
      go_wp2_with (go_at_call 44; refine (mix_lit t1 s1 HL.out.1 HL.out.2 _).mono ?_; rintro e w4 ⟨rfl, hx4⟩; have hb4 := hx4.same hb (by simp); obtain ⟨k0, k1, k2, k3, k4, k5, k6, k7, k8, k9⟩ := hcells hb4; have kf := freeAt hb4)
      obtain ⟨q1, q2⟩ := hash_put hb4 (mixF t1 s1)
      go_round
      case rel => exact ⟨_, _, rfl, q1, (hx.trans0 hx4).trans' q2, Hs.hid (by rw [← hE.out, eat_more HL.out.1]), Hs.hid (by have := hZ.out; rw [ByteArray.size_extract]; omega)⟩
      case measure => have := HL.out.1; simp [ByteArray.size_extract]; omega
    · have HE := Hs.hid (hE.out.symm.trans (eat_end h64))
      have hl : s1.size ≤ 281474976710656 := by omega
      have h64d : decide ((64 : Int) ≤ s1.size) = false := by simp; omega
      clear h64 hz
      go_wp2_with (go_at_call 45; refine (clone_any s1 _ hl).mono ?_; rintro e w4 ⟨rfl, hx4⟩; have hb4 := hx4.same hb (by simp); obtain ⟨k0, k1, k2, k3, k4, k5, k6, k7, k8, k9⟩ := hcells hb4; have kf := freeAt hb4)
      go_end0
      refine ⟨rfl, ?_, Ext.set' (by simp) (hx.trans0 hx4) _ _⟩
      rw [HE.out]
      refine Eq.trans (heap_set hb4 8 _) ?_
      simp
end Go.Proofs.Ytnjjbolbemlceaa
