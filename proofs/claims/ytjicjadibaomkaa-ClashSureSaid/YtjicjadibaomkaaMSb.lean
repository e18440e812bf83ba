/-
  Texts of this claim, put together: Tree, Tree2, Range, Tree3, Range2, TailA, Tail, Tree4, TreeP, Sep, Append, TreeS, Sum, Sums, Path, Steps, TreeA.
-/
import Derived.Laws.StructEq
import Derived.Test.YtjicjadibaomkaaShelf
import Derived.Maps.RangeRun
import Derived.StillTailTactics
import Derived.Laws.Rows
import Derived.Laws.Tables
import Derived.Deep.RegionHeld3
import Derived.Laws.ResultCell
import Derived.Test.YtjicjadibaomkaaMSa
set_option linter.unusedSimpArgs false
set_option linter.unusedVariables false
set_option maxHeartbeats 2000000
set_option maxRecDepth 100000
namespace Go.Proofs.Ytjicjadibaomkaa
open Go.RowKit Go.Hs Go.Dg

/-- A place: level, index. -/
abbrev Pl := Int × Int
def encP (p : Pl) : Value := .agg #[.int .i64 p.1, .int .i64 p.2]
theorem fieldsP0 : ((Try.prog.fieldsOf 63).toList.map fun f => (f.name, f.type, f.offset)) = [("level", 3, 0), ("index", 3, 1)] := by kernel_rfl
theorem fieldsP : ∃ f g : Field, Try.prog.fieldsOf 63 = #[f, g] ∧ f.name = "level" ∧ f.type = 3 ∧ f.offset = 0 ∧ g.name = "index" ∧ g.type = 3 ∧ g.offset = 1 := by
  have h := fieldsP0
  generalize Try.prog.fieldsOf 63 = fs at h
  obtain ⟨fs⟩ := fs
  match fs, h with
  | [], h => simp at h
  | [_], h => simp at h
  | _ :: _ :: _ :: _, h => simp at h
  | [f, g], h =>
    simp only [List.map_cons, List.map_nil, List.cons.injEq, Prod.mk.injEq] at h
    exact ⟨f, g, rfl, h.1.1, h.1.2.1, h.1.2.2, h.2.1.1, h.2.1.2.1, h.2.1.2.2⟩
theorem underP : Try.prog.underlying 63 = some (.struct (Try.prog.fieldsOf 63)) := by kernel_rfl
theorem stoodP : Try.prog.stoodInHeld 63 = false := by kernel_rfl
theorem run_part_int {xs : Array Value} {i : Nat} {v : Value} (h : xs[i]? = some v) (w : World) : (part 3 xs i).run Try.prog w = .ok v w := by
  simp [part, isAgg, run_underlying Try.underlying3, h]
theorem run_eq_place (p q : Pl) (w : World) : (Op.equal 63 (encP p) (encP q)).run Try.prog w = .ok (decide (p = q)) w := by
  unfold Op.equal Op.maxDepth encP
  obtain ⟨f, g, hf, f1, f2, f3, g1, g2, g3⟩ := fieldsP
  rw [show (10000 : Nat) = 9999 + 1 from rfl, run_equalIn_struct w 9999 63 _ _ underP stoodP, hf]
  have a1 : ∀ p : Pl, (part 3 #[.int .i64 p.1, .int .i64 p.2] 0).run Try.prog w = .ok (.int .i64 p.1) w := fun p => run_part_int rfl w
  have a2 : ∀ p : Pl, (part 3 #[.int .i64 p.1, .int .i64 p.2] 1).run Try.prog w = .ok (.int .i64 p.2) w := fun p => run_part_int rfl w
  have eI : ∀ a b : Int, (Op.equalIn 9999 3 (.int .i64 a) (.int .i64 b)).run Try.prog w = .ok (a == b) w := fun a b => run_equalIn_int w 9998 3 .i64 .i64 a b Try.underlying3
  have n1 : ("level" ≠ "_") = True := by simp
  have n2 : ("index" ≠ "_") = True := by simp
  simp only [Op.eqFields, f1, f2, f3, g1, g2, g3, n1, n2, if_true, Sem.run_bind, a1, a2, Result.andThen_ok, eI, Sem.run_ite, Sem.run_pure]
  obtain ⟨p1, p2⟩ := p
  obtain ⟨q1, q2⟩ := q
  by_cases h1 : p1 = q1 <;> by_cases h2 : p2 = q2 <;> simp [h1, h2]
theorem keyOK_place : KeyOK Try.prog 63 encP where
  check em k w := by
    unfold Instr.checkKey encP
    obtain ⟨f, g, hf, f1, f2, f3, g1, g2, g3⟩ := fieldsP
    have a1 : ∀ w, (part 3 #[.int .i64 k.1, .int .i64 k.2] 0).run Try.prog w = .ok (.int .i64 k.1) w := fun w => run_part_int rfl w
    have a2 : ∀ w, (part 3 #[.int .i64 k.1, .int .i64 k.2] 1).run Try.prog w = .ok (.int .i64 k.2) w := fun w => run_part_int rfl w
    have c1 : ∀ v (w : World), (Instr.checkKey em 9999 3 v).run Try.prog w = .ok () w := fun v w => checkKey_plain Try.underlying3 (fun _ _ => by simp) em 9998 v w
    have n1 : ("level" ≠ "_") = True := by simp
    have n2 : ("index" ≠ "_") = True := by simp
    simp only [Sem.run_bind, run_underlying underP, Result.andThen_ok, hf]
    simp [f1, f2, f3, g1, g2, g3, a1, a2, c1, Sem.run_bind]
  find venc k es l w he _ := by
    have key : ∀ (es : List MapEntry) (l : List (Pl × _)) (i : Nat), es.map (fun e => (e.key, e.val)) = l.map (fun p => (encP p.1, venc p.2)) →
        (Instr.findAsking 63 (encP k) es i).run Try.prog w = .ok ((mfind l k i).map fun x => (x.1, venc x.2)) w := by
      intro es
      induction es with
      | nil => intro l i he; cases l <;> simp_all [Instr.findAsking, mfind]
      | cons e es ih =>
        intro l i he
        cases l with
        | nil => simp at he
        | cons p l =>
          simp only [List.map_cons, List.cons.injEq, Prod.mk.injEq] at he
          obtain ⟨⟨h1, h2⟩, h3⟩ := he
          simp only [Instr.findAsking, Sem.run_bind, h1, run_eq_place, Result.andThen_ok, mfind]
          by_cases hk : k = p.1
          · simp [hk, h2]
          · simp [hk, ih l (i + 1) h3]
    have hnow : ∀ (es : List MapEntry) (l : List (Pl × _)), es.map (fun e => (e.key, e.val)) = l.map (fun p => (encP p.1, venc p.2)) →
        Instr.findNow (.struct (Try.prog.fieldsOf 63)) (encP k) es 0 = none ∨ es = [] := by
      intro es l _
      cases es with
      | nil => exact .inr rfl
      | cons e es => left; simp [Instr.findNow, Instr.sameNow]
    simp only [Instr.findKey, Sem.run_bind, run_underlying underP, Result.andThen_ok]
    rcases hnow es l he with h | rfl
    · rw [h]; exact key es l 0 he
    · cases l with
      | nil => rfl
      | cons _ _ => simp at he
  stays k w := by
    have : Instr.sameBits 10000 (encP k) (encP k) = true := by simp [encP, Instr.sameBits]
    simp [Instr.keyThatStays, this]
end Go.Proofs.Ytjicjadibaomkaa
set_option linter.unusedSimpArgs false
set_option linter.unusedVariables false
set_option maxHeartbeats 2000000
set_option maxRecDepth 100000
namespace Go.Proofs.Ytjicjadibaomkaa
open Go.RowKit Go.Hs Go.Dg

theorem end_any (v i : Nat) (hv : v ≤ 50) (hi : (i + 1) * 2 ^ v ≤ 2 ^ 50) (w : World) : Calls Try.prog 43 #[encP (v, i)] w fun e w' => e = .returned (.int .i64 (((i + 1) * 2 ^ v : Nat) : Int)) ∧ Ext [] w w' := by
  have h1 : i + 1 ≤ 2 ^ 50 := Nat.le_trans (Nat.le_mul_of_pos_right _ (Nat.two_pow_pos _)) hi
  have h2 : (i : Int) ≤ 1125899906842624 := by have : (2 : Nat) ^ 50 = 1125899906842624 := by decide
                                               omega
  have h3 : (0 : Int) ≤ i := by omega
  have h4 : (v : Int) ≤ 50 := by omega
  have h5 : (0 : Int) ≤ v := by omega
  have HI := Hs.hid hi
  clear hi h1
  unfold encP
  have hc : ((i : Int) + 1) * 2 ^ v = (((i + 1) * 2 ^ v : Nat) : Int) := by push_cast; rfl
  have hw : wrap64 (((i : Int) + 1) * 2 ^ v) = (((i + 1) * 2 ^ v : Nat) : Int) := by
    rw [hc]
    have hb := HI.out
    generalize (i + 1) * 2 ^ v = n at hb ⊢
    have : (2 : Nat) ^ 50 = 1125899906842624 := by decide
    unfold wrap64; omega
  have HW := Hs.hid hw
  clear hc hw
  go_enter Try.func43, Try.ntmps43
  go_wp2
  go_ret
  exact ⟨by rw [HW.out]; rfl, (Ext.refl _ _).alloc _⟩
theorem up_any (v i : Nat) (hv : v ≤ 50) (hi : i ≤ 2 ^ 50) (w : World) : Calls Try.prog 42 #[encP (v, i)] w fun e w' => e = .returned (encP ((v + 1 : Nat), (i / 2 : Nat))) ∧ Ext [] w w' := by
  unfold encP
  have h2 : (i : Int) ≤ 1125899906842624 := by have : (2 : Nat) ^ 50 = 1125899906842624 := by decide
                                               omega
  have h3 : (0 : Int) ≤ i := by omega
  have h4 : (v : Int) ≤ 50 := by omega
  have h5 : (0 : Int) ≤ v := by omega
  have hinf : (Try.prog.info? 63).map (·.size) = some 2 := by kernel_rfl
  go_enter Try.func42, Try.ntmps42
  go_wp2
  refine bodyPost_ret (v := encP ((v + 1 : Nat), (i / 2 : Nat))) (results_cell_row (P := Try.prog) Try.results42 _ _ (w.heap.size + 1) _ _ _ _ rfl (by have := heap_new (w.alloc (.cells #[.int .i64 v, .int .i64 i] 63)) (.cells #[.int .i64 (v + 1), .int .i64 (i / 2)] 63); simpa using this) Try.underlying63 rfl hinf) rfl ⟨rfl, ((Ext.refl _ _).alloc _).alloc _⟩
theorem half_any (n : Nat) (h2 : 2 ≤ n) (hn : n ≤ 2 ^ 50) (w : World) : Calls Try.prog 44 #[.int .i64 n] w fun e w' => e = .returned (.int .i64 (halfN n : Int)) ∧ w' = w := by
  have hp : (2 : Nat) ^ 50 = 1125899906842624 := by decide
  have h3 : (n : Int) ≤ 1125899906842624 := by omega
  have h4 : (2 : Int) ≤ n := by omega
  have hL : Lib.bitLen ((n : Int) - 1).toNat = (n - 1).log2 + 1 := by
    have : ((n : Int) - 1).toNat = n - 1 := by omega
    rw [this]
    exact bitLen_log (by omega) (by omega)
  have HL := Hs.hid hL
  clear hL
  have hk : (n - 1).log2 < 50 := (Nat.log2_lt (by omega)).2 (by omega)
  have HK := Hs.hid hk
  obtain ⟨k, hkk⟩ : ∃ k, (n - 1).log2 = k := ⟨_, rfl⟩
  rw [hkk] at hk
  have h5 : (k : Int) ≤ 50 := by omega
  have h6 : (0 : Int) ≤ k := by omega
  have HKK := Hs.hid hkk
  have hres : (halfN n : Int) = 2 ^ k := by unfold halfN; rw [hkk]; push_cast; rfl
  have hbound : ((2 : Int) ^ k) ≤ 1125899906842624 := by
    have := Nat.pow_le_pow_right (n := 2) (by decide) (show k ≤ 50 by omega)
    have hq : ((2 ^ k : Nat) : Int) ≤ ((2 ^ 50 : Nat) : Int) := by omega
    simpa using hq
  have hpos : (0 : Int) < 2 ^ k := by exact_mod_cast Nat.two_pow_pos k
  have hw : wrap64 (2 ^ k) = (halfN n : Int) := by
    rw [hres]
    generalize (2 : Int) ^ k = z at hbound hpos
    unfold wrap64; omega
  have HR := Hs.hid hw
  clear hw hkk hres hbound hpos
  go_enter Try.func44, Try.ntmps44
  go_wp2_with (go_at_call 45; refine (Try.bits_Len ((n : Int) - 1) _ (by omega) (by omega)).mono ?_; rintro e w1 ⟨rfl, rfl⟩; rw [HL.out, HKK.out])
  go_ret
  exact ⟨by rw [HR.out]; rfl, rfl⟩
end Go.Proofs.Ytjicjadibaomkaa
set_option linter.unusedSimpArgs false
set_option linter.unusedVariables false
set_option maxHeartbeats 1000000
namespace Go.Proofs.Ytjicjadibaomkaa
open Go.RowKit Go.Hs
open Go.ChangeMaps (setBlock)

def leftN (h : Array Obj) (r bm : Nat) : Nat := match h[r]?, h[bm]? with
  | some (.mapIter _ _ seen _), some (.map es _) => (leftOf es seen).size
  | _, _ => 0
theorem leftN_same {h h' : Array Obj} {r bm : Nat} (h1 : h'[r]? = h[r]?) (h2 : h'[bm]? = h[bm]?) : leftN h' r bm = leftN h r bm := by unfold leftN; rw [h1, h2]
section
variable {κ ν : Type} [DecidableEq κ] {enc : κ → Value} {venc : ν → Value} {l : List (κ × ν)} {w : World} {P : Program}
/-- Block r is an iterator over the map in block bm, which holds l. -/
def RangeAt (enc : κ → Value) (venc : ν → Value) (h : Array Obj) (r bm : Nat) (l : List (κ × ν)) : Prop :=
  ∃ es clock since c0 seen, h[bm]? = some (.map es clock) ∧ Ents enc venc es clock l ∧ h[r]? = some (.mapIter (some bm) since seen c0) ∧ (∀ x ∈ es.toList, x.born < since) ∧ since ≤ c0 ∧ since ≤ clock
theorem RangeAt.same {h h' : Array Obj} {r bm : Nat} (i : RangeAt enc venc h r bm l) (h1 : h'[r]? = h[r]?) (h2 : h'[bm]? = h[bm]?) : RangeAt enc venc h' r bm l := by
  obtain ⟨es, clock, since, c0, seen, a1, a2, a3, a4⟩ := i
  exact ⟨es, clock, since, c0, seen, h2.trans a1, a2, h1.trans a3, a4⟩
theorem RangeAt.map {h : Array Obj} {r bm : Nat} (i : RangeAt enc venc h r bm l) : MapAt enc venc h bm l := by
  obtain ⟨es, clock, since, c0, seen, a1, a2, _⟩ := i
  exact ⟨es, clock, a1, a2⟩
theorem RangeAt.lt {h : Array Obj} {r bm : Nat} (i : RangeAt enc venc h r bm l) : r < h.size := by
  obtain ⟨es, clock, since, c0, seen, _, _, a3, _⟩ := i
  exact lt_of_heap a3
theorem RangeAt.ext {F : List Nat} {w' : World} {r bm : Nat} (i : RangeAt enc venc w.heap r bm l) (hx : Ext F w w') (h1 : r ∉ F) (h2 : bm ∉ F) : RangeAt enc venc w'.heap r bm l ∧ leftN w'.heap r bm = leftN w.heap r bm :=
  ⟨i.same (hx.block r i.lt h1) (hx.block bm i.map.lt h2), leftN_same (hx.block r i.lt h1) (hx.block bm i.map.lt h2)⟩
theorem run_rangeAt {t k e : TypeId} {bm : Nat} (ht : P.underlying t = some (.map k e)) (m : MapAt enc venc w.heap bm l) :
    ∃ o, (Instr.range t (.map (some bm))).run P w = .ok (.pointer (some ⟨w.heap.size, 0, none⟩)) (w.alloc o) ∧ RangeAt enc venc (w.alloc o).heap w.heap.size bm l := by
  obtain ⟨es, clock, hb, E⟩ := m
  exact ⟨_, run_range_map w t k e bm es clock ht hb, es, clock, clock, clock, #[], heap_old' _ _ hb, E, heap_new _ _, E.clk, Nat.le_refl _, Nat.le_refl _⟩
theorem ext_setBlock (w : World) (r : Nat) (o : Obj) : Ext [r] w (setBlock w r o) := by
  refine ⟨rfl, rfl, rfl, ?_, fun k hk hn => ?_⟩
  · simp [setBlock]
  · simp at hn
    simp [setBlock, Array.getElem?_setIfInBounds, Ne.symm hn]
theorem run_nextAt {r bm : Nat} (ty : TypeId) (i : RangeAt enc venc w.heap r bm l) :
    (leftN w.heap r bm = 0 ∧ (Instr.next (.pointer (some ⟨r, 0, none⟩)) false ty).run P w = .ok (.tuple #[.bool false]) w) ∨
    ∃ p ∈ l, ∃ w1, leftN w1.heap r bm < leftN w.heap r bm ∧ (Instr.next (.pointer (some ⟨r, 0, none⟩)) false ty).run P w = .ok (.tuple #[.bool true, enc p.1, venc p.2]) w1 ∧
      (Instr.entry (.pointer (some ⟨r, 0, none⟩))).run P w1 = .ok (.tuple #[enc p.1, venc p.2]) w1 ∧ RangeAt enc venc w1.heap r bm l ∧ Ext [r] w w1 := by
  obtain ⟨es, clock, since, c0, seen, hb, E, hr, hold, hsc, hcl⟩ := i
  have hN : leftN w.heap r bm = (leftOf es seen).size := by unfold leftN; rw [hr, hb]
  rcases run_next_at (P := P) w ty r bm since c0 seen es clock hr hb hold hsc with ⟨h0, h1⟩ | ⟨e, he, w1, hw, h1⟩
  · exact .inl ⟨by rw [hN]; exact h0, h1⟩
  · right
    have hin := (mem_left he).1
    have hkv : (e.key, e.val) ∈ l.map (fun p => (enc p.1, venc p.2)) := by rw [← E.ents]; exact List.mem_map.2 ⟨e, hin, rfl⟩
    obtain ⟨p, hp, hpe⟩ := List.mem_map.1 hkv
    simp only [Prod.mk.injEq] at hpe
    have hrb : r ≠ bm := ne_block hr hb (by simp)
    have hh : w1.heap = w.heap := by rcases hw with rfl | rfl <;> rfl
    have hrlt := lt_of_heap hr
    have hr' : (setBlock w1 r (.mapIter (some bm) since (seen.push e.born) clock)).heap[r]? = some (.mapIter (some bm) since (seen.push e.born) clock) := by
      simp [setBlock, hh, hrlt]
    have hb' : (setBlock w1 r (.mapIter (some bm) since (seen.push e.born) clock)).heap[bm]? = some (.map es clock) := by
      simp [setBlock, hh, Array.getElem?_setIfInBounds, hrb, hb]
    have hnd : (es.toList.map (·.born)).Nodup := E.born.imp (fun h => by omega)
    refine ⟨p, hp, _, ?_, by rw [hpe.1, hpe.2]; exact h1, ?_, ⟨es, clock, since, clock, _, hb', E, hr', hold, hcl, hcl⟩, ?_⟩
    · rw [hN]
      unfold leftN
      rw [hr', hb']
      exact left_shrinks es seen e he
    · rw [hpe.1, hpe.2]
      exact run_entry_at _ r bm since seen es clock e hr' hb' hin hnd
    · have hE : Ext [r] w w1 := by rcases hw with rfl | rfl; exact Ext.refl _ _; exact (Ext.refl _ _).drew
      exact hE.trans' (ext_setBlock _ _ _)
theorem run_lenAt {bm : Nat} (m : MapAt enc venc w.heap bm l) : ∃ es clock, w.heap[bm]? = some (.map es clock) ∧ es.size = l.length := by
  obtain ⟨es, clock, hb, E⟩ := m
  refine ⟨es, clock, hb, ?_⟩
  have := congrArg List.length E.ents
  simpa using this
theorem run_lenMap {t k e : TypeId} (ty : TypeId) {bm : Nat} (ht : P.underlying t = some (.map k e)) (m : MapAt enc venc w.heap bm l) : (Builtin.len_ #[t] ty #[.map (some bm)]).run P w = .ok (.int .i64 l.length) w := by
  obtain ⟨es, clock, hb, hes⟩ := run_lenAt m
  simp [Builtin.len_, run_underlying ht, getObj, Sem.run, hb, Result.andThen, goInt, hes]
end
end Go.Proofs.Ytjicjadibaomkaa
set_option linter.unusedSimpArgs false
set_option linter.unusedVariables false
set_option maxHeartbeats 2000000
set_option maxRecDepth 100000
namespace Go.Proofs.Ytjicjadibaomkaa
open Go.RowKit Go.Hs Go.Dg

/-- A sum in the map, as the text that it is the sum of. -/
def encS (x : ByteArray) : Value := .agg (digV x)
/-- Block T is a tree of n leaves and a floor, its map in block M, with the places l. -/
structure TAt (h : Array Obj) (T M n floor : Nat) (l : List (Pl × ByteArray)) : Prop where
  cells : h[T]? = some (.cells #[.map (some M), .int .i64 n, .int .i64 floor] 61 (0, 0))
  map : MapAt encP encS h M l
theorem TAt.ne {h : Array Obj} {T M n floor : Nat} {l : List (Pl × ByteArray)} (t : TAt h T M n floor l) : T ≠ M := t.map.ne t.cells
theorem TAt.ext {w w' : World} {F : List Nat} {T M n floor : Nat} {l : List (Pl × ByteArray)} (t : TAt w.heap T M n floor l) (x : Ext F w w') (h1 : T ∉ F) (h2 : M ∉ F) : TAt w'.heap T M n floor l :=
  ⟨x.same t.cells h1, t.map.ext x h2⟩
theorem TAt.ext0 {w w' : World} {T M n floor : Nat} {l : List (Pl × ByteArray)} (t : TAt w.heap T M n floor l) (x : Ext [] w w') : TAt w'.heap T M n floor l := t.ext x (by simp) (by simp)
theorem TAt.get {w : World} {T M n floor : Nat} {l : List (Pl × ByteArray)} (t : TAt w.heap T M n floor l) : w.cell? ⟨T, 0, none⟩ = some (.map (some M)) ∧ w.cell? ⟨T, 1, none⟩ = some (.int .i64 n) ∧ w.cell? ⟨T, 2, none⟩ = some (.int .i64 floor) :=
  ⟨by rw [cellAt t.cells]; rfl, by rw [cellAt t.cells]; rfl, by rw [cellAt t.cells]; rfl⟩
theorem treeNew_any (w : World) : Calls Try.prog 7 #[] w fun e w' => ∃ T M, e = .returned (.pointer (some ⟨T, 0, none⟩)) ∧ TAt w'.heap T M 0 0 [] ∧ Ext [] w w' ∧ w.heap.size ≤ T ∧ w.heap.size ≤ M := by
  have hmk := fun w => run_makeMap (P := Try.prog) 59 w
  go_enter Try.func7, Try.ntmps7
  go_wp2
  go_ret
  refine ⟨_, _, rfl, ⟨?_, ?_⟩, ((Ext.refl _ _).alloc _).alloc _, by omega, Nat.le_refl _⟩
  · have h := heap_new (w.alloc (.map #[] 0)) (.cells #[.map (some w.heap.size), .int .i64 0, .int .i64 0] 61)
    have hz : (w.alloc (.map #[] 0)).heap.size = w.heap.size + 1 := by simp
    rw [hz] at h
    exact h
  · exact (mapAt_new encP encS w).ext ((Ext.refl [] _).alloc _) (by simp)
end Go.Proofs.Ytjicjadibaomkaa
set_option linter.unusedSimpArgs false
set_option linter.unusedVariables false
set_option maxHeartbeats 1000000
namespace Go.Proofs.Ytjicjadibaomkaa
open Go.RowKit Go.Hs
open Go.ChangeMaps (setBlock)

section
variable {κ ν : Type} [DecidableEq κ] {enc : κ → Value} {venc : ν → Value} {l : List (κ × ν)} {w : World} {P : Program}
theorem mfind_erase : ∀ (l : List (κ × ν)) (k : κ) (j i : Nat) (v : ν), (l.map (·.1)).Nodup → mfind l k j = some (i, v) → j ≤ i ∧ l.eraseIdx (i - j) = mdel l k
  | [], k, j, i, v, _, h => by simp [mfind] at h
  | p :: l, k, j, i, v, hn, h => by
    simp only [List.map_cons, List.nodup_cons] at hn
    by_cases hk : k = p.1
    · simp [mfind, hk] at h
      obtain ⟨rfl, rfl⟩ := h
      refine ⟨Nat.le_refl _, ?_⟩
      simp only [Nat.sub_self, List.eraseIdx_zero, List.tail_cons, mdel, List.filter_cons, hk, ne_eq, not_true, decide_false, Bool.false_eq_true, if_false]
      refine (List.filter_eq_self.2 fun q hq => ?_).symm
      have : p.1 ≠ q.1 := fun e => hn.1 (List.mem_map.2 ⟨q, hq, e.symm⟩)
      simpa using this
    · have h' : mfind l k (j + 1) = some (i, v) := by simpa [mfind, hk] using h
      obtain ⟨h1, h2⟩ := mfind_erase l k (j + 1) i v hn.2 h'
      refine ⟨by omega, ?_⟩
      rw [show i - j = (i - (j + 1)) + 1 by omega, List.eraseIdx_cons_succ, h2]
      simp [mdel, List.filter_cons, hk]
/-- Block r is an iterator over the map in block bm, which holds l; what it has seen is good, or x. -/
def RangeG (enc : κ → Value) (venc : ν → Value) (good : κ → Bool) (x : Option κ) (h : Array Obj) (r bm : Nat) (l : List (κ × ν)) : Prop :=
  ∃ es clock since c0 seen, h[bm]? = some (.map es clock) ∧ Ents enc venc es clock l ∧ h[r]? = some (.mapIter (some bm) since seen c0) ∧ (∀ y ∈ es.toList, y.born < since) ∧ since ≤ c0 ∧ since ≤ clock ∧
    ∀ y ∈ es.toList, seen.contains y.born = true → ∃ k, y.key = enc k ∧ (good k = true ∨ x = some k)
theorem RangeG.at {good : κ → Bool} {x : Option κ} {h : Array Obj} {r bm : Nat} (i : RangeG enc venc good x h r bm l) : RangeAt enc venc h r bm l := by
  obtain ⟨es, clock, since, c0, seen, a1, a2, a3, a4, a5, a6, _⟩ := i
  exact ⟨es, clock, since, c0, seen, a1, a2, a3, a4, a5, a6⟩
theorem RangeG.same {good : κ → Bool} {x : Option κ} {h h' : Array Obj} {r bm : Nat} (i : RangeG enc venc good x h r bm l) (h1 : h'[r]? = h[r]?) (h2 : h'[bm]? = h[bm]?) : RangeG enc venc good x h' r bm l := by
  obtain ⟨es, clock, since, c0, seen, a1, a2, a3, a4⟩ := i
  exact ⟨es, clock, since, c0, seen, h2.trans a1, a2, h1.trans a3, a4⟩
theorem RangeG.ext {good : κ → Bool} {x : Option κ} {F : List Nat} {w' : World} {r bm : Nat} (i : RangeG enc venc good x w.heap r bm l) (hx : Ext F w w') (h1 : r ∉ F) (h2 : bm ∉ F) : RangeG enc venc good x w'.heap r bm l ∧ leftN w'.heap r bm = leftN w.heap r bm :=
  ⟨i.same (hx.block r i.at.lt h1) (hx.block bm i.at.map.lt h2), leftN_same (hx.block r i.at.lt h1) (hx.block bm i.at.map.lt h2)⟩
theorem RangeG.good {good : κ → Bool} {k : κ} {h : Array Obj} {r bm : Nat} (i : RangeG enc venc good (some k) h r bm l) (hk : good k = true) : RangeG enc venc good none h r bm l := by
  obtain ⟨es, clock, since, c0, seen, a1, a2, a3, a4, a5, a6, a7⟩ := i
  refine ⟨es, clock, since, c0, seen, a1, a2, a3, a4, a5, a6, fun y hy hs => ?_⟩
  obtain ⟨q, h1, h2⟩ := a7 y hy hs
  refine ⟨q, h1, .inl ?_⟩
  rcases h2 with h2 | h2
  · exact h2
  · cases h2; exact hk
theorem inj_of_nodup_map {α β : Type} (f : α → β) : ∀ (l : List α), (l.map f).Nodup → ∀ x ∈ l, ∀ y ∈ l, f x = f y → x = y
  | [], _, _, hx, _, _, _ => by cases hx
  | a :: l, hn, x, hx, y, hy, he => by
    simp only [List.map_cons, List.nodup_cons] at hn
    rcases List.mem_cons.1 hx with rfl | hx1 <;> rcases List.mem_cons.1 hy with rfl | hy1
    · rfl
    · exact absurd (List.mem_map.2 ⟨y, hy1, he.symm⟩) hn.1
    · exact absurd (List.mem_map.2 ⟨x, hx1, he⟩) hn.1
    · exact inj_of_nodup_map f l hn.2 x hx1 y hy1 he
theorem run_rangeG {t k e : TypeId} {bm : Nat} (good : κ → Bool) (ht : P.underlying t = some (.map k e)) (m : MapAt enc venc w.heap bm l) :
    ∃ o, (Instr.range t (.map (some bm))).run P w = .ok (.pointer (some ⟨w.heap.size, 0, none⟩)) (w.alloc o) ∧ RangeG enc venc good none (w.alloc o).heap w.heap.size bm l := by
  obtain ⟨es, clock, hb, E⟩ := m
  exact ⟨_, run_range_map w t k e bm es clock ht hb, es, clock, clock, clock, #[], heap_old' _ _ hb, E, heap_new _ _, E.clk, Nat.le_refl _, Nat.le_refl _, fun y _ h => by simp at h⟩
theorem run_nextG {good : κ → Bool} {r bm : Nat} (ty : TypeId) (hinj : ∀ a b, enc a = enc b → a = b) (i : RangeG enc venc good none w.heap r bm l) :
    (leftN w.heap r bm = 0 ∧ (Instr.next (.pointer (some ⟨r, 0, none⟩)) false ty).run P w = .ok (.tuple #[.bool false]) w ∧ ∀ p ∈ l, good p.1 = true) ∨
    ∃ p ∈ l, ∃ w1, leftN w1.heap r bm < leftN w.heap r bm ∧ (Instr.next (.pointer (some ⟨r, 0, none⟩)) false ty).run P w = .ok (.tuple #[.bool true, enc p.1, venc p.2]) w1 ∧
      (Instr.entry (.pointer (some ⟨r, 0, none⟩))).run P w1 = .ok (.tuple #[enc p.1, venc p.2]) w1 ∧ RangeG enc venc good (some p.1) w1.heap r bm l ∧ Ext [r] w w1 := by
  obtain ⟨es, clock, since, c0, seen, hb, E, hr, hold, hsc, hcl, hgood⟩ := i
  have hN : leftN w.heap r bm = (leftOf es seen).size := by unfold leftN; rw [hr, hb]
  have hnd : (es.toList.map (·.born)).Nodup := E.born.imp (fun h => by omega)
  rcases run_next_at (P := P) w ty r bm since c0 seen es clock hr hb hold hsc with ⟨h0, h1⟩ | ⟨e, he, w1, hw, h1⟩
  · refine .inl ⟨by rw [hN]; exact h0, h1, fun p hp => ?_⟩
    have hkv : (enc p.1, venc p.2) ∈ es.toList.map (fun e => (e.key, e.val)) := by rw [E.ents]; exact List.mem_map.2 ⟨p, hp, rfl⟩
    obtain ⟨e, he, hee⟩ := List.mem_map.1 hkv
    simp only [Prod.mk.injEq] at hee
    have hs : seen.contains e.born = true := by
      have h2 : leftOf es seen = #[] := Array.eq_empty_of_size_eq_zero h0
      unfold leftOf at h2
      rw [Array.filter_eq_empty_iff] at h2
      have := h2 e (by simpa using he)
      simpa using this
    obtain ⟨k, hk, hg⟩ := hgood e he hs
    have : p.1 = k := hinj _ _ (hee.1.symm.trans hk)
    rcases hg with hg | hg
    · rw [this]; exact hg
    · cases hg
  · right
    have hin := (mem_left he).1
    have hkv : (e.key, e.val) ∈ l.map (fun p => (enc p.1, venc p.2)) := by rw [← E.ents]; exact List.mem_map.2 ⟨e, hin, rfl⟩
    obtain ⟨p, hp, hpe⟩ := List.mem_map.1 hkv
    simp only [Prod.mk.injEq] at hpe
    have hrb : r ≠ bm := ne_block hr hb (by simp)
    have hh : w1.heap = w.heap := by rcases hw with rfl | rfl <;> rfl
    have hrlt := lt_of_heap hr
    have hr' : (setBlock w1 r (.mapIter (some bm) since (seen.push e.born) clock)).heap[r]? = some (.mapIter (some bm) since (seen.push e.born) clock) := by
      simp [setBlock, hh, hrlt]
    have hb' : (setBlock w1 r (.mapIter (some bm) since (seen.push e.born) clock)).heap[bm]? = some (.map es clock) := by
      simp [setBlock, hh, Array.getElem?_setIfInBounds, hrb, hb]
    refine ⟨p, hp, _, ?_, by rw [hpe.1, hpe.2]; exact h1, ?_, ⟨es, clock, since, clock, _, hb', E, hr', hold, hcl, hcl, ?_⟩, ?_⟩
    · rw [hN]
      unfold leftN
      rw [hr', hb']
      exact left_shrinks es seen e he
    · rw [hpe.1, hpe.2]
      exact run_entry_at _ r bm since seen es clock e hr' hb' hin hnd
    · intro y hy hs
      have hs' : seen.contains y.born = true ∨ y.born = e.born := by simpa [Array.contains_push] using hs
      rcases hs' with hs' | hs'
      · obtain ⟨k, hk, hg⟩ := hgood y hy hs'
        exact ⟨k, hk, .inl (hg.resolve_right (by simp))⟩
      · have : y = e := inj_of_nodup_map _ _ hnd y hy e hin hs'
        exact ⟨p.1, by rw [this]; exact hpe.1.symm, .inr rfl⟩
    · have hE : Ext [r] w w1 := by rcases hw with rfl | rfl; exact Ext.refl _ _; exact (Ext.refl _ _).drew
      exact hE.trans' (ext_setBlock _ _ _)
theorem map_eraseIdx' {α β : Type} (f : α → β) : ∀ (l : List α) (i : Nat), (l.eraseIdx i).map f = (l.map f).eraseIdx i
  | [], _ => rfl
  | _ :: _, 0 => rfl
  | a :: l, i + 1 => by simp [map_eraseIdx' f l i]
theorem mfind_none : ∀ (l : List (κ × ν)) (k : κ) (j : Nat), mfind l k j = none → mdel l k = l
  | [], k, j, h => rfl
  | p :: l, k, j, h => by
    by_cases hk : k = p.1
    · simp [mfind, hk] at h
    · have h' : mfind l k (j + 1) = none := by simpa [mfind, hk] using h
      have := mfind_none l k (j + 1) h'
      simp only [mdel] at this ⊢
      rw [List.filter_cons, if_pos (by simpa using hk), this]
theorem run_deleteG {t kt et kt' ty : TypeId} {k : κ} {good : κ → Bool} {r bm : Nat} (K : KeyOK P kt enc) (ht : P.underlying t = some (.map kt et)) (hinj : ∀ a b, enc a = enc b → a = b) (i : RangeG enc venc good (some k) w.heap r bm l) :
    ∃ w', (Builtin.delete_ #[t, kt'] ty #[.map (some bm), enc k]).run P w = .ok (.tuple #[]) w' ∧ RangeG enc venc good none w'.heap r bm (mdel l k) ∧ leftN w'.heap r bm ≤ leftN w.heap r bm ∧ Ext [bm] w w' := by
  obtain ⟨es, clock, since, c0, seen, hb, E, hr, hold, hsc, hcl, hgood⟩ := i
  have hrb : r ≠ bm := ne_block hr hb (by simp)
  have hblt := lt_of_heap hb
  have hN : leftN w.heap r bm = (leftOf es seen).size := by unfold leftN; rw [hr, hb]
  have hfind := K.find venc k es.toList l w E.ents E.nodup
  have hchk := K.check es.isEmpty k w
  have hset : ∀ es' : Array MapEntry, (setObj bm (.map es' clock)).run P w = .ok () (setBlock w bm (.map es' clock)) := by
    intro es'
    simp [setObj, Sem.run, setBlock, hb]
  have hfin : ∀ es' : Array MapEntry, List.Sublist es'.toList es.toList → es'.toList.map (fun e => (e.key, e.val)) = (mdel l k).map (fun p => (enc p.1, venc p.2)) →
      RangeG enc venc good none (setBlock w bm (.map es' clock)).heap r bm (mdel l k) ∧ leftN (setBlock w bm (.map es' clock)).heap r bm ≤ leftN w.heap r bm := by
    intro es' hsub hents
    have hb' : (setBlock w bm (.map es' clock)).heap[bm]? = some (.map es' clock) := by simp [setBlock, hblt]
    have hr' : (setBlock w bm (.map es' clock)).heap[r]? = some (.mapIter (some bm) since seen c0) := by
      simp [setBlock, Array.getElem?_setIfInBounds, Ne.symm hrb, hr]
    refine ⟨⟨es', clock, since, c0, seen, hb', ⟨hents, mdel_nodup E.nodup k, E.born.sublist (hsub.map _), fun e he => E.clk e (hsub.subset he)⟩, hr', fun y hy => hold y (hsub.subset hy), hsc, hcl, ?_⟩, ?_⟩
    · intro y hy hs
      obtain ⟨q, h1, h2⟩ := hgood y (hsub.subset hy) hs
      have hin : (y.key, y.val) ∈ (mdel l k).map (fun p => (enc p.1, venc p.2)) := by rw [← hents]; exact List.mem_map.2 ⟨y, hy, rfl⟩
      obtain ⟨p, hp, hpe⟩ := List.mem_map.1 hin
      simp only [Prod.mk.injEq] at hpe
      have hpq : p.1 = q := hinj _ _ (hpe.1.trans h1)
      have hpk : k ≠ p.1 := by
        unfold mdel at hp
        have := (List.mem_filter.1 hp).2
        simpa using this
      refine ⟨q, h1, .inl ?_⟩
      rcases h2 with h2 | h2
      · exact h2
      · simp only [Option.some.injEq] at h2
        exact absurd (h2.trans hpq.symm) hpk
    · rw [hN]
      unfold leftN
      rw [hr', hb']
      unfold leftOf
      show (es'.filter fun e => !seen.contains e.born).size ≤ (es.filter fun e => !seen.contains e.born).size
      have hs : ∀ (p : MapEntry → Bool) (a : Array MapEntry), (a.filter p).size = (a.toList.filter p).length := fun p a => by rw [← Array.toList_filter, Array.length_toList]
      rw [hs, hs]
      exact (hsub.filter _).length_le
  cases hm : mfind l k 0 with
  | none =>
    rw [hm] at hfind
    have hd := mfind_none l k 0 hm
    obtain ⟨f1, f2⟩ := hfin es (List.Sublist.refl _) (by rw [hd]; exact E.ents)
    refine ⟨setBlock w bm (.map es clock), ?_, f1, f2, ext_setBlock _ _ _⟩
    simp [Builtin.delete_, run_underlying ht, getObj, Sem.run, hb, Result.andThen, hchk, hfind]
    rw [hset es]
  | some x =>
    obtain ⟨i, v⟩ := x
    rw [hm] at hfind
    obtain ⟨_, hd⟩ := mfind_erase l k 0 i v E.nodup hm
    rw [Nat.sub_zero] at hd
    obtain ⟨f1, f2⟩ := hfin (es.eraseIdxIfInBounds i) (by simpa using List.eraseIdx_sublist es.toList i) (by
      rw [← hd]
      have h := E.ents
      rw [Array.toList_eraseIdxIfInBounds, map_eraseIdx', h, ← map_eraseIdx'])
    refine ⟨setBlock w bm (.map (es.eraseIdxIfInBounds i) clock), ?_, f1, f2, ext_setBlock _ _ _⟩
    simp [Builtin.delete_, run_underlying ht, getObj, Sem.run, hb, Result.andThen, hchk, hfind]
    rw [hset (es.eraseIdxIfInBounds i)]
end
end Go.Proofs.Ytjicjadibaomkaa
set_option linter.unusedSimpArgs false
set_option linter.unusedVariables false
namespace Go.Hs
open Go Go.RowKit
theorem wp_region_tail {P : Program} {id : Nat} {Q : Exit → Act → World → Prop} {a : Act} {w : World} {l : List Oper} (n : Nat) (hm : P.follows .mixedOrders = true) (hB : Region.lexTailB .any l.toArray n = true)
    (h : wpStill P l.toArray w.drew (fun a' => wpList P l.toArray Q (l.drop n) a' w.drew) (l.take n) a) : (Code.region id l.toArray true).wp P Q a w :=
  wp_region_still_tail n hm hB h
theorem wpStill_load_row {P : Program} {ops : Array Oper} {rest : List Oper} {o : Oper} {a : Act} {w : World} {Q : Act → Prop} (hgd : o.guard = none) (ty : TypeId) (x : Operand) (ho : o.op = .load ty x)
    (g : Nat) (hx : a.eval x = .pointer (some ⟨g, 0, none⟩)) (t : TypeId) (cs : Array Value) (fr : Nat × Nat) (d : TypeDesc) (hg : w.heap[g]? = some (.cells cs t fr))
    (hu : P.underlying ty = some d) (hd : (match d with | .struct _ | .array _ _ => true | _ => false) = true) (hi : (P.info? ty).map (·.size) = some cs.size)
    (h : wpStill P ops w Q rest (a.put o.dst (.agg cs))) : wpStill P ops w Q (o :: rest) a := by
  refine wpStill_step fun K hK => ?_
  have hw : Region.wanted o (yielded ops a.tmps) = true := by simp [Region.wanted, hgd]
  rw [if_pos hw]
  unfold Oper.still execOp
  simp only [ho, hx, Instr.loadAt, Instr.sureAddr, Sem.run_bind, Sem.run_pure, Result.andThen_ok, run_loadVar_row w g t ty cs fr d hg hu hd hi, Oper.stillUpon_value]
  exact hK _ h
end Go.Hs
set_option linter.unusedSimpArgs false
set_option linter.unusedVariables false
namespace Go.Hs
open Go Go.RowKit
theorem wpList_delete {P : Program} {ops : Array Oper} {rest : List Oper} {o : Oper} {a : Act} {w : World} {Q : Exit → Act → World → Prop}
    (hg : o.guard = none) (hd : o.dst = none) (s x : Operand) (t kt : TypeId) (hop : o.op = Op.call { callee := Callee.builtin Builtin.delete, args := #[s, x], argTypes := #[t, kt] })
    (v k : Value) (hs : a.eval s = v) (hx : a.eval x = k) (w' : World) (hr : (Builtin.delete_ #[t, kt] o.type #[v, k]).run P w = .ok (.tuple #[]) w')
    (hK : wpList P ops Q rest a w') : wpList P ops Q (o :: rest) a w := by
  refine wpList_plain hg fun K' hK' => ?_
  unfold Oper.wp execOp
  simp only [hop, resolve, invoke, builtin, Sem.run_bind, Sem.run_pure, Result.andThen_ok, List.map_toArray, List.map_cons, List.map_nil, hs, hx, hr]
  rw [Oper.upon_value]
  have := hK' _ _ hK
  simpa [Act.put, hd] using this
section
variable {κ ν : Type} [DecidableEq κ] {enc : κ → Value} {venc : ν → Value} {l : List (κ × ν)} {b : Nat} {w : World} {P : Program} {kt et t : TypeId}
/-- A lookup, the zero value any value. -/
def lookV (venc : ν → Value) (z : Value) (o : Option ν) (ok : Bool) : Value := match o with
  | some x => if ok then .tuple #[venc x, .bool true] else venc x
  | none => if ok then .tuple #[z, .bool false] else z
theorem run_lookup_z (K : KeyOK P kt enc) (ht : P.underlying t = some (.map kt et)) {z : Value} (hz : (zeroValue et).run P w = .ok z w) (m : MapAt enc venc w.heap b l) (k : κ) (ok : Bool) :
    (Instr.lookup t (.map (some b)) (enc k) ok).run P w = .ok (lookV venc z (mlook l k) ok) w := by
  obtain ⟨es, c, hb, E⟩ := m
  have hg : (getObj b).run P w = .ok (.map es c) w := by simp [getObj, Sem.run, hb]
  have hf := K.find venc k es.toList l w E.ents E.nodup
  simp only [Instr.lookup, Sem.run_bind, run_underlying ht, Result.andThen_ok, hg, K.check, Sem.run_pure]
  rw [hf]
  have hm := mfind_eq l k 0
  cases hx : mfind l k 0 with
  | none => rw [hx] at hm; rw [← hm]; cases ok <;> simp [hz, lookV]
  | some x => rw [hx] at hm; rw [← hm]; cases ok <;> simp [lookV]
theorem wpStill_lookup {ops : Array Oper} {rest : List Oper} {o : Oper} {a : Act} {Q : Act → Prop} (hgd : o.guard = none) (mo x : Operand) (ok : Bool) (ho : o.op = Op.lookup t mo x ok)
    (K : KeyOK P kt enc) (ht : P.underlying t = some (.map kt et)) {z : Value} (hz : (zeroValue et).run P w = .ok z w) (hm : a.eval mo = .map (some b)) (m : MapAt enc venc w.heap b l) (k : κ) (hx : a.eval x = enc k)
    (v : Value) (hv : lookV venc z (mlook l k) ok = v) (h : wpStill P ops w Q rest (a.put o.dst v)) : wpStill P ops w Q (o :: rest) a := by
  refine wpStill_step fun K' hK => ?_
  have hw : Region.wanted o (yielded ops a.tmps) = true := by simp [Region.wanted, hgd]
  rw [if_pos hw]
  have hrun := run_lookup_z K ht hz m k ok
  rw [hv] at hrun
  unfold Oper.still
  simp only [execOp, ho, hm, hx, Sem.run_bind, hrun, Result.andThen_ok, Sem.run_pure, Oper.stillUpon_value]
  exact hK _ h
theorem MapAt.nodup {h : Array Obj} (m : MapAt enc venc h b l) : (l.map (·.1)).Nodup := by obtain ⟨es, c, hb, E⟩ := m; exact E.nodup
end
end Go.Hs
set_option linter.unusedSimpArgs false
set_option linter.unusedVariables false
set_option maxHeartbeats 2000000
set_option maxRecDepth 100000
namespace Go.Proofs.Ytjicjadibaomkaa
open Go.RowKit Go.Hs Go.Dg

theorem encP_inj (a b : Pl) (h : encP a = encP b) : a = b := by
  obtain ⟨a1, a2⟩ := a
  obtain ⟨b1, b2⟩ := b
  simp [encP] at h
  simp [h.1, h.2]
/-- Behind which leaf the subtree ends in which a place is one half. -/
def upEnd (p : Pl) : Nat := (p.2.toNat / 2 + 1) * 2 ^ (p.1.toNat + 1)
def keepP (floor : Nat) (p : Pl) : Bool := decide (floor < upEnd p)
/-- Places as they are kept: small ones. -/
def SmallP (l : List (Pl × ByteArray)) : Prop := ∀ p ∈ l, ∃ v i : Nat, p.1 = ((v : Int), (i : Int)) ∧ v ≤ 40 ∧ (i + 1) * 2 ^ v ≤ 2 ^ 40
theorem filter_mdel (l : List (Pl × ByteArray)) (k : Pl) (f : Pl → Bool) (h : f k = false) : ((mdel l k).filter fun p => f p.1) = l.filter fun p => f p.1 := by
  unfold mdel
  rw [List.filter_filter]
  apply List.filter_congr
  intro q _
  by_cases e : k = q.1
  · subst e; simp [h]
  · simp [e]
theorem trim_any {w : World} {T M n floor : Nat} {l : List (Pl × ByteArray)} (t : TAt w.heap T M n floor l) (hs : SmallP l) : Calls Try.prog 25 #[.pointer (some ⟨T, 0, none⟩)] w fun e w' =>
    e = .returned (.tuple #[]) ∧ TAt w'.heap T M n floor (l.filter fun p => keepP floor p.1) ∧ Ext [M] w w' := by
  obtain ⟨c0, c1, c2⟩ := t.get
  have hTM := t.ne
  obtain ⟨o, hrun, hRG⟩ := run_rangeG (P := Try.prog) (t := 59) (keepP floor) Try.underlying59 t.map
  go_enter Try.func25, Try.ntmps25
  go_wp2_with fail
  clear hrun
  have hcl := heap_old' _ o t.cells
  have hE := (Ext.refl [M] w).alloc o
  have hml := t.map.lt
  generalize w.alloc o = W6 at *
  generalize hrr : w.heap.size = r at *
  have HRR := Hs.hid hrr
  clear hrr
  go_loopw [8] (fun _ wq => ∃ l1, RangeG encP encS (keepP floor) none wq.heap r M l1 ∧ wq.heap[T]? = some (.cells #[.map (some M), .int .i64 n, .int .i64 floor] 61 (0, 0)) ∧ Ext [M] w wq ∧ Hid ((l1.filter fun p => keepP floor p.1) = (l.filter fun p => keepP floor p.1) ∧ SmallP l1)) (fun _ wq => leftN wq.heap r M)
  case atStart => exact ⟨l, hRG, hcl, hE, Hs.hid ⟨rfl, hs⟩⟩
  case round =>
    clear hRG hcl hE
    obtain ⟨l1, hRG, hcl, hE, HL⟩ := hrel
    rcases run_nextG (P := Try.prog) 0 encP_inj hRG with ⟨h0, hnx, hall⟩ | ⟨p, hp, w7, hlt, hnx, hen, hRG7, hx7⟩
    · go_wp2_with fail
      have hl1 : (l1.filter fun p => keepP floor p.1) = l1 := List.filter_eq_self.2 hall
      exact bodyPost_end (v := .tuple #[]) (by simp [results, Try.results25, go_sem]) rfl ⟨rfl, ⟨hcl, by rw [← HL.out.1, hl1]; exact hRG.at.map⟩, hE⟩
    · obtain ⟨v, i, hvi, hv, hi⟩ := HL.out.2 p hp
      have hrT : r ≠ T := by
        obtain ⟨_, _, _, _, _, _, _, h1, _⟩ := hRG.at
        exact ne_block h1 hcl (by simp)
      have hcl7 := hx7.same hcl (by simpa using Ne.symm hrT)
      rw [hvi, show encP ((v : Int), (i : Int)) = .agg #[.int .i64 v, .int .i64 i] from rfl] at hen
      have HI := Hs.hid (And.intro hvi (And.intro hv hi))
      clear hvi hv hi
      have hzz : w7.heap[w7.heap.size]? = none := by simp
      go_upto_region 3 with fail
      have hC := heap_new w7 (.cells #[.int .i64 v, .int .i64 i] 63)
      have hcl8 := heap_old' w7 (.cells #[.int .i64 v, .int .i64 i] 63) hcl7
      have hx8 := (Ext.refl [] w7).alloc (.cells #[.int .i64 v, .int .i64 i] 63)
      generalize w7.alloc (.cells #[.int .i64 v, .int .i64 i] 63) = W8 at *
      generalize w7.heap.size = C at *
      have HB1 : Hid (v ≤ 50 ∧ i ≤ 2 ^ 50 ∧ v + 1 ≤ 50 ∧ (i / 2 + 1) * 2 ^ (v + 1) ≤ 2 ^ 50) := Hs.hid (by
        obtain ⟨_, h1, h2⟩ := HI.out
        have h3 : i + 1 ≤ (i + 1) * 2 ^ v := Nat.le_mul_of_pos_right _ (Nat.two_pow_pos _)
        have h4 : (i / 2 + 1) * 2 ^ (v + 1) ≤ 2 * ((i + 1) * 2 ^ v) := by
          rw [Nat.pow_succ, Nat.mul_comm (2 ^ v) 2, ← Nat.mul_assoc, ← Nat.mul_assoc, Nat.mul_comm _ 2]
          exact Nat.mul_le_mul_right _ (by omega)
        have h5 : (2 : Nat) ^ 40 = 1099511627776 := by decide
        have h6 : (2 : Nat) ^ 50 = 1125899906842624 := by decide
        omega)
      have a0 : W8.cell? ⟨T, 2, none⟩ = some (.int .i64 floor) := by rw [cellAt hcl8]; rfl
      have a1 : W8.cell? ⟨C, 0, none⟩ = some (.int .i64 v) := by rw [cellAt hC]; rfl
      have a2 : W8.cell? ⟨C, 1, none⟩ = some (.int .i64 i) := by rw [cellAt hC]; rfl
      go_region_held3 (fun w' => w'.cell? ⟨T, 2, none⟩ = some (.int .i64 floor) ∧ w'.cell? ⟨C, 0, none⟩ = some (.int .i64 v) ∧ w'.cell? ⟨C, 1, none⟩ = some (.int .i64 i))
        (first
          | exact ⟨a0, a1, a2⟩
          | exact ⟨b0, b1, b2⟩
          | exact ⟨d0, d1, d2⟩
          | go_keep)
        (first
          | (go_at_call 42; refine (up_any v i HB1.out.1 HB1.out.2.1 _).mono ?_; rintro e w9 ⟨rfl, hx9⟩; have hC9 := hx9.same hC (by simp); have hcl9 := hx9.same hcl8 (by simp); have b0 := (show w9.cell? ⟨T, 2, none⟩ = some (.int .i64 floor) by rw [cellAt hcl9]; rfl); have b1 := (show w9.cell? ⟨C, 0, none⟩ = some (.int .i64 v) by rw [cellAt hC9]; rfl); have b2 := (show w9.cell? ⟨C, 1, none⟩ = some (.int .i64 i) by rw [cellAt hC9]; rfl))
          | (go_at_call 43; refine (end_any (v + 1) (i / 2) HB1.out.2.2.1 HB1.out.2.2.2 _).mono ?_; rintro e w10 ⟨rfl, hx10⟩; have hC10 := hx10.same hC9 (by simp); have hcl10 := hx10.same hcl9 (by simp); have d0 := (show w10.cell? ⟨T, 2, none⟩ = some (.int .i64 floor) by rw [cellAt hcl10]; rfl); have d1 := (show w10.cell? ⟨C, 0, none⟩ = some (.int .i64 v) by rw [cellAt hC10]; rfl); have d2 := (show w10.cell? ⟨C, 1, none⟩ = some (.int .i64 i) by rw [cellAt hC10]; rfl)))
      have hxa : Ext [] w7 w10 := (hx8.drew.trans0 hx9).trans0 hx10
      have hue : upEnd p.1 = (i / 2 + 1) * 2 ^ (v + 1) := by rw [HI.out.1]; simp [upEnd]
      have hue2 : ((i : Int) / 2 + 1) * 2 ^ (v + 1) = (upEnd p.1 : Int) := by rw [hue]; push_cast; rfl
      rw [hue2]
      clear hue hue2
      by_cases hk : upEnd p.1 ≤ floor
      · have hki : (upEnd p.1 : Int) ≤ floor := by omega
        rw [decide_eq_true hki]
        have t0 : w10.cell? ⟨T, 0, none⟩ = some (.map (some M)) := by rw [cellAt hcl10]; rfl
        obtain ⟨g1, g2⟩ := hRG7.ext hxa (by simp) (by simp)
        obtain ⟨wd, hdr, hRGd, hld, hxd⟩ := run_deleteG (P := Try.prog) (w := w10.drew) (t := 59) (kt' := 63) (ty := 0) keyOK_place Try.underlying59 encP_inj g1
        rw [HI.out.1, show encP ((v : Int), (i : Int)) = .agg #[.int .i64 v, .int .i64 i] from rfl] at hdr
        go_upto_region 4 with fail
        have hl10 : w10.cell? ⟨C, 0, none⟩ = some (.int .i64 v) := by rw [cellAt hC10]; rfl
        have hl11 : w10.cell? ⟨C, 1, none⟩ = some (.int .i64 i) := by rw [cellAt hC10]; rfl
        have HRd := Hs.hid (And.intro hRGd (And.intro hld (And.intro hxd (And.intro hlt g2))))
        have HDR := Hs.hid hdr
        have HKP : Hid (keepP floor p.1 = false) := Hs.hid (by unfold keepP; simp; omega)
        clear hdr hRGd hld hxd hlt g2 g1 a0 a1 a2 b0 b1 b2 d0 d1 d2 hnx hen hki hk
        refine wp_region_tail 5 (by kernel_rfl) (by kernel_rfl) ?_
        simp only [List.take_succ_cons, List.take_zero, List.drop_succ_cons, List.drop_zero]
        iterate 5 still_step
        refine wpStill_nil ?_
        refine wpList_delete rfl rfl (.tmp 23) (.tmp 24) 59 63 rfl _ _ rfl rfl wd HDR.out ?_
        go_wp2_with fail
        go_round
        case rel =>
          refine ⟨mdel l1 p.1, HRd.out.1, HRd.out.2.2.1.same hcl10 (by simpa using hTM), ?_, Hs.hid ?_⟩
          · exact (((hE.trans hx7 (fun g hg => .inr (by simp at hg; subst hg; exact Nat.le_of_eq HRR.out))).trans0 hxa).drew).trans' HRd.out.2.2.1
          · exact ⟨(filter_mdel _ _ _ HKP.out).trans HL.out.1, fun q hq => HL.out.2 q (List.mem_filter.1 hq).1⟩
        case measure => exact Nat.lt_of_le_of_lt HRd.out.2.1 (by have := HRd.out.2.2.2.2; have h2 := HRd.out.2.2.2.1; show leftN w10.heap r M < _; omega)
      · have hki : ¬ (upEnd p.1 : Int) ≤ floor := by omega
        rw [decide_eq_false hki]
        have hkeep : keepP floor p.1 = true := by unfold keepP; simp; omega
        obtain ⟨g1, g2⟩ := hRG7.good hkeep |>.ext hxa (by simp) (by simp)
        have HG2 := Hs.hid (And.intro g2 hlt)
        have hEx : Ext [M] w w10 := (hE.trans hx7 (fun g hg => .inr (by simp at hg; subst hg; exact Nat.le_of_eq HRR.out))).trans0 hxa
        clear g2 hlt
        go_wp2_with fail
        go_round
        case rel => exact ⟨l1, g1, hcl10, hEx, HL⟩
        case measure => rw [HG2.out.1]; exact HG2.out.2
end Go.Proofs.Ytjicjadibaomkaa
set_option linter.unusedSimpArgs false
set_option linter.unusedVariables false
namespace Go.Proofs.Ytjicjadibaomkaa
open Go.RowKit Go.Hs Go.Dg

def leafT (s : ByteArray) : ByteArray := ⟨#[0]⟩ ++ s
/-- The text of a place, of leaves L. -/
def textP (L : List ByteArray) : Nat → Nat → ByteArray
  | 0, i => leafT (L.getD i noB)
  | v + 1, i => nodeT (textP L v (2 * i)) (textP L v (2 * i + 1))
where noB : ByteArray := ⟨#[]⟩
theorem textP_app (L : List ByteArray) (m : List ByteArray) : ∀ v i, (i + 1) * 2 ^ v ≤ L.length → textP (L ++ m) v i = textP L v i
  | 0, i, h => by
    simp only [Nat.pow_zero, Nat.mul_one] at h
    simp only [textP, List.getD_eq_getElem?_getD]
    rw [List.getElem?_append_left (by omega)]
  | v + 1, i, h => by
    have h1 : (2 * i + 1 + 1) * 2 ^ v ≤ L.length := by
      have : (2 * i + 1 + 1) * 2 ^ v = (i + 1) * 2 ^ (v + 1) := by rw [Nat.pow_succ, ← Nat.mul_assoc, show (2 * i + 1 + 1) = (i + 1) * 2 by omega, Nat.mul_assoc, Nat.mul_assoc, Nat.mul_comm 2]
      omega
    have h2 : (2 * i + 1) * 2 ^ v ≤ L.length := Nat.le_trans (Nat.mul_le_mul_right _ (by omega)) h1
    simp only [textP]
    rw [textP_app L m v (2 * i) h2, textP_app L m v (2 * i + 1) h1]
def plN (v i : Nat) : Pl := ((v : Int), (i : Int))
theorem plN_inj {v i v' i' : Nat} : plN v i = plN v' i' ↔ v = v' ∧ i = i' := by
  unfold plN; simp; omega
theorem upEnd_N (v i : Nat) : upEnd (plN v i) = (i / 2 + 1) * 2 ^ (v + 1) := by simp [upEnd, plN]
theorem up_le (v i : Nat) : (i + 1) * 2 ^ v ≤ upEnd (plN v i) := by
  rw [upEnd_N, Nat.pow_succ, Nat.mul_comm (2 ^ v) 2, ← Nat.mul_assoc]
  exact Nat.mul_le_mul_right _ (by omega)
/-- The places that a tree of leaves L and of a floor keeps; so many of the leaves came. -/
structure TInv (L : List ByteArray) (n floor : Nat) (l : List (Pl × ByteArray)) : Prop where
  mem : ∀ p ∈ l, ∃ v i : Nat, p = (plN v i, textP L v i) ∧ (i + 1) * 2 ^ v ≤ n ∧ floor < upEnd (plN v i)
  all : ∀ v i : Nat, (i + 1) * 2 ^ v ≤ n → floor < upEnd (plN v i) → (plN v i, textP L v i) ∈ l
theorem TInv.nil (L : List ByteArray) : TInv L 0 0 [] := ⟨by simp, fun v i h _ => by
  have := Nat.two_pow_pos v
  have h2 := Nat.mul_pos (Nat.succ_pos i) this
  simp only [Nat.succ_eq_add_one] at h2; omega⟩
theorem TInv.small {L : List ByteArray} {n floor : Nat} {l : List (Pl × ByteArray)} (h : TInv L n floor l) (hn : n ≤ 2 ^ 40) : SmallP l := fun p hp => by
  obtain ⟨v, i, rfl, h1, h2⟩ := h.mem p hp
  refine ⟨v, i, rfl, ?_, Nat.le_trans h1 hn⟩
  have h3 : 2 ^ v ≤ (i + 1) * 2 ^ v := Nat.le_mul_of_pos_left _ (by omega)
  exact (Nat.pow_le_pow_iff_right (a := 2) (by omega)).1 (by omega)
theorem mlook_of_mem {κ ν : Type} [DecidableEq κ] {l : List (κ × ν)} (hn : (l.map (·.1)).Nodup) {k : κ} {x : ν} (h : (k, x) ∈ l) : mlook l k = some x := by
  induction l with
  | nil => cases h
  | cons p l ih =>
    simp only [List.map_cons, List.nodup_cons] at hn
    rw [mlook_cons]
    rcases List.mem_cons.1 h with rfl | h
    · simp
    · rw [if_neg (fun e => hn.1 (List.mem_map.2 ⟨_, h, e⟩)), ih hn.2 h]
theorem mem_of_mlook {κ ν : Type} [DecidableEq κ] : ∀ {l : List (κ × ν)} {k : κ} {x : ν}, mlook l k = some x → (k, x) ∈ l
  | [], k, x, h => by simp at h
  | p :: l, k, x, h => by
    rw [mlook_cons] at h
    split at h
    · rename_i e
      simp only [Option.some.injEq] at h
      subst h; subst e; exact List.mem_cons_self ..
    · exact List.mem_cons_of_mem _ (mem_of_mlook h)
theorem TInv.get {L : List ByteArray} {n floor : Nat} {l : List (Pl × ByteArray)} (h : TInv L n floor l) (hn : (l.map (·.1)).Nodup) (v i : Nat) :
    mlook l (plN v i) = if (i + 1) * 2 ^ v ≤ n ∧ floor < upEnd (plN v i) then some (textP L v i) else none := by
  split
  · rename_i hc
    exact mlook_of_mem hn (h.all v i hc.1 hc.2)
  · rename_i hc
    cases hm : mlook l (plN v i) with
    | none => rfl
    | some x =>
      obtain ⟨v', i', he, h1, h2⟩ := h.mem _ (mem_of_mlook hm)
      simp only [Prod.mk.injEq, plN_inj] at he
      obtain ⟨⟨rfl, rfl⟩, _⟩ := he
      exact absurd ⟨h1, h2⟩ hc
/-- Forgotten: a greater floor, and what lies behind it. -/
theorem TInv.trim {L : List ByteArray} {n floor f : Nat} {l : List (Pl × ByteArray)} (h : TInv L n floor l) (hf : floor ≤ f) : TInv L n f (l.filter fun p => keepP f p.1) := by
  refine ⟨fun p hp => ?_, fun v i h1 h2 => ?_⟩
  · obtain ⟨hp, hk⟩ := List.mem_filter.1 hp
    obtain ⟨v, i, rfl, h1, _⟩ := h.mem p hp
    exact ⟨v, i, rfl, h1, by simpa [keepP] using hk⟩
  · exact List.mem_filter.2 ⟨h.all v i h1 (by omega), by simpa [keepP] using h2⟩
/-- .. nothing. -/
theorem TInv.trim_same {L : List ByteArray} {n floor : Nat} {l : List (Pl × ByteArray)} (h : TInv L n floor l) : (l.filter fun p => keepP floor p.1) = l :=
  List.filter_eq_self.2 fun p hp => by
    obtain ⟨v, i, rfl, _, h2⟩ := h.mem p hp
    simpa [keepP] using h2
/-- Fewer leaves (a clone). -/
theorem TInv.less {L : List ByteArray} {n m floor : Nat} {l l' : List (Pl × ByteArray)} (h : TInv L n floor l) (hm : m ≤ n)
    (h' : ∀ p, p ∈ l' ↔ p ∈ l ∧ ∃ v i : Nat, p.1 = plN v i ∧ (i + 1) * 2 ^ v ≤ m) : TInv L m floor l' := by
  refine ⟨fun p hp => ?_, fun v i h1 h2 => (h' _).2 ⟨h.all v i (by omega) h2, v, i, rfl, h1⟩⟩
  obtain ⟨hp, v, i, he, h1⟩ := (h' p).1 hp
  obtain ⟨v', i', rfl, _, h2⟩ := h.mem p hp
  simp only [plN_inj] at he
  obtain ⟨rfl, rfl⟩ := he
  exact ⟨_, _, rfl, h1, h2⟩
/-- While a leaf comes in: the places up to level v that end with it are there. -/
structure TMid (L : List ByteArray) (n floor v : Nat) (l : List (Pl × ByteArray)) : Prop where
  mem : ∀ p ∈ l, ∃ u i : Nat, p = (plN u i, textP L u i) ∧ ((i + 1) * 2 ^ u ≤ n ∨ (i + 1) * 2 ^ u = n + 1 ∧ u ≤ v) ∧ floor < upEnd (plN u i)
  all : ∀ u i : Nat, ((i + 1) * 2 ^ u ≤ n ∨ (i + 1) * 2 ^ u = n + 1 ∧ u ≤ v) → floor < upEnd (plN u i) → (plN u i, textP L u i) ∈ l
theorem mem_mput {κ ν : Type} [DecidableEq κ] {l : List (κ × ν)} (hn : (l.map (·.1)).Nodup) {k : κ} {x : ν} {p : κ × ν} : p ∈ mput l k x ↔ p = (k, x) ∨ p ∈ l ∧ p.1 ≠ k := by
  have h1 := mput_nodup hn k x
  constructor
  · intro h
    have h2 := mlook_of_mem h1 (k := p.1) (x := p.2) h
    rw [mlook_put] at h2
    split at h2
    · rename_i e; simp at h2; left; exact Prod.ext e h2.symm
    · rename_i e; exact .inr ⟨mem_of_mlook h2, e⟩
  · rintro (rfl | ⟨h, e⟩)
    · exact mem_of_mlook (by rw [mlook_put, if_pos rfl])
    · have := mlook_of_mem hn (k := p.1) (x := p.2) h
      exact mem_of_mlook (l := mput l k x) (k := p.1) (x := p.2) (by rw [mlook_put, if_neg e]; exact this)
theorem keep_new {n floor v i : Nat} (hf : floor ≤ n) (h : (i + 1) * 2 ^ v = n + 1) : floor < upEnd (plN v i) := by
  have := up_le v i; omega
/-- One leaf's place. -/
theorem TInv.first {L : List ByteArray} {n floor : Nat} {l : List (Pl × ByteArray)} (h : TInv L n floor l) (hl : n = L.length) (hn : (l.map (·.1)).Nodup) (hf : floor ≤ n) (s : ByteArray) :
    TMid (L ++ [s]) n floor 0 (mput l (plN 0 n) (textP (L ++ [s]) 0 n)) := by
  subst hl
  refine ⟨fun p hp => ?_, fun u i hc h2 => ?_⟩
  · rcases (mem_mput hn).1 hp with rfl | ⟨hp, hne⟩
    · exact ⟨0, _, rfl, .inr (by simp), keep_new hf (by simp)⟩
    · obtain ⟨v, i, rfl, h1, h2⟩ := h.mem p hp
      exact ⟨v, i, by rw [textP_app _ _ _ _ h1], .inl h1, h2⟩
  · refine (mem_mput hn).2 ?_
    by_cases h1 : (i + 1) * 2 ^ u ≤ L.length
    · rw [textP_app _ _ _ _ h1]
      refine .inr ⟨h.all u i h1 h2, fun e => ?_⟩
      obtain ⟨rfl, rfl⟩ := plN_inj.1 e
      simp only [Nat.pow_zero, Nat.mul_one] at h1; omega
    · obtain ⟨h3, h4⟩ := hc.resolve_left h1
      have : u = 0 := by omega
      subst this
      simp only [Nat.pow_zero, Nat.mul_one] at h3
      have : i = L.length := by omega
      subst this
      exact .inl rfl
theorem odd_half {v i n : Nat} (ho : i % 2 = 1) (h : (i + 1) * 2 ^ v = n + 1) : (i / 2 + 1) * 2 ^ (v + 1) = n + 1 ∧ (i - 1 + 1) * 2 ^ v ≤ n := by
  have h1 : (i / 2 + 1) * 2 ^ (v + 1) = (i + 1) * 2 ^ v := by
    rw [Nat.pow_succ, Nat.mul_comm (2 ^ v) 2, ← Nat.mul_assoc]
    congr 1; omega
  refine ⟨by omega, ?_⟩
  have h2 : i - 1 + 1 = i := by omega
  have h3 := Nat.two_pow_pos v
  rw [h2]
  rw [Nat.add_mul] at h; omega
/-- The half ahead is there, and the place above comes in. -/
theorem TMid.next {L : List ByteArray} {n floor v i : Nat} {l : List (Pl × ByteArray)} (h : TMid L n floor v l) (hn : (l.map (·.1)).Nodup) (hf : floor ≤ n) (ho : i % 2 = 1) (hi : (i + 1) * 2 ^ v = n + 1) :
    mlook l (plN v (i - 1)) = some (textP L v (i - 1)) ∧ nodeT (textP L v (i - 1)) (textP L v i) = textP L (v + 1) (i / 2) ∧ (i / 2 + 1) * 2 ^ (v + 1) = n + 1 ∧
      TMid L n floor (v + 1) (mput l (plN (v + 1) (i / 2)) (textP L (v + 1) (i / 2))) := by
  obtain ⟨h1, h2⟩ := odd_half ho hi
  have hu : upEnd (plN v (i - 1)) = n + 1 := by rw [upEnd_N, show (i - 1) / 2 = i / 2 by omega]; exact h1
  refine ⟨mlook_of_mem hn (h.all v (i - 1) (.inl h2) (by omega)), ?_, h1, fun p hp => ?_, fun u j hc h3 => ?_⟩
  · simp only [textP]
    rw [show 2 * (i / 2) = i - 1 by omega, show i - 1 + 1 = i by omega]
  · rcases (mem_mput hn).1 hp with rfl | ⟨hp, hne⟩
    · exact ⟨_, _, rfl, .inr ⟨h1, Nat.le_refl _⟩, keep_new hf h1⟩
    · obtain ⟨u, j, rfl, hc, h3⟩ := h.mem p hp
      exact ⟨u, j, rfl, hc.imp id fun hc => ⟨hc.1, by omega⟩, h3⟩
  · refine (mem_mput hn).2 ?_
    by_cases he : plN u j = plN (v + 1) (i / 2)
    · obtain ⟨rfl, rfl⟩ := plN_inj.1 he
      exact .inl rfl
    · refine .inr ⟨h.all u j ?_ h3, he⟩
      rcases hc with hc | ⟨hc, hc2⟩
      · exact .inl hc
      · refine .inr ⟨hc, ?_⟩
        by_cases e : u = v + 1
        · subst e
          have : (j + 1) * 2 ^ (v + 1) = (i / 2 + 1) * 2 ^ (v + 1) := by omega
          have := Nat.eq_of_mul_eq_mul_right (Nat.two_pow_pos _) this
          exact absurd (by rw [show j = i / 2 by omega]) he
        · omega
/-- The leaf is in. -/
theorem TMid.done {L : List ByteArray} {n floor v i : Nat} {l : List (Pl × ByteArray)} (h : TMid L n floor v l) (he : i % 2 = 0) (hi : (i + 1) * 2 ^ v = n + 1) : TInv L (n + 1) floor l := by
  refine ⟨fun p hp => ?_, fun u j hc h3 => h.all u j ?_ h3⟩
  · obtain ⟨u, j, rfl, hc, h3⟩ := h.mem p hp
    exact ⟨u, j, rfl, by omega, h3⟩
  · by_cases h1 : (j + 1) * 2 ^ u ≤ n
    · exact .inl h1
    · refine .inr ⟨by omega, ?_⟩
      have heq : (j + 1) * 2 ^ u = (i + 1) * 2 ^ v := by omega
      by_cases hle : u ≤ v
      · exact hle
      · exfalso
        obtain ⟨d, rfl⟩ : ∃ d, u = v + (d + 1) := ⟨u - v - 1, by omega⟩
        rw [Nat.pow_add, Nat.mul_comm (2 ^ v), ← Nat.mul_assoc] at heq
        have h5 := Nat.eq_of_mul_eq_mul_right (Nat.two_pow_pos _) heq
        rw [Nat.pow_succ, ← Nat.mul_assoc] at h5
        omega
/-- Two lists of one tree are equally long. -/
theorem TInv.length_eq {L : List ByteArray} {n floor : Nat} {l l' : List (Pl × ByteArray)} (h : TInv L n floor l) (h' : TInv L n floor l') (hn : (l.map (·.1)).Nodup) (hn' : (l'.map (·.1)).Nodup) : l.length = l'.length := by
  have nd : ∀ {l : List (Pl × ByteArray)}, (l.map (·.1)).Nodup → l.Nodup := fun h => List.Pairwise.of_map _ (fun a b hab e => hab (by rw [e])) h
  have key : ∀ {l l' : List (Pl × ByteArray)}, TInv L n floor l → TInv L n floor l' → ∀ p ∈ l, p ∈ l' := fun h h' p hp => by
    obtain ⟨v, i, rfl, h1, h2⟩ := h.mem p hp
    exact h'.all v i h1 h2
  have hp : l.Perm l' := (List.perm_ext_iff_of_nodup (nd hn) (nd hn')).2 fun p => ⟨key h h' p, key h' h p⟩
  exact hp.length_eq
end Go.Proofs.Ytjicjadibaomkaa
set_option linter.unusedSimpArgs false
set_option linter.unusedVariables false
set_option maxHeartbeats 1000000
namespace Go.Hs
open Go Go.RowKit
section
variable {P : Program} {ops : Array Oper} {Q : Exit → Act → World → Prop} {md : Region.Mode} {S : World → Prop}
/-- Every edge leads back. -/
def backB (md : Region.Mode) (ops : Array Oper) : Bool := (List.range ops.size).all fun i => ((ops[i]?).map (·.after.all fun e => !Region.binds md e || decide (e.on < i))).getD true
theorem getD_tf {l : Array Bool} {i : Nat} (h : i < l.size) : l.getD i true = l.getD i false := by simp [Array.getD, h]
theorem ready_nil (hb : backB md ops = true) {listed : Array Bool} (hsz : listed.size = ops.size) (h : Region.ready md ops listed = []) : ∀ i, i < ops.size → listed.getD i true = true := by
  intro i
  induction i using Nat.strongRecOn with
  | _ i ih =>
    intro hi
    cases hl : listed.getD i true with
    | true => rfl
    | false =>
      exfalso
      have hm : i ∈ Region.ready md ops listed := by
        unfold Region.ready
        refine List.mem_filter.2 ⟨List.mem_range.2 hi, ?_⟩
        simp only [hl, Bool.not_false, Bool.true_and]
        have ho : ops[i]? = some ops[i] := Array.getElem?_eq_getElem hi
        simp only [ho, Option.map_some, Option.getD_some]
        rw [Array.all_eq_true_iff_forall_mem]
        intro e he
        have hbb := (List.all_eq_true.1 hb) i (List.mem_range.2 hi)
        simp only [ho, Option.map_some, Option.getD_some] at hbb
        have := (Array.all_eq_true_iff_forall_mem.1 hbb) e he
        simp only [Bool.or_eq_true, Bool.not_eq_true', decide_eq_true_eq] at this
        rcases this with h1 | h1
        · simp [h1]
        · rw [← getD_tf (by omega), ih e.on h1 (by omega)]; simp
      rw [h] at hm; cases hm
def openN (l : Array Bool) : Nat := (l.toList.filter (! ·)).length
theorem openL_set : ∀ (l : List Bool) (i : Nat), l[i]? = some false → ((l.set i true).filter (! ·)).length + 1 = (l.filter (! ·)).length
  | [], i, h => by simp at h
  | b :: l, 0, h => by simp at h; subst h; simp
  | b :: l, i + 1, h => by
    have := openL_set l i (by simpa using h)
    simp only [List.set_cons_succ, List.filter_cons]
    cases b <;> simp <;> simpa using this
theorem openN_set {l : Array Bool} {i : Nat} (hi : i < l.size) (h : l.getD i true = false) : openN (l.setIfInBounds i true) + 1 = openN l := by
  unfold openN
  rw [Array.toList_setIfInBounds]
  refine openL_set _ _ ?_
  simp only [Array.getD, hi, dif_pos] at h
  simp only [Array.getElem?_toList, Array.getElem?_eq_getElem hi, Option.some.injEq]
  exact h
theorem openN_zero {l : Array Bool} (h : openN l = 0) {i : Nat} (hi : i < l.size) : l.getD i true = true := by
  unfold openN at h
  have h1 := List.eq_nil_of_length_eq_zero h
  rw [List.filter_eq_nil_iff] at h1
  have h2 := h1 l[i] (by simp)
  simp only [Array.getD, hi, dif_pos]
  simpa using h2
theorem wpAnyH_bits (hb : backB md ops = true) (I : Array Bool → Act → World → Prop) (hS : ∀ listed a w, I listed a w → S w)
    (hstep : ∀ i listed a w, listed.size = ops.size → i ∈ Region.ready md ops listed → I listed a w → wpOp P ops Q i (fun a' w' => I (listed.setIfInBounds i true) a' w') a w)
    (hend : ∀ listed a w, listed.size = ops.size → (∀ i, i < ops.size → listed.getD i true = true) → I listed a w → Q .normal a w) :
    ∀ (fuel : Nat) (listed : Array Bool) (a : Act) (w : World), listed.size = ops.size → openN listed ≤ fuel → I listed a w → wpAnyH P md ops Q S fuel listed a w
  | 0, listed, a, w, hsz, hf, hI => by
    have hall : ∀ i, i < ops.size → listed.getD i true = true := fun i hi => openN_zero (by omega) (by omega)
    refine ⟨?_, hend listed a w hsz hall hI⟩
    rw [List.eq_nil_iff_forall_not_mem]
    intro i hi
    have h1 := (mem_ready.1 hi).1
    have h2 := hall i (List.mem_range.1 (List.mem_filter.1 hi).1)
    rw [h2] at h1; cases h1
  | fuel + 1, listed, a, w, hsz, hf, hI => by
    refine ⟨fun hn => hend listed a w hsz (ready_nil hb hsz hn) hI, fun i hi => ?_⟩
    have h1 := (mem_ready.1 hi).1
    have h2 := List.mem_range.1 (List.mem_filter.1 hi).1
    have h3 := openN_set (l := listed) (i := i) (by omega) h1
    exact wpOp_mono (fun a' w' hI' => ⟨hS _ _ _ hI', wpAnyH_bits hb I hS hstep hend fuel _ a' w' (by simpa using hsz) (by omega) hI'⟩) (hstep i listed a w hsz hi hI)
/-- Operation i waits for operation j. -/
def waitsB (md : Region.Mode) (ops : Array Oper) (i j : Nat) : Bool := ((ops[i]?).map (·.after.any fun e => Region.binds md e && e.on == j)).getD false
theorem waitsB_spec {listed : Array Bool} {i j : Nat} (h : waitsB md ops i j = true) (hi : i ∈ Region.ready md ops listed) : listed.getD j false = true := by
  obtain ⟨_, o, ho, hall⟩ := mem_ready.1 hi
  unfold waitsB at h
  simp only [ho, Option.map_some, Option.getD_some] at h
  obtain ⟨e, he, hb⟩ := Array.any_eq_true'.1 h
  simp only [Bool.and_eq_true, beq_iff_eq] at hb
  rw [← hb.2]; exact hall e he hb.1
theorem getD_set_ne' {l : Array Bool} {i j : Nat} (h : i ≠ j) (d : Bool) : (l.setIfInBounds i true).getD j d = l.getD j d := getD_set_ne d h
theorem getD_set_eq {l : Array Bool} {i : Nat} (d : Bool) (h : i < l.size) : (l.setIfInBounds i true).getD i d = true := by simp [Array.getD, h]
theorem wpAnyH_sep2 {fuel : Nat} {listed : Array Bool} {a : Act} {w : World} (i1 i2 : Nat) {o1 o2 : Oper} (D : List (List Nat)) (J : Bool → Bool → Act → World → Prop)
    (hi : ops[i1]? = some o1 ∧ ops[i2]? = some o2) (hb : backB md ops = true) (hsz : listed.size = ops.size)
    (hcov : ((List.range ops.size).all fun i => [i1, i2].contains i == !listed.getD i true) = true) (hne : ([i1, i2] : List Nat).Nodup) (hfuel : openN listed ≤ fuel)
    (hD : ((List.range 2).all fun j => (D.getD j []).all fun d => waitsB md ops ([i1, i2].getD j 0) ([i1, i2].getD d 0) && decide (d < 2)) = true)
    (hS : ∀ b1 b2 a w, J b1 b2 a w → S w) (h0 : J false false  a w)
    (s1 : ∀ b2 a w, (D.getD 0 []).all ([false, b2].getD · false) = true → J false b2 a w → ∀ K : Act → World → Prop, Shut (∀ a w, J true b2 a w → K a w) → if Region.wanted o1 (yielded ops a.tmps) = true then Oper.wp P o1 a w K Q else K (a.put o1.dst undef) w)
    (s2 : ∀ b1 a w, (D.getD 1 []).all ([b1, false].getD · false) = true → J b1 false a w → ∀ K : Act → World → Prop, Shut (∀ a w, J b1 true a w → K a w) → if Region.wanted o2 (yielded ops a.tmps) = true then Oper.wp P o2 a w K Q else K (a.put o2.dst undef) w)
    (hend : ∀ a w, J true true  a w → Q .normal a w) : wpAnyH P md ops Q S fuel listed a w := by
  obtain ⟨hi1, hi2⟩ := hi
  have hx : ∀ i l, ops[i]? = some l → i < ops.size := fun i l h => (Array.getElem?_eq_some_iff.1 h).1
  have hl1 := hx _ _ hi1
  have hl2 := hx _ _ hi2
  have hcov' : ∀ i, i < ops.size → ([i1, i2].contains i = !listed.getD i true) := fun i h => by simpa using (List.all_eq_true.1 hcov) i (List.mem_range.2 h)
  simp only [List.nodup_cons, List.mem_cons, List.not_mem_nil, not_or, or_false, not_false_iff, List.nodup_nil, and_true] at hne
  refine wpAnyH_bits hb (fun ls a w => (∀ i, i < ops.size → [i1, i2].contains i = false → ls.getD i true = true) ∧ J (ls.getD i1 true) (ls.getD i2 true) a w) (fun ls a w h => hS _ _  a w h.2) ?_ ?_ fuel listed a w hsz hfuel ?_
  · intro i ls a w hlsz hr hI
    obtain ⟨hI1, hI2⟩ := hI
    obtain ⟨hun, o, ho, _⟩ := mem_ready.1 hr
    have hin : [i1, i2].contains i = true := by
      cases hc : [i1, i2].contains i with
      | true => rfl
      | false => rw [hI1 i (hx _ _ ho) hc] at hun; cases hun
    have hD' : ∀ j, j < 2 → (D.getD j []).all (fun d => waitsB md ops ([i1, i2].getD j 0) ([i1, i2].getD d 0) && decide (d < 2)) = true := fun j h => (List.all_eq_true.1 hD) j (List.mem_range.2 h)
    have hget : ∀ d, d < 2 → [ls.getD i1 true, ls.getD i2 true].getD d false = ls.getD ([i1, i2].getD d 0) true := by
      intro d hd
      match d, hd with
      | 0, _ => rfl
      | 1, _ => rfl
    have hlt : ∀ d, d < 2 → [i1, i2].getD d 0 < ls.size := by
      intro d hd
      match d, hd with
      | 0, _ => exact hlsz.symm ▸ hl1
      | 1, _ => exact hlsz.symm ▸ hl2
    have hdeps : ∀ j, j < 2 → [i1, i2].getD j 0 = i → (D.getD j []).all ([ls.getD i1 true, ls.getD i2 true].getD · false) = true := by
      intro j hj hji
      rw [List.all_eq_true]
      intro d hd
      have h1 := (List.all_eq_true.1 (hD' j hj)) d hd
      simp only [Bool.and_eq_true, decide_eq_true_eq] at h1
      rw [hget d h1.2, getD_tf (hlt d h1.2)]
      rw [hji] at h1
      exact waitsB_spec h1.1 hr
    have hkeep : ∀ j, j < ops.size → [i1, i2].contains j = false → (ls.setIfInBounds i true).getD j true = true := fun j hj hc => by
      by_cases e : i = j
      · subst e; exact getD_set_eq true (by omega)
      · rw [getD_set_ne' e]; exact hI1 j hj hc
    simp only [List.contains_cons, Bool.or_eq_true, beq_iff_eq, List.contains_nil, Bool.false_eq_true, or_false] at hin
    rcases hin with rfl | rfl
    · have hdj := hdeps 0 (by omega) rfl
      rw [hun] at hI2 hdj
      refine wpOp_step hi1 fun K hK => s1 _ a w hdj hI2 K (fun a' w' hJ => hK a' w' ⟨hkeep, ?_⟩)
      rw [getD_set_eq true (by omega)]
      rw [getD_set_ne' (by omega)]
      exact hJ
    · have hdj := hdeps 1 (by omega) rfl
      rw [hun] at hI2 hdj
      refine wpOp_step hi2 fun K hK => s2 _ a w hdj hI2 K (fun a' w' hJ => hK a' w' ⟨hkeep, ?_⟩)
      rw [getD_set_eq true (by omega)]
      rw [getD_set_ne' (by omega)]
      exact hJ
  · intro ls a w hlsz hall hI
    have := hI.2
    rw [hall _ hl1, hall _ hl2] at this
    exact hend a w this
  · refine ⟨fun i hi hc => by have := hcov' i hi; rw [hc] at this; simpa using this.symm, ?_⟩
    have g1 : listed.getD i1 true = false := by have := hcov' i1 hl1; simpa using this.symm
    have g2 : listed.getD i2 true = false := by have := hcov' i2 hl2; simpa using this.symm
    rw [g1, g2]
    exact h0
theorem wpAnyH_sep3 {fuel : Nat} {listed : Array Bool} {a : Act} {w : World} (i1 i2 i3 : Nat) {o1 o2 o3 : Oper} (D : List (List Nat)) (J : Bool → Bool → Bool → Act → World → Prop)
    (hi : ops[i1]? = some o1 ∧ ops[i2]? = some o2 ∧ ops[i3]? = some o3) (hb : backB md ops = true) (hsz : listed.size = ops.size)
    (hcov : ((List.range ops.size).all fun i => [i1, i2, i3].contains i == !listed.getD i true) = true) (hne : ([i1, i2, i3] : List Nat).Nodup) (hfuel : openN listed ≤ fuel)
    (hD : ((List.range 3).all fun j => (D.getD j []).all fun d => waitsB md ops ([i1, i2, i3].getD j 0) ([i1, i2, i3].getD d 0) && decide (d < 3)) = true)
    (hS : ∀ b1 b2 b3 a w, J b1 b2 b3 a w → S w) (h0 : J false false false  a w)
    (s1 : ∀ b2 b3 a w, (D.getD 0 []).all ([false, b2, b3].getD · false) = true → J false b2 b3 a w → ∀ K : Act → World → Prop, Shut (∀ a w, J true b2 b3 a w → K a w) → if Region.wanted o1 (yielded ops a.tmps) = true then Oper.wp P o1 a w K Q else K (a.put o1.dst undef) w)
    (s2 : ∀ b1 b3 a w, (D.getD 1 []).all ([b1, false, b3].getD · false) = true → J b1 false b3 a w → ∀ K : Act → World → Prop, Shut (∀ a w, J b1 true b3 a w → K a w) → if Region.wanted o2 (yielded ops a.tmps) = true then Oper.wp P o2 a w K Q else K (a.put o2.dst undef) w)
    (s3 : ∀ b1 b2 a w, (D.getD 2 []).all ([b1, b2, false].getD · false) = true → J b1 b2 false a w → ∀ K : Act → World → Prop, Shut (∀ a w, J b1 b2 true a w → K a w) → if Region.wanted o3 (yielded ops a.tmps) = true then Oper.wp P o3 a w K Q else K (a.put o3.dst undef) w)
    (hend : ∀ a w, J true true true  a w → Q .normal a w) : wpAnyH P md ops Q S fuel listed a w := by
  obtain ⟨hi1, hi2, hi3⟩ := hi
  have hx : ∀ i l, ops[i]? = some l → i < ops.size := fun i l h => (Array.getElem?_eq_some_iff.1 h).1
  have hl1 := hx _ _ hi1
  have hl2 := hx _ _ hi2
  have hl3 := hx _ _ hi3
  have hcov' : ∀ i, i < ops.size → ([i1, i2, i3].contains i = !listed.getD i true) := fun i h => by simpa using (List.all_eq_true.1 hcov) i (List.mem_range.2 h)
  simp only [List.nodup_cons, List.mem_cons, List.not_mem_nil, not_or, or_false, not_false_iff, List.nodup_nil, and_true] at hne
  refine wpAnyH_bits hb (fun ls a w => (∀ i, i < ops.size → [i1, i2, i3].contains i = false → ls.getD i true = true) ∧ J (ls.getD i1 true) (ls.getD i2 true) (ls.getD i3 true) a w) (fun ls a w h => hS _ _ _  a w h.2) ?_ ?_ fuel listed a w hsz hfuel ?_
  · intro i ls a w hlsz hr hI
    obtain ⟨hI1, hI2⟩ := hI
    obtain ⟨hun, o, ho, _⟩ := mem_ready.1 hr
    have hin : [i1, i2, i3].contains i = true := by
      cases hc : [i1, i2, i3].contains i with
      | true => rfl
      | false => rw [hI1 i (hx _ _ ho) hc] at hun; cases hun
    have hD' : ∀ j, j < 3 → (D.getD j []).all (fun d => waitsB md ops ([i1, i2, i3].getD j 0) ([i1, i2, i3].getD d 0) && decide (d < 3)) = true := fun j h => (List.all_eq_true.1 hD) j (List.mem_range.2 h)
    have hget : ∀ d, d < 3 → [ls.getD i1 true, ls.getD i2 true, ls.getD i3 true].getD d false = ls.getD ([i1, i2, i3].getD d 0) true := by
      intro d hd
      match d, hd with
      | 0, _ => rfl
      | 1, _ => rfl
      | 2, _ => rfl
    have hlt : ∀ d, d < 3 → [i1, i2, i3].getD d 0 < ls.size := by
      intro d hd
      match d, hd with
      | 0, _ => exact hlsz.symm ▸ hl1
      | 1, _ => exact hlsz.symm ▸ hl2
      | 2, _ => exact hlsz.symm ▸ hl3
    have hdeps : ∀ j, j < 3 → [i1, i2, i3].getD j 0 = i → (D.getD j []).all ([ls.getD i1 true, ls.getD i2 true, ls.getD i3 true].getD · false) = true := by
      intro j hj hji
      rw [List.all_eq_true]
      intro d hd
      have h1 := (List.all_eq_true.1 (hD' j hj)) d hd
      simp only [Bool.and_eq_true, decide_eq_true_eq] at h1
      rw [hget d h1.2, getD_tf (hlt d h1.2)]
      rw [hji] at h1
      exact waitsB_spec h1.1 hr
    have hkeep : ∀ j, j < ops.size → [i1, i2, i3].contains j = false → (ls.setIfInBounds i true).getD j true = true := fun j hj hc => by
      by_cases e : i = j
      · subst e; exact getD_set_eq true (by omega)
      · rw [getD_set_ne' e]; exact hI1 j hj hc
    simp only [List.contains_cons, Bool.or_eq_true, beq_iff_eq, List.contains_nil, Bool.false_eq_true, or_false] at hin
    rcases hin with rfl | rfl | rfl
    · have hdj := hdeps 0 (by omega) rfl
      rw [hun] at hI2 hdj
      refine wpOp_step hi1 fun K hK => s1 _ _ a w hdj hI2 K (fun a' w' hJ => hK a' w' ⟨hkeep, ?_⟩)
      rw [getD_set_eq true (by omega)]
      rw [getD_set_ne' (by omega)]
      rw [getD_set_ne' (by omega)]
      exact hJ
    · have hdj := hdeps 1 (by omega) rfl
      rw [hun] at hI2 hdj
      refine wpOp_step hi2 fun K hK => s2 _ _ a w hdj hI2 K (fun a' w' hJ => hK a' w' ⟨hkeep, ?_⟩)
      rw [getD_set_eq true (by omega)]
      rw [getD_set_ne' (by omega)]
      rw [getD_set_ne' (by omega)]
      exact hJ
    · have hdj := hdeps 2 (by omega) rfl
      rw [hun] at hI2 hdj
      refine wpOp_step hi3 fun K hK => s3 _ _ a w hdj hI2 K (fun a' w' hJ => hK a' w' ⟨hkeep, ?_⟩)
      rw [getD_set_eq true (by omega)]
      rw [getD_set_ne' (by omega)]
      rw [getD_set_ne' (by omega)]
      exact hJ
  · intro ls a w hlsz hall hI
    have := hI.2
    rw [hall _ hl1, hall _ hl2, hall _ hl3] at this
    exact hend a w this
  · refine ⟨fun i hi hc => by have := hcov' i hi; rw [hc] at this; simpa using this.symm, ?_⟩
    have g1 : listed.getD i1 true = false := by have := hcov' i1 hl1; simpa using this.symm
    have g2 : listed.getD i2 true = false := by have := hcov' i2 hl2; simpa using this.symm
    have g3 : listed.getD i3 true = false := by have := hcov' i3 hl3; simpa using this.symm
    rw [g1, g2, g3]
    exact h0
theorem wpAnyH_sep4 {fuel : Nat} {listed : Array Bool} {a : Act} {w : World} (i1 i2 i3 i4 : Nat) {o1 o2 o3 o4 : Oper} (D : List (List Nat)) (J : Bool → Bool → Bool → Bool → Act → World → Prop)
    (hi : ops[i1]? = some o1 ∧ ops[i2]? = some o2 ∧ ops[i3]? = some o3 ∧ ops[i4]? = some o4) (hb : backB md ops = true) (hsz : listed.size = ops.size)
    (hcov : ((List.range ops.size).all fun i => [i1, i2, i3, i4].contains i == !listed.getD i true) = true) (hne : ([i1, i2, i3, i4] : List Nat).Nodup) (hfuel : openN listed ≤ fuel)
    (hD : ((List.range 4).all fun j => (D.getD j []).all fun d => waitsB md ops ([i1, i2, i3, i4].getD j 0) ([i1, i2, i3, i4].getD d 0) && decide (d < 4)) = true)
    (hS : ∀ b1 b2 b3 b4 a w, J b1 b2 b3 b4 a w → S w) (h0 : J false false false false  a w)
    (s1 : ∀ b2 b3 b4 a w, (D.getD 0 []).all ([false, b2, b3, b4].getD · false) = true → J false b2 b3 b4 a w → ∀ K : Act → World → Prop, Shut (∀ a w, J true b2 b3 b4 a w → K a w) → if Region.wanted o1 (yielded ops a.tmps) = true then Oper.wp P o1 a w K Q else K (a.put o1.dst undef) w)
    (s2 : ∀ b1 b3 b4 a w, (D.getD 1 []).all ([b1, false, b3, b4].getD · false) = true → J b1 false b3 b4 a w → ∀ K : Act → World → Prop, Shut (∀ a w, J b1 true b3 b4 a w → K a w) → if Region.wanted o2 (yielded ops a.tmps) = true then Oper.wp P o2 a w K Q else K (a.put o2.dst undef) w)
    (s3 : ∀ b1 b2 b4 a w, (D.getD 2 []).all ([b1, b2, false, b4].getD · false) = true → J b1 b2 false b4 a w → ∀ K : Act → World → Prop, Shut (∀ a w, J b1 b2 true b4 a w → K a w) → if Region.wanted o3 (yielded ops a.tmps) = true then Oper.wp P o3 a w K Q else K (a.put o3.dst undef) w)
    (s4 : ∀ b1 b2 b3 a w, (D.getD 3 []).all ([b1, b2, b3, false].getD · false) = true → J b1 b2 b3 false a w → ∀ K : Act → World → Prop, Shut (∀ a w, J b1 b2 b3 true a w → K a w) → if Region.wanted o4 (yielded ops a.tmps) = true then Oper.wp P o4 a w K Q else K (a.put o4.dst undef) w)
    (hend : ∀ a w, J true true true true  a w → Q .normal a w) : wpAnyH P md ops Q S fuel listed a w := by
  obtain ⟨hi1, hi2, hi3, hi4⟩ := hi
  have hx : ∀ i l, ops[i]? = some l → i < ops.size := fun i l h => (Array.getElem?_eq_some_iff.1 h).1
  have hl1 := hx _ _ hi1
  have hl2 := hx _ _ hi2
  have hl3 := hx _ _ hi3
  have hl4 := hx _ _ hi4
  have hcov' : ∀ i, i < ops.size → ([i1, i2, i3, i4].contains i = !listed.getD i true) := fun i h => by simpa using (List.all_eq_true.1 hcov) i (List.mem_range.2 h)
  simp only [List.nodup_cons, List.mem_cons, List.not_mem_nil, not_or, or_false, not_false_iff, List.nodup_nil, and_true] at hne
  refine wpAnyH_bits hb (fun ls a w => (∀ i, i < ops.size → [i1, i2, i3, i4].contains i = false → ls.getD i true = true) ∧ J (ls.getD i1 true) (ls.getD i2 true) (ls.getD i3 true) (ls.getD i4 true) a w) (fun ls a w h => hS _ _ _ _  a w h.2) ?_ ?_ fuel listed a w hsz hfuel ?_
  · intro i ls a w hlsz hr hI
    obtain ⟨hI1, hI2⟩ := hI
    obtain ⟨hun, o, ho, _⟩ := mem_ready.1 hr
    have hin : [i1, i2, i3, i4].contains i = true := by
      cases hc : [i1, i2, i3, i4].contains i with
      | true => rfl
      | false => rw [hI1 i (hx _ _ ho) hc] at hun; cases hun
    have hD' : ∀ j, j < 4 → (D.getD j []).all (fun d => waitsB md ops ([i1, i2, i3, i4].getD j 0) ([i1, i2, i3, i4].getD d 0) && decide (d < 4)) = true := fun j h => (List.all_eq_true.1 hD) j (List.mem_range.2 h)
    have hget : ∀ d, d < 4 → [ls.getD i1 true, ls.getD i2 true, ls.getD i3 true, ls.getD i4 true].getD d false = ls.getD ([i1, i2, i3, i4].getD d 0) true := by
      intro d hd
      match d, hd with
      | 0, _ => rfl
      | 1, _ => rfl
      | 2, _ => rfl
      | 3, _ => rfl
    have hlt : ∀ d, d < 4 → [i1, i2, i3, i4].getD d 0 < ls.size := by
      intro d hd
      match d, hd with
      | 0, _ => exact hlsz.symm ▸ hl1
      | 1, _ => exact hlsz.symm ▸ hl2
      | 2, _ => exact hlsz.symm ▸ hl3
      | 3, _ => exact hlsz.symm ▸ hl4
    have hdeps : ∀ j, j < 4 → [i1, i2, i3, i4].getD j 0 = i → (D.getD j []).all ([ls.getD i1 true, ls.getD i2 true, ls.getD i3 true, ls.getD i4 true].getD · false) = true := by
      intro j hj hji
      rw [List.all_eq_true]
      intro d hd
      have h1 := (List.all_eq_true.1 (hD' j hj)) d hd
      simp only [Bool.and_eq_true, decide_eq_true_eq] at h1
      rw [hget d h1.2, getD_tf (hlt d h1.2)]
      rw [hji] at h1
      exact waitsB_spec h1.1 hr
    have hkeep : ∀ j, j < ops.size → [i1, i2, i3, i4].contains j = false → (ls.setIfInBounds i true).getD j true = true := fun j hj hc => by
      by_cases e : i = j
      · subst e; exact getD_set_eq true (by omega)
      · rw [getD_set_ne' e]; exact hI1 j hj hc
    simp only [List.contains_cons, Bool.or_eq_true, beq_iff_eq, List.contains_nil, Bool.false_eq_true, or_false] at hin
    rcases hin with rfl | rfl | rfl | rfl
    · have hdj := hdeps 0 (by omega) rfl
      rw [hun] at hI2 hdj
      refine wpOp_step hi1 fun K hK => s1 _ _ _ a w hdj hI2 K (fun a' w' hJ => hK a' w' ⟨hkeep, ?_⟩)
      rw [getD_set_eq true (by omega)]
      rw [getD_set_ne' (by omega)]
      rw [getD_set_ne' (by omega)]
      rw [getD_set_ne' (by omega)]
      exact hJ
    · have hdj := hdeps 1 (by omega) rfl
      rw [hun] at hI2 hdj
      refine wpOp_step hi2 fun K hK => s2 _ _ _ a w hdj hI2 K (fun a' w' hJ => hK a' w' ⟨hkeep, ?_⟩)
      rw [getD_set_eq true (by omega)]
      rw [getD_set_ne' (by omega)]
      rw [getD_set_ne' (by omega)]
      rw [getD_set_ne' (by omega)]
      exact hJ
    · have hdj := hdeps 2 (by omega) rfl
      rw [hun] at hI2 hdj
      refine wpOp_step hi3 fun K hK => s3 _ _ _ a w hdj hI2 K (fun a' w' hJ => hK a' w' ⟨hkeep, ?_⟩)
      rw [getD_set_eq true (by omega)]
      rw [getD_set_ne' (by omega)]
      rw [getD_set_ne' (by omega)]
      rw [getD_set_ne' (by omega)]
      exact hJ
    · have hdj := hdeps 3 (by omega) rfl
      rw [hun] at hI2 hdj
      refine wpOp_step hi4 fun K hK => s4 _ _ _ a w hdj hI2 K (fun a' w' hJ => hK a' w' ⟨hkeep, ?_⟩)
      rw [getD_set_eq true (by omega)]
      rw [getD_set_ne' (by omega)]
      rw [getD_set_ne' (by omega)]
      rw [getD_set_ne' (by omega)]
      exact hJ
  · intro ls a w hlsz hall hI
    have := hI.2
    rw [hall _ hl1, hall _ hl2, hall _ hl3, hall _ hl4] at this
    exact hend a w this
  · refine ⟨fun i hi hc => by have := hcov' i hi; rw [hc] at this; simpa using this.symm, ?_⟩
    have g1 : listed.getD i1 true = false := by have := hcov' i1 hl1; simpa using this.symm
    have g2 : listed.getD i2 true = false := by have := hcov' i2 hl2; simpa using this.symm
    have g3 : listed.getD i3 true = false := by have := hcov' i3 hl3; simpa using this.symm
    have g4 : listed.getD i4 true = false := by have := hcov' i4 hl4; simpa using this.symm
    rw [g1, g2, g3, g4]
    exact h0
theorem wpAnyH_sep5 {fuel : Nat} {listed : Array Bool} {a : Act} {w : World} (i1 i2 i3 i4 i5 : Nat) {o1 o2 o3 o4 o5 : Oper} (D : List (List Nat)) (J : Bool → Bool → Bool → Bool → Bool → Act → World → Prop)
    (hi : ops[i1]? = some o1 ∧ ops[i2]? = some o2 ∧ ops[i3]? = some o3 ∧ ops[i4]? = some o4 ∧ ops[i5]? = some o5) (hb : backB md ops = true) (hsz : listed.size = ops.size)
    (hcov : ((List.range ops.size).all fun i => [i1, i2, i3, i4, i5].contains i == !listed.getD i true) = true) (hne : ([i1, i2, i3, i4, i5] : List Nat).Nodup) (hfuel : openN listed ≤ fuel)
    (hD : ((List.range 5).all fun j => (D.getD j []).all fun d => waitsB md ops ([i1, i2, i3, i4, i5].getD j 0) ([i1, i2, i3, i4, i5].getD d 0) && decide (d < 5)) = true)
    (hS : ∀ b1 b2 b3 b4 b5 a w, J b1 b2 b3 b4 b5 a w → S w) (h0 : J false false false false false  a w)
    (s1 : ∀ b2 b3 b4 b5 a w, (D.getD 0 []).all ([false, b2, b3, b4, b5].getD · false) = true → J false b2 b3 b4 b5 a w → ∀ K : Act → World → Prop, Shut (∀ a w, J true b2 b3 b4 b5 a w → K a w) → if Region.wanted o1 (yielded ops a.tmps) = true then Oper.wp P o1 a w K Q else K (a.put o1.dst undef) w)
    (s2 : ∀ b1 b3 b4 b5 a w, (D.getD 1 []).all ([b1, false, b3, b4, b5].getD · false) = true → J b1 false b3 b4 b5 a w → ∀ K : Act → World → Prop, Shut (∀ a w, J b1 true b3 b4 b5 a w → K a w) → if Region.wanted o2 (yielded ops a.tmps) = true then Oper.wp P o2 a w K Q else K (a.put o2.dst undef) w)
    (s3 : ∀ b1 b2 b4 b5 a w, (D.getD 2 []).all ([b1, b2, false, b4, b5].getD · false) = true → J b1 b2 false b4 b5 a w → ∀ K : Act → World → Prop, Shut (∀ a w, J b1 b2 true b4 b5 a w → K a w) → if Region.wanted o3 (yielded ops a.tmps) = true then Oper.wp P o3 a w K Q else K (a.put o3.dst undef) w)
    (s4 : ∀ b1 b2 b3 b5 a w, (D.getD 3 []).all ([b1, b2, b3, false, b5].getD · false) = true → J b1 b2 b3 false b5 a w → ∀ K : Act → World → Prop, Shut (∀ a w, J b1 b2 b3 true b5 a w → K a w) → if Region.wanted o4 (yielded ops a.tmps) = true then Oper.wp P o4 a w K Q else K (a.put o4.dst undef) w)
    (s5 : ∀ b1 b2 b3 b4 a w, (D.getD 4 []).all ([b1, b2, b3, b4, false].getD · false) = true → J b1 b2 b3 b4 false a w → ∀ K : Act → World → Prop, Shut (∀ a w, J b1 b2 b3 b4 true a w → K a w) → if Region.wanted o5 (yielded ops a.tmps) = true then Oper.wp P o5 a w K Q else K (a.put o5.dst undef) w)
    (hend : ∀ a w, J true true true true true  a w → Q .normal a w) : wpAnyH P md ops Q S fuel listed a w := by
  obtain ⟨hi1, hi2, hi3, hi4, hi5⟩ := hi
  have hx : ∀ i l, ops[i]? = some l → i < ops.size := fun i l h => (Array.getElem?_eq_some_iff.1 h).1
  have hl1 := hx _ _ hi1
  have hl2 := hx _ _ hi2
  have hl3 := hx _ _ hi3
  have hl4 := hx _ _ hi4
  have hl5 := hx _ _ hi5
  have hcov' : ∀ i, i < ops.size → ([i1, i2, i3, i4, i5].contains i = !listed.getD i true) := fun i h => by simpa using (List.all_eq_true.1 hcov) i (List.mem_range.2 h)
  simp only [List.nodup_cons, List.mem_cons, List.not_mem_nil, not_or, or_false, not_false_iff, List.nodup_nil, and_true] at hne
  refine wpAnyH_bits hb (fun ls a w => (∀ i, i < ops.size → [i1, i2, i3, i4, i5].contains i = false → ls.getD i true = true) ∧ J (ls.getD i1 true) (ls.getD i2 true) (ls.getD i3 true) (ls.getD i4 true) (ls.getD i5 true) a w) (fun ls a w h => hS _ _ _ _ _  a w h.2) ?_ ?_ fuel listed a w hsz hfuel ?_
  · intro i ls a w hlsz hr hI
    obtain ⟨hI1, hI2⟩ := hI
    obtain ⟨hun, o, ho, _⟩ := mem_ready.1 hr
    have hin : [i1, i2, i3, i4, i5].contains i = true := by
      cases hc : [i1, i2, i3, i4, i5].contains i with
      | true => rfl
      | false => rw [hI1 i (hx _ _ ho) hc] at hun; cases hun
    have hD' : ∀ j, j < 5 → (D.getD j []).all (fun d => waitsB md ops ([i1, i2, i3, i4, i5].getD j 0) ([i1, i2, i3, i4, i5].getD d 0) && decide (d < 5)) = true := fun j h => (List.all_eq_true.1 hD) j (List.mem_range.2 h)
    have hget : ∀ d, d < 5 → [ls.getD i1 true, ls.getD i2 true, ls.getD i3 true, ls.getD i4 true, ls.getD i5 true].getD d false = ls.getD ([i1, i2, i3, i4, i5].getD d 0) true := by
      intro d hd
      match d, hd with
      | 0, _ => rfl
      | 1, _ => rfl
      | 2, _ => rfl
      | 3, _ => rfl
      | 4, _ => rfl
    have hlt : ∀ d, d < 5 → [i1, i2, i3, i4, i5].getD d 0 < ls.size := by
      intro d hd
      match d, hd with
      | 0, _ => exact hlsz.symm ▸ hl1
      | 1, _ => exact hlsz.symm ▸ hl2
      | 2, _ => exact hlsz.symm ▸ hl3
      | 3, _ => exact hlsz.symm ▸ hl4
      | 4, _ => exact hlsz.symm ▸ hl5
    have hdeps : ∀ j, j < 5 → [i1, i2, i3, i4, i5].getD j 0 = i → (D.getD j []).all ([ls.getD i1 true, ls.getD i2 true, ls.getD i3 true, ls.getD i4 true, ls.getD i5 true].getD · false) = true := by
      intro j hj hji
      rw [List.all_eq_true]
      intro d hd
      have h1 := (List.all_eq_true.1 (hD' j hj)) d hd
      simp only [Bool.and_eq_true, decide_eq_true_eq] at h1
      rw [hget d h1.2, getD_tf (hlt d h1.2)]
      rw [hji] at h1
      exact waitsB_spec h1.1 hr
    have hkeep : ∀ j, j < ops.size → [i1, i2, i3, i4, i5].contains j = false → (ls.setIfInBounds i true).getD j true = true := fun j hj hc => by
      by_cases e : i = j
      · subst e; exact getD_set_eq true (by omega)
      · rw [getD_set_ne' e]; exact hI1 j hj hc
    simp only [List.contains_cons, Bool.or_eq_true, beq_iff_eq, List.contains_nil, Bool.false_eq_true, or_false] at hin
    rcases hin with rfl | rfl | rfl | rfl | rfl
    · have hdj := hdeps 0 (by omega) rfl
      rw [hun] at hI2 hdj
      refine wpOp_step hi1 fun K hK => s1 _ _ _ _ a w hdj hI2 K (fun a' w' hJ => hK a' w' ⟨hkeep, ?_⟩)
      rw [getD_set_eq true (by omega)]
      rw [getD_set_ne' (by omega)]
      rw [getD_set_ne' (by omega)]
      rw [getD_set_ne' (by omega)]
      rw [getD_set_ne' (by omega)]
      exact hJ
    · have hdj := hdeps 1 (by omega) rfl
      rw [hun] at hI2 hdj
      refine wpOp_step hi2 fun K hK => s2 _ _ _ _ a w hdj hI2 K (fun a' w' hJ => hK a' w' ⟨hkeep, ?_⟩)
      rw [getD_set_eq true (by omega)]
      rw [getD_set_ne' (by omega)]
      rw [getD_set_ne' (by omega)]
      rw [getD_set_ne' (by omega)]
      rw [getD_set_ne' (by omega)]
      exact hJ
    · have hdj := hdeps 2 (by omega) rfl
      rw [hun] at hI2 hdj
      refine wpOp_step hi3 fun K hK => s3 _ _ _ _ a w hdj hI2 K (fun a' w' hJ => hK a' w' ⟨hkeep, ?_⟩)
      rw [getD_set_eq true (by omega)]
      rw [getD_set_ne' (by omega)]
      rw [getD_set_ne' (by omega)]
      rw [getD_set_ne' (by omega)]
      rw [getD_set_ne' (by omega)]
      exact hJ
    · have hdj := hdeps 3 (by omega) rfl
      rw [hun] at hI2 hdj
      refine wpOp_step hi4 fun K hK => s4 _ _ _ _ a w hdj hI2 K (fun a' w' hJ => hK a' w' ⟨hkeep, ?_⟩)
      rw [getD_set_eq true (by omega)]
      rw [getD_set_ne' (by omega)]
      rw [getD_set_ne' (by omega)]
      rw [getD_set_ne' (by omega)]
      rw [getD_set_ne' (by omega)]
      exact hJ
    · have hdj := hdeps 4 (by omega) rfl
      rw [hun] at hI2 hdj
      refine wpOp_step hi5 fun K hK => s5 _ _ _ _ a w hdj hI2 K (fun a' w' hJ => hK a' w' ⟨hkeep, ?_⟩)
      rw [getD_set_eq true (by omega)]
      rw [getD_set_ne' (by omega)]
      rw [getD_set_ne' (by omega)]
      rw [getD_set_ne' (by omega)]
      rw [getD_set_ne' (by omega)]
      exact hJ
  · intro ls a w hlsz hall hI
    have := hI.2
    rw [hall _ hl1, hall _ hl2, hall _ hl3, hall _ hl4, hall _ hl5] at this
    exact hend a w this
  · refine ⟨fun i hi hc => by have := hcov' i hi; rw [hc] at this; simpa using this.symm, ?_⟩
    have g1 : listed.getD i1 true = false := by have := hcov' i1 hl1; simpa using this.symm
    have g2 : listed.getD i2 true = false := by have := hcov' i2 hl2; simpa using this.symm
    have g3 : listed.getD i3 true = false := by have := hcov' i3 hl3; simpa using this.symm
    have g4 : listed.getD i4 true = false := by have := hcov' i4 hl4; simpa using this.symm
    have g5 : listed.getD i5 true = false := by have := hcov' i5 hl5; simpa using this.symm
    rw [g1, g2, g3, g4, g5]
    exact h0
theorem wpAnyH_sep6 {fuel : Nat} {listed : Array Bool} {a : Act} {w : World} (i1 i2 i3 i4 i5 i6 : Nat) {o1 o2 o3 o4 o5 o6 : Oper} (D : List (List Nat)) (J : Bool → Bool → Bool → Bool → Bool → Bool → Act → World → Prop)
    (hi : ops[i1]? = some o1 ∧ ops[i2]? = some o2 ∧ ops[i3]? = some o3 ∧ ops[i4]? = some o4 ∧ ops[i5]? = some o5 ∧ ops[i6]? = some o6) (hb : backB md ops = true) (hsz : listed.size = ops.size)
    (hcov : ((List.range ops.size).all fun i => [i1, i2, i3, i4, i5, i6].contains i == !listed.getD i true) = true) (hne : ([i1, i2, i3, i4, i5, i6] : List Nat).Nodup) (hfuel : openN listed ≤ fuel)
    (hD : ((List.range 6).all fun j => (D.getD j []).all fun d => waitsB md ops ([i1, i2, i3, i4, i5, i6].getD j 0) ([i1, i2, i3, i4, i5, i6].getD d 0) && decide (d < 6)) = true)
    (hS : ∀ b1 b2 b3 b4 b5 b6 a w, J b1 b2 b3 b4 b5 b6 a w → S w) (h0 : J false false false false false false  a w)
    (s1 : ∀ b2 b3 b4 b5 b6 a w, (D.getD 0 []).all ([false, b2, b3, b4, b5, b6].getD · false) = true → J false b2 b3 b4 b5 b6 a w → ∀ K : Act → World → Prop, Shut (∀ a w, J true b2 b3 b4 b5 b6 a w → K a w) → if Region.wanted o1 (yielded ops a.tmps) = true then Oper.wp P o1 a w K Q else K (a.put o1.dst undef) w)
    (s2 : ∀ b1 b3 b4 b5 b6 a w, (D.getD 1 []).all ([b1, false, b3, b4, b5, b6].getD · false) = true → J b1 false b3 b4 b5 b6 a w → ∀ K : Act → World → Prop, Shut (∀ a w, J b1 true b3 b4 b5 b6 a w → K a w) → if Region.wanted o2 (yielded ops a.tmps) = true then Oper.wp P o2 a w K Q else K (a.put o2.dst undef) w)
    (s3 : ∀ b1 b2 b4 b5 b6 a w, (D.getD 2 []).all ([b1, b2, false, b4, b5, b6].getD · false) = true → J b1 b2 false b4 b5 b6 a w → ∀ K : Act → World → Prop, Shut (∀ a w, J b1 b2 true b4 b5 b6 a w → K a w) → if Region.wanted o3 (yielded ops a.tmps) = true then Oper.wp P o3 a w K Q else K (a.put o3.dst undef) w)
    (s4 : ∀ b1 b2 b3 b5 b6 a w, (D.getD 3 []).all ([b1, b2, b3, false, b5, b6].getD · false) = true → J b1 b2 b3 false b5 b6 a w → ∀ K : Act → World → Prop, Shut (∀ a w, J b1 b2 b3 true b5 b6 a w → K a w) → if Region.wanted o4 (yielded ops a.tmps) = true then Oper.wp P o4 a w K Q else K (a.put o4.dst undef) w)
    (s5 : ∀ b1 b2 b3 b4 b6 a w, (D.getD 4 []).all ([b1, b2, b3, b4, false, b6].getD · false) = true → J b1 b2 b3 b4 false b6 a w → ∀ K : Act → World → Prop, Shut (∀ a w, J b1 b2 b3 b4 true b6 a w → K a w) → if Region.wanted o5 (yielded ops a.tmps) = true then Oper.wp P o5 a w K Q else K (a.put o5.dst undef) w)
    (s6 : ∀ b1 b2 b3 b4 b5 a w, (D.getD 5 []).all ([b1, b2, b3, b4, b5, false].getD · false) = true → J b1 b2 b3 b4 b5 false a w → ∀ K : Act → World → Prop, Shut (∀ a w, J b1 b2 b3 b4 b5 true a w → K a w) → if Region.wanted o6 (yielded ops a.tmps) = true then Oper.wp P o6 a w K Q else K (a.put o6.dst undef) w)
    (hend : ∀ a w, J true true true true true true  a w → Q .normal a w) : wpAnyH P md ops Q S fuel listed a w := by
  obtain ⟨hi1, hi2, hi3, hi4, hi5, hi6⟩ := hi
  have hx : ∀ i l, ops[i]? = some l → i < ops.size := fun i l h => (Array.getElem?_eq_some_iff.1 h).1
  have hl1 := hx _ _ hi1
  have hl2 := hx _ _ hi2
  have hl3 := hx _ _ hi3
  have hl4 := hx _ _ hi4
  have hl5 := hx _ _ hi5
  have hl6 := hx _ _ hi6
  have hcov' : ∀ i, i < ops.size → ([i1, i2, i3, i4, i5, i6].contains i = !listed.getD i true) := fun i h => by simpa using (List.all_eq_true.1 hcov) i (List.mem_range.2 h)
  simp only [List.nodup_cons, List.mem_cons, List.not_mem_nil, not_or, or_false, not_false_iff, List.nodup_nil, and_true] at hne
  refine wpAnyH_bits hb (fun ls a w => (∀ i, i < ops.size → [i1, i2, i3, i4, i5, i6].contains i = false → ls.getD i true = true) ∧ J (ls.getD i1 true) (ls.getD i2 true) (ls.getD i3 true) (ls.getD i4 true) (ls.getD i5 true) (ls.getD i6 true) a w) (fun ls a w h => hS _ _ _ _ _ _  a w h.2) ?_ ?_ fuel listed a w hsz hfuel ?_
  · intro i ls a w hlsz hr hI
    obtain ⟨hI1, hI2⟩ := hI
    obtain ⟨hun, o, ho, _⟩ := mem_ready.1 hr
    have hin : [i1, i2, i3, i4, i5, i6].contains i = true := by
      cases hc : [i1, i2, i3, i4, i5, i6].contains i with
      | true => rfl
      | false => rw [hI1 i (hx _ _ ho) hc] at hun; cases hun
    have hD' : ∀ j, j < 6 → (D.getD j []).all (fun d => waitsB md ops ([i1, i2, i3, i4, i5, i6].getD j 0) ([i1, i2, i3, i4, i5, i6].getD d 0) && decide (d < 6)) = true := fun j h => (List.all_eq_true.1 hD) j (List.mem_range.2 h)
    have hget : ∀ d, d < 6 → [ls.getD i1 true, ls.getD i2 true, ls.getD i3 true, ls.getD i4 true, ls.getD i5 true, ls.getD i6 true].getD d false = ls.getD ([i1, i2, i3, i4, i5, i6].getD d 0) true := by
      intro d hd
      match d, hd with
      | 0, _ => rfl
      | 1, _ => rfl
      | 2, _ => rfl
      | 3, _ => rfl
      | 4, _ => rfl
      | 5, _ => rfl
    have hlt : ∀ d, d < 6 → [i1, i2, i3, i4, i5, i6].getD d 0 < ls.size := by
      intro d hd
      match d, hd with
      | 0, _ => exact hlsz.symm ▸ hl1
      | 1, _ => exact hlsz.symm ▸ hl2
      | 2, _ => exact hlsz.symm ▸ hl3
      | 3, _ => exact hlsz.symm ▸ hl4
      | 4, _ => exact hlsz.symm ▸ hl5
      | 5, _ => exact hlsz.symm ▸ hl6
    have hdeps : ∀ j, j < 6 → [i1, i2, i3, i4, i5, i6].getD j 0 = i → (D.getD j []).all ([ls.getD i1 true, ls.getD i2 true, ls.getD i3 true, ls.getD i4 true, ls.getD i5 true, ls.getD i6 true].getD · false) = true := by
      intro j hj hji
      rw [List.all_eq_true]
      intro d hd
      have h1 := (List.all_eq_true.1 (hD' j hj)) d hd
      simp only [Bool.and_eq_true, decide_eq_true_eq] at h1
      rw [hget d h1.2, getD_tf (hlt d h1.2)]
      rw [hji] at h1
      exact waitsB_spec h1.1 hr
    have hkeep : ∀ j, j < ops.size → [i1, i2, i3, i4, i5, i6].contains j = false → (ls.setIfInBounds i true).getD j true = true := fun j hj hc => by
      by_cases e : i = j
      · subst e; exact getD_set_eq true (by omega)
      · rw [getD_set_ne' e]; exact hI1 j hj hc
    simp only [List.contains_cons, Bool.or_eq_true, beq_iff_eq, List.contains_nil, Bool.false_eq_true, or_false] at hin
    rcases hin with rfl | rfl | rfl | rfl | rfl | rfl
    · have hdj := hdeps 0 (by omega) rfl
      rw [hun] at hI2 hdj
      refine wpOp_step hi1 fun K hK => s1 _ _ _ _ _ a w hdj hI2 K (fun a' w' hJ => hK a' w' ⟨hkeep, ?_⟩)
      rw [getD_set_eq true (by omega)]
      rw [getD_set_ne' (by omega)]
      rw [getD_set_ne' (by omega)]
      rw [getD_set_ne' (by omega)]
      rw [getD_set_ne' (by omega)]
      rw [getD_set_ne' (by omega)]
      exact hJ
    · have hdj := hdeps 1 (by omega) rfl
      rw [hun] at hI2 hdj
      refine wpOp_step hi2 fun K hK => s2 _ _ _ _ _ a w hdj hI2 K (fun a' w' hJ => hK a' w' ⟨hkeep, ?_⟩)
      rw [getD_set_eq true (by omega)]
      rw [getD_set_ne' (by omega)]
      rw [getD_set_ne' (by omega)]
      rw [getD_set_ne' (by omega)]
      rw [getD_set_ne' (by omega)]
      rw [getD_set_ne' (by omega)]
      exact hJ
    · have hdj := hdeps 2 (by omega) rfl
      rw [hun] at hI2 hdj
      refine wpOp_step hi3 fun K hK => s3 _ _ _ _ _ a w hdj hI2 K (fun a' w' hJ => hK a' w' ⟨hkeep, ?_⟩)
      rw [getD_set_eq true (by omega)]
      rw [getD_set_ne' (by omega)]
      rw [getD_set_ne' (by omega)]
      rw [getD_set_ne' (by omega)]
      rw [getD_set_ne' (by omega)]
      rw [getD_set_ne' (by omega)]
      exact hJ
    · have hdj := hdeps 3 (by omega) rfl
      rw [hun] at hI2 hdj
      refine wpOp_step hi4 fun K hK => s4 _ _ _ _ _ a w hdj hI2 K (fun a' w' hJ => hK a' w' ⟨hkeep, ?_⟩)
      rw [getD_set_eq true (by omega)]
      rw [getD_set_ne' (by omega)]
      rw [getD_set_ne' (by omega)]
      rw [getD_set_ne' (by omega)]
      rw [getD_set_ne' (by omega)]
      rw [getD_set_ne' (by omega)]
      exact hJ
    · have hdj := hdeps 4 (by omega) rfl
      rw [hun] at hI2 hdj
      refine wpOp_step hi5 fun K hK => s5 _ _ _ _ _ a w hdj hI2 K (fun a' w' hJ => hK a' w' ⟨hkeep, ?_⟩)
      rw [getD_set_eq true (by omega)]
      rw [getD_set_ne' (by omega)]
      rw [getD_set_ne' (by omega)]
      rw [getD_set_ne' (by omega)]
      rw [getD_set_ne' (by omega)]
      rw [getD_set_ne' (by omega)]
      exact hJ
    · have hdj := hdeps 5 (by omega) rfl
      rw [hun] at hI2 hdj
      refine wpOp_step hi6 fun K hK => s6 _ _ _ _ _ a w hdj hI2 K (fun a' w' hJ => hK a' w' ⟨hkeep, ?_⟩)
      rw [getD_set_eq true (by omega)]
      rw [getD_set_ne' (by omega)]
      rw [getD_set_ne' (by omega)]
      rw [getD_set_ne' (by omega)]
      rw [getD_set_ne' (by omega)]
      rw [getD_set_ne' (by omega)]
      exact hJ
  · intro ls a w hlsz hall hI
    have := hI.2
    rw [hall _ hl1, hall _ hl2, hall _ hl3, hall _ hl4, hall _ hl5, hall _ hl6] at this
    exact hend a w this
  · refine ⟨fun i hi hc => by have := hcov' i hi; rw [hc] at this; simpa using this.symm, ?_⟩
    have g1 : listed.getD i1 true = false := by have := hcov' i1 hl1; simpa using this.symm
    have g2 : listed.getD i2 true = false := by have := hcov' i2 hl2; simpa using this.symm
    have g3 : listed.getD i3 true = false := by have := hcov' i3 hl3; simpa using this.symm
    have g4 : listed.getD i4 true = false := by have := hcov' i4 hl4; simpa using this.symm
    have g5 : listed.getD i5 true = false := by have := hcov' i5 hl5; simpa using this.symm
    have g6 : listed.getD i6 true = false := by have := hcov' i6 hl6; simpa using this.symm
    rw [g1, g2, g3, g4, g5, g6]
    exact h0

/-- A value in its temporary, if its operation has come up. -/
def putB (b : Bool) (d : Option Nat) (v : Value) (a : Act) : Act := bif b then a.put d v else a
/-- b only behind c. -/
def impB (b c : Bool) : Prop := b = true → c = true
theorem impB_true (b : Bool) : impB b true := fun _ => rfl
theorem impB_false (c : Bool) : impB false c := fun h => by cases h
theorem putB_none (b : Bool) (v : Value) (a : Act) : putB b none v a = a := by cases b <;> rfl
theorem putB_some (b : Bool) (d : Nat) (v : Value) (l : List Value) (df : List Deferred) (h : d < l.length) : putB b (some d) v ⟨l.toArray, df⟩ = ⟨(l.set d (bif b then v else l.getD d undef)).toArray, df⟩ := by
  cases b
  · simp only [putB, cond_false]
    congr 1
    apply Array.toList_inj.1
    simp only []
    apply List.ext_getElem?
    intro i
    rw [List.getElem?_set]
    split
    · rename_i e; subst e; simp [h]
    · rfl
  · simp [putB, Act.put]
def dstsApart (o o' : Option Nat) : Bool := match o, o' with
  | some x, some y => x != y
  | _, _ => true
theorem put_apart {o o' : Option Nat} (h : dstsApart o o' = true) (a : Act) (v u : Value) : (a.put o v).put o' u = (a.put o' u).put o v := by
  cases o <;> cases o' <;> try rfl
  rename_i x y
  simp only [dstsApart, bne_iff_ne] at h
  simp only [Act.put, Act.mk.injEq, and_true]
  exact Array.setIfInBounds_comm _ _ h
theorem putB_apart {b : Bool} {o o' : Option Nat} (h : dstsApart o o' = true) (a : Act) (v u : Value) : (putB b o v a).put o' u = putB b o v (a.put o' u) := by
  cases b
  · rfl
  · exact put_apart h a v u
theorem putB_false (o : Option Nat) (v : Value) (a : Act) : putB false o v a = a := rfl
theorem putB_true (o : Option Nat) (v : Value) (a : Act) : putB true o v a = a.put o v := rfl
theorem wpAnyH_put2 {fuel : Nat} {listed : Array Bool} {a : Act} {w : World} (i1 i2 : Nat) {o1 o2 : Oper} (D : List (List Nat)) (J : Bool → Bool → Value → Value → World → Prop)
    (hi : ops[i1]? = some o1 ∧ ops[i2]? = some o2) (hb : backB md ops = true) (hsz : listed.size = ops.size)
    (hcov : ((List.range ops.size).all fun i => [i1, i2].contains i == !listed.getD i true) = true) (hne : ([i1, i2] : List Nat).Nodup) (hfuel : openN listed ≤ fuel)
    (hD : ((List.range 2).all fun j => (D.getD j []).all fun d => waitsB md ops ([i1, i2].getD j 0) ([i1, i2].getD d 0) && decide (d < 2)) = true)
    (hap : dstsApart o1.dst o2.dst = true)
    (hS : ∀ b1 b2 v1 v2 w, J b1 b2 v1 v2 w → S w) (h0 : J false false  undef undef  w)
    (s1 : ∀ b2 v1 v2 w, (D.getD 0 []).all ([false, b2].getD · false) = true → J false b2 v1 v2 w → ∀ K : Act → World → Prop, Shut (∀ v w, J true b2 v v2 w → K ((putB b2 o2.dst v2 a).put o1.dst v) w) → if Region.wanted o1 (yielded ops (putB b2 o2.dst v2 a).tmps) = true then Oper.wp P o1 (putB b2 o2.dst v2 a) w K Q else K ((putB b2 o2.dst v2 a).put o1.dst undef) w)
    (s2 : ∀ b1 v1 v2 w, (D.getD 1 []).all ([b1, false].getD · false) = true → J b1 false v1 v2 w → ∀ K : Act → World → Prop, Shut (∀ v w, J b1 true v1 v w → K ((putB b1 o1.dst v1 a).put o2.dst v) w) → if Region.wanted o2 (yielded ops (putB b1 o1.dst v1 a).tmps) = true then Oper.wp P o2 (putB b1 o1.dst v1 a) w K Q else K ((putB b1 o1.dst v1 a).put o2.dst undef) w)
    (hend : ∀ v1 v2 w, J true true  v1 v2 w → Q .normal (putB true o1.dst v1 (putB true o2.dst v2 a)) w) : wpAnyH P md ops Q S fuel listed a w := by
  try simp only [Bool.and_eq_true] at hap
  have a1_2 := hap
  refine wpAnyH_sep2 i1 i2 D (fun b1 b2 a' w => ∃ v1 v2, a' = (putB b1 o1.dst v1 (putB b2 o2.dst v2 a)) ∧ J b1 b2 v1 v2 w) hi hb hsz hcov hne hfuel hD (fun b1 b2 a w h => by obtain ⟨v1, v2, _, h⟩ := h; exact hS _ _  _ _  w h) ⟨undef, undef, rfl, h0⟩ ?_ ?_  ?_
  · rintro b2 a' w hd ⟨v1, v2, rfl, hJ⟩ K hK
    refine s1 b2 v1 v2 w hd hJ K (fun v w' hJ' => hK.out _ _ ⟨v, v2, ?_, hJ'⟩)
    rfl
  · rintro b1 a' w hd ⟨v1, v2, rfl, hJ⟩ K hK
    refine s2 b1 v1 v2 w hd hJ K (fun v w' hJ' => hK.out _ _ ⟨v1, v, ?_, hJ'⟩)
    rw [putB_apart a1_2]; rfl
  · rintro a' w ⟨v1, v2, rfl, hJ⟩
    exact hend v1 v2 w hJ
theorem wpAnyH_put3 {fuel : Nat} {listed : Array Bool} {a : Act} {w : World} (i1 i2 i3 : Nat) {o1 o2 o3 : Oper} (D : List (List Nat)) (J : Bool → Bool → Bool → Value → Value → Value → World → Prop)
    (hi : ops[i1]? = some o1 ∧ ops[i2]? = some o2 ∧ ops[i3]? = some o3) (hb : backB md ops = true) (hsz : listed.size = ops.size)
    (hcov : ((List.range ops.size).all fun i => [i1, i2, i3].contains i == !listed.getD i true) = true) (hne : ([i1, i2, i3] : List Nat).Nodup) (hfuel : openN listed ≤ fuel)
    (hD : ((List.range 3).all fun j => (D.getD j []).all fun d => waitsB md ops ([i1, i2, i3].getD j 0) ([i1, i2, i3].getD d 0) && decide (d < 3)) = true)
    (hap : (dstsApart o1.dst o2.dst && dstsApart o1.dst o3.dst && dstsApart o2.dst o3.dst) = true)
    (hS : ∀ b1 b2 b3 v1 v2 v3 w, J b1 b2 b3 v1 v2 v3 w → S w) (h0 : J false false false  undef undef undef  w)
    (s1 : ∀ b2 b3 v1 v2 v3 w, (D.getD 0 []).all ([false, b2, b3].getD · false) = true → J false b2 b3 v1 v2 v3 w → ∀ K : Act → World → Prop, Shut (∀ v w, J true b2 b3 v v2 v3 w → K ((putB b2 o2.dst v2 (putB b3 o3.dst v3 a)).put o1.dst v) w) → if Region.wanted o1 (yielded ops (putB b2 o2.dst v2 (putB b3 o3.dst v3 a)).tmps) = true then Oper.wp P o1 (putB b2 o2.dst v2 (putB b3 o3.dst v3 a)) w K Q else K ((putB b2 o2.dst v2 (putB b3 o3.dst v3 a)).put o1.dst undef) w)
    (s2 : ∀ b1 b3 v1 v2 v3 w, (D.getD 1 []).all ([b1, false, b3].getD · false) = true → J b1 false b3 v1 v2 v3 w → ∀ K : Act → World → Prop, Shut (∀ v w, J b1 true b3 v1 v v3 w → K ((putB b1 o1.dst v1 (putB b3 o3.dst v3 a)).put o2.dst v) w) → if Region.wanted o2 (yielded ops (putB b1 o1.dst v1 (putB b3 o3.dst v3 a)).tmps) = true then Oper.wp P o2 (putB b1 o1.dst v1 (putB b3 o3.dst v3 a)) w K Q else K ((putB b1 o1.dst v1 (putB b3 o3.dst v3 a)).put o2.dst undef) w)
    (s3 : ∀ b1 b2 v1 v2 v3 w, (D.getD 2 []).all ([b1, b2, false].getD · false) = true → J b1 b2 false v1 v2 v3 w → ∀ K : Act → World → Prop, Shut (∀ v w, J b1 b2 true v1 v2 v w → K ((putB b1 o1.dst v1 (putB b2 o2.dst v2 a)).put o3.dst v) w) → if Region.wanted o3 (yielded ops (putB b1 o1.dst v1 (putB b2 o2.dst v2 a)).tmps) = true then Oper.wp P o3 (putB b1 o1.dst v1 (putB b2 o2.dst v2 a)) w K Q else K ((putB b1 o1.dst v1 (putB b2 o2.dst v2 a)).put o3.dst undef) w)
    (hend : ∀ v1 v2 v3 w, J true true true  v1 v2 v3 w → Q .normal (putB true o1.dst v1 (putB true o2.dst v2 (putB true o3.dst v3 a))) w) : wpAnyH P md ops Q S fuel listed a w := by
  try simp only [Bool.and_eq_true] at hap
  obtain ⟨⟨a1_2, a1_3⟩, a2_3⟩ := hap
  refine wpAnyH_sep3 i1 i2 i3 D (fun b1 b2 b3 a' w => ∃ v1 v2 v3, a' = (putB b1 o1.dst v1 (putB b2 o2.dst v2 (putB b3 o3.dst v3 a))) ∧ J b1 b2 b3 v1 v2 v3 w) hi hb hsz hcov hne hfuel hD (fun b1 b2 b3 a w h => by obtain ⟨v1, v2, v3, _, h⟩ := h; exact hS _ _ _  _ _ _  w h) ⟨undef, undef, undef, rfl, h0⟩ ?_ ?_ ?_  ?_
  · rintro b2 b3 a' w hd ⟨v1, v2, v3, rfl, hJ⟩ K hK
    refine s1 b2 b3 v1 v2 v3 w hd hJ K (fun v w' hJ' => hK.out _ _ ⟨v, v2, v3, ?_, hJ'⟩)
    rfl
  · rintro b1 b3 a' w hd ⟨v1, v2, v3, rfl, hJ⟩ K hK
    refine s2 b1 b3 v1 v2 v3 w hd hJ K (fun v w' hJ' => hK.out _ _ ⟨v1, v, v3, ?_, hJ'⟩)
    rw [putB_apart a1_2]; rfl
  · rintro b1 b2 a' w hd ⟨v1, v2, v3, rfl, hJ⟩ K hK
    refine s3 b1 b2 v1 v2 v3 w hd hJ K (fun v w' hJ' => hK.out _ _ ⟨v1, v2, v, ?_, hJ'⟩)
    rw [putB_apart a1_3, putB_apart a2_3]; rfl
  · rintro a' w ⟨v1, v2, v3, rfl, hJ⟩
    exact hend v1 v2 v3 w hJ
theorem wpAnyH_put4 {fuel : Nat} {listed : Array Bool} {a : Act} {w : World} (i1 i2 i3 i4 : Nat) {o1 o2 o3 o4 : Oper} (D : List (List Nat)) (J : Bool → Bool → Bool → Bool → Value → Value → Value → Value → World → Prop)
    (hi : ops[i1]? = some o1 ∧ ops[i2]? = some o2 ∧ ops[i3]? = some o3 ∧ ops[i4]? = some o4) (hb : backB md ops = true) (hsz : listed.size = ops.size)
    (hcov : ((List.range ops.size).all fun i => [i1, i2, i3, i4].contains i == !listed.getD i true) = true) (hne : ([i1, i2, i3, i4] : List Nat).Nodup) (hfuel : openN listed ≤ fuel)
    (hD : ((List.range 4).all fun j => (D.getD j []).all fun d => waitsB md ops ([i1, i2, i3, i4].getD j 0) ([i1, i2, i3, i4].getD d 0) && decide (d < 4)) = true)
    (hap : (dstsApart o1.dst o2.dst && dstsApart o1.dst o3.dst && dstsApart o1.dst o4.dst && dstsApart o2.dst o3.dst && dstsApart o2.dst o4.dst && dstsApart o3.dst o4.dst) = true)
    (hS : ∀ b1 b2 b3 b4 v1 v2 v3 v4 w, J b1 b2 b3 b4 v1 v2 v3 v4 w → S w) (h0 : J false false false false  undef undef undef undef  w)
    (s1 : ∀ b2 b3 b4 v1 v2 v3 v4 w, (D.getD 0 []).all ([false, b2, b3, b4].getD · false) = true → J false b2 b3 b4 v1 v2 v3 v4 w → ∀ K : Act → World → Prop, Shut (∀ v w, J true b2 b3 b4 v v2 v3 v4 w → K ((putB b2 o2.dst v2 (putB b3 o3.dst v3 (putB b4 o4.dst v4 a))).put o1.dst v) w) → if Region.wanted o1 (yielded ops (putB b2 o2.dst v2 (putB b3 o3.dst v3 (putB b4 o4.dst v4 a))).tmps) = true then Oper.wp P o1 (putB b2 o2.dst v2 (putB b3 o3.dst v3 (putB b4 o4.dst v4 a))) w K Q else K ((putB b2 o2.dst v2 (putB b3 o3.dst v3 (putB b4 o4.dst v4 a))).put o1.dst undef) w)
    (s2 : ∀ b1 b3 b4 v1 v2 v3 v4 w, (D.getD 1 []).all ([b1, false, b3, b4].getD · false) = true → J b1 false b3 b4 v1 v2 v3 v4 w → ∀ K : Act → World → Prop, Shut (∀ v w, J b1 true b3 b4 v1 v v3 v4 w → K ((putB b1 o1.dst v1 (putB b3 o3.dst v3 (putB b4 o4.dst v4 a))).put o2.dst v) w) → if Region.wanted o2 (yielded ops (putB b1 o1.dst v1 (putB b3 o3.dst v3 (putB b4 o4.dst v4 a))).tmps) = true then Oper.wp P o2 (putB b1 o1.dst v1 (putB b3 o3.dst v3 (putB b4 o4.dst v4 a))) w K Q else K ((putB b1 o1.dst v1 (putB b3 o3.dst v3 (putB b4 o4.dst v4 a))).put o2.dst undef) w)
    (s3 : ∀ b1 b2 b4 v1 v2 v3 v4 w, (D.getD 2 []).all ([b1, b2, false, b4].getD · false) = true → J b1 b2 false b4 v1 v2 v3 v4 w → ∀ K : Act → World → Prop, Shut (∀ v w, J b1 b2 true b4 v1 v2 v v4 w → K ((putB b1 o1.dst v1 (putB b2 o2.dst v2 (putB b4 o4.dst v4 a))).put o3.dst v) w) → if Region.wanted o3 (yielded ops (putB b1 o1.dst v1 (putB b2 o2.dst v2 (putB b4 o4.dst v4 a))).tmps) = true then Oper.wp P o3 (putB b1 o1.dst v1 (putB b2 o2.dst v2 (putB b4 o4.dst v4 a))) w K Q else K ((putB b1 o1.dst v1 (putB b2 o2.dst v2 (putB b4 o4.dst v4 a))).put o3.dst undef) w)
    (s4 : ∀ b1 b2 b3 v1 v2 v3 v4 w, (D.getD 3 []).all ([b1, b2, b3, false].getD · false) = true → J b1 b2 b3 false v1 v2 v3 v4 w → ∀ K : Act → World → Prop, Shut (∀ v w, J b1 b2 b3 true v1 v2 v3 v w → K ((putB b1 o1.dst v1 (putB b2 o2.dst v2 (putB b3 o3.dst v3 a))).put o4.dst v) w) → if Region.wanted o4 (yielded ops (putB b1 o1.dst v1 (putB b2 o2.dst v2 (putB b3 o3.dst v3 a))).tmps) = true then Oper.wp P o4 (putB b1 o1.dst v1 (putB b2 o2.dst v2 (putB b3 o3.dst v3 a))) w K Q else K ((putB b1 o1.dst v1 (putB b2 o2.dst v2 (putB b3 o3.dst v3 a))).put o4.dst undef) w)
    (hend : ∀ v1 v2 v3 v4 w, J true true true true  v1 v2 v3 v4 w → Q .normal (putB true o1.dst v1 (putB true o2.dst v2 (putB true o3.dst v3 (putB true o4.dst v4 a)))) w) : wpAnyH P md ops Q S fuel listed a w := by
  try simp only [Bool.and_eq_true] at hap
  obtain ⟨⟨⟨⟨⟨a1_2, a1_3⟩, a1_4⟩, a2_3⟩, a2_4⟩, a3_4⟩ := hap
  refine wpAnyH_sep4 i1 i2 i3 i4 D (fun b1 b2 b3 b4 a' w => ∃ v1 v2 v3 v4, a' = (putB b1 o1.dst v1 (putB b2 o2.dst v2 (putB b3 o3.dst v3 (putB b4 o4.dst v4 a)))) ∧ J b1 b2 b3 b4 v1 v2 v3 v4 w) hi hb hsz hcov hne hfuel hD (fun b1 b2 b3 b4 a w h => by obtain ⟨v1, v2, v3, v4, _, h⟩ := h; exact hS _ _ _ _  _ _ _ _  w h) ⟨undef, undef, undef, undef, rfl, h0⟩ ?_ ?_ ?_ ?_  ?_
  · rintro b2 b3 b4 a' w hd ⟨v1, v2, v3, v4, rfl, hJ⟩ K hK
    refine s1 b2 b3 b4 v1 v2 v3 v4 w hd hJ K (fun v w' hJ' => hK.out _ _ ⟨v, v2, v3, v4, ?_, hJ'⟩)
    rfl
  · rintro b1 b3 b4 a' w hd ⟨v1, v2, v3, v4, rfl, hJ⟩ K hK
    refine s2 b1 b3 b4 v1 v2 v3 v4 w hd hJ K (fun v w' hJ' => hK.out _ _ ⟨v1, v, v3, v4, ?_, hJ'⟩)
    rw [putB_apart a1_2]; rfl
  · rintro b1 b2 b4 a' w hd ⟨v1, v2, v3, v4, rfl, hJ⟩ K hK
    refine s3 b1 b2 b4 v1 v2 v3 v4 w hd hJ K (fun v w' hJ' => hK.out _ _ ⟨v1, v2, v, v4, ?_, hJ'⟩)
    rw [putB_apart a1_3, putB_apart a2_3]; rfl
  · rintro b1 b2 b3 a' w hd ⟨v1, v2, v3, v4, rfl, hJ⟩ K hK
    refine s4 b1 b2 b3 v1 v2 v3 v4 w hd hJ K (fun v w' hJ' => hK.out _ _ ⟨v1, v2, v3, v, ?_, hJ'⟩)
    rw [putB_apart a1_4, putB_apart a2_4, putB_apart a3_4]; rfl
  · rintro a' w ⟨v1, v2, v3, v4, rfl, hJ⟩
    exact hend v1 v2 v3 v4 w hJ
theorem wpAnyH_put5 {fuel : Nat} {listed : Array Bool} {a : Act} {w : World} (i1 i2 i3 i4 i5 : Nat) {o1 o2 o3 o4 o5 : Oper} (D : List (List Nat)) (J : Bool → Bool → Bool → Bool → Bool → Value → Value → Value → Value → Value → World → Prop)
    (hi : ops[i1]? = some o1 ∧ ops[i2]? = some o2 ∧ ops[i3]? = some o3 ∧ ops[i4]? = some o4 ∧ ops[i5]? = some o5) (hb : backB md ops = true) (hsz : listed.size = ops.size)
    (hcov : ((List.range ops.size).all fun i => [i1, i2, i3, i4, i5].contains i == !listed.getD i true) = true) (hne : ([i1, i2, i3, i4, i5] : List Nat).Nodup) (hfuel : openN listed ≤ fuel)
    (hD : ((List.range 5).all fun j => (D.getD j []).all fun d => waitsB md ops ([i1, i2, i3, i4, i5].getD j 0) ([i1, i2, i3, i4, i5].getD d 0) && decide (d < 5)) = true)
    (hap : (dstsApart o1.dst o2.dst && dstsApart o1.dst o3.dst && dstsApart o1.dst o4.dst && dstsApart o1.dst o5.dst && dstsApart o2.dst o3.dst && dstsApart o2.dst o4.dst && dstsApart o2.dst o5.dst && dstsApart o3.dst o4.dst && dstsApart o3.dst o5.dst && dstsApart o4.dst o5.dst) = true)
    (hS : ∀ b1 b2 b3 b4 b5 v1 v2 v3 v4 v5 w, J b1 b2 b3 b4 b5 v1 v2 v3 v4 v5 w → S w) (h0 : J false false false false false  undef undef undef undef undef  w)
    (s1 : ∀ b2 b3 b4 b5 v1 v2 v3 v4 v5 w, (D.getD 0 []).all ([false, b2, b3, b4, b5].getD · false) = true → J false b2 b3 b4 b5 v1 v2 v3 v4 v5 w → ∀ K : Act → World → Prop, Shut (∀ v w, J true b2 b3 b4 b5 v v2 v3 v4 v5 w → K ((putB b2 o2.dst v2 (putB b3 o3.dst v3 (putB b4 o4.dst v4 (putB b5 o5.dst v5 a)))).put o1.dst v) w) → if Region.wanted o1 (yielded ops (putB b2 o2.dst v2 (putB b3 o3.dst v3 (putB b4 o4.dst v4 (putB b5 o5.dst v5 a)))).tmps) = true then Oper.wp P o1 (putB b2 o2.dst v2 (putB b3 o3.dst v3 (putB b4 o4.dst v4 (putB b5 o5.dst v5 a)))) w K Q else K ((putB b2 o2.dst v2 (putB b3 o3.dst v3 (putB b4 o4.dst v4 (putB b5 o5.dst v5 a)))).put o1.dst undef) w)
    (s2 : ∀ b1 b3 b4 b5 v1 v2 v3 v4 v5 w, (D.getD 1 []).all ([b1, false, b3, b4, b5].getD · false) = true → J b1 false b3 b4 b5 v1 v2 v3 v4 v5 w → ∀ K : Act → World → Prop, Shut (∀ v w, J b1 true b3 b4 b5 v1 v v3 v4 v5 w → K ((putB b1 o1.dst v1 (putB b3 o3.dst v3 (putB b4 o4.dst v4 (putB b5 o5.dst v5 a)))).put o2.dst v) w) → if Region.wanted o2 (yielded ops (putB b1 o1.dst v1 (putB b3 o3.dst v3 (putB b4 o4.dst v4 (putB b5 o5.dst v5 a)))).tmps) = true then Oper.wp P o2 (putB b1 o1.dst v1 (putB b3 o3.dst v3 (putB b4 o4.dst v4 (putB b5 o5.dst v5 a)))) w K Q else K ((putB b1 o1.dst v1 (putB b3 o3.dst v3 (putB b4 o4.dst v4 (putB b5 o5.dst v5 a)))).put o2.dst undef) w)
    (s3 : ∀ b1 b2 b4 b5 v1 v2 v3 v4 v5 w, (D.getD 2 []).all ([b1, b2, false, b4, b5].getD · false) = true → J b1 b2 false b4 b5 v1 v2 v3 v4 v5 w → ∀ K : Act → World → Prop, Shut (∀ v w, J b1 b2 true b4 b5 v1 v2 v v4 v5 w → K ((putB b1 o1.dst v1 (putB b2 o2.dst v2 (putB b4 o4.dst v4 (putB b5 o5.dst v5 a)))).put o3.dst v) w) → if Region.wanted o3 (yielded ops (putB b1 o1.dst v1 (putB b2 o2.dst v2 (putB b4 o4.dst v4 (putB b5 o5.dst v5 a)))).tmps) = true then Oper.wp P o3 (putB b1 o1.dst v1 (putB b2 o2.dst v2 (putB b4 o4.dst v4 (putB b5 o5.dst v5 a)))) w K Q else K ((putB b1 o1.dst v1 (putB b2 o2.dst v2 (putB b4 o4.dst v4 (putB b5 o5.dst v5 a)))).put o3.dst undef) w)
    (s4 : ∀ b1 b2 b3 b5 v1 v2 v3 v4 v5 w, (D.getD 3 []).all ([b1, b2, b3, false, b5].getD · false) = true → J b1 b2 b3 false b5 v1 v2 v3 v4 v5 w → ∀ K : Act → World → Prop, Shut (∀ v w, J b1 b2 b3 true b5 v1 v2 v3 v v5 w → K ((putB b1 o1.dst v1 (putB b2 o2.dst v2 (putB b3 o3.dst v3 (putB b5 o5.dst v5 a)))).put o4.dst v) w) → if Region.wanted o4 (yielded ops (putB b1 o1.dst v1 (putB b2 o2.dst v2 (putB b3 o3.dst v3 (putB b5 o5.dst v5 a)))).tmps) = true then Oper.wp P o4 (putB b1 o1.dst v1 (putB b2 o2.dst v2 (putB b3 o3.dst v3 (putB b5 o5.dst v5 a)))) w K Q else K ((putB b1 o1.dst v1 (putB b2 o2.dst v2 (putB b3 o3.dst v3 (putB b5 o5.dst v5 a)))).put o4.dst undef) w)
    (s5 : ∀ b1 b2 b3 b4 v1 v2 v3 v4 v5 w, (D.getD 4 []).all ([b1, b2, b3, b4, false].getD · false) = true → J b1 b2 b3 b4 false v1 v2 v3 v4 v5 w → ∀ K : Act → World → Prop, Shut (∀ v w, J b1 b2 b3 b4 true v1 v2 v3 v4 v w → K ((putB b1 o1.dst v1 (putB b2 o2.dst v2 (putB b3 o3.dst v3 (putB b4 o4.dst v4 a)))).put o5.dst v) w) → if Region.wanted o5 (yielded ops (putB b1 o1.dst v1 (putB b2 o2.dst v2 (putB b3 o3.dst v3 (putB b4 o4.dst v4 a)))).tmps) = true then Oper.wp P o5 (putB b1 o1.dst v1 (putB b2 o2.dst v2 (putB b3 o3.dst v3 (putB b4 o4.dst v4 a)))) w K Q else K ((putB b1 o1.dst v1 (putB b2 o2.dst v2 (putB b3 o3.dst v3 (putB b4 o4.dst v4 a)))).put o5.dst undef) w)
    (hend : ∀ v1 v2 v3 v4 v5 w, J true true true true true  v1 v2 v3 v4 v5 w → Q .normal (putB true o1.dst v1 (putB true o2.dst v2 (putB true o3.dst v3 (putB true o4.dst v4 (putB true o5.dst v5 a))))) w) : wpAnyH P md ops Q S fuel listed a w := by
  try simp only [Bool.and_eq_true] at hap
  obtain ⟨⟨⟨⟨⟨⟨⟨⟨⟨a1_2, a1_3⟩, a1_4⟩, a1_5⟩, a2_3⟩, a2_4⟩, a2_5⟩, a3_4⟩, a3_5⟩, a4_5⟩ := hap
  refine wpAnyH_sep5 i1 i2 i3 i4 i5 D (fun b1 b2 b3 b4 b5 a' w => ∃ v1 v2 v3 v4 v5, a' = (putB b1 o1.dst v1 (putB b2 o2.dst v2 (putB b3 o3.dst v3 (putB b4 o4.dst v4 (putB b5 o5.dst v5 a))))) ∧ J b1 b2 b3 b4 b5 v1 v2 v3 v4 v5 w) hi hb hsz hcov hne hfuel hD (fun b1 b2 b3 b4 b5 a w h => by obtain ⟨v1, v2, v3, v4, v5, _, h⟩ := h; exact hS _ _ _ _ _  _ _ _ _ _  w h) ⟨undef, undef, undef, undef, undef, rfl, h0⟩ ?_ ?_ ?_ ?_ ?_  ?_
  · rintro b2 b3 b4 b5 a' w hd ⟨v1, v2, v3, v4, v5, rfl, hJ⟩ K hK
    refine s1 b2 b3 b4 b5 v1 v2 v3 v4 v5 w hd hJ K (fun v w' hJ' => hK.out _ _ ⟨v, v2, v3, v4, v5, ?_, hJ'⟩)
    rfl
  · rintro b1 b3 b4 b5 a' w hd ⟨v1, v2, v3, v4, v5, rfl, hJ⟩ K hK
    refine s2 b1 b3 b4 b5 v1 v2 v3 v4 v5 w hd hJ K (fun v w' hJ' => hK.out _ _ ⟨v1, v, v3, v4, v5, ?_, hJ'⟩)
    rw [putB_apart a1_2]; rfl
  · rintro b1 b2 b4 b5 a' w hd ⟨v1, v2, v3, v4, v5, rfl, hJ⟩ K hK
    refine s3 b1 b2 b4 b5 v1 v2 v3 v4 v5 w hd hJ K (fun v w' hJ' => hK.out _ _ ⟨v1, v2, v, v4, v5, ?_, hJ'⟩)
    rw [putB_apart a1_3, putB_apart a2_3]; rfl
  · rintro b1 b2 b3 b5 a' w hd ⟨v1, v2, v3, v4, v5, rfl, hJ⟩ K hK
    refine s4 b1 b2 b3 b5 v1 v2 v3 v4 v5 w hd hJ K (fun v w' hJ' => hK.out _ _ ⟨v1, v2, v3, v, v5, ?_, hJ'⟩)
    rw [putB_apart a1_4, putB_apart a2_4, putB_apart a3_4]; rfl
  · rintro b1 b2 b3 b4 a' w hd ⟨v1, v2, v3, v4, v5, rfl, hJ⟩ K hK
    refine s5 b1 b2 b3 b4 v1 v2 v3 v4 v5 w hd hJ K (fun v w' hJ' => hK.out _ _ ⟨v1, v2, v3, v4, v, ?_, hJ'⟩)
    rw [putB_apart a1_5, putB_apart a2_5, putB_apart a3_5, putB_apart a4_5]; rfl
  · rintro a' w ⟨v1, v2, v3, v4, v5, rfl, hJ⟩
    exact hend v1 v2 v3 v4 v5 w hJ
theorem wpAnyH_put6 {fuel : Nat} {listed : Array Bool} {a : Act} {w : World} (i1 i2 i3 i4 i5 i6 : Nat) {o1 o2 o3 o4 o5 o6 : Oper} (D : List (List Nat)) (J : Bool → Bool → Bool → Bool → Bool → Bool → Value → Value → Value → Value → Value → Value → World → Prop)
    (hi : ops[i1]? = some o1 ∧ ops[i2]? = some o2 ∧ ops[i3]? = some o3 ∧ ops[i4]? = some o4 ∧ ops[i5]? = some o5 ∧ ops[i6]? = some o6) (hb : backB md ops = true) (hsz : listed.size = ops.size)
    (hcov : ((List.range ops.size).all fun i => [i1, i2, i3, i4, i5, i6].contains i == !listed.getD i true) = true) (hne : ([i1, i2, i3, i4, i5, i6] : List Nat).Nodup) (hfuel : openN listed ≤ fuel)
    (hD : ((List.range 6).all fun j => (D.getD j []).all fun d => waitsB md ops ([i1, i2, i3, i4, i5, i6].getD j 0) ([i1, i2, i3, i4, i5, i6].getD d 0) && decide (d < 6)) = true)
    (hap : (dstsApart o1.dst o2.dst && dstsApart o1.dst o3.dst && dstsApart o1.dst o4.dst && dstsApart o1.dst o5.dst && dstsApart o1.dst o6.dst && dstsApart o2.dst o3.dst && dstsApart o2.dst o4.dst && dstsApart o2.dst o5.dst && dstsApart o2.dst o6.dst && dstsApart o3.dst o4.dst && dstsApart o3.dst o5.dst && dstsApart o3.dst o6.dst && dstsApart o4.dst o5.dst && dstsApart o4.dst o6.dst && dstsApart o5.dst o6.dst) = true)
    (hS : ∀ b1 b2 b3 b4 b5 b6 v1 v2 v3 v4 v5 v6 w, J b1 b2 b3 b4 b5 b6 v1 v2 v3 v4 v5 v6 w → S w) (h0 : J false false false false false false  undef undef undef undef undef undef  w)
    (s1 : ∀ b2 b3 b4 b5 b6 v1 v2 v3 v4 v5 v6 w, (D.getD 0 []).all ([false, b2, b3, b4, b5, b6].getD · false) = true → J false b2 b3 b4 b5 b6 v1 v2 v3 v4 v5 v6 w → ∀ K : Act → World → Prop, Shut (∀ v w, J true b2 b3 b4 b5 b6 v v2 v3 v4 v5 v6 w → K ((putB b2 o2.dst v2 (putB b3 o3.dst v3 (putB b4 o4.dst v4 (putB b5 o5.dst v5 (putB b6 o6.dst v6 a))))).put o1.dst v) w) → if Region.wanted o1 (yielded ops (putB b2 o2.dst v2 (putB b3 o3.dst v3 (putB b4 o4.dst v4 (putB b5 o5.dst v5 (putB b6 o6.dst v6 a))))).tmps) = true then Oper.wp P o1 (putB b2 o2.dst v2 (putB b3 o3.dst v3 (putB b4 o4.dst v4 (putB b5 o5.dst v5 (putB b6 o6.dst v6 a))))) w K Q else K ((putB b2 o2.dst v2 (putB b3 o3.dst v3 (putB b4 o4.dst v4 (putB b5 o5.dst v5 (putB b6 o6.dst v6 a))))).put o1.dst undef) w)
    (s2 : ∀ b1 b3 b4 b5 b6 v1 v2 v3 v4 v5 v6 w, (D.getD 1 []).all ([b1, false, b3, b4, b5, b6].getD · false) = true → J b1 false b3 b4 b5 b6 v1 v2 v3 v4 v5 v6 w → ∀ K : Act → World → Prop, Shut (∀ v w, J b1 true b3 b4 b5 b6 v1 v v3 v4 v5 v6 w → K ((putB b1 o1.dst v1 (putB b3 o3.dst v3 (putB b4 o4.dst v4 (putB b5 o5.dst v5 (putB b6 o6.dst v6 a))))).put o2.dst v) w) → if Region.wanted o2 (yielded ops (putB b1 o1.dst v1 (putB b3 o3.dst v3 (putB b4 o4.dst v4 (putB b5 o5.dst v5 (putB b6 o6.dst v6 a))))).tmps) = true then Oper.wp P o2 (putB b1 o1.dst v1 (putB b3 o3.dst v3 (putB b4 o4.dst v4 (putB b5 o5.dst v5 (putB b6 o6.dst v6 a))))) w K Q else K ((putB b1 o1.dst v1 (putB b3 o3.dst v3 (putB b4 o4.dst v4 (putB b5 o5.dst v5 (putB b6 o6.dst v6 a))))).put o2.dst undef) w)
    (s3 : ∀ b1 b2 b4 b5 b6 v1 v2 v3 v4 v5 v6 w, (D.getD 2 []).all ([b1, b2, false, b4, b5, b6].getD · false) = true → J b1 b2 false b4 b5 b6 v1 v2 v3 v4 v5 v6 w → ∀ K : Act → World → Prop, Shut (∀ v w, J b1 b2 true b4 b5 b6 v1 v2 v v4 v5 v6 w → K ((putB b1 o1.dst v1 (putB b2 o2.dst v2 (putB b4 o4.dst v4 (putB b5 o5.dst v5 (putB b6 o6.dst v6 a))))).put o3.dst v) w) → if Region.wanted o3 (yielded ops (putB b1 o1.dst v1 (putB b2 o2.dst v2 (putB b4 o4.dst v4 (putB b5 o5.dst v5 (putB b6 o6.dst v6 a))))).tmps) = true then Oper.wp P o3 (putB b1 o1.dst v1 (putB b2 o2.dst v2 (putB b4 o4.dst v4 (putB b5 o5.dst v5 (putB b6 o6.dst v6 a))))) w K Q else K ((putB b1 o1.dst v1 (putB b2 o2.dst v2 (putB b4 o4.dst v4 (putB b5 o5.dst v5 (putB b6 o6.dst v6 a))))).put o3.dst undef) w)
    (s4 : ∀ b1 b2 b3 b5 b6 v1 v2 v3 v4 v5 v6 w, (D.getD 3 []).all ([b1, b2, b3, false, b5, b6].getD · false) = true → J b1 b2 b3 false b5 b6 v1 v2 v3 v4 v5 v6 w → ∀ K : Act → World → Prop, Shut (∀ v w, J b1 b2 b3 true b5 b6 v1 v2 v3 v v5 v6 w → K ((putB b1 o1.dst v1 (putB b2 o2.dst v2 (putB b3 o3.dst v3 (putB b5 o5.dst v5 (putB b6 o6.dst v6 a))))).put o4.dst v) w) → if Region.wanted o4 (yielded ops (putB b1 o1.dst v1 (putB b2 o2.dst v2 (putB b3 o3.dst v3 (putB b5 o5.dst v5 (putB b6 o6.dst v6 a))))).tmps) = true then Oper.wp P o4 (putB b1 o1.dst v1 (putB b2 o2.dst v2 (putB b3 o3.dst v3 (putB b5 o5.dst v5 (putB b6 o6.dst v6 a))))) w K Q else K ((putB b1 o1.dst v1 (putB b2 o2.dst v2 (putB b3 o3.dst v3 (putB b5 o5.dst v5 (putB b6 o6.dst v6 a))))).put o4.dst undef) w)
    (s5 : ∀ b1 b2 b3 b4 b6 v1 v2 v3 v4 v5 v6 w, (D.getD 4 []).all ([b1, b2, b3, b4, false, b6].getD · false) = true → J b1 b2 b3 b4 false b6 v1 v2 v3 v4 v5 v6 w → ∀ K : Act → World → Prop, Shut (∀ v w, J b1 b2 b3 b4 true b6 v1 v2 v3 v4 v v6 w → K ((putB b1 o1.dst v1 (putB b2 o2.dst v2 (putB b3 o3.dst v3 (putB b4 o4.dst v4 (putB b6 o6.dst v6 a))))).put o5.dst v) w) → if Region.wanted o5 (yielded ops (putB b1 o1.dst v1 (putB b2 o2.dst v2 (putB b3 o3.dst v3 (putB b4 o4.dst v4 (putB b6 o6.dst v6 a))))).tmps) = true then Oper.wp P o5 (putB b1 o1.dst v1 (putB b2 o2.dst v2 (putB b3 o3.dst v3 (putB b4 o4.dst v4 (putB b6 o6.dst v6 a))))) w K Q else K ((putB b1 o1.dst v1 (putB b2 o2.dst v2 (putB b3 o3.dst v3 (putB b4 o4.dst v4 (putB b6 o6.dst v6 a))))).put o5.dst undef) w)
    (s6 : ∀ b1 b2 b3 b4 b5 v1 v2 v3 v4 v5 v6 w, (D.getD 5 []).all ([b1, b2, b3, b4, b5, false].getD · false) = true → J b1 b2 b3 b4 b5 false v1 v2 v3 v4 v5 v6 w → ∀ K : Act → World → Prop, Shut (∀ v w, J b1 b2 b3 b4 b5 true v1 v2 v3 v4 v5 v w → K ((putB b1 o1.dst v1 (putB b2 o2.dst v2 (putB b3 o3.dst v3 (putB b4 o4.dst v4 (putB b5 o5.dst v5 a))))).put o6.dst v) w) → if Region.wanted o6 (yielded ops (putB b1 o1.dst v1 (putB b2 o2.dst v2 (putB b3 o3.dst v3 (putB b4 o4.dst v4 (putB b5 o5.dst v5 a))))).tmps) = true then Oper.wp P o6 (putB b1 o1.dst v1 (putB b2 o2.dst v2 (putB b3 o3.dst v3 (putB b4 o4.dst v4 (putB b5 o5.dst v5 a))))) w K Q else K ((putB b1 o1.dst v1 (putB b2 o2.dst v2 (putB b3 o3.dst v3 (putB b4 o4.dst v4 (putB b5 o5.dst v5 a))))).put o6.dst undef) w)
    (hend : ∀ v1 v2 v3 v4 v5 v6 w, J true true true true true true  v1 v2 v3 v4 v5 v6 w → Q .normal (putB true o1.dst v1 (putB true o2.dst v2 (putB true o3.dst v3 (putB true o4.dst v4 (putB true o5.dst v5 (putB true o6.dst v6 a)))))) w) : wpAnyH P md ops Q S fuel listed a w := by
  try simp only [Bool.and_eq_true] at hap
  obtain ⟨⟨⟨⟨⟨⟨⟨⟨⟨⟨⟨⟨⟨⟨a1_2, a1_3⟩, a1_4⟩, a1_5⟩, a1_6⟩, a2_3⟩, a2_4⟩, a2_5⟩, a2_6⟩, a3_4⟩, a3_5⟩, a3_6⟩, a4_5⟩, a4_6⟩, a5_6⟩ := hap
  refine wpAnyH_sep6 i1 i2 i3 i4 i5 i6 D (fun b1 b2 b3 b4 b5 b6 a' w => ∃ v1 v2 v3 v4 v5 v6, a' = (putB b1 o1.dst v1 (putB b2 o2.dst v2 (putB b3 o3.dst v3 (putB b4 o4.dst v4 (putB b5 o5.dst v5 (putB b6 o6.dst v6 a)))))) ∧ J b1 b2 b3 b4 b5 b6 v1 v2 v3 v4 v5 v6 w) hi hb hsz hcov hne hfuel hD (fun b1 b2 b3 b4 b5 b6 a w h => by obtain ⟨v1, v2, v3, v4, v5, v6, _, h⟩ := h; exact hS _ _ _ _ _ _  _ _ _ _ _ _  w h) ⟨undef, undef, undef, undef, undef, undef, rfl, h0⟩ ?_ ?_ ?_ ?_ ?_ ?_  ?_
  · rintro b2 b3 b4 b5 b6 a' w hd ⟨v1, v2, v3, v4, v5, v6, rfl, hJ⟩ K hK
    refine s1 b2 b3 b4 b5 b6 v1 v2 v3 v4 v5 v6 w hd hJ K (fun v w' hJ' => hK.out _ _ ⟨v, v2, v3, v4, v5, v6, ?_, hJ'⟩)
    rfl
  · rintro b1 b3 b4 b5 b6 a' w hd ⟨v1, v2, v3, v4, v5, v6, rfl, hJ⟩ K hK
    refine s2 b1 b3 b4 b5 b6 v1 v2 v3 v4 v5 v6 w hd hJ K (fun v w' hJ' => hK.out _ _ ⟨v1, v, v3, v4, v5, v6, ?_, hJ'⟩)
    rw [putB_apart a1_2]; rfl
  · rintro b1 b2 b4 b5 b6 a' w hd ⟨v1, v2, v3, v4, v5, v6, rfl, hJ⟩ K hK
    refine s3 b1 b2 b4 b5 b6 v1 v2 v3 v4 v5 v6 w hd hJ K (fun v w' hJ' => hK.out _ _ ⟨v1, v2, v, v4, v5, v6, ?_, hJ'⟩)
    rw [putB_apart a1_3, putB_apart a2_3]; rfl
  · rintro b1 b2 b3 b5 b6 a' w hd ⟨v1, v2, v3, v4, v5, v6, rfl, hJ⟩ K hK
    refine s4 b1 b2 b3 b5 b6 v1 v2 v3 v4 v5 v6 w hd hJ K (fun v w' hJ' => hK.out _ _ ⟨v1, v2, v3, v, v5, v6, ?_, hJ'⟩)
    rw [putB_apart a1_4, putB_apart a2_4, putB_apart a3_4]; rfl
  · rintro b1 b2 b3 b4 b6 a' w hd ⟨v1, v2, v3, v4, v5, v6, rfl, hJ⟩ K hK
    refine s5 b1 b2 b3 b4 b6 v1 v2 v3 v4 v5 v6 w hd hJ K (fun v w' hJ' => hK.out _ _ ⟨v1, v2, v3, v4, v, v6, ?_, hJ'⟩)
    rw [putB_apart a1_5, putB_apart a2_5, putB_apart a3_5, putB_apart a4_5]; rfl
  · rintro b1 b2 b3 b4 b5 a' w hd ⟨v1, v2, v3, v4, v5, v6, rfl, hJ⟩ K hK
    refine s6 b1 b2 b3 b4 b5 v1 v2 v3 v4 v5 v6 w hd hJ K (fun v w' hJ' => hK.out _ _ ⟨v1, v2, v3, v4, v5, v, ?_, hJ'⟩)
    rw [putB_apart a1_6, putB_apart a2_6, putB_apart a3_6, putB_apart a4_6, putB_apart a5_6]; rfl
  · rintro a' w ⟨v1, v2, v3, v4, v5, v6, rfl, hJ⟩
    exact hend v1 v2 v3 v4 v5 v6 w hJ
end
end Go.Hs
set_option linter.unusedSimpArgs false
set_option linter.unusedVariables false
set_option maxHeartbeats 2000000
set_option maxRecDepth 100000
namespace Go.Proofs.Ytjicjadibaomkaa
open Go.RowKit Go.Hs Go.Dg

/-- A slice of texts, which is only read. -/
def Strs (h : Array Obj) (v : Value) (ls : List ByteArray) : Prop :=
  ls = [] ∧ (∃ ao cap, v = .slice ao 0 cap) ∨ ∃ b off cap cs t fr, v = .slice (some ⟨b, off, none⟩) ls.length cap ∧ h[b]? = some (.cells cs t fr) ∧ ∀ (k : Nat) s, ls[k]? = some s → cs[off + k]? = some (.string s)
theorem Strs.form {h : Array Obj} {v : Value} {ls : List ByteArray} (s : Strs h v ls) : ∃ ao cap, v = .slice ao ls.length cap := by
  rcases s with ⟨rfl, ao, cap, rfl⟩ | ⟨b, off, cap, cs, t, fr, rfl, _⟩
  · exact ⟨ao, cap, rfl⟩
  · exact ⟨_, _, rfl⟩
theorem Strs.ext {w w' : World} {F : List Nat} {v : Value} {ls : List ByteArray} (s : Strs w.heap v ls) (x : Ext F w w') (hF : ∀ g ∈ F, ∀ cs t fr, w.heap[g]? = some (.cells cs t fr) → ∀ (k : Nat) u, cs[k]? ≠ some (.string u)) : Strs w'.heap v ls := by
  rcases s with h | ⟨b, off, cap, cs, t, fr, rfl, hb, hc⟩
  · exact .inl h
  · by_cases hl : ls = []
    · subst hl; exact .inl ⟨rfl, _, _, rfl⟩
    · refine .inr ⟨b, off, cap, cs, t, fr, rfl, x.same hb fun hm => ?_, hc⟩
      obtain ⟨a, l, rfl⟩ := List.exists_cons_of_ne_nil hl
      exact hF b hm _ _ _ hb _ _ (hc 0 a rfl)
theorem TAt.noStr {w : World} {T M n floor : Nat} {l : List (Pl × ByteArray)} (t : TAt w.heap T M n floor l) : ∀ g ∈ [T, M], ∀ cs ty fr, w.heap[g]? = some (.cells cs ty fr) → ∀ (k : Nat) u, cs[k]? ≠ some (.string u) := by
  intro g hg cs ty fr hb k u
  simp only [List.mem_cons, List.not_mem_nil, or_false] at hg
  rcases hg with rfl | rfl
  · rw [t.cells] at hb
    simp only [Option.some.injEq, Obj.cells.injEq] at hb
    rw [← hb.1]
    match k with
    | 0 => simp
    | 1 => simp
    | 2 => simp
    | k + 3 => simp
  · exact absurd rfl (t.map.ne hb)
theorem and1 (n : Int) : Go.bits .and .i64 n 1 = n % 2 := by
  have h127 : (BitVec.ofInt 64 1).toNat = 2 ^ 1 - 1 := by decide
  have key : (BitVec.ofInt 64 n &&& BitVec.ofInt 64 1).toNat = (n % ((2 ^ 64 : Nat) : Int)).toNat % 2 ^ 1 := by
    rw [BitVec.toNat_and, BitVec.toNat_ofInt, h127, Nat.and_two_pow_sub_one_eq_mod]
  show IntKind.i64.wrap ((BitVec.ofInt 64 n &&& BitVec.ofInt 64 1).toNat : Nat) = n % 2
  rw [key, IntKind.wrap_i64]
  omega
theorem zeroSumV (w : World) : (zeroValue 35).run Try.prog w = .ok (.agg (bytesL fun _ => 0)) w := by rw [← zeroLit]; kernel_rfl
def indexAt (w : World) (P : Nat) : Nat := match w.cell? ⟨P, 1, none⟩ with
  | some (.int _ z) => z.toNat
  | _ => 0
theorem append_any {w : World} {T M n floor : Nat} {L : List ByteArray} {l : List (Pl × ByteArray)} (t : TAt w.heap T M n floor l) (hI : Hid (TInv L n floor l ∧ n = L.length ∧ floor ≤ n)) {v : Value} {ls : List ByteArray} (hs : Strs w.heap v ls)
    (hsz : Hid (∀ s ∈ ls, s.size ≤ 1000)) (hn : n + ls.length ≤ 2 ^ 30) : Calls Try.prog 8 #[.pointer (some ⟨T, 0, none⟩), v] w fun e w' =>
    e = .returned (.tuple #[]) ∧ (∃ l', TAt w'.heap T M (n + ls.length) floor l' ∧ Hid (TInv (L ++ ls) (n + ls.length) floor l')) ∧ Ext [T, M] w w' := by
  obtain ⟨ao, cap, rfl⟩ := hs.form
  have hlen : (ls.length : Int) ≤ 1073741824 := by omega
  have hn30 : n ≤ 1073741824 := by omega
  have HN := Hs.hid hn
  clear hn
  have HS := Hs.hid hs
  clear hs
  have HT := Hs.hid t
  clear t
  go_enter Try.func8, Try.ntmps8
  go_wp2_with fail
  go_loopw [10] (fun ti wr => ∃ k : Nat, ti = .int .i64 k ∧ k ≤ ls.length ∧ Hid (∃ l', TAt wr.heap T M (n + k) floor l' ∧ TInv (L ++ ls.take k) (n + k) floor l') ∧ Ext [T, M] w wr) (fun ti _ => ls.length - (intOf ti).toNat)
  case atStart => exact ⟨0, rfl, by omega, Hs.hid ⟨l, HT.out, by simpa using hI.out.1⟩, Ext.refl _ _⟩
  case round =>
    obtain ⟨k, rfl, hk, HK, hE⟩ := hrel
    by_cases hlt : k < ls.length
    · obtain ⟨l', t', hI'⟩ := HK.out
      obtain ⟨s, hsk⟩ : ∃ s, ls[k]? = some s := ⟨_, List.getElem?_eq_getElem hlt⟩
      have hstr := HS.out.ext hE (HT.out.noStr)
      rcases hstr with ⟨h0, _⟩ | ⟨b, off, cap', cs, ty, fr, hv, hb, hc⟩
      · subst h0; simp at hlt
      · obtain ⟨rfl, rfl⟩ : ao = some ⟨b, off, none⟩ ∧ cap = cap' := by simpa using hv
        have hcell : wr.cell? ⟨b, off + k, none⟩ = some (.string s) := by rw [cellAt hb]; exact hc k s hsk
        clear hv hc hb
        obtain ⟨c0, c1, c2⟩ := t'.get
        have HI' := Hs.hid (And.intro t' (And.intro hI' hsk))
        clear t' hI' hsk
        have hz : wr.heap.size = wr.heap.size := rfl
        clear hz
        go_upto_region 3 with fail
        have hssz : s.size ≤ 99999999 := by
          have := hsz.out s (List.mem_of_getElem? HI'.out.2.2); omega
        have HSS := Hs.hid hssz
        clear hssz
        go_cut [6, 7] (fun s6 s7 wx => ∃ P X, s6 = .pointer (some ⟨P, 0, none⟩) ∧ s7 = .pointer (some ⟨X, 0, none⟩) ∧ wx.heap[P]? = some (.cells #[.int .i64 0, .int .i64 (n + k : Nat)] 63 (0, 0)) ∧ wx.heap[X]? = some (.cells (digV (leafT s)) 35 (0, 0)) ∧ Ext [] wr wx ∧ wr.heap.size ≤ P ∧ wr.heap.size ≤ X)
        case first =>
          refine wp_region_noPanic ?_
          refine wp_region_held_drew (S := (fun w' => w'.cell? ⟨T, 1, none⟩ = some (.int .i64 (n + k : Nat)))) (by kernel_rfl) ?_ (fun hHeld => ?_)
          · ((try dsimp only); exact c1)
          refine wpAnyH_take (i := 0) (v := ?_) rfl (by kernel_rfl) (by kernel_rfl) (by kernel_rfl) (fun _ _ _ h => h) (Or.inl ⟨by rfl, ?_⟩) (by assumption) ?_
          rotate_left
          · (intro w hSw; (try dsimp only at hSw); first | (go_simp; done) | (go_simp; with_reducible rfl))
          try simp only [Act.put, List.getElem_toArray, List.getElem_cons_succ, List.getElem_cons_zero, List.setIfInBounds_toArray, List.set_cons_zero, List.set_cons_succ]
          refine wpAnyH_take (i := 1) (v := ?_) rfl (by kernel_rfl) (by kernel_rfl) (by kernel_rfl) (fun _ _ _ h => h) (Or.inl ⟨by rfl, ?_⟩) (by assumption) ?_
          rotate_left
          · (intro w hSw; (try dsimp only at hSw); first | (go_simp; done) | (go_simp; with_reducible rfl))
          try simp only [Act.put, List.getElem_toArray, List.getElem_cons_succ, List.getElem_cons_zero, List.setIfInBounds_toArray, List.set_cons_zero, List.set_cons_succ]
          refine wpAnyH_take (i := 2) (v := ?_) rfl (by kernel_rfl) (by kernel_rfl) (by kernel_rfl) (fun _ _ _ h => h) (Or.inl ⟨by rfl, ?_⟩) (by assumption) ?_
          rotate_left
          · (intro w hSw; (try dsimp only at hSw); first | (go_simp; done) | (go_simp; with_reducible rfl))
          try simp only [Act.put, List.getElem_toArray, List.getElem_cons_succ, List.getElem_cons_zero, List.setIfInBounds_toArray, List.set_cons_zero, List.set_cons_succ]
          refine wpAnyH_take (i := 3) (v := ?_) rfl (by kernel_rfl) (by kernel_rfl) (by kernel_rfl) (fun _ _ _ h => h) (Or.inl ⟨by rfl, ?_⟩) (by assumption) ?_
          rotate_left
          · (intro w hSw; (try dsimp only at hSw); first | (go_simp; done) | (go_simp; with_reducible rfl))
          try simp only [Act.put, List.getElem_toArray, List.getElem_cons_succ, List.getElem_cons_zero, List.setIfInBounds_toArray, List.set_cons_zero, List.set_cons_succ]
          refine wpAnyH_take (i := 4) (v := ?_) rfl (by kernel_rfl) (by kernel_rfl) (by kernel_rfl) (fun _ _ _ h => h) (Or.inl ⟨by rfl, ?_⟩) (by assumption) ?_
          rotate_left
          · (intro w hSw; (try dsimp only at hSw); first | (go_simp; done) | (go_simp; with_reducible rfl))
          try simp only [Act.put, List.getElem_toArray, List.getElem_cons_succ, List.getElem_cons_zero, List.setIfInBounds_toArray, List.set_cons_zero, List.set_cons_succ]
          refine wpAnyH_take (i := 5) (v := ?_) rfl (by kernel_rfl) (by kernel_rfl) (by kernel_rfl) (fun _ _ _ h => h) (Or.inl ⟨by rfl, ?_⟩) (by assumption) ?_
          rotate_left
          · (intro w hSw; (try dsimp only at hSw); first | (go_simp; done) | (go_simp; with_reducible rfl))
          try simp only [Act.put, List.getElem_toArray, List.getElem_cons_succ, List.getElem_cons_zero, List.setIfInBounds_toArray, List.set_cons_zero, List.set_cons_succ]
          refine wpAnyH_put5 6 7 8 9 10 [[], [], [], [1, 0], [2, 0, 3]] (fun b1 b2 b3 b4 b5 v1 v2 v3 v4 v5 w => Ext [] wr w ∧ Hid (impB b4 b2 ∧ impB b5 b3) ∧ (b1 = true → ∃ cs, v1 = .agg cs ∧ Hid (cs = digV (leafT s))) ∧ (b2 = true → ∃ P, v2 = .pointer (some ⟨P, 0, none⟩) ∧ wr.heap.size ≤ P ∧ Hid (w.heap[P]? = some (.cells (bif b4 then #[.int .i64 0, .int .i64 (n + k : Nat)] else #[.int .i64 0, .int .i64 0]) 63 (0, 0)))) ∧ (b3 = true → ∃ X, v3 = .pointer (some ⟨X, 0, none⟩) ∧ wr.heap.size ≤ X ∧ Hid (w.heap[X]? = some (.cells (bif b5 then digV (leafT s) else bytesL fun _ => 0) 35 (0, 0))))) ⟨rfl, rfl, rfl, rfl, rfl⟩ (by kernel_rfl) (by kernel_rfl) (by kernel_rfl) (by decide) (by decide) (by kernel_rfl) (by rfl) ?_ ?_ ?_ ?_ ?_ ?_ ?_ ?_
          · intro b1 b2 b3 b4 b5 v1 v2 v3 v4 v5 wx hJ
            rw [cellAt (hJ.1.same HI'.out.1.cells (by simp))]; rfl
          · exact ⟨(Ext.refl _ _).drew, Hs.hid ⟨impB_false _, impB_false _⟩, fun h => by simp at h, fun h => by simp at h, fun h => by simp at h⟩
          · intro b2 b3 b4 b5 v1 v2 v3 v4 v5 wx hd hJ K hK
            clear hd
            (try dsimp only at hK ⊢)
            simp only [List.getElem_toArray, List.getElem_cons_succ, List.getElem_cons_zero, putB_some, putB_none, Act.put, List.setIfInBounds_toArray, List.set_cons_zero, List.set_cons_succ, List.getD_cons_zero, List.getD_cons_succ, List.length_cons, List.length_nil, Nat.reduceAdd, Nat.reduceLT, cond_true, cond_false] at hK ⊢
            rw [if_pos (by rfl)]
            obtain ⟨hE1, h0, h1, h2, h3⟩ := hJ
            go_simp
            (go_at_call 23; refine (leaf_any s HSS.out _).mono ?_; rintro e w4 ⟨cs, rfl, hcs, hx4⟩)
            go_wp2_with fail
            refine hK.out _ _ ⟨hE1.trans0 hx4, h0, fun _ => ⟨cs, rfl, hcs⟩, fun hb => ?_, fun hb => ?_⟩
            · obtain ⟨P, hv, hP, hh⟩ := h2 hb; exact ⟨P, hv, hP, Hs.hid (hx4.same hh.out (by simp))⟩
            · obtain ⟨X, hv, hX, hh⟩ := h3 hb; exact ⟨X, hv, hX, Hs.hid (hx4.same hh.out (by simp))⟩
          · intro b1 b3 b4 b5 v1 v2 v3 v4 v5 wx hd hJ K hK
            clear hd
            (try dsimp only at hK ⊢)
            simp only [List.getElem_toArray, List.getElem_cons_succ, List.getElem_cons_zero, putB_some, putB_none, Act.put, List.setIfInBounds_toArray, List.set_cons_zero, List.set_cons_succ, List.getD_cons_zero, List.getD_cons_succ, List.length_cons, List.length_nil, Nat.reduceAdd, Nat.reduceLT, cond_true, cond_false] at hK ⊢
            rw [if_pos (by rfl)]
            obtain ⟨hE1, h0, h1, h2, h3⟩ := hJ
            obtain rfl : b4 = false := by cases b4; rfl; exact absurd (h0.out.1 rfl) (by simp)
            go_simp
            refine hK.out _ _ ⟨hE1.alloc _, Hs.hid ⟨impB_true _, h0.out.2⟩, h1, fun _ => ⟨_, rfl, hE1.size, Hs.hid (heap_new _ _)⟩, fun hb => ?_⟩
            obtain ⟨X, hv, hX, hh⟩ := h3 hb; exact ⟨X, hv, hX, Hs.hid (heap_old' _ _ hh.out)⟩
          · intro b1 b2 b4 b5 v1 v2 v3 v4 v5 wx hd hJ K hK
            clear hd
            (try dsimp only at hK ⊢)
            simp only [List.getElem_toArray, List.getElem_cons_succ, List.getElem_cons_zero, putB_some, putB_none, Act.put, List.setIfInBounds_toArray, List.set_cons_zero, List.set_cons_succ, List.getD_cons_zero, List.getD_cons_succ, List.length_cons, List.length_nil, Nat.reduceAdd, Nat.reduceLT, cond_true, cond_false] at hK ⊢
            rw [if_pos (by rfl)]
            obtain ⟨hE1, h0, h1, h2, h3⟩ := hJ
            obtain rfl : b5 = false := by cases b5; rfl; exact absurd (h0.out.2 rfl) (by simp)
            go_simp
            refine hK.out _ _ ⟨hE1.alloc _, Hs.hid ⟨h0.out.1, impB_true _⟩, h1, fun hb => ?_, fun _ => ⟨_, rfl, hE1.size, Hs.hid (by rw [cond_false]; exact zeroSum _)⟩⟩
            obtain ⟨P, hv, hP, hh⟩ := h2 hb; exact ⟨P, hv, hP, Hs.hid (heap_old' _ _ hh.out)⟩
          · intro b1 b2 b3 b5 v1 v2 v3 v4 v5 wx hd hJ K hK
            simp only [List.getD_cons_zero, List.getD_cons_succ, List.all_cons, List.all_nil, Bool.and_true, Bool.and_eq_true] at hd
            obtain ⟨rfl, rfl⟩ := hd
            (try dsimp only at hK ⊢)
            simp only [List.getElem_toArray, List.getElem_cons_succ, List.getElem_cons_zero, putB_some, putB_none, Act.put, List.setIfInBounds_toArray, List.set_cons_zero, List.set_cons_succ, List.getD_cons_zero, List.getD_cons_succ, List.length_cons, List.length_nil, Nat.reduceAdd, Nat.reduceLT, cond_true, cond_false] at hK ⊢
            rw [if_pos (by rfl)]
            obtain ⟨hE1, h0, h1, h2, h3⟩ := hJ
            obtain ⟨P, rfl, hP, hh⟩ := h2 rfl
            refine wp_store_row 63 _ _ rfl P #[.int .i64 0, .int .i64 (n + k : Nat)] rfl rfl _ _ hh.out (by kernel_rfl) rfl (by simp [Value.oneCell']) ?_
            refine hK.out undef _ ⟨hE1.trans (setRow_ext P _) (fun g hg => .inr (by simp at hg; omega)), Hs.hid ⟨impB_true _, h0.out.2⟩, fun _ => h1 rfl, fun _ => ⟨P, rfl, hP, Hs.hid (setRow_heap _ _ _ _ _ _ hh.out)⟩, fun hb => ?_⟩
            obtain ⟨X, hv, hX, hg⟩ := h3 hb
            exact ⟨X, hv, hX, Hs.hid ((setRow_other _ _ _ _ (ne_block hg.out hh.out (by simp))).trans hg.out)⟩
          · intro b1 b2 b3 b4 v1 v2 v3 v4 v5 wx hd hJ K hK
            simp only [List.getD_cons_zero, List.getD_cons_succ, List.all_cons, List.all_nil, Bool.and_true, Bool.and_eq_true] at hd
            obtain ⟨rfl, rfl, rfl⟩ := hd
            (try dsimp only at hK ⊢)
            simp only [List.getElem_toArray, List.getElem_cons_succ, List.getElem_cons_zero, putB_some, putB_none, Act.put, List.setIfInBounds_toArray, List.set_cons_zero, List.set_cons_succ, List.getD_cons_zero, List.getD_cons_succ, List.length_cons, List.length_nil, Nat.reduceAdd, Nat.reduceLT, cond_true, cond_false] at hK ⊢
            rw [if_pos (by rfl)]
            obtain ⟨hE1, h0, h1, h2, h3⟩ := hJ
            obtain ⟨X, rfl, hX, hg⟩ := h3 rfl
            obtain ⟨cs, rfl, hcs⟩ := h1 rfl
            have hq := hcs.out
            subst hq
            refine wp_store_row 35 _ _ rfl X (digV (leafT s)) rfl rfl _ _ hg.out (by rw [digV_size]; exact infoSum) (by rw [digV_size]; exact bytesL_size _) (digV_one _) ?_
            refine hK.out undef _ ⟨hE1.trans (setRow_ext X _) (fun g hg => .inr (by simp at hg; omega)), Hs.hid ⟨h0.out.1, impB_true _⟩, fun _ => ⟨_, rfl, hcs⟩, fun hb => ?_, fun _ => ⟨X, rfl, hX, Hs.hid (setRow_heap _ _ _ _ _ _ hg.out)⟩⟩
            obtain ⟨P, hv, hP, hh⟩ := h2 hb
            exact ⟨P, hv, hP, Hs.hid ((setRow_other _ _ _ _ (ne_block hh.out hg.out (by simp))).trans hh.out)⟩
          · intro v1 v2 v3 v4 v5 wx hJ
            (try dsimp only)
            simp only [List.getElem_toArray, List.getElem_cons_succ, List.getElem_cons_zero, putB_some, putB_none, Act.put, List.setIfInBounds_toArray, List.set_cons_zero, List.set_cons_succ, List.getD_cons_zero, List.getD_cons_succ, List.length_cons, List.length_nil, Nat.reduceAdd, Nat.reduceLT, cond_true, cond_false]
            refine NoPanic.normal ?_
            obtain ⟨hE1, h0, h1, h2, h3⟩ := hJ
            obtain ⟨P, rfl, hP, hh⟩ := h2 rfl
            obtain ⟨X, rfl, hX, hg⟩ := h3 rfl
            go_wp2
            go_meet
            exact ⟨P, X, rfl, rfl, hh.out, hg.out, hE1, hP, hX⟩
        case rest =>
          obtain ⟨P, X, rfl, rfl, hP, hX, hE1, hP2, hX2⟩ := hcut
          have d0 : wc.cell? ⟨T, 0, none⟩ = some (.map (some M)) := by rw [cellAt (hE1.same HI'.out.1.cells (by simp))]; rfl
          have p0 : wc.cell? ⟨P, 0, none⟩ = some (.int .i64 0) := by rw [cellAt hP]; rfl
          have p1 : wc.cell? ⟨P, 1, none⟩ = some (.int .i64 ((n + k : Nat) : Int)) := by rw [cellAt hP]; rfl
          go_upto_region 4 with fail
          refine wp_region_tail 6 (by kernel_rfl) (by kernel_rfl) ?_
          simp only [List.take_succ_cons, List.take_zero, List.drop_succ_cons, List.drop_zero]
          iterate 5 still_step
          refine wpStill_load_row rfl 35 (.tmp 7) rfl X rfl 35 (digV (leafT s)) (0, 0) _ hX Try.underlying35 rfl (by rw [digV_size]; exact infoSum) ?_
          refine wpStill_nil ?_
          simp only [Act.put, List.setIfInBounds_toArray, List.set_cons_zero, List.set_cons_succ]
          have hmap : MapAt encP encS wc.drew.heap M l' := HI'.out.1.map.ext hE1.drew List.not_mem_nil
          refine wpList_mapUpdate rfl rfl (.tmp 24) (.tmp 25) (.tmp 26) rfl keyOK_place Try.underlying59 rfl hmap (plN 0 (n + k)) rfl (leafT s) rfl ?_
          intro wm hm5 hx5
          have hPM : P ≠ M := hmap.ne hP
          have hXM : X ≠ M := hmap.ne hX
          have hTM : T ≠ M := HI'.out.1.ne
          have hP5 : wm.heap[P]? = _ := hx5.same (w := wc.drew) hP (by simpa using hPM)
          have hX5 : wm.heap[X]? = _ := hx5.same (w := wc.drew) hX (by simpa using hXM)
          have hT5 : wm.heap[T]? = _ := hx5.same (w := wc.drew) (hE1.same HI'.out.1.cells (by simp)) (by simpa using hTM)
          have hE5 : Ext [T, M] wr wm := ((Ext.refl [T, M] wr).trans0 hE1.drew).trans hx5 (fun g hg => .inl (by simp at hg; simp [hg]))
          have HL : Hid (L ++ ls.take (k + 1) = L ++ ls.take k ++ [s]) := Hs.hid (by rw [List.take_add_one, HI'.out.2.2]; simp)
          have HM : Hid (TMid (L ++ ls.take (k + 1)) (n + k) floor 0 (mput l' (plN 0 (n + k)) (leafT s)) ∧ textP (L ++ ls.take (k + 1)) 0 (n + k) = leafT s) := Hs.hid (by
            have hlen : n + k = (L ++ ls.take k).length := by have := hI.out.2.1; simp; omega
            have htx : textP (L ++ ls.take (k + 1)) 0 (n + k) = leafT s := by
              rw [HL.out]; simp only [textP]; rw [hlen]; simp
            refine ⟨?_, htx⟩
            have := TInv.first HI'.out.2.1 hlen HI'.out.1.map.nodup (by have := hI.out.2.2; omega) s
            rw [← HL.out, htx] at this
            exact this)
          clear p0 p1 d0
          go_wp2_with fail
          obtain ⟨wo, rfl⟩ : ∃ wo : World, wo = wr := ⟨_, rfl⟩
          go_loopw [] (fun wq => ∃ (v i : Nat) (l2 : List (Pl × ByteArray)), wq.heap[P]? = some (.cells #[.int .i64 v, .int .i64 i] 63 (0, 0)) ∧ wq.heap[X]? = some (.cells (digV (textP (L ++ ls.take (k + 1)) v i)) 35 (0, 0)) ∧ TAt wq.heap T M (n + k) floor l2 ∧ Hid (TMid (L ++ ls.take (k + 1)) (n + k) floor v l2 ∧ (i + 1) * 2 ^ v = n + k + 1) ∧ Ext [T, M] wo wq) (fun wq => indexAt wq P)
          case atStart => exact ⟨0, n + k, _, hP5, by rw [HM.out.2]; exact hX5, ⟨hT5, hm5⟩, Hs.hid ⟨HM.out.1, by simp⟩, hE5⟩
          case round =>
            clear hP5 hX5 hT5 hE5 hm5 hx5 hmap hP hX
            obtain ⟨v, i, l2, hP, hX, tq, HQ, hEq⟩ := hrel
            have p0 : wr.cell? ⟨P, 0, none⟩ = some (.int .i64 v) := by rw [cellAt hP]; rfl
            have p1 : wr.cell? ⟨P, 1, none⟩ = some (.int .i64 i) := by rw [cellAt hP]; rfl
            have HIX : Hid (indexAt wr P = i) := Hs.hid (by unfold indexAt; rw [cellAt hP]; simp)
            obtain ⟨t0, t1, t2⟩ := tq.get
            have tf1 := freeAt tq.cells 1
            have hib : i + 1 ≤ 2 ^ 40 := by
              have h1 : i + 1 ≤ (i + 1) * 2 ^ v := Nat.le_mul_of_pos_right _ (Nat.two_pow_pos _)
              have h2 := HQ.out.2
              have h3 : (2 : Nat) ^ 40 = 1099511627776 := by decide
              have h4 := HN.out
              have h5 : (2 : Nat) ^ 30 = 1073741824 := by decide
              omega
            have hvb : v ≤ 40 := by
              have h1 : 2 ^ v ≤ (i + 1) * 2 ^ v := Nat.le_mul_of_pos_left _ (by omega)
              have h2 := HQ.out.2
              have h4 := HN.out
              exact (Nat.pow_le_pow_iff_right (a := 2) (by omega)).1 (by
                have h3 : (2 : Nat) ^ 40 = 1099511627776 := by decide
                have h5 : (2 : Nat) ^ 30 = 1073741824 := by decide
                omega)
            have hib2 : (i : Int) ≤ 1099511627776 := by
              have h3 : (2 : Nat) ^ 40 = 1099511627776 := by decide
              omega
            clear hib
            by_cases ho : i % 2 = 1
            · have hb1 : Go.bits .and .i64 (i : Int) 1 = 1 := by rw [and1]; omega
              have hi1 : IntKind.i64.wrap ((i : Int) - 1) = (i : Int) - 1 := IntWalk.i64_in _ (by omega)
              obtain ⟨g1, g2, g3, g4⟩ := HQ.out.1.next tq.map.nodup (by have := hI.out.2.2; omega) ho HQ.out.2
              have hpl : Value.agg #[.int .i64 v, .int .i64 ((i : Int) - 1)] = encP (plN v (i - 1)) := by
                unfold encP plN; rw [show ((i - 1 : Nat) : Int) = (i : Int) - 1 by omega]
              have HPL := Hs.hid hpl
              have HG := Hs.hid (And.intro g1 (And.intro g2 (And.intro g3 g4)))
              clear g1 g2 g3 g4 hpl
              have hho := Hs.hid ho
              clear ho
              go_upto_region 6 with fail
              refine wp_region_tail 12 (by kernel_rfl) (by kernel_rfl) ?_
              simp only [List.take_succ_cons, List.take_zero, List.drop_succ_cons, List.drop_zero]
              iterate 10 still_step
              refine wpStill_lookup rfl (.tmp 34) (.tmp 40) false rfl keyOK_place Try.underlying59 (zeroSumV _) rfl (w := wr.drew) tq.map (plN v (i - 1)) HPL.out (.agg (digV (textP (L ++ ls.take (k + 1)) v (i - 1)))) (by rw [HG.out.1]; rfl) ?_
              simp only [Act.put, List.setIfInBounds_toArray, List.set_cons_zero, List.set_cons_succ]
              refine wpStill_load_row rfl 35 (.tmp 7) rfl X rfl 35 (digV (textP (L ++ ls.take (k + 1)) v i)) (0, 0) _ hX Try.underlying35 rfl (by rw [digV_size]; exact infoSum) ?_
              refine wpStill_nil ?_
              simp only [Act.put, List.setIfInBounds_toArray, List.set_cons_zero, List.set_cons_succ]
              have hP' : wr.drew.heap[P]? = _ := hP
              have hX' : wr.drew.heap[X]? = _ := hX
              have tq' := tq.ext0 (Ext.refl [] wr).drew
              have hEq' := hEq.drew
              clear hP hX tq hEq p0 p1 t0 t1 t2 tf1
              generalize wr.drew = wd at hP' hX' tq' hEq' ⊢
              obtain ⟨tx, htx⟩ : ∃ tx, nodeT (textP (L ++ ls.take (k + 1)) v (i - 1)) (textP (L ++ ls.take (k + 1)) v i) = tx := ⟨_, rfl⟩
              have HTX := Hs.hid htx
              clear htx
              have hw1 : IntKind.i64.wrap ((v : Int) + 1) = (v : Int) + 1 := IntWalk.i64_in _ (by omega)
              go_wp2_with (first
                | (go_at_call 24; refine (dignode_any (textP (L ++ ls.take (k + 1)) v (i - 1)) (textP (L ++ ls.take (k + 1)) v i) _).mono ?_; rintro e w7 ⟨cs, rfl, hcs, hx7⟩; rw [HTX.out] at hcs; have hcs' := hcs.out; subst hcs'; have hP7 := hx7.same hP' (by simp); have hX7 := hx7.same hX' (by simp); have tq7 := tq'.ext0 hx7; have hE7 := hEq'.trans0 hx7; clear hP' hX' tq' hEq' hcs)
                | (refine wpList_store_row rfl 35 (.tmp 7) (.tmp 43) rfl X (digV tx) rfl rfl _ _ hX7 (by rw [digV_size]; exact infoSum) (by rw [digV_size, digV_size]) (digV_one _) ?_; have hX8 := setRow_heap _ _ _ (digV tx) _ _ hX7; have hxs := setRow_ext (w := w7) X (digV tx); have hP8 := hxs.same hP7 (by simpa using ne_block hP7 hX7 (by simp)); have tq8 := tq7.ext hxs (by simpa using ne_block tq7.cells hX7 (by simp)) (by simpa using (tq7.map.ne hX7).symm); have hE8 := hE7.trans hxs (fun g hg => .inr (by simp at hg; subst hg; exact hX2)); clear hX7 hP7 tq7 hE7 hxs; generalize w7.setRow X (digV tx) = w8 at hX8 hP8 tq8 hE8 ⊢; have p0 := (show w8.cell? ⟨P, 0, none⟩ = some (.int .i64 v) by rw [cellAt hP8]; rfl); have p1 := (show w8.cell? ⟨P, 1, none⟩ = some (.int .i64 i) by rw [cellAt hP8]; rfl))
                | (refine wpList_store_row rfl 63 (.tmp 6) (.tmp 50) rfl P #[.int .i64 ((v : Int) + 1), .int .i64 ((i : Int) / 2)] rfl rfl _ _ hP8 (by kernel_rfl) rfl (by simp [Value.oneCell']) ?_; have hP9 := setRow_heap _ _ _ #[.int .i64 ((v : Int) + 1), .int .i64 ((i : Int) / 2)] _ _ hP8; have hxs := setRow_ext (w := w8) P #[.int .i64 ((v : Int) + 1), .int .i64 ((i : Int) / 2)]; have hX9 := hxs.same hX8 (by simpa using ne_block hX8 hP8 (by simp)); have tq9 := tq8.ext hxs (by simpa using ne_block tq8.cells hP8 (by simp)) (by simpa using (tq8.map.ne hP8).symm); have hE9 := hE8.trans hxs (fun g hg => .inr (by simp at hg; subst hg; exact hP2)); clear hX8 hP8 tq8 hE8 hxs p0 p1; generalize w8.setRow P _ = w9 at hX9 hP9 tq9 hE9 ⊢))
              have p0 : w9.cell? ⟨P, 0, none⟩ = some (.int .i64 ((v : Int) + 1)) := by rw [cellAt hP9]; rfl
              have p1 : w9.cell? ⟨P, 1, none⟩ = some (.int .i64 ((i : Int) / 2)) := by rw [cellAt hP9]; rfl
              obtain ⟨t0, t1, t2⟩ := tq9.get
              clear t1 t2
              go_upto_region 8 with fail
              refine wp_region_tail 6 (by kernel_rfl) (by kernel_rfl) ?_
              simp only [List.take_succ_cons, List.take_zero, List.drop_succ_cons, List.drop_zero]
              iterate 5 still_step
              refine wpStill_load_row rfl 35 (.tmp 7) rfl X rfl 35 (digV tx) (0, 0) _ hX9 Try.underlying35 rfl (by rw [digV_size]; exact infoSum) ?_
              refine wpStill_nil ?_
              simp only [Act.put, List.setIfInBounds_toArray, List.set_cons_zero, List.set_cons_succ]
              refine wpList_mapUpdate (w := w9.drew) rfl rfl (.tmp 54) (.tmp 55) (.tmp 56) rfl keyOK_place Try.underlying59 rfl tq9.map (plN (v + 1) (i / 2)) (by simp [encP, plN, Act.eval]) tx rfl ?_
              intro wn hm6 hx6
              go_wp2_with fail
              go_round
              case rel =>
                have hgt : tx = textP (L ++ ls.take (k + 1)) (v + 1) (i / 2) := by rw [← HTX.out]; exact HG.out.2.1
                refine ⟨v + 1, i / 2, mput l2 (plN (v + 1) (i / 2)) tx, ?_, ?_, ⟨?_, hm6⟩, Hs.hid ⟨by rw [hgt]; exact HG.out.2.2.2, HG.out.2.2.1⟩, ?_⟩
                · rw [hx6.same (w := w9.drew) hP9 (by simpa using tq9.map.ne hP9)]; simp
                · rw [hx6.same (w := w9.drew) hX9 (by simpa using tq9.map.ne hX9), hgt]
                · exact hx6.same (w := w9.drew) tq9.cells (by simpa using hTM)
                · exact hE9.drew.trans hx6 (fun g hg => .inl (by simp at hg; simp [hg]))
              case measure =>
                have h1 : wn.heap[P]? = _ := hx6.same (w := w9.drew) hP9 (by simpa using tq9.map.ne hP9)
                have h2 : indexAt wn P = i / 2 := by
                  unfold indexAt; rw [cellAt h1]; simp; omega
                have h3 : indexAt wr P = i := HIX.out
                rw [h2, h3]
                have := hho.out; omega
            · have hb1 : Go.bits .and .i64 (i : Int) 1 = 0 := by rw [and1]; omega
              have hho := Hs.hid ho
              clear ho
              go_wp2_with fail
              go_round
              case rel =>
                refine ⟨k + 1, by go_num, by omega, Hs.hid ⟨l2, ⟨?_, ?_⟩, ?_⟩, ?_⟩
                · have := heap_set tq.cells 1 (.int .i64 ((n : Int) + k + 1))
                  rw [this]
                  simp [Int.add_assoc]
                · exact tq.map.same (heap_set_ne _ _ _ hTM)
                · rw [← Nat.add_assoc]
                  exact HQ.out.1.done (by have := hho.out; omega) HQ.out.2
                · exact ((hE.trans' hEq)).set' (by simp) _ _
              case measure => simp [intOf]; omega
    · have hkl : k = ls.length := by omega
      have HKL := Hs.hid hkl
      clear hkl
      obtain ⟨l', t', hI'⟩ := HK.out
      have HI' := Hs.hid (And.intro t' hI')
      clear t' hI'
      go_wp2_with (go_at_call 25; refine (trim_any HI'.out.1 (HI'.out.2.small (by have := HN.out; have h3 : (2 : Nat) ^ 40 = 1099511627776 := (by decide); have h5 : (2 : Nat) ^ 30 = 1073741824 := (by decide); omega))).mono ?_; rintro e w9 ⟨rfl, t9, hx9⟩)
      refine bodyPost_end (v := .tuple #[]) (by simp [results, Try.results8, go_sem]) rfl ⟨rfl, ⟨l', ?_, Hs.hid ?_⟩, hE.trans hx9 (fun g hg => .inl (by simp at hg; simp [hg]))⟩
      · rw [HI'.out.2.trim_same] at t9
        rw [← HKL.out]; exact t9
      · have := HI'.out.2
        rw [HKL.out, List.take_length] at this; exact this
end Go.Proofs.Ytjicjadibaomkaa
set_option linter.unusedSimpArgs false
set_option linter.unusedVariables false
namespace Go.Proofs.Ytjicjadibaomkaa
open Go.RowKit Go.Hs Go.Dg

theorem bits_and_nat (n m : Nat) (hn : n < 2 ^ 62) (hm : m < 2 ^ 62) : Go.bits .and .i64 (n : Int) (m : Int) = ((n &&& m : Nat) : Int) := by
  have h1 : ∀ n : Nat, n < 2 ^ 62 → (BitVec.ofInt 64 (n : Int)).toNat = n := fun n h => by
    rw [BitVec.toNat_ofInt]
    have : (2 : Nat) ^ 62 = 4611686018427387904 := by decide
    omega
  show IntKind.i64.wrap ((BitVec.ofInt 64 (n : Int) &&& BitVec.ofInt 64 (m : Int)).toNat : Nat) = _
  rw [BitVec.toNat_and, h1 n hn, h1 m hm, IntKind.wrap_i64]
  have h2 : n &&& m ≤ n := Nat.and_le_left
  have : (2 : Nat) ^ 62 = 4611686018427387904 := by decide
  omega
theorem pow_and (v : Nat) : 2 ^ v &&& (2 ^ v - 1) = 0 := by
  rw [Nat.and_two_pow_sub_one_eq_mod, Nat.mod_self]
theorem nopow_and {v n : Nat} (h1 : 2 ^ v < n) (h2 : n < 2 ^ (v + 1)) : n &&& (n - 1) ≠ 0 := by
  intro h
  have hp := Nat.two_pow_pos v
  rw [Nat.pow_succ] at h2
  have hb : ∀ x, 2 ^ v ≤ x → x < 2 ^ v * 2 → Nat.testBit x v = true := fun x h3 h4 => by
    rw [Nat.testBit_eq_decide_div_mod_eq]
    have : x / 2 ^ v = 1 := Nat.div_eq_of_lt_le (by omega) (by omega)
    rw [this]; decide
  have h5 : Nat.testBit (n &&& (n - 1)) v = true := by
    rw [Nat.testBit_and, hb n (by omega) (by omega), hb (n - 1) (by omega) (by omega)]; rfl
  rw [h] at h5; simp at h5
theorem halfN_eq {v n : Nat} (h1 : 2 ^ v < n) (h2 : n ≤ 2 ^ (v + 1)) : halfN n = 2 ^ v := by
  unfold halfN
  have hp := Nat.two_pow_pos v
  have h3 : (n - 1).log2 = v := (Nat.log2_eq_iff (by omega)).2 ⟨by omega, by omega⟩
  rw [h3]
/-- Between two powers. -/
theorem exists_pow (n : Nat) (h : 2 ≤ n) : ∃ v, 2 ^ v < n ∧ n ≤ 2 ^ (v + 1) := by
  refine ⟨(n - 1).log2, ?_, ?_⟩
  · have := Nat.log2_self_le (n := n - 1) (by omega); omega
  · have := Nat.lt_log2_self (n := n - 1); omega
/-- The text over so many leaves from one on. -/
def mthT (L : List ByteArray) (n from' : Nat) : ByteArray :=
  if h : 2 ≤ n then nodeT (mthT L (halfN n) from') (mthT L (n - halfN n) (from' + halfN n)) else leafT (L.getD from' textP.noB)
termination_by n
decreasing_by
  · exact halfN_lt h
  · have := halfN_pos n; omega
theorem mthT_one (L : List ByteArray) (f : Nat) : mthT L 1 f = leafT (L.getD f textP.noB) := by rw [mthT, dif_neg (by omega)]
theorem mthT_node {L : List ByteArray} {n f : Nat} (h : 2 ≤ n) : mthT L n f = nodeT (mthT L (halfN n) f) (mthT L (n - halfN n) (f + halfN n)) := by rw [mthT, dif_pos h]
theorem mthT_pow (L : List ByteArray) : ∀ v i, mthT L (2 ^ v) (i * 2 ^ v) = textP L v i
  | 0, i => by simp only [Nat.pow_zero, Nat.mul_one, mthT_one, textP]
  | v + 1, i => by
    have hp := Nat.two_pow_pos v
    have h2 : 2 ^ (v + 1) = 2 * 2 ^ v := by rw [Nat.pow_succ, Nat.mul_comm]
    rw [mthT_node (by omega), halfN_eq (v := v) (by omega) (Nat.le_refl _)]
    simp only [textP]
    rw [show 2 ^ (v + 1) - 2 ^ v = 2 ^ v by omega, ← mthT_pow L v (2 * i), ← mthT_pow L v (2 * i + 1)]
    have e1 : i * 2 ^ (v + 1) = 2 * i * 2 ^ v := by rw [h2, ← Nat.mul_assoc, Nat.mul_comm i 2]
    have e2 : i * 2 ^ (v + 1) + 2 ^ v = (2 * i + 1) * 2 ^ v := by rw [e1, Nat.add_mul, Nat.one_mul]
    rw [e1] at e2 ⊢
    rw [e2]
/-- A tree of that floor knows the sum over so many leaves from one on. -/
inductive SumOK (floor : Nat) : Nat → Nat → Prop
  | look (v i : Nat) : floor < upEnd (plN v i) → SumOK floor (2 ^ v) (i * 2 ^ v)
  | node (v n f : Nat) : 2 ^ v < n → n < 2 ^ (v + 1) → SumOK floor (2 ^ v) f → SumOK floor (n - 2 ^ v) (f + 2 ^ v) → SumOK floor n f
theorem upEnd_even {c v j : Nat} (h : v < c) : upEnd (plN v (j * 2 ^ c / 2 ^ v)) = j * 2 ^ c + 2 ^ (v + 1) ∧ j * 2 ^ c / 2 ^ v * 2 ^ v = j * 2 ^ c := by
  obtain ⟨d, rfl⟩ : ∃ d, c = v + (d + 1) := ⟨c - v - 1, by omega⟩
  have hp := Nat.two_pow_pos v
  have e1 : j * 2 ^ (v + (d + 1)) = (2 * (j * 2 ^ d)) * 2 ^ v := by
    rw [Nat.pow_add, Nat.pow_succ]; simp only [Nat.mul_assoc, Nat.mul_comm, Nat.mul_left_comm]
  rw [e1, Nat.mul_div_cancel _ hp]
  refine ⟨?_, rfl⟩
  rw [upEnd_N, show 2 * (j * 2 ^ d) / 2 = j * 2 ^ d by omega, Nat.add_mul, Nat.one_mul, Nat.pow_succ]
  congr 1
  simp only [Nat.mul_assoc, Nat.mul_comm, Nat.mul_left_comm]
theorem sumOK_left {floor c v j : Nat} (h : v < c) (hf : floor < j * 2 ^ c + 2 ^ (v + 1)) : SumOK floor (2 ^ v) (j * 2 ^ c) := by
  obtain ⟨h1, h2⟩ := upEnd_even (j := j) h
  have := SumOK.look (floor := floor) v (j * 2 ^ c / 2 ^ v) (by rw [h1]; exact hf)
  rwa [h2] at this
/-- What begins at a multiple of a power that it doesn't reach, and ends at the floor or behind. -/
theorem sumOK_of {floor : Nat} : ∀ (c n j : Nat), 1 ≤ n → n < 2 ^ c → floor ≤ j * 2 ^ c + n → SumOK floor n (j * 2 ^ c)
  | c, n, j, h1, h2, hf => by
    by_cases hn : n = 1
    · subst hn
      have hc : 0 < c := by
        rcases Nat.eq_zero_or_pos c with rfl | h
        · simp at h2
        · exact h
      have := sumOK_left (floor := floor) (c := c) (v := 0) (j := j) hc (by simp; omega)
      simpa using this
    · obtain ⟨v, hv1, hv2⟩ := exists_pow n (by omega)
      have hvc : v < c := (Nat.pow_lt_pow_iff_right (a := 2) (by omega)).1 (by omega)
      by_cases he : n = 2 ^ (v + 1)
      · have hvc2 : v + 1 < c := (Nat.pow_lt_pow_iff_right (a := 2) (by omega)).1 (by omega)
        rw [he]
        refine sumOK_left hvc2 ?_
        have := Nat.two_pow_pos (v + 1)
        rw [Nat.pow_succ (n := 2) (m := v + 1)]
        omega
      · refine SumOK.node v n _ hv1 (by omega) (sumOK_left hvc (by omega)) ?_
        obtain ⟨d, rfl⟩ : ∃ d, c = v + (d + 1) := ⟨c - v - 1, by omega⟩
        have e1 : j * 2 ^ (v + (d + 1)) + 2 ^ v = (2 * (j * 2 ^ d) + 1) * 2 ^ v := by
          rw [Nat.add_mul, Nat.one_mul, Nat.pow_add, Nat.pow_succ]; simp only [Nat.mul_assoc, Nat.mul_comm, Nat.mul_left_comm]
        rw [e1]
        rw [Nat.pow_succ] at hv2 he
        exact sumOK_of v (n - 2 ^ v) _ (by omega) (by omega) (by omega)
termination_by c n => n
decreasing_by have := Nat.two_pow_pos v; omega
/-- .. the power itself, in front of the floor. -/
theorem sumOK_right {floor c n j : Nat} (h1 : 1 ≤ n) (h2 : n ≤ 2 ^ c) (hf : floor < j * 2 ^ c + n) : SumOK floor n (j * 2 ^ c) := by
  by_cases h : n = 2 ^ c
  · subst h
    refine SumOK.look c j ?_
    have := up_le c j
    rw [Nat.add_mul, Nat.one_mul] at this
    omega
  · exact sumOK_of c n j h1 (by omega) (by omega)
theorem sumOK_root {floor n : Nat} (h1 : 1 ≤ n) (hf : floor ≤ n) : SumOK floor n 0 := by
  have := sumOK_of (floor := floor) n n 0 h1 n.lt_two_pow_self (by omega)
  simpa using this
end Go.Proofs.Ytjicjadibaomkaa
set_option linter.unusedSimpArgs false
set_option linter.unusedVariables false
set_option maxHeartbeats 2000000
set_option maxRecDepth 100000
namespace Go.Proofs.Ytjicjadibaomkaa
open Go.RowKit Go.Hs Go.Dg

theorem results_sum_tmp {fn : Func} {p u : Tmp} (h : fn.results = #[.cell p 35, .tmp u]) (tmps : Array Value) {w : World} {g : Nat} {cs : Array Value} {fr : Nat × Nat} {x : Value}
    (hp : tmps.getD p undef = .pointer (some ⟨g, 0, none⟩)) (hx : tmps.getD u undef = x) (hg : w.heap[g]? = some (.cells cs 35 fr)) (h32 : cs.size = 32) :
    (results fn tmps).run Try.prog w = .ok (.tuple #[.agg cs, x]) w := by
  rw [results_cell_tmp h, hp, hx]
  simp [asAddr, load_sum hg h32]
theorem yieldsIf_lookup {κ ν : Type} [DecidableEq κ] {enc : κ → Value} {venc : ν → Value} {l : List (κ × ν)} {b : Nat} {P : Program} {kt et t : TypeId} {ops : Array Oper} {S : World → Prop} {o : Oper} {a : Act}
    (hw : Region.wanted o (yielded ops a.tmps) = true) (mo x : Operand) (ok : Bool) (ho : o.op = Op.lookup t mo x ok) (K : KeyOK P kt enc) (ht : P.underlying t = some (.map kt et)) {z : Value} (hz : ∀ w, (zeroValue et).run P w = .ok z w)
    (hm : a.eval mo = .map (some b)) (m : ∀ w, S w → MapAt enc venc w.heap b l) (k : κ) (hx : a.eval x = enc k) (v : Value) (hv : lookV venc z (mlook l k) ok = v) : YieldsIf P ops S o v a :=
  .inl ⟨hw, fun w hS => by
    have hrun := run_lookup_z K ht (hz w) (m w hS) k ok
    rw [hv] at hrun
    simp only [execOp, ho, hm, hx, Sem.run_bind, hrun, Result.andThen_ok, Sem.run_pure]⟩
theorem sum_look {floor : Nat} (v i : Nat) (hu : floor < upEnd (plN v i)) {w : World} {T M N : Nat} {l : List (Pl × ByteArray)} {L : List ByteArray} (t : TAt w.heap T M N floor l) (hI : Hid (TInv L N floor l)) (hN : N ≤ 2 ^ 30) (hfn : i * 2 ^ v + 2 ^ v ≤ N)
    (n f tt : Nat) (hn : n = 2 ^ v) (hf : f = i * 2 ^ v) (htt : tt = f + n) :
    Calls Try.prog 29 #[.pointer (some ⟨T, 0, none⟩), .int .i64 f, .int .i64 tt] w fun e w' => ∃ cs, e = .returned (.tuple #[.agg cs, .int .i64 0]) ∧ Hid (cs = digV (mthT L n f)) ∧ Ext [] w w' := by
  have hp30 : (2 : Nat) ^ 30 = 1073741824 := by decide
  have hp := Nat.two_pow_pos v
  have hv : v ≤ 30 := (Nat.pow_le_pow_iff_right (a := 2) (by omega)).1 (by omega)
  have hmth : mthT L n f = textP L v i := by rw [hn, hf, mthT_pow]
  have hL : Lib.bitLen (n : Int).toNat = v + 1 := by
    rw [Int.toNat_natCast, bitLen_log (by omega) (by have : (2 : Nat) ^ 64 = 18446744073709551616 := (by decide); omega), hn, Nat.log2_two_pow]
  have hand : Go.bits .and .i64 (n : Int) ((n : Int) - 1) = 0 := by
    have := bits_and_nat n (n - 1) (by have : (2 : Nat) ^ 62 = 4611686018427387904 := (by decide); omega) (by have : (2 : Nat) ^ 62 = 4611686018427387904 := (by decide); omega)
    rw [show ((n - 1 : Nat) : Int) = (n : Int) - 1 by omega] at this
    rw [this, hn, pow_and]; rfl
  have hfm : f % n = 0 := by rw [hf, hn, Nat.mul_mod_left]
  have hfd : f / n = i := by rw [hf, hn, Nat.mul_div_cancel _ hp]
  have hmod : (f : Int) % (n : Int) = 0 := by exact_mod_cast congrArg (Nat.cast (R := Int)) hfm
  have hdiv : (f : Int) / (n : Int) = (i : Int) := by exact_mod_cast congrArg (Nat.cast (R := Int)) hfd
  have hdiv2 : (f : Int).tdiv (n : Int) = (i : Int) := by rw [Int.tdiv_eq_ediv_of_nonneg (by omega)]; exact hdiv
  have hsub : (tt : Int) - (f : Int) = (n : Int) := by omega
  have hlook : lookV encS (.agg (bytesL fun _ => 0)) (mlook l (plN v i)) true = .tuple #[.agg (digV (textP L v i)), .bool true] := by
    rw [hI.out.get t.map.nodup, if_pos ⟨by rw [Nat.add_mul, Nat.one_mul]; omega, hu⟩]; rfl
  have HLK := Hs.hid hlook
  have hw1 : IntKind.i64.wrap (v : Int) = (v : Int) := IntWalk.i64_in _ (by omega)
  have hw2 : IntKind.i64.wrap ((n : Int) - 1) = (n : Int) - 1 := IntWalk.i64_in _ (by omega)
  have hn0 : ¬ n = 0 := by omega
  have hwu : IntKind.u64.wrap (n : Int) = n := by rw [IntKind.wrap_u64]; omega
  have hif : i ≤ f := by rw [hf]; exact Nat.le_mul_of_pos_right _ hp
  have hwi : IntKind.i64.wrap (i : Int) = i := IntWalk.i64_in _ (by omega)
  have hB : (0 : Int) ≤ n ∧ (1 : Int) ≤ n ∧ (n : Int) ≤ 1073741824 ∧ (0 : Int) ≤ f ∧ (f : Int) ≤ 1073741824 ∧ (v : Int) ≤ 30 ∧ (tt : Int) ≤ 1073741824 := by omega
  obtain ⟨b1, b2, b3, b4, b5, b6, b7⟩ := hB
  have HM := Hs.hid hmth
  have HL := Hs.hid hL
  obtain ⟨c0, c1, c2⟩ := t.get
  have ht := t.map
  have HT := Hs.hid t
  clear t hmth hL hlook hfn hn hf htt hfm hfd hu hp hv hif hp30 hN
  have hR := zeroSum w
  have hx0 := (Ext.refl [] w).alloc (.cells #[.int .u8 0, .int .u8 0, .int .u8 0, .int .u8 0, .int .u8 0, .int .u8 0, .int .u8 0, .int .u8 0, .int .u8 0, .int .u8 0, .int .u8 0, .int .u8 0, .int .u8 0, .int .u8 0, .int .u8 0, .int .u8 0, .int .u8 0, .int .u8 0, .int .u8 0, .int .u8 0, .int .u8 0, .int .u8 0, .int .u8 0, .int .u8 0, .int .u8 0, .int .u8 0, .int .u8 0, .int .u8 0, .int .u8 0, .int .u8 0, .int .u8 0, .int .u8 0] 35)
  have hTW := HT.out.ext0 hx0
  go_enter Try.func29, Try.ntmps29
  go_upto_region 3 with fail
  generalize w.alloc (.cells #[.int .u8 0, .int .u8 0, .int .u8 0, .int .u8 0, .int .u8 0, .int .u8 0, .int .u8 0, .int .u8 0, .int .u8 0, .int .u8 0, .int .u8 0, .int .u8 0, .int .u8 0, .int .u8 0, .int .u8 0, .int .u8 0, .int .u8 0, .int .u8 0, .int .u8 0, .int .u8 0, .int .u8 0, .int .u8 0, .int .u8 0, .int .u8 0, .int .u8 0, .int .u8 0, .int .u8 0, .int .u8 0, .int .u8 0, .int .u8 0, .int .u8 0, .int .u8 0] 35) = W at hR hx0 hTW ⊢
  obtain ⟨R, hRR⟩ : ∃ R, w.heap.size = R := ⟨_, rfl⟩
  rw [hRR] at hR ⊢
  have HRR := Hs.hid (show w.heap.size ≤ R from Nat.le_of_eq hRR)
  clear hRR c0 c1 c2 ht
  go_cut [9, 10] (fun s9 s10 wx => ∃ C, s9 = .pointer (some ⟨C, 0, none⟩) ∧ s10 = .bool true ∧ wx.heap[C]? = some (.cells (digV (textP L v i)) 35 (0, 0)) ∧ Ext [] W wx)
  case first =>
    refine wp_region_noPanic ?_
    refine wp_region_held_drew (S := (fun w' => TAt w'.heap T M N floor l)) (by kernel_rfl) ?_ (fun hHeld => ?_)
    · ((try dsimp only); exact hTW)
    refine wpAnyH_take (i := 0) (v := ?_) rfl (by kernel_rfl) (by kernel_rfl) (by kernel_rfl) (fun _ _ _ h => h) (Or.inl ⟨by rfl, ?_⟩) (by assumption) ?_
    rotate_left
    · (intro w hSw; (try dsimp only at hSw); first | (go_simp; done) | (go_simp; with_reducible rfl))
    try simp only [Act.put, List.getElem_toArray, List.getElem_cons_succ, List.getElem_cons_zero, List.setIfInBounds_toArray, List.set_cons_zero, List.set_cons_succ]
    refine wpAnyH_take (i := 1) (v := ?_) rfl (by kernel_rfl) (by kernel_rfl) (by kernel_rfl) (fun _ _ _ h => h) (Or.inl ⟨by rfl, ?_⟩) (by assumption) ?_
    rotate_left
    · (intro w hSw; (try dsimp only at hSw); first | (go_simp; done) | (go_simp; with_reducible rfl))
    try simp only [Act.put, List.getElem_toArray, List.getElem_cons_succ, List.getElem_cons_zero, List.setIfInBounds_toArray, List.set_cons_zero, List.set_cons_succ]
    refine wpAnyH_take (i := 2) (v := ?_) rfl (by kernel_rfl) (by kernel_rfl) (by kernel_rfl) (fun _ _ _ h => h) (Or.inl ⟨by rfl, ?_⟩) (by assumption) ?_
    rotate_left
    · (intro w hSw; (try dsimp only at hSw); first | (go_simp; done) | (go_simp; with_reducible rfl))
    try simp only [Act.put, List.getElem_toArray, List.getElem_cons_succ, List.getElem_cons_zero, List.setIfInBounds_toArray, List.set_cons_zero, List.set_cons_succ]
    refine wpAnyH_take (i := 3) (v := ?_) rfl (by kernel_rfl) (by kernel_rfl) (by kernel_rfl) (fun _ _ _ h => h) (Or.inl ⟨by rfl, ?_⟩) (by assumption) ?_
    rotate_left
    · (intro w hSw; (try dsimp only at hSw); have hq : w.cell? ⟨T, 0, none⟩ = some (.map (some M)) := (TAt.get hSw).1; first | (go_simp; done) | (go_simp; with_reducible rfl))
    try simp only [Act.put, List.getElem_toArray, List.getElem_cons_succ, List.getElem_cons_zero, List.setIfInBounds_toArray, List.set_cons_zero, List.set_cons_succ]
    refine wpAnyH_take (i := 4) (v := ?_) rfl (by kernel_rfl) (by kernel_rfl) (by kernel_rfl) (fun _ _ _ h => h) (Or.inl ⟨by rfl, ?_⟩) (by assumption) ?_
    rotate_left
    · (intro w hSw; (try dsimp only at hSw); first | (go_simp; done) | (go_simp; with_reducible rfl))
    try simp only [Act.put, List.getElem_toArray, List.getElem_cons_succ, List.getElem_cons_zero, List.setIfInBounds_toArray, List.set_cons_zero, List.set_cons_succ]
    refine wpAnyH_take (i := 5) (v := ?_) rfl (by kernel_rfl) (by kernel_rfl) (by kernel_rfl) (fun _ _ _ h => h) (Or.inl ⟨by rfl, ?_⟩) (by assumption) ?_
    rotate_left
    · (intro w hSw; (try dsimp only at hSw); first | (go_simp; done) | (go_simp; with_reducible rfl))
    try simp only [Act.put, List.getElem_toArray, List.getElem_cons_succ, List.getElem_cons_zero, List.setIfInBounds_toArray, List.set_cons_zero, List.set_cons_succ]
    refine wpAnyH_take (i := 8) (v := ?_) rfl (by kernel_rfl) (by kernel_rfl) (by kernel_rfl) (fun _ _ _ h => h) (Or.inl ⟨by rfl, ?_⟩) (by assumption) ?_
    rotate_left
    · (intro w hSw; (try dsimp only at hSw); first | (go_simp; done) | (go_simp; with_reducible rfl))
    try simp only [Act.put, List.getElem_toArray, List.getElem_cons_succ, List.getElem_cons_zero, List.setIfInBounds_toArray, List.set_cons_zero, List.set_cons_succ]
    refine wpAnyH_take (i := 9) (v := ?_) rfl (by kernel_rfl) (by kernel_rfl) (by kernel_rfl) (fun _ _ _ h => h) (Or.inl ⟨by rfl, ?_⟩) (by assumption) ?_
    rotate_left
    · (intro w hSw; (try dsimp only at hSw); first | (go_simp; done) | (go_simp; with_reducible rfl))
    try simp only [Act.put, List.getElem_toArray, List.getElem_cons_succ, List.getElem_cons_zero, List.setIfInBounds_toArray, List.set_cons_zero, List.set_cons_succ]
    refine wpAnyH_take (i := 10) (v := ?_) rfl (by kernel_rfl) (by kernel_rfl) (by kernel_rfl) (fun _ _ _ h => h) (Or.inl ⟨by rfl, ?_⟩) (by assumption) ?_
    rotate_left
    · (intro w hSw; (try dsimp only at hSw); first | (go_simp; done) | (go_simp; with_reducible rfl))
    try simp only [Act.put, List.getElem_toArray, List.getElem_cons_succ, List.getElem_cons_zero, List.setIfInBounds_toArray, List.set_cons_zero, List.set_cons_succ]
    refine wpAnyH_ready (rs := [6, 16]) (by kernel_rfl) (by simp) ?_
    refine AllReadyH.cons rfl (fun K hK => ?_) (AllReadyH.cons rfl (fun K hK => ?_) AllReadyH.nil)
    · go_simp
      (go_at_call 45; refine (Try.bits_Len (n : Int) _ (by omega) (by omega)).mono ?_; rintro e w1 ⟨rfl, rfl⟩; rw [HL.out])
      go_wp2_with fail
      refine hK.out _ _ ?_ (fun hHeld => ?_)
      · ((try dsimp only); exact hHeld)
      clear hK K
      try simp only [Act.put, List.getElem_toArray, List.getElem_cons_succ, List.getElem_cons_zero, List.setIfInBounds_toArray, List.set_cons_zero, List.set_cons_succ]
      refine wpAnyH_take (i := 7) (v := ?_) rfl (by kernel_rfl) (by kernel_rfl) (by kernel_rfl) (fun _ _ _ h => h) (Or.inl ⟨by rfl, ?_⟩) (by assumption) ?_
      rotate_left
      · (intro w hSw; (try dsimp only at hSw); first | (go_simp; done) | (go_simp; with_reducible rfl))
      try simp only [Act.put, List.getElem_toArray, List.getElem_cons_succ, List.getElem_cons_zero, List.setIfInBounds_toArray, List.set_cons_zero, List.set_cons_succ]
      refine wpAnyH_take (i := 11) (v := ?_) rfl (by kernel_rfl) (by kernel_rfl) (by kernel_rfl) (fun _ _ _ h => h) (Or.inl ⟨by rfl, ?_⟩) (by assumption) ?_
      rotate_left
      · (intro w hSw; (try dsimp only at hSw); first | (go_simp; done) | (go_simp; with_reducible rfl))
      try simp only [Act.put, List.getElem_toArray, List.getElem_cons_succ, List.getElem_cons_zero, List.setIfInBounds_toArray, List.set_cons_zero, List.set_cons_succ]
      refine wpAnyH_take (i := 12) (v := _) rfl (by kernel_rfl) (by kernel_rfl) (by kernel_rfl) (fun _ _ _ h => h) (yieldsIf_lookup (by rfl) _ _ true rfl keyOK_place Try.underlying59 zeroSumV rfl (fun w h => TAt.map h) (plN v i) (by simp [encP, plN, Act.eval, hdiv, hdiv2]) _ HLK.out) (by assumption) ?_
      try simp only [Act.put, List.getElem_toArray, List.getElem_cons_succ, List.getElem_cons_zero, List.setIfInBounds_toArray, List.set_cons_zero, List.set_cons_succ]
      refine wpAnyH_take (i := 13) (v := ?_) rfl (by kernel_rfl) (by kernel_rfl) (by kernel_rfl) (fun _ _ _ h => h) (Or.inl ⟨by rfl, ?_⟩) (by assumption) ?_
      rotate_left
      · (intro w hSw; (try dsimp only at hSw); first | (go_simp; done) | (go_simp; with_reducible rfl))
      try simp only [Act.put, List.getElem_toArray, List.getElem_cons_succ, List.getElem_cons_zero, List.setIfInBounds_toArray, List.set_cons_zero, List.set_cons_succ]
      refine wpAnyH_take (i := 14) (v := ?_) rfl (by kernel_rfl) (by kernel_rfl) (by kernel_rfl) (fun _ _ _ h => h) (Or.inl ⟨by rfl, ?_⟩) (by assumption) ?_
      rotate_left
      · (intro w hSw; (try dsimp only at hSw); first | (go_simp; done) | (go_simp; with_reducible rfl))
      try simp only [Act.put, List.getElem_toArray, List.getElem_cons_succ, List.getElem_cons_zero, List.setIfInBounds_toArray, List.set_cons_zero, List.set_cons_succ]
      refine wpAnyH_take (i := 15) (v := ?_) rfl (by kernel_rfl) (by kernel_rfl) (by kernel_rfl) (fun _ _ _ h => h) (Or.inl ⟨by rfl, ?_⟩) (by assumption) ?_
      rotate_left
      · (intro w hSw; (try dsimp only at hSw); first | (go_simp; done) | (go_simp; with_reducible rfl))
      try simp only [Act.put, List.getElem_toArray, List.getElem_cons_succ, List.getElem_cons_zero, List.setIfInBounds_toArray, List.set_cons_zero, List.set_cons_succ]
      refine wpAnyH_ready (rs := [16]) (by kernel_rfl) (by simp) ?_
      refine AllReadyH.cons rfl (fun K hK => ?_) AllReadyH.nil
      rw [if_pos (by rfl)]
      go_simp
      refine hK.out _ _ ?_ (fun hHeld => ?_)
      · ((try dsimp only); exact TAt.ext0 hHeld ((Ext.refl [] _).alloc _))
      clear hK K
      try simp only [Act.put, List.getElem_toArray, List.getElem_cons_succ, List.getElem_cons_zero, List.setIfInBounds_toArray, List.set_cons_zero, List.set_cons_succ]
      refine wpAnyH_ready (rs := [17]) (by kernel_rfl) (by simp) ?_
      refine AllReadyH.cons rfl (fun K hK => ?_) AllReadyH.nil
      rw [if_pos (by rfl)]
      refine wp_store_row 35 _ _ rfl _ (digV (textP L v i)) rfl rfl _ _ (zeroSum _) (by rw [digV_size]; exact infoSum) (by rw [digV_size]; exact bytesL_size _) (digV_one _) ?_
      refine hK.out _ _ ?_ (fun hHeld => ?_)
      · ((try dsimp only); exact TAt.ext hHeld (setRow_ext _ _) (by simpa using ne_block (TAt.cells hHeld) (zeroSum _) (by simp)) (by simpa using (MapAt.ne (TAt.map hHeld) (zeroSum _)).symm))
      clear hK K
      try simp only [Act.put, List.getElem_toArray, List.getElem_cons_succ, List.getElem_cons_zero, List.setIfInBounds_toArray, List.set_cons_zero, List.set_cons_succ]
      refine wpAnyH_take (i := 18) (v := ?_) rfl (by kernel_rfl) (by kernel_rfl) (by kernel_rfl) (fun _ _ _ h => h) (Or.inl ⟨by rfl, ?_⟩) (by assumption) ?_
      rotate_left
      · (intro w hSw; (try dsimp only at hSw); first | (go_simp; done) | (go_simp; with_reducible rfl))
      try simp only [Act.put, List.getElem_toArray, List.getElem_cons_succ, List.getElem_cons_zero, List.setIfInBounds_toArray, List.set_cons_zero, List.set_cons_succ]
      refine wpAnyH_done (by kernel_rfl) ?_ _
      refine NoPanic.normal ?_
      go_wp2; go_meet; exact ⟨_, rfl, rfl, setRow_heap _ _ _ _ _ _ (zeroSum _), (((Ext.refl [] W).drew).alloc _).trans (setRow_ext _ _) (fun g hg => .inr (by simp at hg; omega))⟩
    · rw [if_pos (by rfl)]
      go_simp
      refine hK.out _ _ ?_ (fun hHeld => ?_)
      · ((try dsimp only); exact TAt.ext0 hHeld ((Ext.refl [] _).alloc _))
      clear hK K
      try simp only [Act.put, List.getElem_toArray, List.getElem_cons_succ, List.getElem_cons_zero, List.setIfInBounds_toArray, List.set_cons_zero, List.set_cons_succ]
      refine wpAnyH_ready (rs := [6]) (by kernel_rfl) (by simp) ?_
      refine AllReadyH.cons rfl (fun K hK => ?_) AllReadyH.nil
      go_simp
      (go_at_call 45; refine (Try.bits_Len (n : Int) _ (by omega) (by omega)).mono ?_; rintro e w1 ⟨rfl, rfl⟩; rw [HL.out])
      go_wp2_with fail
      refine hK.out _ _ ?_ (fun hHeld => ?_)
      · ((try dsimp only); exact hHeld)
      clear hK K
      try simp only [Act.put, List.getElem_toArray, List.getElem_cons_succ, List.getElem_cons_zero, List.setIfInBounds_toArray, List.set_cons_zero, List.set_cons_succ]
      refine wpAnyH_take (i := 7) (v := ?_) rfl (by kernel_rfl) (by kernel_rfl) (by kernel_rfl) (fun _ _ _ h => h) (Or.inl ⟨by rfl, ?_⟩) (by assumption) ?_
      rotate_left
      · (intro w hSw; (try dsimp only at hSw); first | (go_simp; done) | (go_simp; with_reducible rfl))
      try simp only [Act.put, List.getElem_toArray, List.getElem_cons_succ, List.getElem_cons_zero, List.setIfInBounds_toArray, List.set_cons_zero, List.set_cons_succ]
      refine wpAnyH_take (i := 11) (v := ?_) rfl (by kernel_rfl) (by kernel_rfl) (by kernel_rfl) (fun _ _ _ h => h) (Or.inl ⟨by rfl, ?_⟩) (by assumption) ?_
      rotate_left
      · (intro w hSw; (try dsimp only at hSw); first | (go_simp; done) | (go_simp; with_reducible rfl))
      try simp only [Act.put, List.getElem_toArray, List.getElem_cons_succ, List.getElem_cons_zero, List.setIfInBounds_toArray, List.set_cons_zero, List.set_cons_succ]
      refine wpAnyH_take (i := 12) (v := _) rfl (by kernel_rfl) (by kernel_rfl) (by kernel_rfl) (fun _ _ _ h => h) (yieldsIf_lookup (by rfl) _ _ true rfl keyOK_place Try.underlying59 zeroSumV rfl (fun w h => TAt.map h) (plN v i) (by simp [encP, plN, Act.eval, hdiv, hdiv2]) _ HLK.out) (by assumption) ?_
      try simp only [Act.put, List.getElem_toArray, List.getElem_cons_succ, List.getElem_cons_zero, List.setIfInBounds_toArray, List.set_cons_zero, List.set_cons_succ]
      refine wpAnyH_take (i := 13) (v := ?_) rfl (by kernel_rfl) (by kernel_rfl) (by kernel_rfl) (fun _ _ _ h => h) (Or.inl ⟨by rfl, ?_⟩) (by assumption) ?_
      rotate_left
      · (intro w hSw; (try dsimp only at hSw); first | (go_simp; done) | (go_simp; with_reducible rfl))
      try simp only [Act.put, List.getElem_toArray, List.getElem_cons_succ, List.getElem_cons_zero, List.setIfInBounds_toArray, List.set_cons_zero, List.set_cons_succ]
      refine wpAnyH_take (i := 14) (v := ?_) rfl (by kernel_rfl) (by kernel_rfl) (by kernel_rfl) (fun _ _ _ h => h) (Or.inl ⟨by rfl, ?_⟩) (by assumption) ?_
      rotate_left
      · (intro w hSw; (try dsimp only at hSw); first | (go_simp; done) | (go_simp; with_reducible rfl))
      try simp only [Act.put, List.getElem_toArray, List.getElem_cons_succ, List.getElem_cons_zero, List.setIfInBounds_toArray, List.set_cons_zero, List.set_cons_succ]
      refine wpAnyH_take (i := 15) (v := ?_) rfl (by kernel_rfl) (by kernel_rfl) (by kernel_rfl) (fun _ _ _ h => h) (Or.inl ⟨by rfl, ?_⟩) (by assumption) ?_
      rotate_left
      · (intro w hSw; (try dsimp only at hSw); first | (go_simp; done) | (go_simp; with_reducible rfl))
      try simp only [Act.put, List.getElem_toArray, List.getElem_cons_succ, List.getElem_cons_zero, List.setIfInBounds_toArray, List.set_cons_zero, List.set_cons_succ]
      refine wpAnyH_ready (rs := [17]) (by kernel_rfl) (by simp) ?_
      refine AllReadyH.cons rfl (fun K hK => ?_) AllReadyH.nil
      rw [if_pos (by rfl)]
      refine wp_store_row 35 _ _ rfl _ (digV (textP L v i)) rfl rfl _ _ (zeroSum _) (by rw [digV_size]; exact infoSum) (by rw [digV_size]; exact bytesL_size _) (digV_one _) ?_
      refine hK.out _ _ ?_ (fun hHeld => ?_)
      · ((try dsimp only); exact TAt.ext hHeld (setRow_ext _ _) (by simpa using ne_block (TAt.cells hHeld) (zeroSum _) (by simp)) (by simpa using (MapAt.ne (TAt.map hHeld) (zeroSum _)).symm))
      clear hK K
      try simp only [Act.put, List.getElem_toArray, List.getElem_cons_succ, List.getElem_cons_zero, List.setIfInBounds_toArray, List.set_cons_zero, List.set_cons_succ]
      refine wpAnyH_take (i := 18) (v := ?_) rfl (by kernel_rfl) (by kernel_rfl) (by kernel_rfl) (fun _ _ _ h => h) (Or.inl ⟨by rfl, ?_⟩) (by assumption) ?_
      rotate_left
      · (intro w hSw; (try dsimp only at hSw); first | (go_simp; done) | (go_simp; with_reducible rfl))
      try simp only [Act.put, List.getElem_toArray, List.getElem_cons_succ, List.getElem_cons_zero, List.setIfInBounds_toArray, List.set_cons_zero, List.set_cons_succ]
      refine wpAnyH_done (by kernel_rfl) ?_ _
      refine NoPanic.normal ?_
      go_wp2; go_meet; exact ⟨_, rfl, rfl, setRow_heap _ _ _ _ _ _ (zeroSum _), (((Ext.refl [] W).drew).alloc _).trans (setRow_ext _ _) (fun g hg => .inr (by simp at hg; omega))⟩
  case rest =>
    obtain ⟨C, rfl, rfl, hC, hxc⟩ := hcut
    have hRc := hxc.same hR (by simp)
    go_wp2_with (first
      | (refine wpList_load_row rfl 35 (.tmp 9) rfl C rfl 35 (digV (textP L v i)) (0, 0) _ hC Try.underlying35 rfl (by rw [digV_size]; exact infoSum) ?_)
      | (refine wpList_store_row rfl 35 (.tmp 6) (.tmp 48) rfl R (digV (textP L v i)) rfl rfl _ _ hRc (by rw [digV_size]; exact infoSum) (by rw [digV_size]; exact bytesL_size _) (digV_one _) ?_))
    refine bodyPost_ret (v := .tuple #[.agg (digV (textP L v i)), .int .i64 0]) (results_sum_tmp Try.results29 _ rfl rfl (setRow_heap _ _ _ _ _ _ hRc) (digV_size _)) rfl ⟨_, rfl, Hs.hid (by rw [HM.out]), ?_⟩
    exact (hx0.trans0 hxc).trans (setRow_ext _ _) (fun g hg => .inr (by simp at hg; have := HRR.out; omega))
theorem sum_node {floor : Nat} (v n f : Nat) (h1 : 2 ^ v < n) (h2 : n < 2 ^ (v + 1)) {w : World} {T M N : Nat} {l : List (Pl × ByteArray)} {L : List ByteArray} (t : TAt w.heap T M N floor l) (hI : Hid (TInv L N floor l)) (hN : N ≤ 2 ^ 30) (hfn : f + n ≤ N)
    (ih1 : ∀ (w : World) (y z : Int), TAt w.heap T M N floor l → y = f → z = (f : Int) + (2 ^ v : Nat) → Calls Try.prog 29 #[.pointer (some ⟨T, 0, none⟩), .int .i64 y, .int .i64 z] w fun e w' => ∃ cs, e = .returned (.tuple #[.agg cs, .int .i64 0]) ∧ Hid (cs = digV (mthT L (2 ^ v) f)) ∧ Ext [] w w')
    (ih2 : ∀ (w : World) (y z : Int), TAt w.heap T M N floor l → y = (f : Int) + (2 ^ v : Nat) → z = (f : Int) + n → Calls Try.prog 29 #[.pointer (some ⟨T, 0, none⟩), .int .i64 y, .int .i64 z] w fun e w' => ∃ cs, e = .returned (.tuple #[.agg cs, .int .i64 0]) ∧ Hid (cs = digV (mthT L (n - 2 ^ v) (f + 2 ^ v))) ∧ Ext [] w w')
    (tt : Nat) (htt : tt = f + n) :
    Calls Try.prog 29 #[.pointer (some ⟨T, 0, none⟩), .int .i64 f, .int .i64 tt] w fun e w' => ∃ cs, e = .returned (.tuple #[.agg cs, .int .i64 0]) ∧ Hid (cs = digV (mthT L n f)) ∧ Ext [] w w' := by
  have hp30 : (2 : Nat) ^ 30 = 1073741824 := by decide
  have hp := Nat.two_pow_pos v
  have hhalf : halfN n = 2 ^ v := halfN_eq h1 (Nat.le_of_lt h2)
  have hmth : mthT L n f = nodeT (mthT L (2 ^ v) f) (mthT L (n - 2 ^ v) (f + 2 ^ v)) := by rw [mthT_node (by omega), hhalf]
  obtain ⟨c, hand, hc0⟩ : ∃ c : Int, Go.bits .and .i64 (n : Int) ((n : Int) - 1) = c ∧ (c == 0) = false := by
    have := bits_and_nat n (n - 1) (by have : (2 : Nat) ^ 62 = 4611686018427387904 := (by decide); omega) (by have : (2 : Nat) ^ 62 = 4611686018427387904 := (by decide); omega)
    rw [show ((n - 1 : Nat) : Int) = (n : Int) - 1 by omega] at this
    have h3 := nopow_and h1 h2
    exact ⟨_, this, by simpa using h3⟩
  have hc1 : decide (c = 0) = false := by simpa using hc0
  obtain ⟨x, hx⟩ : ∃ x, x = mthT L (2 ^ v) f := ⟨_, rfl⟩
  obtain ⟨y, hy⟩ : ∃ y, y = mthT L (n - 2 ^ v) (f + 2 ^ v) := ⟨_, rfl⟩
  rw [← hx, ← hy] at hmth
  rw [← hx] at ih1
  rw [← hy] at ih2
  obtain ⟨hh, hhh⟩ : ∃ hh, hh = 2 ^ v := ⟨_, rfl⟩
  rw [← hhh] at h1 ih1 ih2 hhalf
  have hsub : (tt : Int) - (f : Int) = (n : Int) := by omega
  have hw2 : IntKind.i64.wrap ((n : Int) - 1) = (n : Int) - 1 := IntWalk.i64_in _ (by omega)
  have hB : (0 : Int) ≤ n ∧ (1 : Int) ≤ n ∧ (n : Int) ≤ 1073741824 ∧ (0 : Int) ≤ f ∧ (f : Int) ≤ 1073741824 ∧ (tt : Int) ≤ 1073741824 ∧ (0 : Int) ≤ hh ∧ (hh : Int) ≤ 1073741824 := by omega
  obtain ⟨b1, b2, b3, b4, b5, b7, b8, b9⟩ := hB
  have HC := Hs.hid (And.intro (show 2 ≤ n by omega) (And.intro (show n ≤ 2 ^ 50 by have : (2 : Nat) ^ 50 = 1125899906842624 := (by decide); omega) (And.intro hhalf (show (tt : Int) = (f : Int) + n by omega))))
  have HM := Hs.hid hmth
  have HT := Hs.hid t
  have IH1 := Hs.hid ih1
  have IH2 := Hs.hid ih2
  clear t hmth hfn htt hp hp30 hN hhh hx hy hhalf h1 h2 ih1 ih2
  have hR := zeroSum w
  have hx0 := (Ext.refl [] w).alloc (.cells #[.int .u8 0, .int .u8 0, .int .u8 0, .int .u8 0, .int .u8 0, .int .u8 0, .int .u8 0, .int .u8 0, .int .u8 0, .int .u8 0, .int .u8 0, .int .u8 0, .int .u8 0, .int .u8 0, .int .u8 0, .int .u8 0, .int .u8 0, .int .u8 0, .int .u8 0, .int .u8 0, .int .u8 0, .int .u8 0, .int .u8 0, .int .u8 0, .int .u8 0, .int .u8 0, .int .u8 0, .int .u8 0, .int .u8 0, .int .u8 0, .int .u8 0, .int .u8 0] 35)
  have hTW := HT.out.ext0 hx0
  go_enter Try.func29, Try.ntmps29
  go_upto_region 8 with (go_at_call 44; refine (half_any n HC.out.1 HC.out.2.1 _).mono ?_; rintro e w1 ⟨rfl, rfl⟩; rw [HC.out.2.2.1])
  generalize w.alloc (.cells #[.int .u8 0, .int .u8 0, .int .u8 0, .int .u8 0, .int .u8 0, .int .u8 0, .int .u8 0, .int .u8 0, .int .u8 0, .int .u8 0, .int .u8 0, .int .u8 0, .int .u8 0, .int .u8 0, .int .u8 0, .int .u8 0, .int .u8 0, .int .u8 0, .int .u8 0, .int .u8 0, .int .u8 0, .int .u8 0, .int .u8 0, .int .u8 0, .int .u8 0, .int .u8 0, .int .u8 0, .int .u8 0, .int .u8 0, .int .u8 0, .int .u8 0, .int .u8 0] 35) = W at hR hx0 hTW ⊢
  obtain ⟨R, hRR⟩ : ∃ R, w.heap.size = R := ⟨_, rfl⟩
  rw [hRR] at hR ⊢
  have HRR := Hs.hid (show w.heap.size ≤ R from Nat.le_of_eq hRR)
  clear hRR
  have HX := Hs.hid (@isSum_digV x)
  go_upto_region 9 with (first
    | (go_at_call 29; refine (IH1.out W _ _ hTW rfl rfl).mono ?_; rintro e w2 ⟨cs1, rfl, hcs1, hx2⟩; have hq := hcs1.out; subst hq; have hA2 := zeroSum w2; have hx3 := (Ext.refl [] w2).alloc (.cells #[.int .u8 0, .int .u8 0, .int .u8 0, .int .u8 0, .int .u8 0, .int .u8 0, .int .u8 0, .int .u8 0, .int .u8 0, .int .u8 0, .int .u8 0, .int .u8 0, .int .u8 0, .int .u8 0, .int .u8 0, .int .u8 0, .int .u8 0, .int .u8 0, .int .u8 0, .int .u8 0, .int .u8 0, .int .u8 0, .int .u8 0, .int .u8 0, .int .u8 0, .int .u8 0, .int .u8 0, .int .u8 0, .int .u8 0, .int .u8 0, .int .u8 0, .int .u8 0] 35))
    | (refine wpList_store_row rfl 35 (.tmp 12) (.tmp 58) rfl _ (digV x) rfl rfl _ _ hA2 (by rw [digV_size]; exact infoSum) (by rw [digV_size]; exact bytesL_size _) (digV_one _) ?_))
  have hA3 := setRow_heap _ _ _ (digV x) _ _ hA2
  have hx4 : Ext [] W ((w2.alloc (.cells #[.int .u8 0, .int .u8 0, .int .u8 0, .int .u8 0, .int .u8 0, .int .u8 0, .int .u8 0, .int .u8 0, .int .u8 0, .int .u8 0, .int .u8 0, .int .u8 0, .int .u8 0, .int .u8 0, .int .u8 0, .int .u8 0, .int .u8 0, .int .u8 0, .int .u8 0, .int .u8 0, .int .u8 0, .int .u8 0, .int .u8 0, .int .u8 0, .int .u8 0, .int .u8 0, .int .u8 0, .int .u8 0, .int .u8 0, .int .u8 0, .int .u8 0, .int .u8 0] 35)).setRow w2.heap.size (digV x)) := (hx2.trans0 hx3).trans (setRow_ext _ _) (fun g hg => .inr (by simp at hg; have := hx2.size; omega))
  generalize (w2.alloc (.cells #[.int .u8 0, .int .u8 0, .int .u8 0, .int .u8 0, .int .u8 0, .int .u8 0, .int .u8 0, .int .u8 0, .int .u8 0, .int .u8 0, .int .u8 0, .int .u8 0, .int .u8 0, .int .u8 0, .int .u8 0, .int .u8 0, .int .u8 0, .int .u8 0, .int .u8 0, .int .u8 0, .int .u8 0, .int .u8 0, .int .u8 0, .int .u8 0, .int .u8 0, .int .u8 0, .int .u8 0, .int .u8 0, .int .u8 0, .int .u8 0, .int .u8 0, .int .u8 0] 35)).setRow w2.heap.size (digV x) = W3 at hA3 hx4 ⊢
  clear hA2 hx3
  generalize w2.heap.size = A at hA3 ⊢
  clear hx2
  have hTW3 := hTW.ext0 hx4
  go_upto_region 12 with (first
    | (go_at_call 29; refine (IH2.out W3 _ _ hTW3 rfl HC.out.2.2.2).mono ?_; rintro e w5 ⟨cs2, rfl, hcs2, hx5⟩; have hq := hcs2.out; subst hq; have hB5 := zeroSum w5; have hx6 := (Ext.refl [] w5).alloc (.cells #[.int .u8 0, .int .u8 0, .int .u8 0, .int .u8 0, .int .u8 0, .int .u8 0, .int .u8 0, .int .u8 0, .int .u8 0, .int .u8 0, .int .u8 0, .int .u8 0, .int .u8 0, .int .u8 0, .int .u8 0, .int .u8 0, .int .u8 0, .int .u8 0, .int .u8 0, .int .u8 0, .int .u8 0, .int .u8 0, .int .u8 0, .int .u8 0, .int .u8 0, .int .u8 0, .int .u8 0, .int .u8 0, .int .u8 0, .int .u8 0, .int .u8 0, .int .u8 0] 35))
    | (refine wpList_store_row rfl 35 (.tmp 14) (.tmp 71) rfl _ (digV y) rfl rfl _ _ hB5 (by rw [digV_size]; exact infoSum) (by rw [digV_size]; exact bytesL_size _) (digV_one _) ?_))
  have hB6 := setRow_heap _ _ _ (digV y) _ _ hB5
  have hx7 : Ext [] W3 ((w5.alloc (.cells #[.int .u8 0, .int .u8 0, .int .u8 0, .int .u8 0, .int .u8 0, .int .u8 0, .int .u8 0, .int .u8 0, .int .u8 0, .int .u8 0, .int .u8 0, .int .u8 0, .int .u8 0, .int .u8 0, .int .u8 0, .int .u8 0, .int .u8 0, .int .u8 0, .int .u8 0, .int .u8 0, .int .u8 0, .int .u8 0, .int .u8 0, .int .u8 0, .int .u8 0, .int .u8 0, .int .u8 0, .int .u8 0, .int .u8 0, .int .u8 0, .int .u8 0, .int .u8 0] 35)).setRow w5.heap.size (digV y)) := (hx5.trans0 hx6).trans (setRow_ext _ _) (fun g hg => .inr (by simp at hg; have := hx5.size; omega))
  generalize (w5.alloc (.cells #[.int .u8 0, .int .u8 0, .int .u8 0, .int .u8 0, .int .u8 0, .int .u8 0, .int .u8 0, .int .u8 0, .int .u8 0, .int .u8 0, .int .u8 0, .int .u8 0, .int .u8 0, .int .u8 0, .int .u8 0, .int .u8 0, .int .u8 0, .int .u8 0, .int .u8 0, .int .u8 0, .int .u8 0, .int .u8 0, .int .u8 0, .int .u8 0, .int .u8 0, .int .u8 0, .int .u8 0, .int .u8 0, .int .u8 0, .int .u8 0, .int .u8 0, .int .u8 0] 35)).setRow w5.heap.size (digV y) = W6 at hB6 hx7 ⊢
  clear hB5 hx6
  generalize w5.heap.size = B at hB6 ⊢
  clear hx5
  have hA6 := hx7.same hA3 (by simp)
  have hR6 := (hx4.trans0 hx7).same hR (by simp)
  go_wp2_with (first
    | (refine wpList_load_row rfl 35 (.tmp 12) rfl A rfl 35 (digV x) (0, 0) _ hA6 Try.underlying35 rfl (by rw [digV_size]; exact infoSum) ?_)
    | (refine wpList_load_row rfl 35 (.tmp 14) rfl B rfl 35 (digV y) (0, 0) _ hB6 Try.underlying35 rfl (by rw [digV_size]; exact infoSum) ?_)
    | (go_at_call 24; refine (dignode_any x y _).mono ?_; rintro e w7 ⟨cs, rfl, hcs, hx8⟩; have hcs' := hcs.out; subst hcs'; have hR8 := hx8.same hR6 (by simp))
    | (refine wpList_store_row rfl 35 (.tmp 6) (.tmp 79) rfl R (digV (nodeT x y)) rfl rfl _ _ hR8 (by rw [digV_size]; exact infoSum) (by rw [digV_size]; exact bytesL_size _) (digV_one _) ?_))
  refine bodyPost_ret (v := .tuple #[.agg (digV (nodeT x y)), .int .i64 0]) (results_sum_tmp Try.results29 _ rfl rfl (setRow_heap _ _ _ _ _ _ hR8) (digV_size _)) rfl ⟨_, rfl, Hs.hid (by rw [HM.out]), ?_⟩
  exact (((hx0.trans0 hx4).trans0 hx7).trans0 hx8).trans (setRow_ext _ _) (fun g hg => .inr (by simp at hg; have := HRR.out; omega))
theorem sum_any {floor : Nat} {n f : Nat} (h : SumOK floor n f) {T M N : Nat} {l : List (Pl × ByteArray)} {L : List ByteArray} (hI : Hid (TInv L N floor l)) (hN : N ≤ 2 ^ 30) : f + n ≤ N →
    ∀ (w : World) (y z : Int), TAt w.heap T M N floor l → y = f → z = (f : Int) + n →
    Calls Try.prog 29 #[.pointer (some ⟨T, 0, none⟩), .int .i64 y, .int .i64 z] w fun e w' => ∃ cs, e = .returned (.tuple #[.agg cs, .int .i64 0]) ∧ Hid (cs = digV (mthT L n f)) ∧ Ext [] w w' := by
  induction h with
  | look v i hu =>
    intro hfn w y z t hy hz
    subst hy
    have : z = ((i * 2 ^ v + 2 ^ v : Nat) : Int) := by omega
    subst this
    exact sum_look v i hu t hI hN hfn (2 ^ v) (i * 2 ^ v) _ rfl rfl rfl
  | node v n f h1 h2 _ _ ih1 ih2 =>
    intro hfn w y z t hy hz
    subst hy
    have : z = ((f + n : Nat) : Int) := by omega
    subst this
    exact sum_node v n f h1 h2 t hI hN hfn (fun w y z t hy hz => ih1 (by omega) w y z t hy hz) (fun w y z t hy hz => ih2 (by omega) w y z t (by omega) (by omega)) _ rfl
end Go.Proofs.Ytjicjadibaomkaa
set_option linter.unusedSimpArgs false
set_option linter.unusedVariables false
set_option maxHeartbeats 1000000
set_option maxRecDepth 100000
namespace Go.Proofs.Ytjicjadibaomkaa
open Go.RowKit Go.Hs Go.Dg

/-- The cells of sums, by their texts. -/
def sumsC (xs : List ByteArray) : List Value := xs.flatMap fun x => (digV x).toList
theorem sumsC_len (xs : List ByteArray) : (sumsC xs).length = xs.length * 32 := by
  unfold sumsC
  induction xs with
  | nil => rfl
  | cons x xs ih =>
    rw [List.flatMap_cons, List.length_append, ih, Array.length_toList, digV_size, List.length_cons]; omega
theorem sumsC_app (xs ys : List ByteArray) : sumsC (xs ++ ys) = sumsC xs ++ sumsC ys := by simp [sumsC]
theorem sumsC_one (xs : List ByteArray) : ∀ u ∈ sumsC xs, u.oneCell' = true := by
  intro u hu
  simp only [sumsC, List.mem_flatMap] at hu
  obtain ⟨x, _, hx⟩ := hu
  exact (Array.all_eq_true'.1 (digV_one x)) u (Array.mem_toList_iff.1 hx)
theorem infoSumZ : (Try.prog.info? 35).map (fun i => (i.zero, i.size, i.bytes)) = some (some (.agg #[.int .u8 0, .int .u8 0, .int .u8 0, .int .u8 0, .int .u8 0, .int .u8 0, .int .u8 0, .int .u8 0, .int .u8 0, .int .u8 0, .int .u8 0, .int .u8 0, .int .u8 0, .int .u8 0, .int .u8 0, .int .u8 0, .int .u8 0, .int .u8 0, .int .u8 0, .int .u8 0, .int .u8 0, .int .u8 0, .int .u8 0, .int .u8 0, .int .u8 0, .int .u8 0, .int .u8 0, .int .u8 0, .int .u8 0, .int .u8 0, .int .u8 0, .int .u8 0]), 32, 32) := by kernel_rfl
theorem fill_sums : ∀ (xs : List ByteArray) (k : Nat) (pre : List Value) (b : Array Value), pre.length = k * 32 → b.size = (k + xs.length) * 32 → b.toList.take (k * 32) = pre →
    Instr.fill (fun i => some (i * 32, 32)) b ((xs.zipIdx k).map fun p => (p.2, Value.agg (digV p.1))) = some (pre ++ sumsC xs).toArray
  | [], k, pre, b, hp, hb, ht => by
    simp only [List.zipIdx_nil, List.map_nil, Instr.fill, sumsC, List.flatMap_nil, List.append_nil]
    have : b.toList = pre := by rw [← ht, List.take_of_length_le (by simp at hb ⊢; omega)]
    rw [← this]
  | x :: xs, k, pre, b, hp, hb, ht => by
    simp only [List.zipIdx_cons, List.map_cons, Instr.fill]
    have hc : (Value.agg (digV x)).cells = digV x := rfl
    simp only [List.length_cons] at hb
    rw [hc, if_neg (by simp [digV_size]; omega)]
    have hf : (digV x).zipIdx.foldl (fun cs (p : Value × Nat) => cs.setIfInBounds (k * 32 + p.2) p.1) b = ((digV x).toList.zipIdx 0).foldl (fun a (p : Value × Nat) => a.setIfInBounds (k * 32 + p.2) p.1) b := by
      rw [← Array.foldl_toList, Array.toList_zipIdx]
    have hf' : (digV x).zipIdx.foldl (fun cs (x : Value × Nat) => match x with | (c, j) => cs.setIfInBounds (k * 32 + j) c) b = ((digV x).toList.zipIdx 0).foldl (fun a (p : Value × Nat) => a.setIfInBounds (k * 32 + p.2) p.1) b := hf
    rw [hf']
    obtain ⟨h1, h2⟩ := fold_at (k * 32) (digV x).toList 0 b
    have hlen : (digV x).toList.length = 32 := by rw [Array.length_toList, digV_size]
    generalize ((digV x).toList.zipIdx 0).foldl (fun a (p : Value × Nat) => a.setIfInBounds (k * 32 + p.2) p.1) b = b2 at h1 h2 ⊢
    have hb2 : b2.size = (k + 1 + xs.length) * 32 := by omega
    have hp2 : (pre ++ (digV x).toList).length = (k + 1) * 32 := by rw [List.length_append, hp, hlen]; omega
    have ht2 : b2.toList.take ((k + 1) * 32) = pre ++ (digV x).toList := by
      apply List.ext_getElem?
      intro i
      rw [List.getElem?_take]
      have h4 := h2 i
      rw [← Array.getElem?_toList] at h4
      by_cases hi : i < (k + 1) * 32
      · rw [if_pos hi, h4]
        by_cases hi2 : i < k * 32
        · rw [if_neg (by omega), List.getElem?_append_left (by omega), ← ht, List.getElem?_take, if_pos hi2, Array.getElem?_toList]
        · rw [if_pos ⟨by omega, by omega, by omega⟩, List.getElem?_append_right (by omega), hp]; congr 1
      · rw [if_neg hi, List.getElem?_eq_none]
        rw [List.length_append, hp, hlen]; omega
    have h3 := fill_sums xs (k + 1) (pre ++ (digV x).toList) b2 hp2 hb2 ht2
    rw [h3]
    simp [sumsC]
theorem fill_sum (x : ByteArray) (b : Array Value) (hb : b.size = 32) : Instr.fill (fun i => some (i * 32, 32)) b [(0, Value.agg (digV x))] = some (digV x) := by
  have := fill_sums [x] 0 [] b rfl (by simpa using hb) rfl
  simpa [sumsC] using this
/-- A slice of one sum, made where it is written. -/
theorem wpList_sum {ops : Array Oper} {rest : List Oper} {o : Oper} {a : Act} {w : World} {Q : Exit → Act → World → Prop} (hg : o.guard = none) (y : Operand) (ho : o.op = .buildSlice 28 1 #[(0, y)])
    (x : ByteArray) (hy : a.eval y = .agg (digV x))
    (h : wpList Try.prog ops Q rest (a.put o.dst (.slice (some ⟨w.heap.size, 0, none⟩) 1 1)) (w.alloc (.cells (digV x) 35))) : wpList Try.prog ops Q (o :: rest) a w := by
  obtain ⟨i0, hi, hz0, hz1, hz2⟩ := info_parts infoSumZ
  refine wpList_buildSlice hg 28 35 1 _ ho (digV x) i0 _ Try.underlying28 hi hz0 (by rw [hz1]; decide) (by rw [hz1]; decide) ?_ h
  rw [hz1]
  have : (#[(0, y)].map fun (p : Nat × Operand) => (p.1, a.eval p.2)).toList = [(0, Value.agg (digV x))] := by simp [hy]
  show Instr.fill _ _ (#[(0, y)].map fun (p : Nat × Operand) => (p.1, a.eval p.2)).toList = _
  rw [this]
  exact fill_sum x _ (by simp)
/-- A slice of sums that the call owns. -/
def OwnS (h : Array Obj) (v : Value) (xs : List ByteArray) : Prop := Own h 35 32 v xs.length (sumsC xs)
theorem OwnS.nil (h : Array Obj) : OwnS h (.slice none 0 0) [] := ⟨rfl, .inl ⟨rfl, rfl⟩⟩
theorem OwnS.form {w : World} {v : Value} {xs : List ByteArray} (o : OwnS w.heap v xs) : ∃ ao cap, v = .slice ao xs.length cap := Own.form o
theorem OwnS.ext {w w' : World} {F : List Nat} {v : Value} {xs : List ByteArray} (o : OwnS w.heap v xs) (x : Ext F w w') (hF : ∀ g, v.ownBlock = some g → g ∉ F) : OwnS w'.heap v xs :=
  Own.same o fun g hg => x.block g (Own.lt o hg) (hF g hg)
/-- One more, behind: the one sum's slice lies in block B. -/
theorem wpList_append_sum {ops : Array Oper} {rest : List Oper} {o : Oper} {a : Act} {w : World} {Q : Exit → Act → World → Prop}
    (hg : o.guard = none) (s y : Operand) (hop : o.op = Op.call { callee := Callee.builtin Builtin.append, args := #[s, y], argTypes := #[28, 28] })
    (v : Value) (xs : List ByteArray) (hs : a.eval s = v) (hown : OwnS w.heap v xs) (B m : Nat) (ys : List ByteArray) (fr : Nat × Nat) (hm : m = ys.length) (hy : a.eval y = .slice (some ⟨B, 0, none⟩) m m) (hB : w.heap[B]? = some (.cells (sumsC ys).toArray 35 fr))
    (hlen : xs.length + m ≤ 1000)
    (hK : ∀ ao cap w', OwnS w'.heap (.slice ao (xs.length + m) cap) (xs ++ ys) → Ext v.ownBlock.toList w w' → (∀ g, (Value.slice ao (xs.length + m) cap).ownBlock = some g → v.ownBlock = some g ∨ w.heap.size ≤ g) →
      wpList Try.prog ops Q rest (a.put o.dst (.slice ao (xs.length + m) cap)) w') : wpList Try.prog ops Q (o :: rest) a w := by
  obtain ⟨i0, hi, hz0, hz1, hz2⟩ := info_parts infoSumZ
  subst hm
  refine wpList_append hg s y 28 hop 35 i0 _ 32 32 Try.underlying28 hi hz0 hz1 hz2 (by kernel_rfl) (by decide) v xs.length (sumsC xs) hs hown ⟨B, 0, none⟩ ys.length ys.length (sumsC ys) hy (sumsC_len ys) (fun j u hj => ?_) (sumsC_one ys) (by unfold maxLen; omega) (by omega) fun ao cap w' h1 h2 h3 => hK ao cap w' ?_ h2 h3
  · rw [add_off', cellAt hB j]; simpa using hj
  · unfold OwnS; rw [sumsC_app, List.length_append]; exact h1
end Go.Proofs.Ytjicjadibaomkaa
set_option linter.unusedSimpArgs false
set_option linter.unusedVariables false
set_option maxHeartbeats 2000000
set_option maxRecDepth 100000
namespace Go.Proofs.Ytjicjadibaomkaa
open Go.RowKit Go.Hs Go.Dg

/-- The texts of a leaf's proof, from within out. -/
def pathT (L : List ByteArray) (i n f : Nat) : List ByteArray :=
  if h : 2 ≤ n then
    if i < f + halfN n then pathT L i (halfN n) f ++ [mthT L (n - halfN n) (f + halfN n)]
    else pathT L i (n - halfN n) (f + halfN n) ++ [mthT L (halfN n) f]
  else []
termination_by n
decreasing_by
  · exact halfN_lt h
  · have := halfN_pos n; omega
theorem pathT_one {L : List ByteArray} {i n f : Nat} (h : ¬ 2 ≤ n) : pathT L i n f = [] := by rw [pathT, dif_neg h]
theorem pathT_left {L : List ByteArray} {i n f k : Nat} (h : 2 ≤ n) (hk : halfN n = k) (hi : i < f + k) : pathT L i n f = pathT L i k f ++ [mthT L (n - k) (f + k)] := by rw [pathT, dif_pos h, hk, if_pos hi]
theorem pathT_right {L : List ByteArray} {i n f k : Nat} (h : 2 ≤ n) (hk : halfN n = k) (hi : ¬ i < f + k) : pathT L i n f = pathT L i (n - k) (f + k) ++ [mthT L k f] := by rw [pathT, dif_pos h, hk, if_neg hi]
theorem pathT_len (L : List ByteArray) : ∀ (c i n f : Nat), n ≤ 2 ^ c → (pathT L i n f).length ≤ c
  | 0, i, n, f, h => by rw [pathT_one (by simp at h; omega)]; simp
  | c + 1, i, n, f, h => by
    by_cases hn : 2 ≤ n
    · obtain ⟨v, h1, h2⟩ := exists_pow n hn
      have hv : v ≤ c := by
        have := (Nat.pow_lt_pow_iff_right (a := 2) (n := v) (m := c + 1) (by omega)).1 (by omega); omega
      have hh := halfN_eq h1 h2
      have hp : 2 ^ v ≤ 2 ^ c := Nat.pow_le_pow_right (by omega) hv
      rw [Nat.pow_succ] at h2
      by_cases hi : i < f + 2 ^ v
      · rw [pathT_left hn hh hi, List.length_append]
        have := pathT_len L c i (2 ^ v) f hp
        simp; exact this
      · rw [pathT_right hn hh hi, List.length_append]
        have := pathT_len L c i (n - 2 ^ v) (f + 2 ^ v) (by omega)
        simp; exact this
    · rw [pathT_one hn]; simp
/-- What a call of path does. -/
def PathC (T M N floor : Nat) (l : List (Pl × ByteArray)) (L : List ByteArray) (i n f : Nat) : Prop := ∀ (w : World) (y z1 z2 : Int), TAt w.heap T M N floor l → y = i → z1 = f → z2 = (f : Int) + n →
  Calls Try.prog 26 #[.pointer (some ⟨T, 0, none⟩), .int .i64 y, .int .i64 z1, .int .i64 z2] w fun e w' => ∃ v, e = .returned (.tuple #[v, .int .i64 0]) ∧ OwnS w'.heap v (pathT L i n f) ∧ (∀ g, v.ownBlock = some g → w.heap.size ≤ g) ∧ Ext [] w w'
def SumC (T M N floor : Nat) (l : List (Pl × ByteArray)) (L : List ByteArray) (n f : Nat) : Prop := ∀ (w : World) (y z : Int), TAt w.heap T M N floor l → y = f → z = (f : Int) + n →
  Calls Try.prog 29 #[.pointer (some ⟨T, 0, none⟩), .int .i64 y, .int .i64 z] w fun e w' => ∃ cs, e = .returned (.tuple #[.agg cs, .int .i64 0]) ∧ Hid (cs = digV (mthT L n f)) ∧ Ext [] w w'
theorem path_one {T M N floor : Nat} {l : List (Pl × ByteArray)} {L : List ByteArray} (i f : Nat) (hf : f ≤ 2 ^ 40) : PathC T M N floor l L i 1 f := by
  intro w y z1 z2 t hy hz1 hz2
  subst hy hz1 hz2
  have hs : (f : Int) + ((1 : Nat) : Int) - f = 1 := by omega
  have hs2 : (f : Int) + 1 - f = 1 := by omega
  have hb : (f : Int) ≤ 1099511627776 := by
    have : (2 : Nat) ^ 40 = 1099511627776 := by decide
    omega
  clear hf
  go_enter Try.func26, Try.ntmps26
  go_wp2
  go_ret2
  exact ⟨_, rfl, (by rw [pathT_one (by omega)]; exact OwnS.nil _), (fun g hg => by cases hg), Ext.refl _ _⟩
theorem path_left {T M N floor : Nat} {l : List (Pl × ByteArray)} {L : List ByteArray} (i n f hh : Nat) (hn : 2 ≤ n) (hhh : halfN n = hh) (hi : i < f + hh) (hlt : i < f + n) (hfi : f ≤ i) (hN : N ≤ 2 ^ 30) (hfn : f + n ≤ N)
    (ih : PathC T M N floor l L i hh f) (hsum : SumC T M N floor l L (n - hh) (f + hh)) : PathC T M N floor l L i n f := by
  intro w y z1 z2 t hy hz1 hz2
  subst hy hz1
  have hp30 : (2 : Nat) ^ 30 = 1073741824 := by decide
  have hhn := halfN_lt hn
  have hpt := pathT_left (L := L) hn hhh hi
  rw [hhh] at hhn
  obtain ⟨tt, htt⟩ : ∃ tt : Nat, z2 = (tt : Int) := ⟨f + n, by omega⟩
  subst htt
  have hsub : (tt : Int) - (f : Int) = (n : Int) := by omega
  have hplen := pathT_len L 40 i hh f (Nat.le_trans (show _ ≤ 2 ^ 30 by omega) (by decide))
  have hin : decide ((i : Int) < (f : Int) + (hh : Int)) = true := by simp; omega
  have hn1 : ((n : Int) == 1) = false := by simp; omega
  have hn2 : decide ((n : Int) = 1) = false := by simp; omega
  have hB : (0 : Int) ≤ n ∧ (2 : Int) ≤ n ∧ (n : Int) ≤ 1073741824 ∧ (0 : Int) ≤ f ∧ (f : Int) ≤ 1073741824 ∧ (tt : Int) ≤ 1073741824 ∧ (0 : Int) ≤ hh ∧ (hh : Int) ≤ 1073741824 ∧ (i : Int) ≤ 1073741824 := by omega
  obtain ⟨b1, b2, b3, b4, b5, b7, b8, b9, b10⟩ := hB
  have HC := Hs.hid (And.intro hn (And.intro (show n ≤ 2 ^ 50 by have : (2 : Nat) ^ 50 = 1125899906842624 := (by decide); omega) (And.intro hhh (And.intro hplen (show (tt : Int) = ((f + hh : Nat) : Int) + ((n - hh : Nat) : Int) by skip; omega)))))
  have HP := Hs.hid hpt
  have HT := Hs.hid t
  have IH := Hs.hid ih
  have HS := Hs.hid hsum
  clear t hpt hfn hz2 hp30 hN hhh hn ih hsum hhn hlt hfi hplen hi
  obtain ⟨p, hp⟩ : ∃ p, pathT L i hh f = p := ⟨_, rfl⟩
  obtain ⟨x, hx⟩ : ∃ x, mthT L (n - hh) (f + hh) = x := ⟨_, rfl⟩
  rw [hp, hx] at HP
  rw [hp] at HC
  have HPX := Hs.hid (And.intro hp hx)
  clear hp hx
  go_enter Try.func26, Try.ntmps26
  go_upto_region 8 with (go_at_call 44; refine (half_any n HC.out.1 HC.out.2.1 _).mono ?_; rintro e w1 ⟨rfl, hw1⟩; subst w1; rw [HC.out.2.2.1])
  have hX := zeroSum w
  have hx0 := (Ext.refl [] w).alloc (.cells #[.int .u8 0, .int .u8 0, .int .u8 0, .int .u8 0, .int .u8 0, .int .u8 0, .int .u8 0, .int .u8 0, .int .u8 0, .int .u8 0, .int .u8 0, .int .u8 0, .int .u8 0, .int .u8 0, .int .u8 0, .int .u8 0, .int .u8 0, .int .u8 0, .int .u8 0, .int .u8 0, .int .u8 0, .int .u8 0, .int .u8 0, .int .u8 0, .int .u8 0, .int .u8 0, .int .u8 0, .int .u8 0, .int .u8 0, .int .u8 0, .int .u8 0, .int .u8 0] 35)
  have hTW := HT.out.ext0 hx0
  have hXlt := lt_of_heap hX
  generalize w.alloc (.cells #[.int .u8 0, .int .u8 0, .int .u8 0, .int .u8 0, .int .u8 0, .int .u8 0, .int .u8 0, .int .u8 0, .int .u8 0, .int .u8 0, .int .u8 0, .int .u8 0, .int .u8 0, .int .u8 0, .int .u8 0, .int .u8 0, .int .u8 0, .int .u8 0, .int .u8 0, .int .u8 0, .int .u8 0, .int .u8 0, .int .u8 0, .int .u8 0, .int .u8 0, .int .u8 0, .int .u8 0, .int .u8 0, .int .u8 0, .int .u8 0, .int .u8 0, .int .u8 0] 35) = W at hX hx0 hTW hXlt ⊢
  obtain ⟨X, hXX⟩ : ∃ X, w.heap.size = X := ⟨_, rfl⟩
  rw [hXX] at hX hXlt ⊢
  have HXX := Hs.hid (show w.heap.size ≤ X from Nat.le_of_eq hXX)
  have HXL := Hs.hid hXlt
  clear hXX hXlt
  go_upto_region 9 with (go_at_call 26; refine (IH.out _ _ _ _ hTW (by omega) (by simp) (by push_cast; rfl)).mono ?_; rintro e w2 ⟨v, rfl, hO, hOg, hx2⟩)
  rw [HPX.out.1] at hO
  obtain ⟨ao, cap, rfl⟩ := hO.form
  have hX2 := hx2.same hX (by simp)
  have hT2 := hTW.ext0 hx2
  have HOG := Hs.hid hOg
  clear hOg
  go_upto_region 12 with (first
    | (go_at_call 29; refine (HS.out _ _ _ hT2 (by simp) (HC.out.2.2.2.2)).mono ?_; rintro e w3 ⟨cs, rfl, hcs, hx3⟩; rw [HPX.out.2] at hcs; have hq := hcs.out; subst hq; have hX3 := hx3.same hX2 (by simp); have hO3 := hO.ext hx3 (by simp))
    | (refine wpList_store_row rfl 35 (.tmp 12) (.tmp 41) rfl _ (digV x) rfl rfl _ _ hX3 (by rw [digV_size]; exact infoSum) (by rw [digV_size]; exact bytesL_size _) (digV_one _) ?_))
  have hX4 := setRow_heap _ _ _ (digV x) _ _ hX3
  have hxs := setRow_ext (w := w3) X (digV x)
  have hO4 := hO3.ext hxs (fun g hg => by have := HOG.out g hg; have := HXL.out; simp; omega)
  have hx4 : Ext [] w (w3.setRow X (digV x)) := ((hx0.trans0 hx2).trans0 hx3).trans hxs (fun g hg => .inr (by simp at hg; have := HXX.out; omega))
  have hsz : w.heap.size ≤ W.heap.size := hx0.size
  have HSZ := Hs.hid hsz
  generalize w3.setRow X (digV x) = W4 at hX4 hxs hO4 hx4 ⊢
  clear hX3 hO3 hX2 hO hT2 hX hxs hsz
  have hd : (digV x) = (sumsC [x]).toArray := by simp [sumsC]
  have HD := Hs.hid hd
  clear hd
  go_wp2_with (first
    | (refine wpList_load_row rfl 35 (.tmp 12) rfl X rfl 35 (digV x) (0, 0) _ hX4 Try.underlying35 rfl (by rw [digV_size]; exact infoSum) ?_)
    | (refine wpList_sum rfl (.tmp 65) rfl x rfl ?_; have hB5 := heap_new W4 (.cells (digV x) 35); have hO5 := hO4.ext ((Ext.refl [] W4).alloc (.cells (digV x) 35)) (by simp); have hx5 := hx4.alloc (.cells (digV x) 35); rw [HD.out] at hB5)
    | (refine wpList_append_sum rfl (.tmp 64) (.tmp 66) rfl (.slice ao p.length cap) p rfl hO5 _ 1 [x] (0, 0) rfl rfl hB5 (by have := HC.out.2.2.2.1; omega) ?_; intro ao6 cap6 w6 hO6 hx6 hg6))
  go_ret2
  refine ⟨_, rfl, by rw [HP.out]; simpa [OwnS] using hO6, fun g hg => ?_, hx5.trans hx6 (fun g hg => ?_)⟩
  · rcases hg6 g hg with h | h
    · have := HOG.out g h; have := HSZ.out; omega
    · have := hx5.size; omega
  · have := HOG.out g (by simpa using hg); have := HSZ.out; exact .inr (by omega)
theorem path_right {T M N floor : Nat} {l : List (Pl × ByteArray)} {L : List ByteArray} (i n f hh : Nat) (hn : 2 ≤ n) (hhh : halfN n = hh) (hi : ¬ i < f + hh) (hlt : i < f + n) (hfi : f ≤ i) (hN : N ≤ 2 ^ 30) (hfn : f + n ≤ N)
    (ih : PathC T M N floor l L i (n - hh) (f + hh)) (hsum : SumC T M N floor l L hh f) : PathC T M N floor l L i n f := by
  intro w y z1 z2 t hy hz1 hz2
  subst hy hz1
  have hp30 : (2 : Nat) ^ 30 = 1073741824 := by decide
  have hhn := halfN_lt hn
  have hpt := pathT_right (L := L) hn hhh hi
  rw [hhh] at hhn
  obtain ⟨tt, htt⟩ : ∃ tt : Nat, z2 = (tt : Int) := ⟨f + n, by omega⟩
  subst htt
  have hsub : (tt : Int) - (f : Int) = (n : Int) := by omega
  have hplen := pathT_len L 40 i (n - hh) (f + hh) (Nat.le_trans (show _ ≤ 2 ^ 30 by omega) (by decide))
  have hin : decide ((i : Int) < (f : Int) + (hh : Int)) = false := by simp; omega
  have hn1 : ((n : Int) == 1) = false := by simp; omega
  have hn2 : decide ((n : Int) = 1) = false := by simp; omega
  have hB : (0 : Int) ≤ n ∧ (2 : Int) ≤ n ∧ (n : Int) ≤ 1073741824 ∧ (0 : Int) ≤ f ∧ (f : Int) ≤ 1073741824 ∧ (tt : Int) ≤ 1073741824 ∧ (0 : Int) ≤ hh ∧ (hh : Int) ≤ 1073741824 ∧ (i : Int) ≤ 1073741824 := by omega
  obtain ⟨b1, b2, b3, b4, b5, b7, b8, b9, b10⟩ := hB
  have HC := Hs.hid (And.intro hn (And.intro (show n ≤ 2 ^ 50 by have : (2 : Nat) ^ 50 = 1125899906842624 := (by decide); omega) (And.intro hhh (And.intro hplen (show (tt : Int) = ((f + hh : Nat) : Int) + ((n - hh : Nat) : Int) by skip; omega)))))
  have HP := Hs.hid hpt
  have HT := Hs.hid t
  have IH := Hs.hid ih
  have HS := Hs.hid hsum
  clear t hpt hfn hz2 hp30 hN hhh hn ih hsum hhn hlt hfi hplen hi
  obtain ⟨p, hp⟩ : ∃ p, pathT L i (n - hh) (f + hh) = p := ⟨_, rfl⟩
  obtain ⟨x, hx⟩ : ∃ x, mthT L hh f = x := ⟨_, rfl⟩
  rw [hp, hx] at HP
  rw [hp] at HC
  have HPX := Hs.hid (And.intro hp hx)
  clear hp hx
  go_enter Try.func26, Try.ntmps26
  go_upto_region 10 with (go_at_call 44; refine (half_any n HC.out.1 HC.out.2.1 _).mono ?_; rintro e w1 ⟨rfl, hw1⟩; subst w1; rw [HC.out.2.2.1])
  have hX := zeroSum w
  have hx0 := (Ext.refl [] w).alloc (.cells #[.int .u8 0, .int .u8 0, .int .u8 0, .int .u8 0, .int .u8 0, .int .u8 0, .int .u8 0, .int .u8 0, .int .u8 0, .int .u8 0, .int .u8 0, .int .u8 0, .int .u8 0, .int .u8 0, .int .u8 0, .int .u8 0, .int .u8 0, .int .u8 0, .int .u8 0, .int .u8 0, .int .u8 0, .int .u8 0, .int .u8 0, .int .u8 0, .int .u8 0, .int .u8 0, .int .u8 0, .int .u8 0, .int .u8 0, .int .u8 0, .int .u8 0, .int .u8 0] 35)
  have hTW := HT.out.ext0 hx0
  have hXlt := lt_of_heap hX
  generalize w.alloc (.cells #[.int .u8 0, .int .u8 0, .int .u8 0, .int .u8 0, .int .u8 0, .int .u8 0, .int .u8 0, .int .u8 0, .int .u8 0, .int .u8 0, .int .u8 0, .int .u8 0, .int .u8 0, .int .u8 0, .int .u8 0, .int .u8 0, .int .u8 0, .int .u8 0, .int .u8 0, .int .u8 0, .int .u8 0, .int .u8 0, .int .u8 0, .int .u8 0, .int .u8 0, .int .u8 0, .int .u8 0, .int .u8 0, .int .u8 0, .int .u8 0, .int .u8 0, .int .u8 0] 35) = W at hX hx0 hTW hXlt ⊢
  obtain ⟨X, hXX⟩ : ∃ X, w.heap.size = X := ⟨_, rfl⟩
  rw [hXX] at hX hXlt ⊢
  have HXX := Hs.hid (show w.heap.size ≤ X from Nat.le_of_eq hXX)
  have HXL := Hs.hid hXlt
  clear hXX hXlt
  go_upto_region 11 with (go_at_call 26; refine (IH.out _ _ _ _ hTW (by omega) (by simp) (HC.out.2.2.2.2)).mono ?_; rintro e w2 ⟨v, rfl, hO, hOg, hx2⟩)
  rw [HPX.out.1] at hO
  obtain ⟨ao, cap, rfl⟩ := hO.form
  have hX2 := hx2.same hX (by simp)
  have hT2 := hTW.ext0 hx2
  have HOG := Hs.hid hOg
  clear hOg
  go_upto_region 12 with (first
    | (go_at_call 29; refine (HS.out _ _ _ hT2 (by simp) (by push_cast; rfl)).mono ?_; rintro e w3 ⟨cs, rfl, hcs, hx3⟩; rw [HPX.out.2] at hcs; have hq := hcs.out; subst hq; have hX3 := hx3.same hX2 (by simp); have hO3 := hO.ext hx3 (by simp))
    | (refine wpList_store_row rfl 35 (.tmp 12) (.tmp 56) rfl _ (digV x) rfl rfl _ _ hX3 (by rw [digV_size]; exact infoSum) (by rw [digV_size]; exact bytesL_size _) (digV_one _) ?_))
  have hX4 := setRow_heap _ _ _ (digV x) _ _ hX3
  have hxs := setRow_ext (w := w3) X (digV x)
  have hO4 := hO3.ext hxs (fun g hg => by have := HOG.out g hg; have := HXL.out; simp; omega)
  have hx4 : Ext [] w (w3.setRow X (digV x)) := ((hx0.trans0 hx2).trans0 hx3).trans hxs (fun g hg => .inr (by simp at hg; have := HXX.out; omega))
  have hsz : w.heap.size ≤ W.heap.size := hx0.size
  have HSZ := Hs.hid hsz
  generalize w3.setRow X (digV x) = W4 at hX4 hxs hO4 hx4 ⊢
  clear hX3 hO3 hX2 hO hT2 hX hxs hsz
  have hd : (digV x) = (sumsC [x]).toArray := by simp [sumsC]
  have HD := Hs.hid hd
  clear hd
  go_wp2_with (first
    | (refine wpList_load_row rfl 35 (.tmp 12) rfl X rfl 35 (digV x) (0, 0) _ hX4 Try.underlying35 rfl (by rw [digV_size]; exact infoSum) ?_)
    | (refine wpList_sum rfl (.tmp 65) rfl x rfl ?_; have hB5 := heap_new W4 (.cells (digV x) 35); have hO5 := hO4.ext ((Ext.refl [] W4).alloc (.cells (digV x) 35)) (by simp); have hx5 := hx4.alloc (.cells (digV x) 35); rw [HD.out] at hB5)
    | (refine wpList_append_sum rfl (.tmp 64) (.tmp 66) rfl (.slice ao p.length cap) p rfl hO5 _ 1 [x] (0, 0) rfl rfl hB5 (by have := HC.out.2.2.2.1; omega) ?_; intro ao6 cap6 w6 hO6 hx6 hg6))
  go_ret2
  refine ⟨_, rfl, by rw [HP.out]; simpa [OwnS] using hO6, fun g hg => ?_, hx5.trans hx6 (fun g hg => ?_)⟩
  · rcases hg6 g hg with h | h
    · have := HOG.out g h; have := HSZ.out; omega
    · have := hx5.size; omega
  · have := HOG.out g (by simpa using hg); have := HSZ.out; exact .inr (by omega)
theorem path_any {T M N floor : Nat} {l : List (Pl × ByteArray)} {L : List ByteArray} (hI : Hid (TInv L N floor l)) (hN : N ≤ 2 ^ 30) : ∀ (c n i j : Nat), 1 ≤ n → n ≤ 2 ^ c → j * 2 ^ c + n ≤ N → j * 2 ^ c ≤ i → i < j * 2 ^ c + n → floor ≤ i → PathC T M N floor l L i n (j * 2 ^ c) := by
  intro c n
  induction n using Nat.strongRecOn generalizing c with
  | _ n ih =>
    intro i j h1 h2 h3 h4 h5 h6
    have hp30 : (2 : Nat) ^ 30 = 1073741824 := by decide
    by_cases hn : 2 ≤ n
    · obtain ⟨v, hv1, hv2⟩ := exists_pow n hn
      have hvc : v < c := (Nat.pow_lt_pow_iff_right (a := 2) (by omega)).1 (by omega)
      have hh := halfN_eq hv1 hv2
      obtain ⟨d, rfl⟩ : ∃ d, c = v + (d + 1) := ⟨c - v - 1, by omega⟩
      have e0 : j * 2 ^ (v + (d + 1)) = 2 * (j * 2 ^ d) * 2 ^ v := by
        rw [Nat.pow_add, Nat.pow_succ]; simp only [Nat.mul_assoc, Nat.mul_comm, Nat.mul_left_comm]
      have e1 : j * 2 ^ (v + (d + 1)) + 2 ^ v = (2 * (j * 2 ^ d) + 1) * 2 ^ v := by rw [e0, Nat.add_mul, Nat.one_mul]
      have hp := Nat.two_pow_pos v
      have hv3 : n ≤ 2 ^ v * 2 := by rw [Nat.pow_succ] at hv2; exact hv2
      by_cases hi : i < j * 2 ^ (v + (d + 1)) + 2 ^ v
      · refine path_left i n _ (2 ^ v) hn hh hi h5 h4 hN h3 ?_ ?_
        · rw [e0]
          exact ih (2 ^ v) hv1 v i _ hp (Nat.le_refl _) (by omega) (by omega) (by omega) h6
        · rw [e1]
          intro w y z t hy hz
          exact sum_any (sumOK_right (by omega) (by omega) (by omega)) hI hN (by omega) w y z t hy hz
      · refine path_right i n _ (2 ^ v) hn hh hi h5 h4 hN h3 ?_ ?_
        · rw [e1]
          exact ih (n - 2 ^ v) (by omega) v i _ (by omega) (by omega) (by omega) (by omega) (by omega) h6
        · intro w y z t hy hz
          exact sum_any (sumOK_left (by omega) (by rw [Nat.pow_succ]; omega)) hI hN (by omega) w y z t hy hz
    · have : n = 1 := by omega
      subst this
      exact path_one i _ (by have : (2 : Nat) ^ 40 = 1099511627776 := (by decide); omega)
end Go.Proofs.Ytjicjadibaomkaa
set_option linter.unusedSimpArgs false
set_option linter.unusedVariables false
set_option maxHeartbeats 2000000
set_option maxRecDepth 100000
namespace Go.Proofs.Ytjicjadibaomkaa
open Go.RowKit Go.Hs Go.Dg

/-- The texts of the proof of the first leaves up to m, from within out; whole: their own sum is known. -/
def stepsT (L : List ByteArray) (m n f : Nat) (whole : Bool) : List ByteArray :=
  if m = f + n then (if whole then [] else [mthT L n f])
  else if h : 2 ≤ n then
    if m ≤ f + halfN n then stepsT L m (halfN n) f whole ++ [mthT L (n - halfN n) (f + halfN n)]
    else stepsT L m (n - halfN n) (f + halfN n) false ++ [mthT L (halfN n) f]
  else []
termination_by n
decreasing_by
  · exact halfN_lt h
  · have := halfN_pos n; omega
theorem stepsT_end {L : List ByteArray} {m n f : Nat} (w : Bool) (h : m = f + n) : stepsT L m n f w = if w then [] else [mthT L n f] := by rw [stepsT, if_pos h]
theorem stepsT_left {L : List ByteArray} {m n f k : Nat} (w : Bool) (hm : ¬ m = f + n) (h : 2 ≤ n) (hk : halfN n = k) (hi : m ≤ f + k) : stepsT L m n f w = stepsT L m k f w ++ [mthT L (n - k) (f + k)] := by rw [stepsT, if_neg hm, dif_pos h, hk, if_pos hi]
theorem stepsT_right {L : List ByteArray} {m n f k : Nat} (w : Bool) (hm : ¬ m = f + n) (h : 2 ≤ n) (hk : halfN n = k) (hi : ¬ m ≤ f + k) : stepsT L m n f w = stepsT L m (n - k) (f + k) false ++ [mthT L k f] := by rw [stepsT, if_neg hm, dif_pos h, hk, if_neg hi]
theorem stepsT_len (L : List ByteArray) : ∀ (c m n f : Nat) (w : Bool), n ≤ 2 ^ c → (stepsT L m n f w).length ≤ c + 1
  | c, m, n, f, w, h => by
    by_cases hm : m = f + n
    · rw [stepsT_end w hm]; cases w <;> simp
    · by_cases hn : 2 ≤ n
      · obtain ⟨v, h1, h2⟩ := exists_pow n hn
        have hv : v < c := (Nat.pow_lt_pow_iff_right (a := 2) (by omega)).1 (by omega)
        obtain ⟨c, rfl⟩ : ∃ d, c = d + 1 := ⟨c - 1, by omega⟩
        have hh := halfN_eq h1 h2
        have hp : 2 ^ v ≤ 2 ^ c := Nat.pow_le_pow_right (by omega) (by omega)
        rw [Nat.pow_succ] at h2
        by_cases hi : m ≤ f + 2 ^ v
        · rw [stepsT_left w hm hn hh hi, List.length_append]
          have := stepsT_len L c m (2 ^ v) f w hp
          simp; omega
        · rw [stepsT_right w hm hn hh hi, List.length_append]
          have := stepsT_len L c m (n - 2 ^ v) (f + 2 ^ v) false (by omega)
          simp; omega
      · rw [stepsT, if_neg hm, dif_neg hn]; simp
/-- What a call of steps does. -/
def StepsC (T M N floor : Nat) (l : List (Pl × ByteArray)) (L : List ByteArray) (m n f : Nat) (whole : Bool) : Prop := ∀ (w : World) (y z1 z2 : Int), TAt w.heap T M N floor l → y = m → z1 = f → z2 = (f : Int) + n →
  Calls Try.prog 33 #[.pointer (some ⟨T, 0, none⟩), .int .i64 y, .int .i64 z1, .int .i64 z2, .bool whole] w fun e w' => ∃ v, e = .returned (.tuple #[v, .int .i64 0]) ∧ OwnS w'.heap v (stepsT L m n f whole) ∧ (∀ g, v.ownBlock = some g → w.heap.size ≤ g) ∧ Ext [] w w'
theorem steps_whole {T M N floor : Nat} {l : List (Pl × ByteArray)} {L : List ByteArray} (m n f : Nat) (hm : m = f + n) (hb : f + n ≤ 2 ^ 40) : StepsC T M N floor l L m n f true := by
  intro w y z1 z2 t hy hz1 hz2
  subst hy hz1
  obtain rfl : z2 = (m : Int) := by omega
  have hs : ((m : Int) == m) = true := by simp
  have HM := Hs.hid hm
  clear hm hb hz2
  go_enter Try.func33, Try.ntmps33
  go_wp2
  go_ret2
  exact ⟨_, rfl, (by rw [stepsT_end _ HM.out]; exact OwnS.nil _), (fun g hg => by cases hg), Ext.refl _ _⟩
theorem steps_end {T M N floor : Nat} {l : List (Pl × ByteArray)} {L : List ByteArray} (m n f : Nat) (hm : m = f + n) (hb : f + n ≤ 2 ^ 40) (hsum : SumC T M N floor l L n f) : StepsC T M N floor l L m n f false := by
  intro w y z1 z2 t hy hz1 hz2
  subst hy hz1
  obtain rfl : z2 = (m : Int) := by omega
  have hs : ((m : Int) == m) = true := by simp
  have HM := Hs.hid (And.intro hm hz2)
  have HS := Hs.hid hsum
  have HT := Hs.hid t
  clear hm hb hz2 hsum t
  obtain ⟨x, hx⟩ : ∃ x, mthT L n f = x := ⟨_, rfl⟩
  have HX := Hs.hid hx
  clear hx
  go_enter Try.func33, Try.ntmps33
  go_upto_region 5 with (first
    | (go_at_call 29; refine (HS.out _ _ _ HT.out rfl HM.out.2).mono ?_; rintro e w2 ⟨cs1, rfl, hcs1, hx2⟩; rw [HX.out] at hcs1; have hq := hcs1.out; subst hq; have hA2 := zeroSum w2; have hx3 := (Ext.refl [] w2).alloc (.cells #[.int .u8 0, .int .u8 0, .int .u8 0, .int .u8 0, .int .u8 0, .int .u8 0, .int .u8 0, .int .u8 0, .int .u8 0, .int .u8 0, .int .u8 0, .int .u8 0, .int .u8 0, .int .u8 0, .int .u8 0, .int .u8 0, .int .u8 0, .int .u8 0, .int .u8 0, .int .u8 0, .int .u8 0, .int .u8 0, .int .u8 0, .int .u8 0, .int .u8 0, .int .u8 0, .int .u8 0, .int .u8 0, .int .u8 0, .int .u8 0, .int .u8 0, .int .u8 0] 35))
    | (refine wpList_store_row rfl 35 (.tmp 12) (.tmp 28) rfl _ (digV x) rfl rfl _ _ hA2 (by rw [digV_size]; exact infoSum) (by rw [digV_size]; exact bytesL_size _) (digV_one _) ?_))
  have hA3 := setRow_heap _ _ _ (digV x) _ _ hA2
  have hx4 : Ext [] w ((w2.alloc (.cells #[.int .u8 0, .int .u8 0, .int .u8 0, .int .u8 0, .int .u8 0, .int .u8 0, .int .u8 0, .int .u8 0, .int .u8 0, .int .u8 0, .int .u8 0, .int .u8 0, .int .u8 0, .int .u8 0, .int .u8 0, .int .u8 0, .int .u8 0, .int .u8 0, .int .u8 0, .int .u8 0, .int .u8 0, .int .u8 0, .int .u8 0, .int .u8 0, .int .u8 0, .int .u8 0, .int .u8 0, .int .u8 0, .int .u8 0, .int .u8 0, .int .u8 0, .int .u8 0] 35)).setRow w2.heap.size (digV x)) := (hx2.trans0 hx3).trans (setRow_ext _ _) (fun g hg => .inr (by simp at hg; have := hx2.size; omega))
  generalize (w2.alloc (.cells #[.int .u8 0, .int .u8 0, .int .u8 0, .int .u8 0, .int .u8 0, .int .u8 0, .int .u8 0, .int .u8 0, .int .u8 0, .int .u8 0, .int .u8 0, .int .u8 0, .int .u8 0, .int .u8 0, .int .u8 0, .int .u8 0, .int .u8 0, .int .u8 0, .int .u8 0, .int .u8 0, .int .u8 0, .int .u8 0, .int .u8 0, .int .u8 0, .int .u8 0, .int .u8 0, .int .u8 0, .int .u8 0, .int .u8 0, .int .u8 0, .int .u8 0, .int .u8 0] 35)).setRow w2.heap.size (digV x) = W3 at hA3 hx4 ⊢
  clear hA2 hx3
  generalize w2.heap.size = A at hA3 ⊢
  clear hx2
  have hd : (digV x) = (sumsC [x]).toArray := by simp [sumsC]
  have HD := Hs.hid hd
  clear hd
  go_wp2_with (first
    | (refine wpList_load_row rfl 35 (.tmp 12) rfl A rfl 35 (digV x) (0, 0) _ hA3 Try.underlying35 rfl (by rw [digV_size]; exact infoSum) ?_)
    | (refine wpList_sum rfl (.tmp 33) rfl x rfl ?_; have hB5 := heap_new W3 (.cells (digV x) 35); have hx5 := hx4.alloc (.cells (digV x) 35)))
  go_ret2
  refine ⟨_, rfl, ?_, fun g hg => ?_, hx5⟩
  · rw [stepsT_end _ HM.out.1, HX.out]
    exact ⟨sumsC_len _, .inr ⟨_, _, _, rfl, Nat.zero_le _, hB5, Nat.le_refl _, by decide, digV_size _, by rw [List.take_of_length_le (by rw [Array.length_toList, digV_size]; simp)]; simp [sumsC]⟩⟩
  · have hg' : W3.heap.size = g := by simpa [Value.ownBlock] using hg
    rw [← hg']; exact hx4.size
theorem steps_left {T M N floor : Nat} {l : List (Pl × ByteArray)} {L : List ByteArray} (i n f hh : Nat) (whole : Bool) (hn : 2 ≤ n) (hhh : halfN n = hh) (hi : i ≤ f + hh) (hlt : i < f + n) (hfi : f ≤ i) (hN : N ≤ 2 ^ 30) (hfn : f + n ≤ N)
    (ih : StepsC T M N floor l L i hh f whole) (hsum : SumC T M N floor l L (n - hh) (f + hh)) : StepsC T M N floor l L i n f whole := by
  intro w y z1 z2 t hy hz1 hz2
  subst hy hz1
  have hp30 : (2 : Nat) ^ 30 = 1073741824 := by decide
  have hhn := halfN_lt hn
  have hpt := stepsT_left (L := L) whole (by omega) hn hhh hi
  rw [hhh] at hhn
  obtain ⟨tt, htt⟩ : ∃ tt : Nat, z2 = (tt : Int) := ⟨f + n, by omega⟩
  subst htt
  have hsub : (tt : Int) - (f : Int) = (n : Int) := by omega
  have hplen := stepsT_len L 40 i hh f whole (Nat.le_trans (show _ ≤ 2 ^ 30 by omega) (by decide))
  have hin : decide ((i : Int) ≤ (f : Int) + (hh : Int)) = true := by simp; omega
  have hne1 : ((i : Int) == (tt : Int)) = false := by simp; omega
  have hne2 : decide (i = tt) = false := by simp; omega
  have hne3 : ¬ i = tt := by omega
  have hB : (0 : Int) ≤ n ∧ (2 : Int) ≤ n ∧ (n : Int) ≤ 1073741824 ∧ (0 : Int) ≤ f ∧ (f : Int) ≤ 1073741824 ∧ (tt : Int) ≤ 1073741824 ∧ (0 : Int) ≤ hh ∧ (hh : Int) ≤ 1073741824 ∧ (i : Int) ≤ 1073741824 := by omega
  obtain ⟨b1, b2, b3, b4, b5, b7, b8, b9, b10⟩ := hB
  have HC := Hs.hid (And.intro hn (And.intro (show n ≤ 2 ^ 50 by have : (2 : Nat) ^ 50 = 1125899906842624 := (by decide); omega) (And.intro hhh (And.intro hplen (show (tt : Int) = ((f + hh : Nat) : Int) + ((n - hh : Nat) : Int) by omega)))))
  have HP := Hs.hid hpt
  have HT := Hs.hid t
  have IH := Hs.hid ih
  have HS := Hs.hid hsum
  clear t hpt hfn hz2 hp30 hN hhh hn ih hsum hhn hlt hfi hplen hi
  obtain ⟨p, hp⟩ : ∃ p, stepsT L i hh f whole = p := ⟨_, rfl⟩
  obtain ⟨x, hx⟩ : ∃ x, mthT L (n - hh) (f + hh) = x := ⟨_, rfl⟩
  rw [hp, hx] at HP
  rw [hp] at HC
  have HPX := Hs.hid (And.intro hp hx)
  clear hp hx
  go_enter Try.func33, Try.ntmps33
  go_upto_region 13 with (go_at_call 44; refine (half_any n HC.out.1 HC.out.2.1 _).mono ?_; rintro e w1 ⟨rfl, hw1⟩; subst w1; rw [HC.out.2.2.1])
  have hX := zeroSum w
  have hx0 := (Ext.refl [] w).alloc (.cells #[.int .u8 0, .int .u8 0, .int .u8 0, .int .u8 0, .int .u8 0, .int .u8 0, .int .u8 0, .int .u8 0, .int .u8 0, .int .u8 0, .int .u8 0, .int .u8 0, .int .u8 0, .int .u8 0, .int .u8 0, .int .u8 0, .int .u8 0, .int .u8 0, .int .u8 0, .int .u8 0, .int .u8 0, .int .u8 0, .int .u8 0, .int .u8 0, .int .u8 0, .int .u8 0, .int .u8 0, .int .u8 0, .int .u8 0, .int .u8 0, .int .u8 0, .int .u8 0] 35)
  have hTW := HT.out.ext0 hx0
  have hXlt := lt_of_heap hX
  generalize w.alloc (.cells #[.int .u8 0, .int .u8 0, .int .u8 0, .int .u8 0, .int .u8 0, .int .u8 0, .int .u8 0, .int .u8 0, .int .u8 0, .int .u8 0, .int .u8 0, .int .u8 0, .int .u8 0, .int .u8 0, .int .u8 0, .int .u8 0, .int .u8 0, .int .u8 0, .int .u8 0, .int .u8 0, .int .u8 0, .int .u8 0, .int .u8 0, .int .u8 0, .int .u8 0, .int .u8 0, .int .u8 0, .int .u8 0, .int .u8 0, .int .u8 0, .int .u8 0, .int .u8 0] 35) = W at hX hx0 hTW hXlt ⊢
  obtain ⟨X, hXX⟩ : ∃ X, w.heap.size = X := ⟨_, rfl⟩
  rw [hXX] at hX hXlt ⊢
  have HXX := Hs.hid (show w.heap.size ≤ X from Nat.le_of_eq hXX)
  have HXL := Hs.hid hXlt
  clear hXX hXlt
  go_upto_region 14 with (go_at_call 33; refine (IH.out _ _ _ _ hTW (by omega) (by simp) (by push_cast; rfl)).mono ?_; rintro e w2 ⟨v, rfl, hO, hOg, hx2⟩)
  rw [HPX.out.1] at hO
  obtain ⟨ao, cap, rfl⟩ := hO.form
  have hX2 := hx2.same hX (by simp)
  have hT2 := hTW.ext0 hx2
  have HOG := Hs.hid hOg
  clear hOg
  go_upto_region 17 with (first
    | (go_at_call 29; refine (HS.out _ _ _ hT2 (by simp) (HC.out.2.2.2.2)).mono ?_; rintro e w3 ⟨cs, rfl, hcs, hx3⟩; rw [HPX.out.2] at hcs; have hq := hcs.out; subst hq; have hX3 := hx3.same hX2 (by simp); have hO3 := hO.ext hx3 (by simp))
    | (refine wpList_store_row rfl 35 (.tmp 16) (.tmp 58) rfl _ (digV x) rfl rfl _ _ hX3 (by rw [digV_size]; exact infoSum) (by rw [digV_size]; exact bytesL_size _) (digV_one _) ?_))
  have hX4 := setRow_heap _ _ _ (digV x) _ _ hX3
  have hxs := setRow_ext (w := w3) X (digV x)
  have hO4 := hO3.ext hxs (fun g hg => by have := HOG.out g hg; have := HXL.out; simp; omega)
  have hx4 : Ext [] w (w3.setRow X (digV x)) := ((hx0.trans0 hx2).trans0 hx3).trans hxs (fun g hg => .inr (by simp at hg; have := HXX.out; omega))
  have hsz : w.heap.size ≤ W.heap.size := hx0.size
  have HSZ := Hs.hid hsz
  generalize w3.setRow X (digV x) = W4 at hX4 hxs hO4 hx4 ⊢
  clear hX3 hO3 hX2 hO hT2 hX hxs hsz
  have hd : (digV x) = (sumsC [x]).toArray := by simp [sumsC]
  have HD := Hs.hid hd
  clear hd
  go_wp2_with (first
    | (refine wpList_load_row rfl 35 (.tmp 16) rfl X rfl 35 (digV x) (0, 0) _ hX4 Try.underlying35 rfl (by rw [digV_size]; exact infoSum) ?_)
    | (refine wpList_sum rfl (.tmp 82) rfl x rfl ?_; have hB5 := heap_new W4 (.cells (digV x) 35); have hO5 := hO4.ext ((Ext.refl [] W4).alloc (.cells (digV x) 35)) (by simp); have hx5 := hx4.alloc (.cells (digV x) 35); rw [HD.out] at hB5)
    | (refine wpList_append_sum rfl (.tmp 81) (.tmp 83) rfl (.slice ao p.length cap) p rfl hO5 _ 1 [x] (0, 0) rfl rfl hB5 (by have := HC.out.2.2.2.1; omega) ?_; intro ao6 cap6 w6 hO6 hx6 hg6))
  go_ret2
  refine ⟨_, rfl, by rw [HP.out]; simpa [OwnS] using hO6, fun g hg => ?_, hx5.trans hx6 (fun g hg => ?_)⟩
  · rcases hg6 g hg with h | h
    · have := HOG.out g h; have := HSZ.out; omega
    · have := hx5.size; omega
  · have := HOG.out g (by simpa using hg); have := HSZ.out; exact .inr (by omega)
theorem steps_right {T M N floor : Nat} {l : List (Pl × ByteArray)} {L : List ByteArray} (i n f hh : Nat) (whole : Bool) (hn : 2 ≤ n) (hhh : halfN n = hh) (hi : ¬ i ≤ f + hh) (hlt : i < f + n) (hfi : f ≤ i) (hN : N ≤ 2 ^ 30) (hfn : f + n ≤ N)
    (ih : StepsC T M N floor l L i (n - hh) (f + hh) false) (hsum : SumC T M N floor l L hh f) : StepsC T M N floor l L i n f whole := by
  intro w y z1 z2 t hy hz1 hz2
  subst hy hz1
  have hp30 : (2 : Nat) ^ 30 = 1073741824 := by decide
  have hhn := halfN_lt hn
  have hpt := stepsT_right (L := L) whole (by omega) hn hhh hi
  rw [hhh] at hhn
  obtain ⟨tt, htt⟩ : ∃ tt : Nat, z2 = (tt : Int) := ⟨f + n, by omega⟩
  subst htt
  have hsub : (tt : Int) - (f : Int) = (n : Int) := by omega
  have hplen := stepsT_len L 40 i (n - hh) (f + hh) false (Nat.le_trans (show _ ≤ 2 ^ 30 by omega) (by decide))
  have hin : decide ((i : Int) ≤ (f : Int) + (hh : Int)) = false := by simp; omega
  have hne1 : ((i : Int) == (tt : Int)) = false := by simp; omega
  have hne2 : decide (i = tt) = false := by simp; omega
  have hne3 : ¬ i = tt := by omega
  have hB : (0 : Int) ≤ n ∧ (2 : Int) ≤ n ∧ (n : Int) ≤ 1073741824 ∧ (0 : Int) ≤ f ∧ (f : Int) ≤ 1073741824 ∧ (tt : Int) ≤ 1073741824 ∧ (0 : Int) ≤ hh ∧ (hh : Int) ≤ 1073741824 ∧ (i : Int) ≤ 1073741824 := by omega
  obtain ⟨b1, b2, b3, b4, b5, b7, b8, b9, b10⟩ := hB
  have HC := Hs.hid (And.intro hn (And.intro (show n ≤ 2 ^ 50 by have : (2 : Nat) ^ 50 = 1125899906842624 := (by decide); omega) (And.intro hhh (And.intro hplen (show (tt : Int) = ((f + hh : Nat) : Int) + ((n - hh : Nat) : Int) by omega)))))
  have HP := Hs.hid hpt
  have HT := Hs.hid t
  have IH := Hs.hid ih
  have HS := Hs.hid hsum
  clear t hpt hfn hz2 hp30 hN hhh hn ih hsum hhn hlt hfi hplen hi
  obtain ⟨p, hp⟩ : ∃ p, stepsT L i (n - hh) (f + hh) false = p := ⟨_, rfl⟩
  obtain ⟨x, hx⟩ : ∃ x, mthT L hh f = x := ⟨_, rfl⟩
  rw [hp, hx] at HP
  rw [hp] at HC
  have HPX := Hs.hid (And.intro hp hx)
  clear hp hx
  go_enter Try.func33, Try.ntmps33
  go_upto_region 15 with (go_at_call 44; refine (half_any n HC.out.1 HC.out.2.1 _).mono ?_; rintro e w1 ⟨rfl, hw1⟩; subst w1; rw [HC.out.2.2.1])
  have hX := zeroSum w
  have hx0 := (Ext.refl [] w).alloc (.cells #[.int .u8 0, .int .u8 0, .int .u8 0, .int .u8 0, .int .u8 0, .int .u8 0, .int .u8 0, .int .u8 0, .int .u8 0, .int .u8 0, .int .u8 0, .int .u8 0, .int .u8 0, .int .u8 0, .int .u8 0, .int .u8 0, .int .u8 0, .int .u8 0, .int .u8 0, .int .u8 0, .int .u8 0, .int .u8 0, .int .u8 0, .int .u8 0, .int .u8 0, .int .u8 0, .int .u8 0, .int .u8 0, .int .u8 0, .int .u8 0, .int .u8 0, .int .u8 0] 35)
  have hTW := HT.out.ext0 hx0
  have hXlt := lt_of_heap hX
  generalize w.alloc (.cells #[.int .u8 0, .int .u8 0, .int .u8 0, .int .u8 0, .int .u8 0, .int .u8 0, .int .u8 0, .int .u8 0, .int .u8 0, .int .u8 0, .int .u8 0, .int .u8 0, .int .u8 0, .int .u8 0, .int .u8 0, .int .u8 0, .int .u8 0, .int .u8 0, .int .u8 0, .int .u8 0, .int .u8 0, .int .u8 0, .int .u8 0, .int .u8 0, .int .u8 0, .int .u8 0, .int .u8 0, .int .u8 0, .int .u8 0, .int .u8 0, .int .u8 0, .int .u8 0] 35) = W at hX hx0 hTW hXlt ⊢
  obtain ⟨X, hXX⟩ : ∃ X, w.heap.size = X := ⟨_, rfl⟩
  rw [hXX] at hX hXlt ⊢
  have HXX := Hs.hid (show w.heap.size ≤ X from Nat.le_of_eq hXX)
  have HXL := Hs.hid hXlt
  clear hXX hXlt
  go_upto_region 16 with (go_at_call 33; refine (IH.out _ _ _ _ hTW (by omega) (by simp) (HC.out.2.2.2.2)).mono ?_; rintro e w2 ⟨v, rfl, hO, hOg, hx2⟩)
  rw [HPX.out.1] at hO
  obtain ⟨ao, cap, rfl⟩ := hO.form
  have hX2 := hx2.same hX (by simp)
  have hT2 := hTW.ext0 hx2
  have HOG := Hs.hid hOg
  clear hOg
  go_upto_region 17 with (first
    | (go_at_call 29; refine (HS.out _ _ _ hT2 (by simp) (by push_cast; rfl)).mono ?_; rintro e w3 ⟨cs, rfl, hcs, hx3⟩; rw [HPX.out.2] at hcs; have hq := hcs.out; subst hq; have hX3 := hx3.same hX2 (by simp); have hO3 := hO.ext hx3 (by simp))
    | (refine wpList_store_row rfl 35 (.tmp 16) (.tmp 73) rfl _ (digV x) rfl rfl _ _ hX3 (by rw [digV_size]; exact infoSum) (by rw [digV_size]; exact bytesL_size _) (digV_one _) ?_))
  have hX4 := setRow_heap _ _ _ (digV x) _ _ hX3
  have hxs := setRow_ext (w := w3) X (digV x)
  have hO4 := hO3.ext hxs (fun g hg => by have := HOG.out g hg; have := HXL.out; simp; omega)
  have hx4 : Ext [] w (w3.setRow X (digV x)) := ((hx0.trans0 hx2).trans0 hx3).trans hxs (fun g hg => .inr (by simp at hg; have := HXX.out; omega))
  have hsz : w.heap.size ≤ W.heap.size := hx0.size
  have HSZ := Hs.hid hsz
  generalize w3.setRow X (digV x) = W4 at hX4 hxs hO4 hx4 ⊢
  clear hX3 hO3 hX2 hO hT2 hX hxs hsz
  have hd : (digV x) = (sumsC [x]).toArray := by simp [sumsC]
  have HD := Hs.hid hd
  clear hd
  go_wp2_with (first
    | (refine wpList_load_row rfl 35 (.tmp 16) rfl X rfl 35 (digV x) (0, 0) _ hX4 Try.underlying35 rfl (by rw [digV_size]; exact infoSum) ?_)
    | (refine wpList_sum rfl (.tmp 82) rfl x rfl ?_; have hB5 := heap_new W4 (.cells (digV x) 35); have hO5 := hO4.ext ((Ext.refl [] W4).alloc (.cells (digV x) 35)) (by simp); have hx5 := hx4.alloc (.cells (digV x) 35); rw [HD.out] at hB5)
    | (refine wpList_append_sum rfl (.tmp 81) (.tmp 83) rfl (.slice ao p.length cap) p rfl hO5 _ 1 [x] (0, 0) rfl rfl hB5 (by have := HC.out.2.2.2.1; omega) ?_; intro ao6 cap6 w6 hO6 hx6 hg6))
  go_ret2
  refine ⟨_, rfl, by rw [HP.out]; simpa [OwnS] using hO6, fun g hg => ?_, hx5.trans hx6 (fun g hg => ?_)⟩
  · rcases hg6 g hg with h | h
    · have := HOG.out g h; have := HSZ.out; omega
    · have := hx5.size; omega
  · have := HOG.out g (by simpa using hg); have := HSZ.out; exact .inr (by omega)
theorem steps_any {T M N floor : Nat} {l : List (Pl × ByteArray)} {L : List ByteArray} (hI : Hid (TInv L N floor l)) (hN : N ≤ 2 ^ 30) : ∀ (c n m j : Nat) (whole : Bool), 1 ≤ n → n ≤ 2 ^ c → j * 2 ^ c + n ≤ N → j * 2 ^ c < m → m ≤ j * 2 ^ c + n → floor ≤ m → (m = j * 2 ^ c + n → whole = true ∨ SumOK floor n (j * 2 ^ c)) → StepsC T M N floor l L m n (j * 2 ^ c) whole := by
  intro c n
  induction n using Nat.strongRecOn generalizing c with
  | _ n ih =>
    intro m j whole h1 h2 h3 h4 h5 h6 h7
    have hp30 : (2 : Nat) ^ 30 = 1073741824 := by decide
    have hp40 : (2 : Nat) ^ 40 = 1099511627776 := by decide
    by_cases hm : m = j * 2 ^ c + n
    · cases whole with
      | true => exact steps_whole m n _ hm (by omega)
      | false =>
        have hs := (h7 hm).resolve_left (by simp)
        exact steps_end m n _ hm (by omega) (fun w y z t hy hz => sum_any hs hI hN h3 w y z t hy hz)
    · have hn : 2 ≤ n := by omega
      obtain ⟨v, hv1, hv2⟩ := exists_pow n hn
      have hvc : v < c := (Nat.pow_lt_pow_iff_right (a := 2) (by omega)).1 (by omega)
      have hh := halfN_eq hv1 hv2
      have hleft : floor < j * 2 ^ c + 2 ^ (v + 1) → SumOK floor (2 ^ v) (j * 2 ^ c) := sumOK_left hvc
      obtain ⟨d, rfl⟩ : ∃ d, c = v + (d + 1) := ⟨c - v - 1, by omega⟩
      have e0 : j * 2 ^ (v + (d + 1)) = 2 * (j * 2 ^ d) * 2 ^ v := by
        rw [Nat.pow_add, Nat.pow_succ]; simp only [Nat.mul_assoc, Nat.mul_comm, Nat.mul_left_comm]
      have e1 : j * 2 ^ (v + (d + 1)) + 2 ^ v = (2 * (j * 2 ^ d) + 1) * 2 ^ v := by rw [e0, Nat.add_mul, Nat.one_mul]
      have hp := Nat.two_pow_pos v
      have hv3 : n ≤ 2 ^ v * 2 := by rw [Nat.pow_succ] at hv2; exact hv2
      have hv4 : 2 ^ (v + 1) = 2 ^ v * 2 := Nat.pow_succ ..
      by_cases hi : m ≤ j * 2 ^ (v + (d + 1)) + 2 ^ v
      · refine steps_left m n _ (2 ^ v) whole hn hh hi (by omega) (by omega) hN h3 ?_ ?_
        · have hq := hleft (by omega)
          rw [e0] at hq ⊢
          exact ih (2 ^ v) hv1 v m _ whole hp (Nat.le_refl _) (by omega) (by omega) (by omega) h6 (fun _ => .inr hq)
        · rw [e1]
          intro w y z t hy hz
          exact sum_any (sumOK_right (by omega) (by omega) (by omega)) hI hN (by omega) w y z t hy hz
      · refine steps_right m n _ (2 ^ v) whole hn hh hi (by omega) (by omega) hN h3 ?_ ?_
        · rw [e1]
          exact ih (n - 2 ^ v) (by omega) v m _ false (by omega) (by omega) (by omega) (by omega) (by omega) h6 (fun h => absurd h (by omega))
        · intro w y z t hy hz
          exact sum_any (hleft (by omega)) hI hN (by omega) w y z t hy hz
end Go.Proofs.Ytjicjadibaomkaa
set_option linter.unusedSimpArgs false
set_option linter.unusedVariables false
set_option maxHeartbeats 2000000
set_option maxRecDepth 100000
namespace Go.Proofs.Ytjicjadibaomkaa
open Go.RowKit Go.Hs Go.Dg

/-- A tree of leaves L, and of a floor, in block T, its map in block M. -/
def Tr (h : Array Obj) (T M : Nat) (L : List ByteArray) (floor : Nat) : Prop := ∃ l, TAt h T M L.length floor l ∧ TInv L L.length floor l ∧ floor ≤ L.length
theorem Tr.ext {w w' : World} {F : List Nat} {T M floor : Nat} {L : List ByteArray} (t : Tr w.heap T M L floor) (x : Ext F w w') (h1 : T ∉ F) (h2 : M ∉ F) : Tr w'.heap T M L floor := by
  obtain ⟨l, a, b, c⟩ := t; exact ⟨l, a.ext x h1 h2, b, c⟩
theorem Tr.ext0 {w w' : World} {T M floor : Nat} {L : List ByteArray} (t : Tr w.heap T M L floor) (x : Ext [] w w') : Tr w'.heap T M L floor := t.ext x (by simp) (by simp)
/-- The text of the root over the first m. -/
def rootT (L : List ByteArray) (m : Nat) : ByteArray := if m = 0 then ⟨#[]⟩ else mthT L m 0
theorem zeroLitB : (Value.agg #[.int .u8 0, .int .u8 0, .int .u8 0, .int .u8 0, .int .u8 0, .int .u8 0, .int .u8 0, .int .u8 0, .int .u8 0, .int .u8 0, .int .u8 0, .int .u8 0, .int .u8 0, .int .u8 0, .int .u8 0, .int .u8 0, .int .u8 0, .int .u8 0, .int .u8 0, .int .u8 0, .int .u8 0, .int .u8 0, .int .u8 0, .int .u8 0, .int .u8 0, .int .u8 0, .int .u8 0, .int .u8 0, .int .u8 0, .int .u8 0, .int .u8 0, .int .u8 0]) = .agg (bytesL fun _ => 0) := by rw [zeroLit]
theorem root_any {w : World} {T M floor : Nat} {L : List ByteArray} (m : Nat) (t : Tr w.heap T M L floor) (hN : L.length ≤ 2 ^ 30) (hm : m ≤ L.length) (hf : floor ≤ m) :
    Calls Try.prog 11 #[.pointer (some ⟨T, 0, none⟩), .int .i64 m] w fun e w' => ∃ cs, e = .returned (.tuple #[.agg cs, .int .i64 0]) ∧ Hid (cs = digV (rootT L m)) ∧ Ext [] w w' := by
  obtain ⟨l, t, hI, _⟩ := t
  have hR := zeroSum w
  have hx0 := (Ext.refl [] w).alloc (.cells #[.int .u8 0, .int .u8 0, .int .u8 0, .int .u8 0, .int .u8 0, .int .u8 0, .int .u8 0, .int .u8 0, .int .u8 0, .int .u8 0, .int .u8 0, .int .u8 0, .int .u8 0, .int .u8 0, .int .u8 0, .int .u8 0, .int .u8 0, .int .u8 0, .int .u8 0, .int .u8 0, .int .u8 0, .int .u8 0, .int .u8 0, .int .u8 0, .int .u8 0, .int .u8 0, .int .u8 0, .int .u8 0, .int .u8 0, .int .u8 0, .int .u8 0, .int .u8 0] 35)
  have hTW := t.ext0 hx0
  obtain ⟨c0, c1, c2⟩ := hTW.get
  have hp30 : (2 : Nat) ^ 30 = 1073741824 := by decide
  have hB : (0 : Int) ≤ m ∧ (m : Int) ≤ 1073741824 ∧ (L.length : Int) ≤ 1073741824 := by omega
  obtain ⟨b1, b2, b3⟩ := hB
  have d0 : decide ((m : Int) < 0) = false := by simp
  have d1 : decide (L.length < m) = false := by simp; omega
  have d2 : decide (m < floor) = false := by simp; omega
  by_cases h0 : m = 0
  · subst h0
    have HX := Hs.hid (show rootT L 0 = ⟨#[]⟩ from rfl)
    clear hN hp30 hm hf hI t
    go_enter Try.func11, Try.ntmps11
    go_upto_region 6 with fail
    generalize w.alloc (.cells #[.int .u8 0, .int .u8 0, .int .u8 0, .int .u8 0, .int .u8 0, .int .u8 0, .int .u8 0, .int .u8 0, .int .u8 0, .int .u8 0, .int .u8 0, .int .u8 0, .int .u8 0, .int .u8 0, .int .u8 0, .int .u8 0, .int .u8 0, .int .u8 0, .int .u8 0, .int .u8 0, .int .u8 0, .int .u8 0, .int .u8 0, .int .u8 0, .int .u8 0, .int .u8 0, .int .u8 0, .int .u8 0, .int .u8 0, .int .u8 0, .int .u8 0, .int .u8 0] 35) = W at hR hx0 hTW ⊢
    obtain ⟨R, hRR⟩ : ∃ R, w.heap.size = R := ⟨_, rfl⟩
    rw [hRR] at hR ⊢
    have HRR := Hs.hid (show w.heap.size ≤ R from Nat.le_of_eq hRR)
    clear hRR c0 c1 c2
    obtain ⟨x, hx⟩ : ∃ x : ByteArray, (⟨#[]⟩ : ByteArray) = x := ⟨_, rfl⟩
    have HXX := Hs.hid hx
    clear hx
    go_wp2_with (first
      | (go_at_call 12; refine (of_any ⟨#[]⟩ (by decide) _).mono ?_; rintro e w2 ⟨cs, rfl, hcs, hx2⟩; rw [HXX.out] at hcs; have hq := hcs.out; subst hq; have hR2 := hx2.same hR (by simp))
      | (refine wpList_store_row rfl 35 (.tmp 4) (.tmp 29) rfl R (digV x) rfl rfl _ _ hR2 (by rw [digV_size]; exact infoSum) (by rw [digV_size]; exact bytesL_size _) (digV_one _) ?_))
    refine bodyPost_ret (v := .tuple #[.agg (digV x), .int .i64 0]) (results_sum_tmp Try.results11 _ rfl rfl (setRow_heap _ _ _ _ _ _ hR2) (digV_size _)) rfl ⟨_, rfl, Hs.hid (by rw [HX.out, HXX.out]), ?_⟩
    exact (hx0.trans0 hx2).trans (setRow_ext _ _) (fun g hg => .inr (by simp at hg; have := HRR.out; omega))
  · have hsum := sum_any (T := T) (M := M) (L := L) (sumOK_root (floor := floor) (n := m) (by omega) hf) (Hs.hid hI) hN (by omega)
    have HX := Hs.hid (show rootT L m = mthT L m 0 from if_neg h0)
    have HS := Hs.hid hsum
    have d3 : ((m : Int) == 0) = false := by simp; omega
    clear hN hp30 hm hf hI t hsum
    go_enter Try.func11, Try.ntmps11
    go_upto_region 7 with fail
    generalize w.alloc (.cells #[.int .u8 0, .int .u8 0, .int .u8 0, .int .u8 0, .int .u8 0, .int .u8 0, .int .u8 0, .int .u8 0, .int .u8 0, .int .u8 0, .int .u8 0, .int .u8 0, .int .u8 0, .int .u8 0, .int .u8 0, .int .u8 0, .int .u8 0, .int .u8 0, .int .u8 0, .int .u8 0, .int .u8 0, .int .u8 0, .int .u8 0, .int .u8 0, .int .u8 0, .int .u8 0, .int .u8 0, .int .u8 0, .int .u8 0, .int .u8 0, .int .u8 0, .int .u8 0] 35) = W at hR hx0 hTW ⊢
    obtain ⟨R, hRR⟩ : ∃ R, w.heap.size = R := ⟨_, rfl⟩
    rw [hRR] at hR ⊢
    have HRR := Hs.hid (show w.heap.size ≤ R from Nat.le_of_eq hRR)
    clear hRR c0 c1 c2
    obtain ⟨x, hx⟩ : ∃ x, mthT L m 0 = x := ⟨_, rfl⟩
    have HXX := Hs.hid hx
    clear hx
    go_wp2_with (first
      | (go_at_call 29; refine (HS.out _ _ _ hTW rfl (by simp)).mono ?_; rintro e w2 ⟨cs, rfl, hcs, hx2⟩; rw [HXX.out] at hcs; have hq := hcs.out; subst hq; have hR2 := hx2.same hR (by simp))
      | (refine wpList_store_row rfl 35 (.tmp 4) (.tmp 33) rfl R (digV x) rfl rfl _ _ hR2 (by rw [digV_size]; exact infoSum) (by rw [digV_size]; exact bytesL_size _) (digV_one _) ?_))
    refine bodyPost_ret (v := .tuple #[.agg (digV x), .int .i64 0]) (results_sum_tmp Try.results11 _ rfl rfl (setRow_heap _ _ _ _ _ _ hR2) (digV_size _)) rfl ⟨_, rfl, Hs.hid (by rw [HX.out, HXX.out]), ?_⟩
    exact (hx0.trans0 hx2).trans (setRow_ext _ _) (fun g hg => .inr (by simp at hg; have := HRR.out; omega))
theorem root_low {w : World} {T M floor : Nat} {L : List ByteArray} (m : Nat) (t : Tr w.heap T M L floor) (hN : L.length ≤ 2 ^ 30) (hm : m ≤ L.length) (hf : m < floor) :
    Calls Try.prog 11 #[.pointer (some ⟨T, 0, none⟩), .int .i64 m] w fun e w' => ∃ cs, e = .returned (.tuple #[.agg cs, .int .i64 14]) ∧ Hid (cs = bytesL fun _ => 0) ∧ Ext [] w w' := by
  obtain ⟨l, t, hI, _⟩ := t
  have hR := zeroSum w
  have hx0 := (Ext.refl [] w).alloc (.cells #[.int .u8 0, .int .u8 0, .int .u8 0, .int .u8 0, .int .u8 0, .int .u8 0, .int .u8 0, .int .u8 0, .int .u8 0, .int .u8 0, .int .u8 0, .int .u8 0, .int .u8 0, .int .u8 0, .int .u8 0, .int .u8 0, .int .u8 0, .int .u8 0, .int .u8 0, .int .u8 0, .int .u8 0, .int .u8 0, .int .u8 0, .int .u8 0, .int .u8 0, .int .u8 0, .int .u8 0, .int .u8 0, .int .u8 0, .int .u8 0, .int .u8 0, .int .u8 0] 35)
  have hTW := t.ext0 hx0
  obtain ⟨c0, c1, c2⟩ := hTW.get
  have hp30 : (2 : Nat) ^ 30 = 1073741824 := by decide
  have hB : (0 : Int) ≤ m ∧ (m : Int) ≤ 1073741824 ∧ (L.length : Int) ≤ 1073741824 := by omega
  obtain ⟨b1, b2, b3⟩ := hB
  have d0 : decide ((m : Int) < 0) = false := by simp
  have d1 : decide (L.length < m) = false := by simp; omega
  have d2 : decide (m < floor) = true := by simp; omega
  clear hN hp30 hm hf hI t
  go_enter Try.func11, Try.ntmps11
  go_upto_region 4 with fail
  generalize w.alloc (.cells #[.int .u8 0, .int .u8 0, .int .u8 0, .int .u8 0, .int .u8 0, .int .u8 0, .int .u8 0, .int .u8 0, .int .u8 0, .int .u8 0, .int .u8 0, .int .u8 0, .int .u8 0, .int .u8 0, .int .u8 0, .int .u8 0, .int .u8 0, .int .u8 0, .int .u8 0, .int .u8 0, .int .u8 0, .int .u8 0, .int .u8 0, .int .u8 0, .int .u8 0, .int .u8 0, .int .u8 0, .int .u8 0, .int .u8 0, .int .u8 0, .int .u8 0, .int .u8 0] 35) = W at hR hx0 hTW ⊢
  obtain ⟨R, hRR⟩ : ∃ R, w.heap.size = R := ⟨_, rfl⟩
  rw [hRR] at hR ⊢
  have HRR := Hs.hid (show w.heap.size ≤ R from Nat.le_of_eq hRR)
  clear hRR c0 c1 c2
  go_wp2_with (refine wpList_store_row rfl 35 (.tmp 4) (.tmp 25) rfl R (bytesL fun _ => 0) rfl zeroLitB _ _ hR (by rw [bytesL_size]; exact infoSum) rfl (bytesL_one _) ?_)
  refine bodyPost_ret (v := .tuple #[.agg (bytesL fun _ => 0), .int .i64 14]) (results_sum_tmp Try.results11 _ rfl rfl (setRow_heap _ _ _ _ _ _ hR) (bytesL_size _)) rfl ⟨_, rfl, Hs.hid rfl, ?_⟩
  exact hx0.trans (setRow_ext _ _) (fun g hg => .inr (by simp at hg; have := HRR.out; omega))
theorem incl_any {w : World} {T M floor : Nat} {L : List ByteArray} (i m : Nat) (t : Tr w.heap T M L floor) (hN : L.length ≤ 2 ^ 30) (hm : m ≤ L.length) (hi : i < m) (hf : floor ≤ i) :
    Calls Try.prog 9 #[.pointer (some ⟨T, 0, none⟩), .int .i64 i, .int .i64 m] w fun e w' => ∃ v, e = .returned (.tuple #[v, .int .i64 0]) ∧ OwnS w'.heap v (pathT L i m 0) ∧ (∀ g, v.ownBlock = some g → w.heap.size ≤ g) ∧ Ext [] w w' := by
  obtain ⟨l, t, hI, _⟩ := t
  obtain ⟨c0, c1, c2⟩ := t.get
  have hp30 : (2 : Nat) ^ 30 = 1073741824 := by decide
  have hB : (0 : Int) ≤ m ∧ (m : Int) ≤ 1073741824 ∧ (L.length : Int) ≤ 1073741824 ∧ (0 : Int) ≤ i ∧ (i : Int) ≤ 1073741824 := by omega
  obtain ⟨b1, b2, b3, b4, b5⟩ := hB
  have d0 : decide ((m : Int) < 0) = false := by simp
  have d00 : decide ((i : Int) < 0) = false := by simp
  have d1 : decide (L.length < m) = false := by simp; omega
  have d2 : decide (i < floor) = false := by simp; omega
  have d3 : decide (m ≤ i) = false := by simp; omega
  have hpath := path_any (T := T) (M := M) (l := l) (Hs.hid hI) hN m m i 0 (by omega) (Nat.le_of_lt m.lt_two_pow_self) (by omega) (by omega) (by omega) hf
  rw [Nat.zero_mul] at hpath
  have HP := Hs.hid hpath
  have HT := Hs.hid t
  clear hN hp30 hm hf hI t hpath hi
  go_enter Try.func9, Try.ntmps9
  go_wp2_with (go_at_call 26; refine (HP.out _ _ _ _ HT.out rfl rfl (by simp)).mono ?_; rintro e w2 ⟨v, rfl, hO, hg, hx⟩)
  go_ret2
  exact ⟨_, rfl, hO, hg, hx⟩
theorem incl_low {w : World} {T M floor : Nat} {L : List ByteArray} (i m : Nat) (t : Tr w.heap T M L floor) (hN : L.length ≤ 2 ^ 30) (hm : m ≤ L.length) (hi : i < m) (hf : i < floor) :
    Calls Try.prog 9 #[.pointer (some ⟨T, 0, none⟩), .int .i64 i, .int .i64 m] w fun e w' => e = .returned (.tuple #[.slice none 0 0, .int .i64 14]) ∧ Ext [] w w' := by
  obtain ⟨l, t, hI, _⟩ := t
  obtain ⟨c0, c1, c2⟩ := t.get
  have hp30 : (2 : Nat) ^ 30 = 1073741824 := by decide
  have hB : (0 : Int) ≤ m ∧ (m : Int) ≤ 1073741824 ∧ (L.length : Int) ≤ 1073741824 ∧ (0 : Int) ≤ i ∧ (i : Int) ≤ 1073741824 := by omega
  obtain ⟨b1, b2, b3, b4, b5⟩ := hB
  have d0 : decide ((m : Int) < 0) = false := by simp
  have d00 : decide ((i : Int) < 0) = false := by simp
  have d1 : decide (L.length < m) = false := by simp; omega
  have d2 : decide (i < floor) = true := by simp; omega
  have d3 : decide (m ≤ i) = false := by simp; omega
  clear hN hp30 hm hf hI t hi
  go_enter Try.func9, Try.ntmps9
  go_wp2
  go_ret2
  exact ⟨rfl, Ext.refl _ _⟩
/-- The texts of the proof of the first m of n leaves. -/
def consT (L : List ByteArray) (m n : Nat) : List ByteArray := if m = 0 then [] else stepsT L m n 0 true
theorem cons_any {w : World} {T M floor : Nat} {L : List ByteArray} (m n : Nat) (t : Tr w.heap T M L floor) (hN : L.length ≤ 2 ^ 30) (hn : n ≤ L.length) (hm : m ≤ n) (hf : floor ≤ m) :
    Calls Try.prog 13 #[.pointer (some ⟨T, 0, none⟩), .int .i64 m, .int .i64 n] w fun e w' => ∃ v, e = .returned (.tuple #[v, .int .i64 0]) ∧ OwnS w'.heap v (consT L m n) ∧ (∀ g, v.ownBlock = some g → w.heap.size ≤ g) ∧ Ext [] w w' := by
  obtain ⟨l, t, hI, _⟩ := t
  obtain ⟨c0, c1, c2⟩ := t.get
  have hp30 : (2 : Nat) ^ 30 = 1073741824 := by decide
  have hB : (0 : Int) ≤ m ∧ (m : Int) ≤ 1073741824 ∧ (L.length : Int) ≤ 1073741824 ∧ (0 : Int) ≤ n ∧ (n : Int) ≤ 1073741824 := by omega
  obtain ⟨b1, b2, b3, b4, b5⟩ := hB
  have d0 : decide ((m : Int) < 0) = false := by simp
  have d00 : decide ((n : Int) < 0) = false := by simp
  have d1 : decide (L.length < n) = false := by simp; omega
  have d2 : decide (m < floor) = false := by simp; omega
  have d3 : decide (n < m) = false := by simp; omega
  by_cases h0 : m = 0
  · subst h0
    clear hN hp30 hm hf hI t hn
    go_enter Try.func13, Try.ntmps13
    go_wp2
    go_ret2
    exact ⟨_, rfl, OwnS.nil _, (fun g hg => by cases hg), Ext.refl _ _⟩
  · have hc : consT L m n = stepsT L m n 0 true := if_neg h0
    have d4 : ((m : Int) == 0) = false := by simp; omega
    have hst := steps_any (T := T) (M := M) (l := l) (Hs.hid hI) hN n n m 0 true (by omega) (Nat.le_of_lt n.lt_two_pow_self) (by omega) (by omega) (by omega) hf (fun _ => .inl rfl)
    rw [Nat.zero_mul] at hst
    unfold StepsC at hst
    rw [← hc] at hst
    have HP := Hs.hid hst
    have HT := Hs.hid t
    clear hN hp30 hm hf hI t hst hn hc
    go_enter Try.func13, Try.ntmps13
    go_wp2_with (go_at_call 33; refine (HP.out _ _ _ _ HT.out rfl rfl (by simp)).mono ?_; rintro e w2 ⟨v, rfl, hO, hg, hx⟩)
    go_ret2
    exact ⟨_, rfl, hO, hg, hx⟩
theorem append_tr {w : World} {T M floor : Nat} {L : List ByteArray} (t : Tr w.heap T M L floor) {v : Value} {ls : List ByteArray} (hs : Strs w.heap v ls) (hsz : Hid (∀ s ∈ ls, s.size ≤ 1000)) (hn : L.length + ls.length ≤ 2 ^ 30) :
    Calls Try.prog 8 #[.pointer (some ⟨T, 0, none⟩), v] w fun e w' => e = .returned (.tuple #[]) ∧ Tr w'.heap T M (L ++ ls) floor ∧ Ext [T, M] w w' := by
  obtain ⟨l, t, hI, hfl⟩ := t
  refine (append_any t (Hs.hid ⟨hI, rfl, hfl⟩) hs hsz hn).mono ?_
  rintro e w' ⟨rfl, ⟨l', t', hI'⟩, hx⟩
  refine ⟨rfl, ⟨l', ?_, ?_, ?_⟩, hx⟩
  · rw [List.length_append]; exact t'
  · rw [List.length_append]; exact hI'.out
  · rw [List.length_append]; omega
theorem new_tr (w : World) : Calls Try.prog 7 #[] w fun e w' => ∃ T M, e = .returned (.pointer (some ⟨T, 0, none⟩)) ∧ Tr w'.heap T M [] 0 ∧ Ext [] w w' ∧ w.heap.size ≤ T ∧ w.heap.size ≤ M ∧ T ≠ M := by
  refine (treeNew_any w).mono ?_
  rintro e w' ⟨T, M, rfl, t, hx, h1, h2⟩
  exact ⟨T, M, rfl, ⟨[], t, TInv.nil _, Nat.le_refl _⟩, hx, h1, h2, t.ne⟩
end Go.Proofs.Ytjicjadibaomkaa
