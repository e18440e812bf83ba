/-
  Texts of this claim, put together: Base, LeafAt, DigP, Dig, Dig2, Dig3, DigQ, Dig4, Dig5, DigEq, Clash, Clash2, Dig6, S32, SumA, Half, ProofW, Yield, Eq32, NodeC, WayT, Node32, WayP, Tree, Tree2, Range, Tree3, Range2, TailA, Tail, Tree4, TreeP.
-/
import Derived.WalkKit
import Derived.Deep.Draws
import Derived.MapKept
import Derived.Lib.AppendStr
import Derived.Laws.BytesArg
import Derived.Test.YtjicjadibaomkaaPDgx1
import Derived.Deep.RegionLaw
import Derived.Deep.RegionWith
import Derived.IntWalk
import Derived.Test.YtjicjadibaomkaaShelf
import Derived.Laws.Rows
import Derived.ChangeKeysEq
import Derived.Deep.RegionHeld3
import Derived.Great.BuildSlice
import Derived.Deep.MidRow
import Derived.StillTailTactics
import Derived.Laws.StructEq
import Derived.Maps.RangeRun
import Derived.Laws.Tables
set_option linter.unusedSimpArgs false
set_option linter.unusedVariables false
namespace Go.Hs
open Go Go.RowKit

theorem hid {p : Prop} (h : p) : Hid p := h

/-! ### What has turned: only blocks of F, and new ones -/
structure Ext (F : List Nat) (w w' : World) : Prop where
  os : w'.os = w.os
  tape : w'.tape = w.tape
  output : w'.output = w.output
  size : w.heap.size ≤ w'.heap.size
  block : ∀ k, k < w.heap.size → k ∉ F → w'.heap[k]? = w.heap[k]?

theorem Ext.refl (F : List Nat) (w : World) : Ext F w w := ⟨rfl, rfl, rfl, Nat.le_refl _, fun _ _ _ => rfl⟩
theorem Ext.trans {F F' : List Nat} {a b c : World} (h : Ext F a b) (k : Ext F' b c) (hF : ∀ x ∈ F', x ∈ F ∨ a.heap.size ≤ x) : Ext F a c :=
  ⟨k.os.trans h.os, k.tape.trans h.tape, k.output.trans h.output, Nat.le_trans h.size k.size, fun i hi hn =>
    (k.block i (Nat.lt_of_lt_of_le hi h.size) (fun hm => by rcases hF i hm with h1 | h1; exact hn h1; omega)).trans (h.block i hi hn)⟩
theorem Ext.trans' {F : List Nat} {a b c : World} (h : Ext F a b) (k : Ext F b c) : Ext F a c := h.trans k fun _ hx => .inl hx
theorem Ext.trans0 {F : List Nat} {a b c : World} (h : Ext F a b) (k : Ext [] b c) : Ext F a c := h.trans k fun _ hx => by cases hx
theorem Ext.mono {F F' : List Nat} {a b : World} (h : Ext F a b) (hF : ∀ x ∈ F, x ∈ F' ∨ a.heap.size ≤ x) : Ext F' a b := (Ext.refl F' a).trans h hF
theorem Ext.drew {F : List Nat} {a w : World} (h : Ext F a w) : Ext F a w.drew := ⟨h.os, h.tape, h.output, h.size, h.block⟩
theorem Ext.drewN {F : List Nat} {a w : World} (h : Ext F a w) (n : Nat) : Ext F a (w.drewN n) := ⟨h.os, h.tape, h.output, h.size, h.block⟩
theorem Ext.alloc {F : List Nat} {a w : World} (h : Ext F a w) (o : Obj) : Ext F a (w.alloc o) :=
  h.trans0 ⟨rfl, rfl, rfl, by simp, fun k hk _ => Below.heap_alloc _ _ _ hk⟩
theorem Ext.setCell {F : List Nat} {a w : World} (h : Ext F a w) {p : Addr} (hp : p.block ∈ F ∨ a.heap.size ≤ p.block) (u : Value) : Ext F a (w.setCell p u) :=
  h.trans (F' := [p.block]) ⟨rfl, rfl, rfl, by simp [World.setCell], fun k _ hn => Below.heap_setCell _ _ _ _ (by simpa using hn)⟩ (by simpa using hp)
theorem Ext.set' {F : List Nat} {a w : World} {b : Nat} (hb : b ∈ F) (h : Ext F a w) (o : Nat) (u : Value) : Ext F a (w.setCell ⟨b, o, none⟩ u) := h.setCell (.inl hb) u
theorem Ext.setN {F : List Nat} {a w : World} {b : Nat} (hb : a.heap.size ≤ b) (h : Ext F a w) (o : Nat) (u : Value) : Ext F a (w.setCell ⟨b, o, none⟩ u) := h.setCell (.inr hb) u
theorem Ext.grown {F : List Nat} {a w w' : World} {row : Option Nat} (h : Ext F a w) (hg : w.grownBy w' row) (hr : ∀ k, row = some k → k ∈ F ∨ a.heap.size ≤ k) : Ext F a w' :=
  h.trans (F' := row.toList) ⟨hg.os, hg.tape, hg.output, hg.size, fun k hk hn => hg.block k hk (by cases row <;> simp_all <;> exact fun e => hn e.symm)⟩ (by intro x hx; exact hr x (by simpa using hx))
theorem Ext.below {w w' : World} (h : Ext [] w w') : Below w.heap.size w w' := ⟨h.os, h.tape, h.output, h.size, fun k hk => h.block k hk (by simp)⟩
theorem Ext.ofBelow {w w' : World} (h : Below w.heap.size w w') : Ext [] w w' := ⟨h.os, h.tape, h.output, h.size, fun k hk _ => h.block k hk⟩
theorem Ext.same {F : List Nat} {w w' : World} (h : Ext F w w') {b : Nat} {o : Obj} (hb : w.heap[b]? = some o) (hn : b ∉ F) : w'.heap[b]? = some o :=
  (h.block b (Array.getElem?_eq_some_iff.1 hb).1 hn).trans hb

/-! ### Blocks -/
theorem cellAt {w : World} {b : Nat} {cs : Array Value} {t : TypeId} {fr : Nat × Nat} (h : w.heap[b]? = some (.cells cs t fr)) (o : Nat) : w.cell? ⟨b, o, none⟩ = cs[o]? := cell_of_row w b o cs t fr h
theorem freeAt {w : World} {b : Nat} {cs : Array Value} {t : TypeId} (h : w.heap[b]? = some (.cells cs t (0, 0))) (o : Nat) : w.frozen? ⟨b, o, none⟩ = false := by simp [World.frozen?, h]
theorem heap_set {w : World} {b : Nat} {cs : Array Value} {t : TypeId} {fr : Nat × Nat} (h : w.heap[b]? = some (.cells cs t fr)) (o : Nat) (v : Value) :
    (w.setCell ⟨b, o, none⟩ v).heap[b]? = some (.cells (cs.setIfInBounds o v) t fr) := by
  simp [World.setCell, Array.getElem?_modify, h]
theorem heap_set_ne (w : World) (a : Addr) (v : Value) {b : Nat} (h : a.block ≠ b) : (w.setCell a v).heap[b]? = w.heap[b]? := Below.heap_setCell w a v b (fun e => h e.symm)
theorem heap_new (w : World) (o : Obj) : (w.alloc o).heap[w.heap.size]? = some o := heap_alloc_new w o
theorem heap_old (w : World) (o : Obj) {b : Nat} (h : b < w.heap.size) : (w.alloc o).heap[b]? = w.heap[b]? := heap_alloc_old w o h
theorem heap_old' (w : World) (o : Obj) {b : Nat} {x : Obj} (h : w.heap[b]? = some x) : (w.alloc o).heap[b]? = some x := (heap_alloc_old w o (Array.getElem?_eq_some_iff.1 h).1).trans h
theorem lt_of_heap {h : Array Obj} {b : Nat} {x : Obj} (e : h[b]? = some x) : b < h.size := (Array.getElem?_eq_some_iff.1 e).1

/-! ### Maps, as lists of keys and values -/
section
variable {κ ν : Type} [DecidableEq κ]
def mlook (l : List (κ × ν)) (k : κ) : Option ν := (l.find? fun p => decide (k = p.1)).map (·.2)
def mput (l : List (κ × ν)) (k : κ) (v : ν) : List (κ × ν) := if k ∈ l.map (·.1) then l.map (fun p => if k = p.1 then (k, v) else p) else l ++ [(k, v)]
def mdel (l : List (κ × ν)) (k : κ) : List (κ × ν) := l.filter fun p => decide (k ≠ p.1)
def mfind : List (κ × ν) → κ → Nat → Option (Nat × ν)
  | [], _, _ => none
  | p :: l, k, i => if k = p.1 then some (i, p.2) else mfind l k (i + 1)

@[simp] theorem mlook_nil (k : κ) : mlook ([] : List (κ × ν)) k = none := rfl
theorem mlook_cons (p : κ × ν) (l : List (κ × ν)) (k : κ) : mlook (p :: l) k = if k = p.1 then some p.2 else mlook l k := by
  unfold mlook; rw [List.find?_cons]; by_cases h : k = p.1 <;> simp [h]
theorem mfind_eq : ∀ (l : List (κ × ν)) (k : κ) (i : Nat), (mfind l k i).map (·.2) = mlook l k
  | [], _, _ => rfl
  | p :: l, k, i => by rw [mlook_cons]; unfold mfind; split <;> simp [mfind_eq l]
theorem mlook_none {l : List (κ × ν)} {k : κ} : mlook l k = none ↔ k ∉ l.map (·.1) := by
  induction l with
  | nil => simp
  | cons p l ih => rw [mlook_cons]; by_cases h : k = p.1 <;> simp_all
theorem mlook_append (l l' : List (κ × ν)) (k : κ) : mlook (l ++ l') k = (mlook l k).or (mlook l' k) := by
  induction l with
  | nil => simp
  | cons p l ih => rw [List.cons_append, mlook_cons, mlook_cons, ih]; split <;> simp
theorem mlook_put (l : List (κ × ν)) (k : κ) (v : ν) (q : κ) : mlook (mput l k v) q = if q = k then some v else mlook l q := by
  unfold mput
  split
  · rename_i hk
    have key : ∀ (l : List (κ × ν)), mlook (l.map fun p => if k = p.1 then (k, v) else p) q = if q = k then (if k ∈ l.map (·.1) then some v else none) else mlook l q := by
      intro l
      induction l with
      | nil => simp
      | cons p l ih =>
        rw [List.map_cons, mlook_cons, mlook_cons, ih]
        by_cases h1 : k = p.1
        · by_cases h2 : q = k
          · simp [h1, h2]
          · have h3 : ¬ q = p.1 := fun e => h2 (e.trans h1.symm)
            simp [← h1, h2]
        · by_cases h2 : q = k
          · have h3 : ¬ q = p.1 := fun e => h1 (h2.symm.trans e)
            rw [if_neg h1]
            simp only [h2, h1, if_false, if_true, List.map_cons, List.mem_cons, false_or]
          · rw [if_neg h1]
            simp [h2]
    rw [key, if_pos hk]
  · rename_i hk
    rw [mlook_append, mlook_cons]
    by_cases h : q = k
    · subst h; rw [mlook_none.2 hk]; simp
    · simp [h]
theorem mput_nodup {l : List (κ × ν)} (h : (l.map (·.1)).Nodup) (k : κ) (v : ν) : ((mput l k v).map (·.1)).Nodup := by
  unfold mput
  split
  · have : (l.map fun p => if k = p.1 then (k, v) else p).map (·.1) = l.map (·.1) := by
      rw [List.map_map]; apply List.map_congr_left; intro p _; simp only [Function.comp]; split <;> simp_all
    rw [this]; exact h
  · rename_i hk
    rw [List.map_append, List.nodup_append]
    exact ⟨h, by simp, fun a ha b hb e => by simp at hb; subst hb; subst e; exact hk ha⟩
theorem mlook_del (l : List (κ × ν)) (k q : κ) : mlook (mdel l k) q = if q = k then none else mlook l q := by
  unfold mdel
  induction l with
  | nil => simp
  | cons p l ih =>
    rw [List.filter_cons]
    by_cases h1 : k = p.1
    · simp only [h1, ne_eq, not_true_eq_false, decide_false, Bool.false_eq_true, if_false] at ih ⊢
      rw [ih, mlook_cons]
      by_cases h2 : q = p.1 <;> simp [h2]
    · simp only [h1, ne_eq, not_false_eq_true, decide_true, if_true]
      rw [mlook_cons, mlook_cons, ih]
      by_cases h2 : q = p.1
      · have h3 : ¬ q = k := fun e => h1 (e.symm.trans h2)
        simp [h2, Ne.symm h1]
      · simp [h2]
theorem mdel_nodup {l : List (κ × ν)} (h : (l.map (·.1)).Nodup) (k : κ) : ((mdel l k).map (·.1)).Nodup :=
  h.sublist (List.Sublist.map _ (List.filter_sublist ..))
end

/-- The key's type, as this seat's maps use it: 'enc k' is what stands in an entry. -/
structure KeyOK (P : Program) (kt : TypeId) {κ : Type} [DecidableEq κ] (enc : κ → Value) : Prop where
  check : ∀ em k (w : World), (Instr.checkKey em 10000 kt (enc k)).run P w = .ok () w
  find : ∀ {ν : Type} (venc : ν → Value) k (es : List MapEntry) (l : List (κ × ν)) (w : World), es.map (fun e => (e.key, e.val)) = l.map (fun p => (enc p.1, venc p.2)) → (l.map (·.1)).Nodup →
    (Instr.findKey kt (enc k) es).run P w = .ok ((mfind l k 0).map fun x => (x.1, venc x.2)) w
  stays : ∀ k (w : World), (Instr.keyThatStays (enc k) (enc k)).run P w = .ok (enc k) w

theorem checkKey_plain {P : Program} {kt : TypeId} {d : TypeDesc} (h : P.underlying kt = some d) (hd : ∀ (x : Nat) (_ : Nat), d = .string ∨ d = .bool ∨ ∃ q, d = .int q) (em : Bool) (n : Nat) (v : Value) (w : World) :
    (Instr.checkKey em (n + 1) kt v).run P w = .ok () w := by
  unfold Instr.checkKey
  simp only [Sem.run_bind, run_underlying h, Result.andThen_ok]
  rcases hd 0 0 with rfl | rfl | ⟨q, rfl⟩ <;> rfl

theorem keyOK_int {P : Program} {kt : TypeId} {q : IntKind} (h : P.underlying kt = some (.int q)) : KeyOK P kt (fun k : Int => Value.int q k) where
  check em k w := checkKey_plain h (fun _ _ => by simp) em 9999 _ w
  find venc k es l w he _ := by
    have key : ∀ (es : List MapEntry) (l : List (Int × _)) (i : Nat), es.map (fun e => (e.key, e.val)) = l.map (fun p => (Value.int q p.1, venc p.2)) →
        Instr.findNow (.int q) (.int q k) es i = some ((mfind l k i).map fun x => (x.1, venc x.2)) := by
      intro es
      induction es with
      | nil => intro l i he; cases l <;> simp_all [Instr.findNow, mfind]
      | cons e es ih =>
        intro l i he
        cases l with
        | nil => simp at he
        | cons p l =>
          simp only [List.map_cons, List.cons.injEq, Prod.mk.injEq] at he
          obtain ⟨⟨h1, h2⟩, h3⟩ := he
          simp only [Instr.findNow, h1, Instr.sameNow, if_true, mfind]
          by_cases hk : k = p.1
          · simp [hk, h2]
          · rw [show (k == p.1) = false by simpa using hk]; simp [hk, ih l (i + 1) h3]
    simp only [Instr.findKey, Sem.run_bind, run_underlying h, Result.andThen_ok, key es l 0 he]; rfl
  stays k w := by
    have : Instr.sameBits 10000 (.int q k) (.int q k) = true := by simp [Instr.sameBits]
    simp [Instr.keyThatStays, this]

theorem keyOK_string {P : Program} {kt : TypeId} (h : P.underlying kt = some .string) : KeyOK P kt (fun k : ByteArray => Value.string k) where
  check em k w := checkKey_plain h (fun _ _ => by simp) em 9999 _ w
  find venc k es l w he _ := by
    have key : ∀ (es : List MapEntry) (l : List (ByteArray × _)) (i : Nat), es.map (fun e => (e.key, e.val)) = l.map (fun p => (Value.string p.1, venc p.2)) →
        Instr.findNow .string (.string k) es i = some ((mfind l k i).map fun x => (x.1, venc x.2)) := by
      intro es
      induction es with
      | nil => intro l i he; cases l <;> simp_all [Instr.findNow, mfind]
      | cons e es ih =>
        intro l i he
        cases l with
        | nil => simp at he
        | cons p l =>
          simp only [List.map_cons, List.cons.injEq, Prod.mk.injEq] at he
          obtain ⟨⟨h1, h2⟩, h3⟩ := he
          simp only [Instr.findNow, h1, Instr.sameNow, mfind]
          by_cases hk : k = p.1
          · rw [(MapKept.bytes_beq k p.1).2 hk]; simp [hk, h2]
          · rw [show (k == p.1) = false from Bool.eq_false_iff.2 fun e => hk ((MapKept.bytes_beq k p.1).1 e)]; simp [hk, ih l (i + 1) h3]
    simp only [Instr.findKey, Sem.run_bind, run_underlying h, Result.andThen_ok, key es l 0 he]; rfl
  stays k w := by
    have : Instr.sameBits 10000 (.string k) (.string k) = true := by simp [Instr.sameBits, (MapKept.bytes_beq k k).2 rfl]
    simp [Instr.keyThatStays, this]

structure Ents {κ ν : Type} [DecidableEq κ] (enc : κ → Value) (venc : ν → Value) (es : Array MapEntry) (clock : Nat) (l : List (κ × ν)) : Prop where
  ents : es.toList.map (fun e => (e.key, e.val)) = l.map (fun p => (enc p.1, venc p.2))
  nodup : (l.map (·.1)).Nodup
  born : (es.toList.map (·.born)).Pairwise (· < ·)
  clk : ∀ e ∈ es.toList, e.born < clock

/-- Block b is a map that holds l. -/
def MapAt {κ ν : Type} [DecidableEq κ] (enc : κ → Value) (venc : ν → Value) (h : Array Obj) (b : Nat) (l : List (κ × ν)) : Prop :=
  ∃ es clock, h[b]? = some (.map es clock) ∧ Ents enc venc es clock l

section
variable {κ ν : Type} [DecidableEq κ] {enc : κ → Value} {venc : ν → Value} {l : List (κ × ν)} {b : Nat} {w : World} {P : Program} {kt et t : TypeId}

theorem MapAt.lt {h : Array Obj} (m : MapAt enc venc h b l) : b < h.size := by obtain ⟨es, c, hb, _⟩ := m; exact lt_of_heap hb
theorem MapAt.same {h h' : Array Obj} (m : MapAt enc venc h b l) (e : h'[b]? = h[b]?) : MapAt enc venc h' b l := by
  obtain ⟨es, c, hb, r⟩ := m; exact ⟨es, c, e.trans hb, r⟩
theorem MapAt.ext {F : List Nat} {w' : World} (m : MapAt enc venc w.heap b l) (h : Ext F w w') (hn : b ∉ F) : MapAt enc venc w'.heap b l := m.same (h.block b m.lt hn)
theorem mapAt_new (enc : κ → Value) (venc : ν → Value) (w : World) : MapAt enc venc (w.alloc (.map #[] 0)).heap w.heap.size ([] : List (κ × ν)) :=
  ⟨#[], 0, heap_new w _, by simp, by simp, by simp, by simp⟩

theorem run_lookup (K : KeyOK P kt enc) (ht : P.underlying t = some (.map kt et)) {d : ν} (hz : (zeroValue et).run P w = .ok (venc d) w) (m : MapAt enc venc w.heap b l) (k : κ) (ok : Bool) :
    (Instr.lookup t (.map (some b)) (enc k) ok).run P w = .ok (if ok then .tuple #[venc ((mlook l k).getD d), .bool (mlook l k).isSome] else venc ((mlook l k).getD d)) w := by
  obtain ⟨es, c, hb, E⟩ := m
  have hg : (getObj b).run P w = .ok (.map es c) w := by simp [getObj, Sem.run, hb]
  have hf := K.find venc k es.toList l w E.ents E.nodup
  simp only [Instr.lookup, Sem.run_bind, run_underlying ht, Result.andThen_ok, hg, K.check, Sem.run_pure]
  rw [hf]
  have hm := mfind_eq l k 0
  cases hx : mfind l k 0 with
  | none => rw [hx] at hm; rw [← hm]; cases ok <;> simp [hz]
  | some x => rw [hx] at hm; rw [← hm]; cases ok <;> simp

theorem run_lookup_nil (K : KeyOK P kt enc) (ht : P.underlying t = some (.map kt et)) {d : ν} (hz : (zeroValue et).run P w = .ok (venc d) w) (k : κ) (ok : Bool) :
    (Instr.lookup t (.map none) (enc k) ok).run P w = .ok (if ok then .tuple #[venc d, .bool false] else venc d) w := by
  have hf := K.find venc k [] [] w rfl List.nodup_nil
  simp only [Instr.lookup, Sem.run_bind, run_underlying ht, Result.andThen_ok, K.check, Sem.run_pure]
  rw [hf]
  cases ok <;> simp [mfind, hz]

theorem mfind_get : ∀ (l : List (κ × ν)) (k : κ) (i : Nat), (mfind l k i = none ∧ k ∉ l.map (·.1)) ∨ ∃ j v, mfind l k i = some (i + j, v) ∧ l[j]? = some (k, v)
  | [], k, i => by simp [mfind]
  | p :: l, k, i => by
    by_cases h : k = p.1
    · exact .inr ⟨0, p.2, by simp [mfind, h], by simp [h]⟩
    · rcases mfind_get l k (i + 1) with ⟨h1, h2⟩ | ⟨j, v, h1, h2⟩
      · exact .inl ⟨by simp [mfind, h, h1], by simp at h2; simp [h, h2]⟩
      · exact .inr ⟨j + 1, v, by rw [mfind, if_neg h, h1, Nat.add_assoc, Nat.add_comm 1 j], by simpa using h2⟩

theorem mput_at {l : List (κ × ν)} (hn : (l.map (·.1)).Nodup) {j : Nat} {k : κ} {v0 v : ν} (h : l[j]? = some (k, v0)) : mput l k v = l.set j (k, v) := by
  have hk : k ∈ l.map (·.1) := List.mem_map.2 ⟨(k, v0), List.mem_of_getElem? h, rfl⟩
  unfold mput
  rw [if_pos hk]
  have hj := (List.getElem?_eq_some_iff.1 h).1
  apply List.ext_getElem
  · simp
  · intro i h1 h2
    simp only [List.getElem_map, List.getElem_set]
    simp only [List.length_map] at h1
    by_cases e : j = i
    · subst e
      have : l[j] = (k, v0) := by simpa [List.getElem?_eq_getElem hj] using h
      simp [this]
    · rw [if_neg e]
      have : ¬ k = l[i].1 := by
        intro hk2
        have hj2 : l[j] = (k, v0) := by simpa [List.getElem?_eq_getElem hj] using h
        have hp := List.pairwise_iff_getElem.1 hn
        rcases Nat.lt_or_gt_of_ne e with hlt | hlt
        · exact hp j i (by simpa using hj) (by simpa using h1) hlt (by simp [hj2, ← hk2])
        · exact hp i j (by simpa using h1) (by simpa using hj) hlt (by simp [hj2, ← hk2])
      rw [if_neg this]

theorem run_mapUpdate (K : KeyOK P kt enc) (ht : P.underlying t = some (.map kt et)) (m : MapAt enc venc w.heap b l) (k : κ) (v : ν) :
    ∃ w', (Instr.mapUpdate t (.map (some b)) (enc k) (venc v)).run P w = .ok () w' ∧ MapAt enc venc w'.heap b (mput l k v) ∧ Ext [b] w w' := by
  obtain ⟨es, c, hb, E⟩ := m
  have hg : (getObj b).run P w = .ok (.map es c) w := by simp [getObj, Sem.run, hb]
  have hs : ∀ o, (setObj b o).run P w = .ok () { w with heap := w.heap.setIfInBounds b o } := by intro o; simp [setObj, Sem.run, hb]
  have hf := K.find venc k es.toList l w E.ents E.nodup
  have hblt := lt_of_heap hb
  have hext : ∀ o, Ext [b] w { w with heap := w.heap.setIfInBounds b o } := fun o =>
    ⟨rfl, rfl, rfl, by simp, fun i hi hn => by simp at hn; simp [Array.getElem?_setIfInBounds, show ¬ b = i from fun e => hn e.symm]⟩
  have hlen : es.size = l.length := by have := congrArg List.length E.ents; simpa using this
  rcases mfind_get l k 0 with ⟨h1, h2⟩ | ⟨j, v0, h1, h2⟩
  · refine ⟨{ w with heap := w.heap.setIfInBounds b (.map (es.push { key := enc k, val := venc v, born := c }) (c + 1)) }, ?_, ⟨es.push { key := enc k, val := venc v, born := c }, c + 1, by simp [hblt], ?_⟩, hext _⟩
    · simp only [Instr.mapUpdate, Sem.run_bind, run_underlying ht, Result.andThen_ok, hg, K.check]
      rw [hf, h1]
      simp [hs]
    · refine ⟨?_, mput_nodup E.nodup k v, ?_, ?_⟩
      · simp [mput, h2, E.ents]
      · simp only [Array.toList_push, List.map_append, List.map_cons, List.map_nil]
        refine List.pairwise_append.2 ⟨E.born, by simp, ?_⟩
        intro x hx y hy
        obtain ⟨e, he, rfl⟩ := List.mem_map.1 hx
        simp at hy; subst hy
        exact E.clk e he
      · intro e he
        simp only [Array.toList_push, List.mem_append, List.mem_singleton] at he
        rcases he with he | rfl
        · have := E.clk e he; omega
        · simp
  · simp only [Nat.zero_add] at h1
    have hj := (List.getElem?_eq_some_iff.1 h2).1
    have hje : j < es.size := by omega
    have hent : (es.toList.map (fun e => (e.key, e.val)))[j]? = some (enc k, venc v0) := by rw [E.ents]; simp [h2]
    have hent' : es[j].key = enc k := by
      simp [hje] at hent
      exact hent.1
    have hmod : es.modify j (fun e => { e with key := enc k, val := venc v }) = es.set j { es[j] with key := enc k, val := venc v } := by
      apply Array.ext
      · simp
      · intro i h3 h4; simp [Array.getElem_modify, Array.getElem_set]; split <;> simp_all
    refine ⟨{ w with heap := w.heap.setIfInBounds b (.map (es.modify j fun e => { e with key := enc k, val := venc v }) c) }, ?_, ⟨es.modify j fun e => { e with key := enc k, val := venc v }, c, by simp [hblt], ?_⟩, hext _⟩
    · simp only [Instr.mapUpdate, Sem.run_bind, run_underlying ht, Result.andThen_ok, hg, K.check]
      rw [hf, h1]
      simp [hs, hje, hent', K.stays]
    · have hb2 : (es.modify j fun e => { e with key := enc k, val := venc v }).toList.map (·.born) = es.toList.map (·.born) := by
        rw [hmod]
        simp only [Array.toList_set, List.map_set]
        apply List.ext_getElem (by simp)
        intro i h3 h4
        simp only [List.getElem_set]
        split
        · rename_i e; subst e; simp
        · rfl
      refine ⟨?_, mput_nodup E.nodup k v, by rw [hb2]; exact E.born, ?_⟩
      · rw [mput_at E.nodup h2, hmod]
        simp only [Array.toList_set, List.map_set, E.ents]
      · intro e he
        have : e.born ∈ es.toList.map (·.born) := by rw [← hb2]; exact List.mem_map.2 ⟨e, he, rfl⟩
        obtain ⟨e', he', h3⟩ := List.mem_map.1 this
        rw [← h3]; exact E.clk e' he'

/-! ### at the operation, for the walk -/
theorem wpList_lookup {ops : Array Oper} {rest : List Oper} {o : Oper} {a : Act} {Q : Exit → Act → World → Prop}
    (hg : o.guard = none) (mo x : Operand) (ok : Bool) (hop : o.op = Op.lookup t mo x ok) (K : KeyOK P kt enc) (ht : P.underlying t = some (.map kt et)) {d : ν} (hz : (zeroValue et).run P w = .ok (venc d) w)
    (hm : a.eval mo = .map (some b)) (m : MapAt enc venc w.heap b l) (k : κ) (hx : a.eval x = enc k)
    (hK : wpList P ops Q rest (a.put o.dst (if ok then .tuple #[venc ((mlook l k).getD d), .bool (mlook l k).isSome] else venc ((mlook l k).getD d))) w) :
    wpList P ops Q (o :: rest) a w := by
  refine wpList_plain hg fun K' hK' => ?_
  have hrun := run_lookup K ht hz m k ok
  unfold Oper.wp
  simp only [execOp, hop, hm, hx, Sem.run_bind, hrun, Result.andThen_ok, Sem.run_pure, Oper.upon_value]
  exact hK' _ _ hK
theorem wpList_mapUpdate {ops : Array Oper} {rest : List Oper} {o : Oper} {a : Act} {Q : Exit → Act → World → Prop}
    (hg : o.guard = none) (hd : o.dst = none) (mo x y : Operand) (hop : o.op = Op.mapUpdate t mo x y) (K : KeyOK P kt enc) (ht : P.underlying t = some (.map kt et))
    (hm : a.eval mo = .map (some b)) (m : MapAt enc venc w.heap b l) (k : κ) (hx : a.eval x = enc k) (v : ν) (hy : a.eval y = venc v)
    (hK : ∀ w', MapAt enc venc w'.heap b (mput l k v) → Ext [b] w w' → wpList P ops Q rest a w') :
    wpList P ops Q (o :: rest) a w := by
  refine wpList_plain hg fun K' hK' => ?_
  obtain ⟨w', hrun, r1, r2⟩ := run_mapUpdate (venc := venc) K ht m k v
  unfold Oper.wp
  simp only [execOp, hop, hm, hx, hy, Sem.run_bind, hrun, Result.andThen_ok, Sem.run_pure, Oper.upon_skip, hd, Act.put]
  exact hK' _ _ (hK w' r1 r2)
end

/-- A row of cells that the call owns: nil, or the head of a block. -/
def Own (h : Array Obj) (e : TypeId) (size : Nat) (v : Value) (n : Nat) (xs : List Value) : Prop :=
  xs.length = n * size ∧
  ((v = .slice none 0 0 ∧ n = 0) ∨
   ∃ g cap cur, v = .slice (some ⟨g, 0, none⟩) n cap ∧ 0 ≤ g ∧ h[g]? = some (.cells cur e (0, 0)) ∧ n ≤ cap ∧ cap ≤ maxLen ∧ cur.size = cap * size ∧ cur.toList.take (n * size) = xs)
theorem own_row {w : World} {e : TypeId} {size n : Nat} {v : Value} {xs : List Value} : Own w.heap e size v n xs ↔ w.ownsRow 0 e size v n xs := Iff.rfl
theorem Own.same {h h' : Array Obj} {e : TypeId} {size n : Nat} {v : Value} {xs : List Value} (o : Own h e size v n xs) (hb : ∀ g, v.ownBlock = some g → h'[g]? = h[g]?) : Own h' e size v n xs := by
  refine ⟨o.1, ?_⟩
  rcases o.2 with h1 | ⟨g, cap, cur, rfl, h2, h3, r⟩
  · exact .inl h1
  · exact .inr ⟨g, cap, cur, rfl, h2, (hb g rfl).trans h3, r⟩
theorem Own.block {h : Array Obj} {e : TypeId} {size n : Nat} {v : Value} {xs : List Value} (o : Own h e size v n xs) {g : Nat} (hg : v.ownBlock = some g) : ∃ cur, h[g]? = some (.cells cur e (0, 0)) := by
  rcases o.2 with ⟨rfl, _⟩ | ⟨g', cap, cur, rfl, _, h3, _⟩
  · cases hg
  · cases hg; exact ⟨cur, h3⟩
theorem Own.lt {h : Array Obj} {e : TypeId} {size n : Nat} {v : Value} {xs : List Value} (o : Own h e size v n xs) {g : Nat} (hg : v.ownBlock = some g) : g < h.size := by
  obtain ⟨_, hc⟩ := o.block hg; exact lt_of_heap hc
theorem Own.form {w : World} {e : TypeId} {size n : Nat} {v : Value} {xs : List Value} (o : Own w.heap e size v n xs) : ∃ ao cap, v = .slice ao n cap := by
  rcases o.2 with ⟨rfl, rfl⟩ | ⟨g, cap, cur, rfl, _⟩
  · exact ⟨none, 0, rfl⟩
  · exact ⟨_, _, rfl⟩
theorem run_append {P : Program} {w : World} (t ty e : TypeId) (i : TypeInfo) (z : Value) (size bytes : Nat) (ht : P.underlying t = some (.slice e)) (hi : P.info? e = some i) (hz : i.zero = some z)
    (hsize : i.size = size) (hby : i.bytes = bytes) (hzs : z.cells.size = size) (hsz : 0 < size)
    (v : Value) (n : Nat) (xs : List Value) (hown : Own w.heap e size v n xs)
    (a : Addr) (m c : Nat) (news : List Value) (hl : news.length = m * size) (hnews : ∀ j u, news[j]? = some u → w.cell? (a.add j) = some u) (h1 : ∀ u ∈ news, u.oneCell' = true)
    (h63 : n + m ≤ maxLen) (hbytes : (n + m) * bytes ≤ 140737488355328) :
    ∃ ao cap w', (Builtin.append_ #[t, t] ty #[v, .slice (some a) m c]).run P w = .ok (.slice ao (n + m) cap) w' ∧ Own w'.heap e size (.slice ao (n + m) cap) (n + m) (xs ++ news) ∧ Ext v.ownBlock.toList w w' ∧
      (∀ g, (Value.slice ao (n + m) cap).ownBlock = some g → v.ownBlock = some g ∨ w.heap.size ≤ g) := by
  obtain ⟨v', w', hrun, ho, hg, _⟩ := run_append_own (P := P) w 0 t ty e i z size bytes ht hi hz hsize hby hzs hsz v n xs hown a m c news hl hnews h1 h63 hbytes (Nat.zero_le _)
  obtain ⟨ao, cap, rfl⟩ := Own.form (w := w') (own_row.2 ho)
  refine ⟨ao, cap, w', hrun, ho, (Ext.refl _ _).grown hg fun k hk => .inl (by simp [hk]), ?_⟩
  intro g hgg
  have hsmall : n + m ≤ 9223372036854775807 := by simp only [maxLen] at h63; omega
  subst hsize; subst hby
  rcases hown.2 with ⟨rfl, rfl⟩ | ⟨g0, cap0, cur, rfl, _, hg0, hnc, hcm, hcs, htake⟩
  · right
    by_cases hm : m = 0
    · subst hm
      have hn : news = [] := List.eq_nil_of_length_eq_zero (by simpa using hl)
      rcases ho.2 with ⟨h2, _⟩ | ⟨g1, cap1, cur1, h2, _, h3, _⟩
      · cases h2; cases hgg
      · exfalso
        subst hn
        have hr2 : (Builtin.append_ #[t, t] ty #[.slice none 0 0, .slice (some a) 0 c]).run P w = .ok (.slice none 0 0) w := by
          simp [Builtin.append_, run_underlying ht, sizeOf, typeInfo, hi, Builtin.lenOf, Builtin.firstCells, loadCells, loadCellsFrom]
        rw [hr2] at hrun
        simp only [Result.ok.injEq] at hrun
        rw [← hrun.1] at h2
        cases h2
    · have hr := run_append_nil (P := P) w t ty e i z ht hi hz a m c news hl hnews (by omega) (by omega) (by have hb := hbytes; simp only [Nat.zero_add] at hb; omega)
      rw [hr] at hrun
      simp only [Result.ok.injEq] at hrun
      rw [← hrun.1] at hgg
      simp only [Value.ownBlock, Option.some.injEq] at hgg
      omega
  · by_cases hroom : n + m ≤ cap0
    · left
      have hfit : n * i.size + news.length ≤ cur.size := by rw [hl, hcs, ← Nat.add_mul]; exact Nat.mul_le_mul_right _ hroom
      have hr := run_append_room (P := P) w t ty e i ht hi g0 n cap0 cur hg0 a m c news hl hnews h1 hroom hfit
      rw [hr] at hrun
      simp only [Result.ok.injEq] at hrun
      rw [← hrun.1] at hgg
      exact hgg
    · right
      have holds : ∀ j u, xs[j]? = some u → w.cell? ((⟨g0, 0, none⟩ : Addr).add j) = some u := World.ownsRow.cells (own_row.1 hown) (g := g0) rfl
      have hr := run_append_grow (P := P) w t ty e i z ht hi hz ⟨g0, 0, none⟩ n cap0 xs hown.1 holds a m c news hl hnews (by omega) (by omega) (growslice_fits (by omega) hbytes)
      rw [hr] at hrun
      simp only [Result.ok.injEq] at hrun
      rw [← hrun.1] at hgg
      simp only [Value.ownBlock, Option.some.injEq] at hgg
      omega

theorem add_off' (b j : Nat) : (⟨b, 0, none⟩ : Addr).add j = ⟨b, j, none⟩ := by unfold Addr.add; split <;> simp_all
/-- 'append' to a row of the call's own, as a step of a region that draws its order. -/
theorem step_append_own {P : Program} {ops : Array Oper} {o : Oper} {a : Act} {w : World} {K : Act → World → Prop} {Q : Exit → Act → World → Prop} {E : Prop}
    (hg : o.guard = none) (s x : Operand) (t : TypeId) (hop : o.op = Op.call { callee := Callee.builtin Builtin.append, args := #[s, x], argTypes := #[t, t] })
    (e : TypeId) (i : TypeInfo) (z : Value) (size bytes : Nat) (ht : P.underlying t = some (.slice e)) (hi : P.info? e = some i) (hz : i.zero = some z)
    (hsize : i.size = size) (hby : i.bytes = bytes) (hzs : z.cells.size = size) (hsz : 0 < size)
    (v : Value) (n : Nat) (xs : List Value) (hs : a.eval s = v) (hown : Own w.heap e size v n xs)
    (ad : Addr) (m c : Nat) (news : List Value) (hx : a.eval x = .slice (some ad) m c) (hl : news.length = m * size) (hnews : ∀ j u, news[j]? = some u → w.cell? (ad.add j) = some u) (h1 : ∀ u ∈ news, u.oneCell' = true)
    (h63 : n + m ≤ maxLen) (hbytes : (n + m) * bytes ≤ 140737488355328)
    (hK : ∀ ao cap w', Own w'.heap e size (.slice ao (n + m) cap) (n + m) (xs ++ news) → Ext v.ownBlock.toList w w' → (∀ g, (Value.slice ao (n + m) cap).ownBlock = some g → v.ownBlock = some g ∨ w.heap.size ≤ g) →
      K (a.put o.dst (.slice ao (n + m) cap)) w') :
    if Region.wanted o (yielded ops a.tmps) = true then Oper.wp P o a w K Q else E := by
  have hw : Region.wanted o (yielded ops a.tmps) = true := by simp [Region.wanted, hg]
  rw [if_pos hw]
  obtain ⟨ao, cap, w', hr, h2, h3, h4⟩ := run_append (P := P) (w := w) t o.type e i z size bytes ht hi hz hsize hby hzs hsz v n xs hown ad m c news hl hnews h1 h63 hbytes
  unfold Oper.wp execOp
  simp only [hop, resolve, invoke, builtin, Sem.run_bind, Sem.run_pure, Result.andThen_ok, List.map_toArray, List.map_cons, List.map_nil, hs, hx, hr]
  exact hK ao cap w' h2 h3 h4
/-- .. in a region that doesn't. -/
theorem wpList_append {P : Program} {ops : Array Oper} {rest : List Oper} {o : Oper} {a : Act} {w : World} {Q : Exit → Act → World → Prop}
    (hg : o.guard = none) (s x : Operand) (t : TypeId) (hop : o.op = Op.call { callee := Callee.builtin Builtin.append, args := #[s, x], argTypes := #[t, t] })
    (e : TypeId) (i : TypeInfo) (z : Value) (size bytes : Nat) (ht : P.underlying t = some (.slice e)) (hi : P.info? e = some i) (hz : i.zero = some z)
    (hsize : i.size = size) (hby : i.bytes = bytes) (hzs : z.cells.size = size) (hsz : 0 < size)
    (v : Value) (n : Nat) (xs : List Value) (hs : a.eval s = v) (hown : Own w.heap e size v n xs)
    (ad : Addr) (m c : Nat) (news : List Value) (hx : a.eval x = .slice (some ad) m c) (hl : news.length = m * size) (hnews : ∀ j u, news[j]? = some u → w.cell? (ad.add j) = some u) (h1 : ∀ u ∈ news, u.oneCell' = true)
    (h63 : n + m ≤ maxLen) (hbytes : (n + m) * bytes ≤ 140737488355328)
    (hK : ∀ ao cap w', Own w'.heap e size (.slice ao (n + m) cap) (n + m) (xs ++ news) → Ext v.ownBlock.toList w w' → (∀ g, (Value.slice ao (n + m) cap).ownBlock = some g → v.ownBlock = some g ∨ w.heap.size ≤ g) →
      wpList P ops Q rest (a.put o.dst (.slice ao (n + m) cap)) w') : wpList P ops Q (o :: rest) a w := by
  refine wpList_plain hg fun K' hK' => ?_
  obtain ⟨ao, cap, w', hr, h2, h3, h4⟩ := run_append (P := P) (w := w) t o.type e i z size bytes ht hi hz hsize hby hzs hsz v n xs hown ad m c news hl hnews h1 h63 hbytes
  unfold Oper.wp execOp
  simp only [hop, resolve, invoke, builtin, Sem.run_bind, Sem.run_pure, Result.andThen_ok, List.map_toArray, List.map_cons, List.map_nil, hs, hx, hr]
  exact hK' _ _ (hK ao cap w' h2 h3 h4)
theorem run_append_str {P : Program} {w : World} (t u ty e : TypeId) (i : TypeInfo) (ht : P.underlying t = some (.slice e)) (hu : P.underlying u = some .string) (hi : P.info? e = some i) (hz : i.zero = some (.int .u8 0))
    (hsize : i.size = 1) (hby : i.bytes = 1) (v : Value) (n : Nat) (xs : List Value) (hown : Own w.heap e 1 v n xs) (s : ByteArray) (h63 : n + s.size ≤ maxLen) (hbytes : n + s.size ≤ 140737488355328) :
    ∃ ao cap w', (Builtin.append_ #[t, u] ty #[v, .string s]).run P w = .ok (.slice ao (n + s.size) cap) w' ∧ Own w'.heap e 1 (.slice ao (n + s.size) cap) (n + s.size) (xs ++ Lib.strCells s) ∧ Ext v.ownBlock.toList w w' ∧
      (∀ g, (Value.slice ao (n + s.size) cap).ownBlock = some g → v.ownBlock = some g ∨ w.heap.size ≤ g) := by
  obtain ⟨v', w', hrun, ho, hg, _⟩ := Lib.run_append_own_string (P := P) w 0 t u ty e i ht hu hi hz hsize hby v n xs hown s h63 hbytes (Nat.zero_le _)
  obtain ⟨ao, cap, rfl⟩ := Own.form (w := w') (own_row.2 ho)
  refine ⟨ao, cap, w', hrun, ho, (Ext.refl _ _).grown hg fun k hk => .inl (by simp [hk]), ?_⟩
  intro g hgg
  have hsmall : n + s.size ≤ 9223372036854775807 := by simp only [maxLen] at h63; omega
  rcases hown.2 with ⟨rfl, rfl⟩ | ⟨g0, cap0, cur, rfl, _, hg0, hnc, hcm, hcs, htake⟩
  · right
    by_cases hm : s.size = 0
    · rcases ho.2 with ⟨h2, _⟩ | ⟨g1, cap1, cur1, h2, _, h3, _⟩
      · simp only [Value.slice.injEq] at h2
        rw [h2.1] at hgg; cases hgg
      · exfalso
        have hr2 : (Builtin.append_ #[t, u] ty #[.slice none 0 0, .string s]).run P w = .ok (.slice none 0 0) w := by
          have hf := Lib.run_firstCells_string (P := P) w 1 s
          rw [hm] at hf
          simp [Builtin.append_, run_underlying ht, run_underlying hu, sizeOf, typeInfo, hi, Builtin.lenOf, hm, hsize, hf]
        rw [hr2] at hrun
        simp only [Result.ok.injEq] at hrun
        rw [← hrun.1] at h2
        cases h2
    · have hr := run_append_nil_string (P := P) w t u ty e i _ ht hu hi hz s (by omega) (by omega) (by rw [hby]; omega)
      rw [hr] at hrun
      simp only [Result.ok.injEq] at hrun
      rw [← hrun.1] at hgg
      simp only [Value.ownBlock, Option.some.injEq] at hgg
      omega
  · by_cases hroom : n + s.size ≤ cap0
    · left
      have hr := Lib.run_append_room_string (P := P) w t u ty e i ht hu hi hsize g0 n cap0 cur hg0 s hroom (by omega)
      rw [hr] at hrun
      simp only [Result.ok.injEq] at hrun
      rw [← hrun.1] at hgg
      exact hgg
    · right
      have holds : ∀ j u, xs[j]? = some u → w.cell? ((⟨g0, 0, none⟩ : Addr).add j) = some u := World.ownsRow.cells (own_row.1 hown) (g := g0) rfl
      have hr := Lib.run_append_grow_string (P := P) w t u ty e i _ ht hu hi hz ⟨g0, 0, none⟩ n cap0 xs (by rw [hsize]; exact hown.1) holds s (by omega) (by omega) (growslice_fits (by omega) (by rw [hby]; omega))
      rw [hr] at hrun
      simp only [Result.ok.injEq] at hrun
      rw [← hrun.1] at hgg
      simp only [Value.ownBlock, Option.some.injEq] at hgg
      omega
theorem wpList_append_str {P : Program} {ops : Array Oper} {rest : List Oper} {o : Oper} {a : Act} {w : World} {Q : Exit → Act → World → Prop}
    (hg : o.guard = none) (sl x : Operand) (t u : TypeId) (hop : o.op = Op.call { callee := Callee.builtin Builtin.append, args := #[sl, x], argTypes := #[t, u] })
    (e : TypeId) (i : TypeInfo) (ht : P.underlying t = some (.slice e)) (hu : P.underlying u = some .string) (hi : P.info? e = some i) (hz : i.zero = some (.int .u8 0)) (hsize : i.size = 1) (hby : i.bytes = 1)
    (v : Value) (n : Nat) (xs : List Value) (hs : a.eval sl = v) (hown : Own w.heap e 1 v n xs) (s : ByteArray) (hx : a.eval x = .string s) (h63 : n + s.size ≤ maxLen) (hbytes : n + s.size ≤ 140737488355328)
    (hK : ∀ ao cap w', Own w'.heap e 1 (.slice ao (n + s.size) cap) (n + s.size) (xs ++ Lib.strCells s) → Ext v.ownBlock.toList w w' → (∀ g, (Value.slice ao (n + s.size) cap).ownBlock = some g → v.ownBlock = some g ∨ w.heap.size ≤ g) →
      wpList P ops Q rest (a.put o.dst (.slice ao (n + s.size) cap)) w') : wpList P ops Q (o :: rest) a w := by
  refine wpList_plain hg fun K' hK' => ?_
  obtain ⟨ao, cap, w', hr, h2, h3, h4⟩ := run_append_str (P := P) (w := w) t u o.type e i ht hu hi hz hsize hby v n xs hown s h63 hbytes
  unfold Oper.wp execOp
  simp only [hop, resolve, invoke, builtin, Sem.run_bind, Sem.run_pure, Result.andThen_ok, List.map_toArray, List.map_cons, List.map_nil, hs, hx, hr]
  exact hK' _ _ (hK ao cap w' h2 h3 h4)
theorem Own.cells {h : Array Obj} {w : World} (hw : w.heap = h) {e : TypeId} {size n : Nat} {v : Value} {xs : List Value} (o : Own h e size v n xs) {g : Nat} (hg : v.ownBlock = some g) : ∀ j u, xs[j]? = some u → w.cell? ((⟨g, 0, none⟩ : Addr).add j) = some u := by
  subst hw; exact World.ownsRow.cells (own_row.1 o) hg
/-- Bytes, as numbers, as a string. -/
def strN (l : List Nat) : ByteArray := ⟨(l.map UInt8.ofNat).toArray⟩
theorem run_bytes_text {P : Program} {w : World} (src dst e : TypeId) (hs : P.underlying src = some (.slice e)) (he : P.underlying e = some (.int .u8)) (hd : P.underlying dst = some .string)
    (v : Value) (l : List Nat) (hown : Own w.heap e 1 v l.length (l.map fun (c : Nat) => Value.int .u8 c)) : (convert src dst v).run P w = .ok (.string (strN l)) w := by
  rcases hown.2 with ⟨rfl, h0⟩ | ⟨g, cap, cur, rfl, _, hg, hnc, hcm, hcs, htake⟩
  · have : l = [] := List.eq_nil_of_length_eq_zero h0
    subst this
    rw [run_convert_bytes_nil w src e hs he 0 0 dst hd]; rfl
  · rw [run_convert_bytes_arg w src e hs he g 0 l.length cap (l.map fun (c : Nat) => (c : Int)) (by simp) (fun i hi => by
      have := Own.cells (w := w) rfl hown (g := g) rfl i (.int .u8 ((l.getD i 0 : Nat) : Int)) (by simp [List.getElem?_map, hi])
      rw [add_off'] at this
      rw [Nat.zero_add, this]
      simp [List.getD, hi]) dst hd]
    congr 2
    simp [strOfNums, strN]

theorem Own.alloc {w : World} {e : TypeId} {size n : Nat} {v : Value} {xs : List Value} (o : Own w.heap e size v n xs) (x : Obj) : Own (w.alloc x).heap e size v n xs :=
  o.same fun g hg => heap_old w x (o.lt hg)
theorem add_off (b j : Nat) : (⟨b, 0, none⟩ : Addr).add j = ⟨b, j, none⟩ := by unfold Addr.add; split <;> simp_all
theorem news_new (w : World) (cs : List Value) (t : TypeId) : ∀ j u, cs[j]? = some u → (w.alloc (.cells cs.toArray t)).cell? ((⟨w.heap.size, 0, none⟩ : Addr).add j) = some u := by
  intro j u h
  rw [add_off, World.cell?_alloc_new]
  simpa using h
theorem ne_block {h : Array Obj} {a b : Nat} {x y : Obj} (ha : h[a]? = some x) (hb : h[b]? = some y) (hne : x ≠ y) : a ≠ b := fun e => hne (by subst e; rw [ha] at hb; exact Option.some.inj hb)
theorem MapAt.ne {κ ν : Type} [DecidableEq κ] {enc : κ → Value} {venc : ν → Value} {l : List (κ × ν)} {h : Array Obj} {b m : Nat} (hm : MapAt enc venc h m l) {cs : Array Value} {t : TypeId} {f : Nat × Nat} (hb : h[b]? = some (.cells cs t f)) : b ≠ m := by
  obtain ⟨es, c, h1, _⟩ := hm
  exact ne_block hb h1 (by simp)

end Go.Hs
set_option linter.unusedSimpArgs false
set_option linter.unusedVariables false
namespace Go.Proofs.Ytjicjadibaomkaa
open Go.RowKit Go.Hs

/-- A block that holds the leaves, from o on. -/
def LeafAt (h : Array Obj) (b o : Nat) (L : List ByteArray) : Prop := ∃ cs t fr, h[b]? = some (.cells cs t fr) ∧ ∀ (k : Nat) s, L[k]? = some s → cs[o + k]? = some (.string s)
theorem LeafAt.ext0 {w w' : World} {b o : Nat} {L : List ByteArray} (h : LeafAt w.heap b o L) (x : Ext [] w w') : LeafAt w'.heap b o L := by
  obtain ⟨cs, t, fr, h1, h2⟩ := h; exact ⟨cs, t, fr, x.same h1 (by simp), h2⟩
theorem LeafAt.cell {w : World} {b o : Nat} {L : List ByteArray} (h : LeafAt w.heap b o L) {k : Nat} {s : ByteArray} (hk : L[k]? = some s) : w.cell? ⟨b, o + k, none⟩ = some (.string s) := by
  obtain ⟨cs, t, fr, h1, h2⟩ := h; rw [cellAt h1]; exact h2 k s hk
end Go.Proofs.Ytjicjadibaomkaa
set_option linter.unusedSimpArgs false
set_option linter.unusedVariables false
namespace Go.Dg
open Go Go.RowKit

abbrev u32 (x : Int) : Int := x % 4294967296
/-- RotateLeft32. -/
def rotl (x : Int) (k : Nat) : Int := Go.bits .or .u32 (u32 (x * 2 ^ k)) (x / 2 ^ (32 - k))
/-- The i-th byte. -/
def byteAt (s : ByteArray) (i : Nat) : Int := ((s.data.toList.getD i 0).toNat : Int)
def word0 (s : ByteArray) (i : Nat) : Nat → Int
  | 0 => 0
  | k + 1 => Go.bits .or .u32 (u32 (word0 s i k * 256)) (byteAt s (4 * i + k))
def firstW (s : ByteArray) : Nat → List Int
  | 0 => []
  | n + 1 => firstW s n ++ [word0 s n 4]
def smallS (p : Int) : Int := Go.bits .xor .u32 (Go.bits .xor .u32 (rotl p 25) (rotl p 14)) (p / 8)
def greatS (q : Int) : Int := Go.bits .xor .u32 (Go.bits .xor .u32 (rotl q 15) (rotl q 13)) (q / 1024)
def nextW (l : List Int) : Int :=
  u32 (u32 (u32 (l.getD (l.length - 16) 0 + smallS (l.getD (l.length - 15) 0)) + l.getD (l.length - 7) 0) + greatS (l.getD (l.length - 2) 0))
def wordsN (s : ByteArray) : Nat → List Int
  | 0 => firstW s 16
  | n + 1 => wordsN s n ++ [nextW (wordsN s n)]
theorem firstW_len (s : ByteArray) : ∀ n, (firstW s n).length = n
  | 0 => rfl
  | n + 1 => by simp [firstW, firstW_len s n]
theorem wordsN_len (s : ByteArray) : ∀ n, (wordsN s n).length = 16 + n
  | 0 => firstW_len s 16
  | n + 1 => by simp [wordsN, wordsN_len s n]; omega
structure St where
  a : Int
  b : Int
  c : Int
  d : Int
  e : Int
  f : Int
  g : Int
  h : Int
def St.val (t : St) : Value := .agg #[.int .u32 t.a, .int .u32 t.b, .int .u32 t.c, .int .u32 t.d, .int .u32 t.e, .int .u32 t.f, .int .u32 t.g, .int .u32 t.h]
theorem byte_eq (s : ByteArray) (i : Nat) (h : i < s.size) : ((s[i]'h).toNat : Int) % 4294967296 = byteAt s i := by
  unfold byteAt
  have h1 : s.data.toList.getD i 0 = s[i]'h := by
    have h2 : i < s.data.toList.length := by simpa using h
    rw [List.getD_eq_getElem?_getD, List.getElem?_eq_getElem h2]
    rfl
  rw [h1]
  have := (s[i]'h).toNat_lt
  omega
def notU (x : Int) : Int := Go.bits .xor .u32 (if IntKind.u32.signed = true then -1 else IntKind.u32.max) x
def chF (t : St) : Int := Go.bits .xor .u32 (Go.bits .and .u32 t.e t.f) (Go.bits .and .u32 (notU t.e) t.g)
def majF (t : St) : Int := Go.bits .xor .u32 (Go.bits .xor .u32 (Go.bits .and .u32 t.a t.b) (Go.bits .and .u32 t.a t.c)) (Go.bits .and .u32 t.b t.c)
def sig1 (e : Int) : Int := Go.bits .xor .u32 (Go.bits .xor .u32 (rotl e 26) (rotl e 21)) (rotl e 7)
def sig0 (a : Int) : Int := Go.bits .xor .u32 (Go.bits .xor .u32 (rotl a 30) (rotl a 19)) (rotl a 10)
def xF (t : St) (k w : Int) : Int := t.h + chF t + k + w + sig1 t.e
def stepR (t : St) (k w : Int) : St := ⟨(xF t k w + (majF t + sig0 t.a)) % 4294967296, t.a, t.b, t.c, (t.d + xF t k w) % 4294967296, t.e, t.f, t.g⟩
def keysL : List Int := [1116352408, 1899447441, 3049323471, 3921009573, 961987163, 1508970993, 2453635748, 2870763221, 3624381080, 310598401, 607225278, 1426881987, 1925078388, 2162078206, 2614888103, 3248222580, 3835390401, 4022224774, 264347078, 604807628, 770255983, 1249150122, 1555081692, 1996064986, 2554220882, 2821834349, 2952996808, 3210313671, 3336571891, 3584528711, 113926993, 338241895, 666307205, 773529912, 1294757372, 1396182291, 1695183700, 1986661051, 2177026350, 2456956037, 2730485921, 2820302411, 3259730800, 3345764771, 3516065817, 3600352804, 4094571909, 275423344, 430227734, 506948616, 659060556, 883997877, 958139571, 1322822218, 1537002063, 1747873779, 1955562222, 2024104815, 2227730452, 2361852424, 2428436474, 2756734187, 3204031479, 3329325298]
def mixTo (t : St) (ws : List Int) : Nat → St
  | 0 => t
  | n + 1 => stepR (mixTo t ws n) (keysL.getD n 0) (ws.getD n 0)
def St.add (s t : St) : St := ⟨(s.a + t.a) % 4294967296, (s.b + t.b) % 4294967296, (s.c + t.c) % 4294967296, (s.d + t.d) % 4294967296, (s.e + t.e) % 4294967296, (s.f + t.f) % 4294967296, (s.g + t.g) % 4294967296, (s.h + t.h) % 4294967296⟩
/-- A state behind the first 64 bytes. -/
def mixF (t : St) (s : ByteArray) : St := t.add (mixTo t (wordsN s 48) 64)
def begin0 : St := ⟨1779033703, 3144134277, 1013904242, 2773480762, 1359893119, 2600822924, 528734635, 1541459225⟩
/-- All whole blocks of bytes, eaten. -/
def eatN : Nat → St → ByteArray → St × ByteArray
  | 0, t, s => (t, s)
  | n + 1, t, s => if 64 ≤ s.size then eatN n (mixF t s) (s.extract 64 s.size) else (t, s)
def eat (t : St) (s : ByteArray) : St × ByteArray := eatN s.size t s
theorem eatN_enough : ∀ (n m : Nat) (t : St) (s : ByteArray), s.size ≤ n → s.size ≤ m → eatN n t s = eatN m t s := by
  intro n
  induction n with
  | zero =>
    intro m t s h1 h2
    cases m with
    | zero => rfl
    | succ m => simp only [eatN]; rw [if_neg (by omega)]
  | succ n ih =>
    intro m t s h1 h2
    cases m with
    | zero => simp only [eatN]; rw [if_neg (by omega)]
    | succ m =>
      simp only [eatN]
      split
      · rename_i h
        exact ih m _ _ (by rw [ByteArray.size_extract]; omega) (by rw [ByteArray.size_extract]; omega)
      · rfl
theorem eat_more {t : St} {s : ByteArray} (h : 64 ≤ s.size) : eat t s = eat (mixF t s) (s.extract 64 s.size) := by
  unfold eat
  obtain ⟨n, hn⟩ : ∃ n, s.size = n + 1 := ⟨s.size - 1, by omega⟩
  rw [hn]
  simp only [eatN]
  rw [if_pos h, ← hn]
  exact eatN_enough _ _ _ _ (by rw [ByteArray.size_extract]; omega) (Nat.le_refl _)
theorem eat_end {t : St} {s : ByteArray} (h : ¬ 64 ≤ s.size) : eat t s = (t, s) := by
  unfold eat
  cases hs : s.size with
  | zero => rfl
  | succ n => simp only [eatN]; rw [if_neg h]
/-- The length's eight bytes, behind. -/
def lenTo (pre : ByteArray) (n : Nat) : Nat → ByteArray
  | 0 => pre
  | j + 1 => lenTo pre n j ++ Go.Hs.strN [n * 8 / 2 ^ (8 * (7 - j)) % 256]
theorem lenTo_size (pre : ByteArray) (n : Nat) : ∀ j, (lenTo pre n j).size = pre.size + j
  | 0 => rfl
  | j + 1 => by
    rw [lenTo, ByteArray.size_append, lenTo_size pre n j]
    show _ + 1 = _
    omega
def padB (left : ByteArray) (n : Nat) : ByteArray := lenTo (left ++ ⟨#[128]⟩ ++ ⟨(List.replicate ((119 - left.size) % 64) 0).toArray⟩) n 8
theorem padB_size {left : ByteArray} (h : left.size < 64) (n : Nat) : (padB left n).size = 64 ∨ (padB left n).size = 128 := by
  unfold padB
  rw [lenTo_size, ByteArray.size_append, ByteArray.size_append]
  have h1 : (⟨#[128]⟩ : ByteArray).size = 1 := rfl
  have h2 : (⟨(List.replicate ((119 - left.size) % 64) 0).toArray⟩ : ByteArray).size = (119 - left.size) % 64 := by
    show (List.replicate ((119 - left.size) % 64) (0 : UInt8)).toArray.size = _
    simp
  rw [h1, h2]
  omega
end Go.Dg
set_option linter.unusedSimpArgs false
set_option linter.unusedVariables false
set_option maxHeartbeats 1000000
set_option maxRecDepth 100000
namespace Go.Proofs.Ytjicjadibaomkaa
open Go.RowKit Go.Hs Go.Dg

theorem infoU32 : (Try.prog.info? 89).map (fun i => (i.zero, i.size, i.bytes)) = some (some (.int .u32 0), 1, 4) := by kernel_rfl
theorem rot_any (x : Int) (k : Nat) (hk1 : 1 ≤ k) (hk2 : k ≤ 31) (hb : Go.bits .and .u64 (k : Int) 31 = k) (w : World) :
    Calls Try.prog 55 #[.int .u32 x, .int .i64 k] w fun e w' => e = .returned (.int .u32 (rotl x k)) ∧ w' = w := by
  have h1 : (1 : Int) ≤ k := by omega
  have h2 : (k : Int) ≤ 31 := by omega
  have h3 : ((32 : Int) - k).toNat = 32 - k := by omega
  go_enter Try.func55, Try.ntmps55
  go_wp2
  go_ret
  exact ⟨rfl, rfl⟩
theorem rot25 (x : Int) (w : World) : Calls Try.prog 55 #[.int .u32 x, .int .i64 25] w fun e w' => e = .returned (.int .u32 (rotl x 25)) ∧ w' = w := rot_any x 25 (by decide) (by decide) (by decide +kernel) w
theorem rot14 (x : Int) (w : World) : Calls Try.prog 55 #[.int .u32 x, .int .i64 14] w fun e w' => e = .returned (.int .u32 (rotl x 14)) ∧ w' = w := rot_any x 14 (by decide) (by decide) (by decide +kernel) w
theorem rot15 (x : Int) (w : World) : Calls Try.prog 55 #[.int .u32 x, .int .i64 15] w fun e w' => e = .returned (.int .u32 (rotl x 15)) ∧ w' = w := rot_any x 15 (by decide) (by decide) (by decide +kernel) w
theorem rot13 (x : Int) (w : World) : Calls Try.prog 55 #[.int .u32 x, .int .i64 13] w fun e w' => e = .returned (.int .u32 (rotl x 13)) ∧ w' = w := rot_any x 13 (by decide) (by decide) (by decide +kernel) w
theorem rot26 (x : Int) (w : World) : Calls Try.prog 55 #[.int .u32 x, .int .i64 26] w fun e w' => e = .returned (.int .u32 (rotl x 26)) ∧ w' = w := rot_any x 26 (by decide) (by decide) (by decide +kernel) w
theorem rot21 (x : Int) (w : World) : Calls Try.prog 55 #[.int .u32 x, .int .i64 21] w fun e w' => e = .returned (.int .u32 (rotl x 21)) ∧ w' = w := rot_any x 21 (by decide) (by decide) (by decide +kernel) w
theorem rot7 (x : Int) (w : World) : Calls Try.prog 55 #[.int .u32 x, .int .i64 7] w fun e w' => e = .returned (.int .u32 (rotl x 7)) ∧ w' = w := rot_any x 7 (by decide) (by decide) (by decide +kernel) w
theorem rot30 (x : Int) (w : World) : Calls Try.prog 55 #[.int .u32 x, .int .i64 30] w fun e w' => e = .returned (.int .u32 (rotl x 30)) ∧ w' = w := rot_any x 30 (by decide) (by decide) (by decide +kernel) w
theorem rot19 (x : Int) (w : World) : Calls Try.prog 55 #[.int .u32 x, .int .i64 19] w fun e w' => e = .returned (.int .u32 (rotl x 19)) ∧ w' = w := rot_any x 19 (by decide) (by decide) (by decide +kernel) w
theorem rot10 (x : Int) (w : World) : Calls Try.prog 55 #[.int .u32 x, .int .i64 10] w fun e w' => e = .returned (.int .u32 (rotl x 10)) ∧ w' = w := rot_any x 10 (by decide) (by decide) (by decide +kernel) w
theorem rotI (x K : Int) (w : World) (h : 1 ≤ K ∧ K ≤ 31) (hb : Go.bits .and .u64 K 31 = K) : Calls Try.prog 55 #[.int .u32 x, .int .i64 K] w fun e w' => e = .returned (.int .u32 (rotl x K.toNat)) ∧ w' = w := by
  obtain ⟨k, rfl⟩ := Int.eq_ofNat_of_zero_le (show 0 ≤ K by omega)
  exact rot_any x k (by omega) (by omega) hb w
theorem own_made {w : World} {z : Value} {e : TypeId} {c : Nat} (hc : c ≤ maxLen) : Own (w.alloc (.cells (Array.replicate c z) e)).heap e 1 (.slice (some ⟨w.heap.size, 0, none⟩) 0 c) 0 [] :=
  ⟨rfl, .inr ⟨_, c, _, rfl, Nat.zero_le _, heap_new _ _, Nat.zero_le _, hc, by simp, by simp⟩⟩
/-- A row of words of the call's own. -/
structure WsAt (w wr : World) (ao : Option Addr) (n cap : Nat) (l : List Int) : Prop where
  own : Own wr.heap 89 1 (.slice ao n cap) n (l.map (Value.int .u32))
  ext : Ext [] w wr
  lo : ∀ g, (Value.slice ao n cap).ownBlock = some g → w.heap.size ≤ g
theorem WsAt.ext0 {w wr w' : World} {ao : Option Addr} {n cap : Nat} {l : List Int} (h : WsAt w wr ao n cap l) (hx : Ext [] wr w') : WsAt w w' ao n cap l :=
  ⟨h.own.same fun g hg => hx.block g (h.own.lt hg) (by simp), h.ext.trans0 hx, h.lo⟩
theorem WsAt.grow {w wr w' : World} {ao ao2 : Option Addr} {n cap cap2 : Nat} {l : List Int} {x : Int} (h : WsAt w wr ao n cap l) (o : Own w'.heap 89 1 (.slice ao2 (n + 1) cap2) (n + 1) (l.map (Value.int .u32) ++ [.int .u32 x]))
    (hx : Ext (Value.slice ao n cap).ownBlock.toList wr w') (hf : ∀ g, (Value.slice ao2 (n + 1) cap2).ownBlock = some g → (Value.slice ao n cap).ownBlock = some g ∨ wr.heap.size ≤ g) : WsAt w w' ao2 (n + 1) cap2 (l ++ [x]) := by
  refine ⟨by simpa using o, h.ext.trans hx (fun g hg => .inr (h.lo g (by simpa using hg))), fun g hg => ?_⟩
  rcases hf g hg with q | q
  · exact h.lo g q
  · have := h.ext.size; omega
theorem WsAt.cell {w wr : World} {ao : Option Addr} {n cap : Nat} {l : List Int} (h : WsAt w wr ao n cap l) {k : Nat} (hk : k < n) : ∃ g, ao = some ⟨g, 0, none⟩ ∧ wr.cell? ⟨g, k, none⟩ = some (.int .u32 (l.getD k 0)) := by
  have hl : l.length = n := by have := h.own.1; simpa using this
  rcases h.own.2 with ⟨h1, h2⟩ | ⟨g, c, cur, h1, _⟩
  · omega
  · cases h1
    refine ⟨g, rfl, ?_⟩
    have := Own.cells (w := wr) rfl h.own (g := g) rfl k (.int .u32 (l.getD k 0)) (by simp [List.getElem?_map, List.getD, show k < l.length by omega])
    rwa [add_off'] at this
theorem words_any (s : ByteArray) (hs : 64 ≤ s.size) (hm : s.size ≤ maxLen) (w : World) :
    Calls Try.prog 54 #[.string s] w fun e w' => ∃ ao cap, e = .returned (.slice ao 64 cap) ∧ WsAt w w' ao 64 cap (wordsN s 48) := by
  unfold maxLen at hm
  have hsi : (64 : Int) ≤ s.size := by omega
  have hmi : (s.size : Int) ≤ 9223372036854775807 := by omega
  have hmk : ∀ w : World, (Instr.makeSlice 98 (.int .i64 0) (.int .i64 64)).run Try.prog w = .ok (.slice (some ⟨w.heap.size, 0, none⟩) 0 64) (w.alloc (.cells (Array.replicate 64 (.int .u32 0)) 89)) := fun _ => by kernel_rfl
  obtain ⟨i0, hi, hz0, hz1, hz2⟩ := info_parts infoU32
  have h0 : WsAt w (w.alloc (.cells (Array.replicate 64 (.int .u32 0)) 89)) (some ⟨w.heap.size, 0, none⟩) 0 64 [] :=
    ⟨own_made (by decide), (Ext.refl _ _).alloc _, fun g hg => by simp [Value.ownBlock] at hg; omega⟩
  have HI := Hs.hid hi
  have HZ := Hs.hid (And.intro hz0 (And.intro hz1 hz2))
  clear hi hz0 hz1 hz2
  go_enter Try.func54, Try.ntmps54
  go_wp2
  clear hmk
  go_loopw [13, 3] (fun ii v wr => ∃ n ao cap, n ≤ 16 ∧ ii = .int .i64 (n : Nat) ∧ v = .slice ao n cap ∧ WsAt w wr ao n cap (firstW s n)) (fun ii _ _ => 16 - (intOf ii).toNat)
  case atStart => exact ⟨0, _, _, Nat.zero_le _, rfl, rfl, h0⟩
  case round =>
    clear h0
    obtain ⟨n, ao, cap, hn, rfl, rfl, hW⟩ := hrel
    have hn0 : (0 : Int) ≤ n := by omega
    by_cases hlt : n < 16
    · have hni : (n : Int) < 16 := by omega
      have HN := Hs.hid (And.intro hn hlt)
      clear hn hlt
      go_wp2
      go_loop [16, 5] (fun kk x => ∃ k : Nat, k ≤ 4 ∧ kk = .int .i64 k ∧ x = .int .u32 (word0 s n k)) (fun kk _ => 4 - (intOf kk).toNat)
      case atStart => exact ⟨0, Nat.zero_le _, rfl, rfl⟩
      case round =>
        obtain ⟨k, hk, rfl, rfl⟩ := hrel
        have hk0 : (0 : Int) ≤ k := by omega
        by_cases hkl : k < 4
        · have hki : (k : Int) < 4 := by omega
          have HK := Hs.hid hkl
          clear hk hkl
          have hb := byte_eq s (4 * n + k) (by have := HN.out; have := HK.out; omega)
          have HB := Hs.hid hb
          clear hb
          go_wp2
          go_round
          case rel => exact ⟨k + 1, HK.out, by go_num, by rw [HB.out]; rfl⟩
          case measure => have := HK.out; simp [intOf]; omega
        · obtain rfl : k = 4 := by omega
          have hm1 : n + 1 ≤ maxLen := by have := HN.out; simp [maxLen]; omega
          have hm2 : (n + 1) * 4 ≤ 140737488355328 := by have := HN.out; omega
          have hi := HI.out
          obtain ⟨hz0, hz1, hz2⟩ := HZ.out
          clear hk hk0
          go_wp2_with (at_builtin; refine wpList_append rfl (.tmp 30) (.tmp 32) 98 rfl 89 i0 _ 1 4 Try.underlying98 hi hz0 hz1 hz2 rfl (by decide) (.slice ao n cap) n _ rfl (hW.own.alloc _) ⟨wr.heap.size, 0, none⟩ 1 1 [.int .u32 (word0 s n 4)] rfl rfl (news_new wr _ _) (by simp [Value.oneCell']) hm1 hm2 ?_; intro ao2 cap2 w2 hl2 hx2 hf2)
          have hW2 := (hW.ext0 ((Ext.refl [] wr).alloc (.cells #[.int .u32 (word0 s n 4)] 89))).grow hl2 hx2 hf2
          clear hi hz0 hz1 hz2 hm1 hm2 hl2 hx2 hf2
          go_roundw
          case rel => exact ⟨n + 1, ao2, cap2, HN.out.2, by go_num, rfl, hW2⟩
          case measure => have := HN.out; simp [intOf]; omega
    · obtain rfl : n = 16 := by omega
      clear hn hlt hn0
      go_wp2
      rw [show ((16 : Nat) : Int) = 16 from rfl]
      have hW0 : WsAt w wr ao (16 + 0) cap (wordsN s 0) := hW
      clear hW
      go_loopw [7, 3] (fun ii v wr => ∃ n ao cap, n ≤ 48 ∧ ii = .int .i64 ((16 + n : Nat) : Int) ∧ v = .slice ao (16 + n) cap ∧ WsAt w wr ao (16 + n) cap (wordsN s n)) (fun ii _ _ => 64 - (intOf ii).toNat)
      case atStart => exact ⟨0, ao, cap, Nat.zero_le _, rfl, rfl, hW0⟩
      case round =>
        clear hW0
        obtain ⟨n, ao, cap, hn, rfl, rfl, hW⟩ := hrel
        have hlen := wordsN_len s n
        obtain ⟨l, hl⟩ : ∃ l, wordsN s n = l := ⟨_, rfl⟩
        have hnx : wordsN s (n + 1) = l ++ [nextW l] := by simp only [wordsN, hl]
        rw [hl] at hW hlen
        have HNX := Hs.hid hnx
        have HL := Hs.hid hl
        clear hnx hl
        by_cases hlt : n < 48
        · obtain ⟨m, hm⟩ : ∃ m, 16 + n = m := ⟨_, rfl⟩
          rw [hm] at hW hlen ⊢
          have hm16 : (16 : Int) ≤ m := by omega
          have hm64 : (m : Int) < 64 := by omega
          obtain ⟨g, rfl, c15⟩ := hW.cell (k := m - 15) (by omega)
          obtain ⟨_, e2, c2⟩ := hW.cell (k := m - 2) (by omega); cases e2
          obtain ⟨_, e7, c7⟩ := hW.cell (k := m - 7) (by omega); cases e7
          obtain ⟨_, e16, c16⟩ := hW.cell (k := m - 16) (by omega); cases e16
          have t15 : ((m : Int) - 15).toNat = m - 15 := by omega
          have t2 : ((m : Int) - 2).toNat = m - 2 := by omega
          have t7 : ((m : Int) - 7).toNat = m - 7 := by omega
          have t16 : ((m : Int) - 16).toNat = m - 16 := by omega
          have b15 : (0 : Int) ≤ (m : Int) - 15 ∧ (m : Int) - 15 < m := by omega
          have b2 : (0 : Int) ≤ (m : Int) - 2 ∧ (m : Int) - 2 < m := by omega
          have b7 : (0 : Int) ≤ (m : Int) - 7 ∧ (m : Int) - 7 < m := by omega
          have b16 : (0 : Int) ≤ (m : Int) - 16 ∧ (m : Int) - 16 < m := by omega
          obtain ⟨b15, d15⟩ := b15
          obtain ⟨b2, d2⟩ := b2
          obtain ⟨b7, d7⟩ := b7
          obtain ⟨b16, d16⟩ := b16
          have HM := Hs.hid hm
          have HN := Hs.hid (And.intro hn hlt)
          have HLEN := Hs.hid hlen
          obtain ⟨x15, hx15⟩ : ∃ x, l.getD (m - 15) 0 = x := ⟨_, rfl⟩
          obtain ⟨x2, hx2⟩ : ∃ x, l.getD (m - 2) 0 = x := ⟨_, rfl⟩
          obtain ⟨x7, hx7⟩ : ∃ x, l.getD (m - 7) 0 = x := ⟨_, rfl⟩
          obtain ⟨x16, hx16⟩ : ∃ x, l.getD (m - 16) 0 = x := ⟨_, rfl⟩
          rw [hx15] at c15
          rw [hx2] at c2
          rw [hx7] at c7
          rw [hx16] at c16
          have HX := Hs.hid (And.intro hx16 (And.intro hx15 (And.intro hx7 hx2)))
          clear hm hn hlt hlen hx15 hx2 hx7 hx16
          go_upto_region 16 with fail
          go_quiet (fail)
          have hW := hW.ext0 ((Ext.refl [] wr).drewN nq)
          clear c15 c2 t15 t2 b15 d15 b2 d2
          go_upto_region 19 with (first
            | (go_at_call 55; with_reducible refine (rot25 _ _).mono ?_; rintro e w4 ⟨rfl, rfl⟩)
            | (go_at_call 55; with_reducible refine (rot14 _ _).mono ?_; rintro e w4 ⟨rfl, rfl⟩)
            | (go_at_call 55; with_reducible refine (rot15 _ _).mono ?_; rintro e w4 ⟨rfl, rfl⟩)
            | (go_at_call 55; with_reducible refine (rot13 _ _).mono ?_; rintro e w4 ⟨rfl, rfl⟩))
          have hm1 : m + 1 ≤ maxLen := by have := HN.out; have := HM.out; simp [maxLen]; omega
          have hm2 : (m + 1) * 4 ≤ 140737488355328 := by have := HN.out; have := HM.out; omega
          have hi := HI.out
          obtain ⟨hz0, hz1, hz2⟩ := HZ.out
          have c16 : (wr.drewN nq).cell? ⟨g, m - 16, none⟩ = some (.int .u32 x16) := c16
          have c7 : (wr.drewN nq).cell? ⟨g, m - 7, none⟩ = some (.int .u32 x7) := c7
          generalize wr.drewN nq = wr at *
          have w16 : IntKind.i64.wrap ((m : Int) - 16) = (m : Int) - 16 := IntWalk.i64_in _ (by omega)
          have w7 : IntKind.i64.wrap ((m : Int) - 7) = (m : Int) - 7 := IntWalk.i64_in _ (by omega)
          have hm7 : (7 : Int) ≤ m := by omega
          have hnw : nextW l = IntKind.u32.wrap (IntKind.u32.wrap (IntKind.u32.wrap (x16 + smallS x15) + x7) + greatS x2) := by
            unfold nextW
            rw [HLEN.out, HX.out.1, HX.out.2.1, HX.out.2.2.1, HX.out.2.2.2]
            simp only [IntKind.wrap_u32]
          have HNW := Hs.hid hnw
          clear hnw
          go_region_law (refine step_append_own rfl (.tmp 65) (.tmp 81) 98 rfl 89 i0 _ 1 4 Try.underlying98 hi hz0 hz1 hz2 rfl (by decide) (.slice (some ⟨g, 0, none⟩) m cap) m _ (by simp [Act.eval, Act.put]) ((hW.ext0 (Ext.drew (Ext.refl [] _))).own.alloc _) ⟨wr.heap.size, 0, none⟩ 1 1 [.int .u32 _] (by simp [Act.eval, Act.put]) rfl (news_new wr.drew _ _) (by simp [Value.oneCell']) hm1 hm2 ?_; intro ao2 cap2 w2 hl2 hx2 hf2)
          all_goals
            have hW2 := (hW.ext0 (by first | exact ((Ext.refl [] wr).alloc _).drew | exact ((Ext.refl [] wr).drew).alloc _)).grow hl2 hx2 hf2
            have hW3 : WsAt w w2 ao2 (16 + (n + 1)) cap2 (wordsN s (n + 1)) := by
              rw [HNX.out, HNW.out, show 16 + (n + 1) = m + 1 by have := HM.out; omega]
              exact hW2
            clear hi hz0 hz1 hz2 hm1 hm2 hl2 hx2 hf2 hW2 c16 c7 w16 w7 hW t7 t16 b7 d7 b16 d16
            go_wp2
            go_roundw
            case rel => exact ⟨n + 1, ao2, cap2, HN.out.2, by have := HM.out; exact congrArg (Value.int .i64) (by omega), by rw [show 16 + (n + 1) = m + 1 by have := HM.out; omega], hW3⟩
            case measure => have := HM.out; have := HN.out; simp [intOf]; omega
        · obtain rfl : n = 48 := by omega
          go_wp2
          go_ret
          exact ⟨ao, cap, rfl, by rw [HL.out]; exact hW⟩
end Go.Proofs.Ytjicjadibaomkaa
set_option linter.unusedSimpArgs false
set_option linter.unusedVariables false
set_option maxHeartbeats 1000000
set_option maxRecDepth 100000
namespace Go.Proofs.Ytjicjadibaomkaa
open Go.RowKit Go.Hs Go.Dg

theorem round_any (w : World) : Calls Try.prog 53 #[] w fun e w' => e = .returned (.slice (some ⟨w.heap.size, 0, none⟩) 64 64) ∧ w' = w.alloc (.cells (keysL.map (Value.int .u32)).toArray 89) := by
  go_enter Try.func53, Try.ntmps53
  go_wp2
  go_ret
  exact ⟨rfl, rfl⟩
abbrev stCell (t : St) : Obj := .cells #[.int .u32 t.a, .int .u32 t.b, .int .u32 t.c, .int .u32 t.d, .int .u32 t.e, .int .u32 t.f, .int .u32 t.g, .int .u32 t.h] 91 (0, 0)
abbrev zSt : St := ⟨0, 0, 0, 0, 0, 0, 0, 0⟩
structure MxAt (w wr : World) (A R T Kb : Nat) (ao : Option Addr) (cap : Nat) (t0 tn : St) (ws : List Int) : Prop where
  a : wr.heap[A]? = some (stCell t0)
  r : wr.heap[R]? = some (stCell zSt)
  t : wr.heap[T]? = some (stCell tn)
  k : wr.heap[Kb]? = some (.cells (keysL.map (Value.int .u32)).toArray 89 (0, 0))
  ws : WsAt w wr ao 64 cap ws
  ne : T ≠ A ∧ T ≠ R ∧ w.heap.size ≤ T ∧ w.heap.size ≤ R
theorem MxAt.ext0 {w wr w' : World} {A R T Kb : Nat} {ao : Option Addr} {cap : Nat} {t0 tn : St} {ws : List Int} (h : MxAt w wr A R T Kb ao cap t0 tn ws) (hx : Ext [] wr w') : MxAt w w' A R T Kb ao cap t0 tn ws :=
  ⟨hx.same h.a (by simp), hx.same h.r (by simp), hx.same h.t (by simp), hx.same h.k (by simp), h.ws.ext0 hx, h.ne⟩
theorem st_cells {w : World} {T : Nat} {t : St} (h : w.heap[T]? = some (stCell t)) : w.cell? ⟨T, 0, none⟩ = some (.int .u32 t.a) ∧ w.cell? ⟨T, 1, none⟩ = some (.int .u32 t.b) ∧ w.cell? ⟨T, 2, none⟩ = some (.int .u32 t.c) ∧ w.cell? ⟨T, 3, none⟩ = some (.int .u32 t.d) ∧
    w.cell? ⟨T, 4, none⟩ = some (.int .u32 t.e) ∧ w.cell? ⟨T, 5, none⟩ = some (.int .u32 t.f) ∧ w.cell? ⟨T, 6, none⟩ = some (.int .u32 t.g) ∧ w.cell? ⟨T, 7, none⟩ = some (.int .u32 t.h) := ⟨cellAt h 0, cellAt h 1, cellAt h 2, cellAt h 3, cellAt h 4, cellAt h 5, cellAt h 6, cellAt h 7⟩
theorem keys_cell {w : World} {Kb : Nat} (h : w.heap[Kb]? = some (.cells (keysL.map (Value.int .u32)).toArray 89 (0, 0))) {k : Nat} (hk : k < 64) : w.cell? ⟨Kb, k, none⟩ = some (.int .u32 (keysL.getD k 0)) := by
  rw [cellAt h k]
  have hl : k < keysL.length := by simpa [keysL] using hk
  simp [List.getElem?_map, List.getD, hl]
theorem MxAt.put {w wr : World} {A R T Kb : Nat} {ao : Option Addr} {cap : Nat} {t0 tn : St} {ws : List Int} (h : MxAt w wr A R T Kb ao cap t0 tn ws) (hws : ∀ g, ao = some ⟨g, 0, none⟩ → g ≠ T) (hk : T ≠ Kb) (v0 v1 v2 v3 v4 v5 v6 v7 : Int) :
    MxAt w ((((((((wr.setCell ⟨T, 0, none⟩ (.int .u32 v0)).setCell ⟨T, 1, none⟩ (.int .u32 v1)).setCell ⟨T, 2, none⟩ (.int .u32 v2)).setCell ⟨T, 3, none⟩ (.int .u32 v3)).setCell ⟨T, 4, none⟩ (.int .u32 v4)).setCell ⟨T, 5, none⟩ (.int .u32 v5)).setCell ⟨T, 6, none⟩ (.int .u32 v6)).setCell ⟨T, 7, none⟩ (.int .u32 v7)) A R T Kb ao cap t0 ⟨v0, v1, v2, v3, v4, v5, v6, v7⟩ ws := by
  have hx : Ext [T] wr ((((((((wr.setCell ⟨T, 0, none⟩ (.int .u32 v0)).setCell ⟨T, 1, none⟩ (.int .u32 v1)).setCell ⟨T, 2, none⟩ (.int .u32 v2)).setCell ⟨T, 3, none⟩ (.int .u32 v3)).setCell ⟨T, 4, none⟩ (.int .u32 v4)).setCell ⟨T, 5, none⟩ (.int .u32 v5)).setCell ⟨T, 6, none⟩ (.int .u32 v6)).setCell ⟨T, 7, none⟩ (.int .u32 v7)) := by
    repeat (first | (with_reducible exact Ext.refl _ _) | (with_reducible refine Ext.set' (List.mem_singleton.2 rfl) ?_ _ _))
  obtain ⟨n1, n2, n3, n4⟩ := h.ne
  refine ⟨hx.same h.a (by simp; exact Ne.symm n1), hx.same h.r (by simp; exact Ne.symm n2), ?_, hx.same h.k (by simp; exact Ne.symm hk), ⟨h.ws.own.same fun g hg => hx.block g (h.ws.own.lt hg) ?_, h.ws.ext.trans hx (fun g hg => .inr (by simp at hg; omega)), h.ws.lo⟩, h.ne⟩
  · refine Eq.trans (heap_set (heap_set (heap_set (heap_set (heap_set (heap_set (heap_set (heap_set h.t 0 _) 1 _) 2 _) 3 _) 4 _) 5 _) 6 _) 7 _) ?_
    simp
  · rcases h.ws.own.2 with ⟨_, q⟩ | ⟨g', c', cur, e1, _⟩
    · omega
    · cases e1
      cases hg
      simpa using hws _ rfl
theorem mix_any (t : St) (s : ByteArray) (hs : 64 ≤ s.size) (hm : s.size ≤ maxLen) (w : World) :
    Calls Try.prog 47 #[t.val, .string s] w fun e w' => e = .returned (mixF t s).val ∧ Ext [] w w' := by
  unfold St.val
  have h0 : ∀ (w5 : World) (ao : Option Addr) (cap : Nat), WsAt ((((w.alloc (stCell t)).alloc (stCell zSt)).alloc (stCell t)).alloc (.cells (keysL.map (Value.int .u32)).toArray 89)) w5 ao 64 cap (wordsN s 48) →
      MxAt w w5 w.heap.size (w.heap.size + 1) (w.heap.size + 1 + 1) (w.heap.size + 1 + 1 + 1) ao cap t t (wordsN s 48) := by
    intro w5 ao cap hW
    have h1 : (w.alloc (stCell t)).heap.size = w.heap.size + 1 := by simp
    have h2 : ((w.alloc (stCell t)).alloc (stCell zSt)).heap.size = w.heap.size + 1 + 1 := by simp
    have h3 : (((w.alloc (stCell t)).alloc (stCell zSt)).alloc (stCell t)).heap.size = w.heap.size + 1 + 1 + 1 := by simp
    have hx := hW.ext
    refine ⟨hx.same (heap_old' _ _ (heap_old' _ _ (heap_old' _ _ (heap_new _ _)))) (by simp), hx.same (heap_old' _ _ (heap_old' _ _ (by rw [← h1]; exact heap_new _ _))) (by simp), hx.same (heap_old' _ _ (by rw [← h2]; exact heap_new _ _)) (by simp), hx.same (by rw [← h3]; exact heap_new _ _) (by simp), ?_, by omega⟩
    refine ⟨hW.own, ((((Ext.refl [] w).alloc _).alloc _).alloc _).alloc _ |>.trans0 hx, fun g hg => ?_⟩
    have := hW.lo g hg
    simp only [World.alloc] at this
    simp at this
    omega
  go_enter Try.func47, Try.ntmps47
  go_wp2_with (first
    | (go_at_call 53; refine (round_any _).mono ?_; rintro e w4 ⟨rfl, rfl⟩)
    | (go_at_call 54; refine (words_any s hs hm _).mono ?_; rintro e w5 ⟨ao, cap, rfl, hW⟩))
  have hM := h0 _ _ _ hW
  have hA := Hs.hid (show w.heap.size = w.heap.size from rfl)
  clear h0 hW
  obtain ⟨A, hA⟩ : ∃ A, w.heap.size = A := ⟨_, rfl⟩
  have HA := Hs.hid hA
  rw [hA] at hM ⊢
  clear hA
  go_loopw [18] (fun ii wr => ∃ n tn, n ≤ 64 ∧ ii = .int .i64 (n : Nat) ∧ MxAt w wr A (A + 1) (A + 1 + 1) (A + 1 + 1 + 1) ao cap t tn (wordsN s 48) ∧ Hid (tn = mixTo t (wordsN s 48) n)) (fun ii _ => 64 - (intOf ii).toNat)
  case atStart => exact ⟨0, t, Nat.zero_le _, rfl, hM, Hs.hid rfl⟩
  case round =>
    clear hM
    obtain ⟨n, tn, hn, rfl, hM, HT⟩ := hrel
    have hn0 : (0 : Int) ≤ n := by omega
    by_cases hlt : n < 64
    · have hni : (n : Int) < 64 := by omega
      obtain ⟨g, rfl, cw⟩ := hM.ws.cell hlt
      have ck := keys_cell hM.k hlt
      have HG : Hid (g ≠ A + 1 + 1) := Hs.hid (by
        have hb := hM.ws.own.block (g := g) rfl
        obtain ⟨cur, hc⟩ := hb
        exact ne_block hc hM.t (by simp))
      obtain ⟨c0, c1, c2, c3, c4, c5, c6, c7⟩ := st_cells hM.t
      have cf := freeAt hM.t
      obtain ⟨wv, hwv⟩ : ∃ v, (wordsN s 48).getD n 0 = v := ⟨_, rfl⟩
      obtain ⟨kv, hkv⟩ : ∃ v, keysL.getD n 0 = v := ⟨_, rfl⟩
      rw [hwv] at cw
      rw [hkv] at ck
      have HV := Hs.hid (And.intro hwv hkv)
      have HN := Hs.hid (And.intro hn hlt)
      clear hwv hkv hn hlt
      go_upto_region 8 with fail
      go_quiet (fail)
      have hM := hM.ext0 ((Ext.refl [] wr).drewN nq)
      clear c0 c1 c2 c3 c4 c5 c6 c7 cf cw ck
      generalize wr.drewN nq = wa at *
      obtain ⟨c0, c1, c2, c3, c4, c5, c6, c7⟩ := st_cells hM.t
      have cf := freeAt hM.t
      go_upto_region 9 with fail
      go_quiet ((go_at_call 55; exact Calls.quiet_of_same (rotI _ _ _ (by decide) (by decide +kernel))))
      have hM := hM.ext0 ((Ext.refl [] wa).drewN nq)
      clear c0 c1 c2 c3 c4 c5 c6 c7 cf
      generalize wa.drewN nq = wb at *
      obtain ⟨c0, c1, c2, c3, c4, c5, c6, c7⟩ := st_cells hM.t
      have cf := freeAt hM.t
      go_upto_region 11 with fail
      go_quiet ((go_at_call 55; exact Calls.quiet_of_same (rotI _ _ _ (by decide) (by decide +kernel))))
      have hM := hM.ext0 ((Ext.refl [] wb).drewN nq)
      clear c0 c1 c2 c3 c4 c5 c6 c7 cf
      generalize wb.drewN nq = wd at *
      obtain ⟨c0, c1, c2, c3, c4, c5, c6, c7⟩ := st_cells hM.t
      have cf := freeAt hM.t
      go_wp2
      go_round
      case rel =>
        refine ⟨n + 1, ⟨_, _, _, _, _, _, _, _⟩, HN.out.2, by go_num, hM.put (fun g' e => ?_) (by omega) _ _ _ _ _ _ _ _, Hs.hid ?_⟩
        · cases e; exact HG.out
        · rw [mixTo, ← HT.out, HV.out.1, HV.out.2]
          unfold stepR xF chF majF sig1 sig0 notU
          rfl
      case measure => have := HN.out; simp [intOf]; omega
    · obtain rfl : n = 64 := by omega
      obtain ⟨c0, c1, c2, c3, c4, c5, c6, c7⟩ := st_cells hM.t
      obtain ⟨a0, a1, a2, a3, a4, a5, a6, a7⟩ := st_cells hM.a
      have rf := freeAt hM.r
      obtain ⟨r0, r1, r2, r3, r4, r5, r6, r7⟩ := st_cells hM.r
      have hsum : mixF t s = t.add tn := by unfold mixF; rw [HT.out]
      have HS := Hs.hid hsum
      clear hn hlt hn0 hsum
      go_wp2
      refine bodyPost_ret (v := (t.add tn).val) (by simp [results, Try.results47, go_sem, St.val, St.add, r0, r1, r2, r3, r4, r5, r6, r7]) rfl ⟨by rw [HS.out]; rfl, ?_⟩
      have hz := HA.out
      have hx := hM.ws.ext
      have hl : w.heap.size ≤ A + 1 := by omega
      repeat (first | (with_reducible exact hx) | (with_reducible refine Ext.setN hl ?_ _ _) | (with_reducible refine Ext.drew ?_))
end Go.Proofs.Ytjicjadibaomkaa
set_option linter.unusedSimpArgs false
set_option linter.unusedVariables false
set_option maxHeartbeats 1000000
set_option maxRecDepth 100000
namespace Go.Proofs.Ytjicjadibaomkaa
open Go.RowKit Go.Hs Go.Dg

/-- A Hash. -/
abbrev hashCell (t : St) (left : ByteArray) (n : Nat) : Obj := .cells #[.int .u32 t.a, .int .u32 t.b, .int .u32 t.c, .int .u32 t.d, .int .u32 t.e, .int .u32 t.f, .int .u32 t.g, .int .u32 t.h, .string left, .int .i64 n] 94 (0, 0)
theorem digBegin_any (w : World) : Calls Try.prog 46 #[] w fun e w' => e = .returned (.agg #[.int .u32 (begin0).a, .int .u32 (begin0).b, .int .u32 (begin0).c, .int .u32 (begin0).d, .int .u32 (begin0).e, .int .u32 (begin0).f, .int .u32 (begin0).g, .int .u32 (begin0).h]) ∧ Ext [] w w' :=
  (PDg.digest_begin.calls _ _ _ _ _ _ _ _ w rfl).mono fun e w' ⟨h1, h2⟩ => ⟨h1, Ext.ofBelow h2⟩
theorem mix_lit (t : St) (s : ByteArray) (hs : 64 ≤ s.size) (hm : s.size ≤ maxLen) (w : World) :
    Calls Try.prog 47 #[.agg #[.int .u32 (t).a, .int .u32 (t).b, .int .u32 (t).c, .int .u32 (t).d, .int .u32 (t).e, .int .u32 (t).f, .int .u32 (t).g, .int .u32 (t).h], .string s] w fun e w' => e = .returned (.agg #[.int .u32 (mixF t s).a, .int .u32 (mixF t s).b, .int .u32 (mixF t s).c, .int .u32 (mixF t s).d, .int .u32 (mixF t s).e, .int .u32 (mixF t s).f, .int .u32 (mixF t s).g, .int .u32 (mixF t s).h]) ∧ Ext [] w w' := mix_any t s hs hm w
theorem digNew_any (w : World) : Calls Try.prog 30 #[] w fun e w' => ∃ b, e = .returned (.pointer (some ⟨b, 0, none⟩)) ∧ w'.heap[b]? = some (hashCell begin0 ⟨#[]⟩ 0) ∧ Ext [] w w' ∧ w.heap.size ≤ b := by
  go_enter Try.func30, Try.ntmps30
  go_wp2_with (go_at_call 46; refine (digBegin_any _).mono ?_; rintro e w4 ⟨rfl, hx⟩)
  go_ret
  exact ⟨_, rfl, heap_new _ _, hx.alloc _, hx.size⟩
theorem clone_any (s : ByteArray) (w : World) (hlim : s.size ≤ 281474976710656) : Calls Try.prog 48 #[.string s] w fun e w' => e = .returned (.string s) ∧ Ext [] w w' := by
  go_enter Try.func48, Try.ntmps48
  go_wp2_with (go_at_call 56; refine (Try.stringslite_Clone s _ hlim).mono ?_; rintro e w4 ⟨rfl, hx⟩)
  go_ret
  exact ⟨rfl, Ext.ofBelow hx⟩
theorem hcells {w : World} {b : Nat} {t : St} {left : ByteArray} {n : Nat} (h : w.heap[b]? = some (hashCell t left n)) : w.cell? ⟨b, 0, none⟩ = some (.int .u32 t.a) ∧ w.cell? ⟨b, 1, none⟩ = some (.int .u32 t.b) ∧ w.cell? ⟨b, 2, none⟩ = some (.int .u32 t.c) ∧ w.cell? ⟨b, 3, none⟩ = some (.int .u32 t.d) ∧
    w.cell? ⟨b, 4, none⟩ = some (.int .u32 t.e) ∧ w.cell? ⟨b, 5, none⟩ = some (.int .u32 t.f) ∧ w.cell? ⟨b, 6, none⟩ = some (.int .u32 t.g) ∧ w.cell? ⟨b, 7, none⟩ = some (.int .u32 t.h) ∧ w.cell? ⟨b, 8, none⟩ = some (.string left) ∧ w.cell? ⟨b, 9, none⟩ = some (.int .i64 n) :=
  ⟨cellAt h 0, cellAt h 1, cellAt h 2, cellAt h 3, cellAt h 4, cellAt h 5, cellAt h 6, cellAt h 7, cellAt h 8, cellAt h 9⟩
theorem hash_put {w : World} {b : Nat} {t : St} {left : ByteArray} {n : Nat} (hb : w.heap[b]? = some (hashCell t left n)) (u : St) :
    ((((((((w.setCell ⟨b, 0, none⟩ (.int .u32 u.a)).setCell ⟨b, 1, none⟩ (.int .u32 u.b)).setCell ⟨b, 2, none⟩ (.int .u32 u.c)).setCell ⟨b, 3, none⟩ (.int .u32 u.d)).setCell ⟨b, 4, none⟩ (.int .u32 u.e)).setCell ⟨b, 5, none⟩ (.int .u32 u.f)).setCell ⟨b, 6, none⟩ (.int .u32 u.g)).setCell ⟨b, 7, none⟩ (.int .u32 u.h)).heap[b]? = some (hashCell u left n) ∧ Ext [b] w ((((((((w.setCell ⟨b, 0, none⟩ (.int .u32 u.a)).setCell ⟨b, 1, none⟩ (.int .u32 u.b)).setCell ⟨b, 2, none⟩ (.int .u32 u.c)).setCell ⟨b, 3, none⟩ (.int .u32 u.d)).setCell ⟨b, 4, none⟩ (.int .u32 u.e)).setCell ⟨b, 5, none⟩ (.int .u32 u.f)).setCell ⟨b, 6, none⟩ (.int .u32 u.g)).setCell ⟨b, 7, none⟩ (.int .u32 u.h)) := by
  refine ⟨?_, ?_⟩
  · refine Eq.trans (heap_set (heap_set (heap_set (heap_set (heap_set (heap_set (heap_set (heap_set hb 0 _) 1 _) 2 _) 3 _) 4 _) 5 _) 6 _) 7 _) ?_
    simp
  · repeat (first | (with_reducible exact Ext.refl _ _) | (with_reducible refine Ext.set' (List.mem_singleton.2 rfl) ?_ _ _))
theorem digAdd_any (b : Nat) (t : St) (left : ByteArray) (n : Nat) (s : ByteArray) (w : World) (hb : w.heap[b]? = some (hashCell t left n)) (hl : left.size < 64) (hs : s.size ≤ 100000000) (hn : n ≤ 1000000000) :
    Calls Try.prog 31 #[.pointer (some ⟨b, 0, none⟩), .string s] w fun e w' => e = .returned (.tuple #[]) ∧ w'.heap[b]? = some (hashCell (eat t (left ++ s)).1 (eat t (left ++ s)).2 (n + s.size)) ∧ Ext [b] w w' := by
  obtain ⟨h0, h1, h2, h3, h4, h5, h6, h7, h8, h9⟩ := hcells hb
  have hf := freeAt hb
  have hsi : (s.size : Int) ≤ 100000000 := by omega
  have hni : (n : Int) ≤ 1000000000 := by omega
  have hn0 : (0 : Int) ≤ n := by omega
  have hsz : (left ++ s).size = left.size + s.size := ByteArray.size_append
  have hx0 : Ext [b] w (w.setCell ⟨b, 9, none⟩ (.int .i64 ((n : Int) + s.size))) := Ext.set' (by simp) (Ext.refl _ _) _ _
  have hb0 : (w.setCell ⟨b, 9, none⟩ (.int .i64 ((n : Int) + s.size))).heap[b]? = some (hashCell t left (n + s.size)) := by
    refine Eq.trans (heap_set hb 9 _) ?_
    simp
  have HE : Hid (eat t (left ++ s) = eat t (left ++ s)) := Hs.hid rfl
  have HZ := Hs.hid (show (left ++ s).size ≤ 200000000 by omega)
  obtain ⟨r1, hr1⟩ : ∃ r, eat t (left ++ s) = r := ⟨_, rfl⟩
  have HR := Hs.hid hr1
  rw [hr1]
  go_enter Try.func31, Try.ntmps31
  go_wp2
  clear h0 h1 h2 h3 h4 h5 h6 h7 h8 h9 hf hsz HE hr1
  obtain ⟨s1, hs1⟩ : ∃ s1, left ++ s = s1 := ⟨_, rfl⟩
  have hE : Hid (eat t s1 = r1) := Hs.hid (by rw [← hs1]; exact HR.out)
  have hZ : Hid (s1.size ≤ 200000000) := Hs.hid (by rw [← hs1]; exact HZ.out)
  rw [hs1]
  clear HR HZ hs1
  go_loopw [1] (fun v wr => ∃ s1 t1, v = .string s1 ∧ wr.heap[b]? = some (hashCell t1 left (n + s.size)) ∧ Ext [b] w wr ∧ Hid (eat t1 s1 = r1) ∧ Hid (s1.size ≤ 200000000)) (fun v _ => match v with | .string s1 => s1.size | _ => 0)
  case atStart => exact ⟨s1, t, rfl, hb0, hx0, hE, hZ⟩
  case round =>
    clear hb0 hx0 hE hZ hb
    obtain ⟨s1, t1, rfl, hb, hx, hE, hZ⟩ := hrel
    obtain ⟨h0, h1, h2, h3, h4, h5, h6, h7, h8, h9⟩ := hcells hb
    have hf := freeAt hb
    have hz := hZ.out
    have hzi : (s1.size : Int) ≤ 200000000 := by omega
    by_cases h64 : 64 ≤ s1.size
    · have hzi2 : (64 : Int) ≤ s1.size := by omega
      have hml : s1.size ≤ maxLen := by simp [maxLen]; omega
      have HL := Hs.hid (And.intro h64 hml)
      clear h64 hml hz
      go_wp2_with (go_at_call 47; refine (mix_lit t1 s1 HL.out.1 HL.out.2 _).mono ?_; rintro e w4 ⟨rfl, hx4⟩; have hb4 := hx4.same hb (by simp); obtain ⟨k0, k1, k2, k3, k4, k5, k6, k7, k8, k9⟩ := hcells hb4; have kf := freeAt hb4)
      obtain ⟨q1, q2⟩ := hash_put hb4 (mixF t1 s1)
      go_round
      case rel => exact ⟨_, _, rfl, q1, (hx.trans0 hx4).trans' q2, Hs.hid (by rw [← hE.out, eat_more HL.out.1]), Hs.hid (by have := hZ.out; rw [ByteArray.size_extract]; omega)⟩
      case measure => have := HL.out.1; simp [ByteArray.size_extract]; omega
    · have HE := Hs.hid (hE.out.symm.trans (eat_end h64))
      have hl : s1.size ≤ 281474976710656 := by omega
      have h64d : decide ((64 : Int) ≤ s1.size) = false := by simp; omega
      clear h64 hz
      go_wp2_with (go_at_call 48; refine (clone_any s1 _ hl).mono ?_; rintro e w4 ⟨rfl, hx4⟩; have hb4 := hx4.same hb (by simp); obtain ⟨k0, k1, k2, k3, k4, k5, k6, k7, k8, k9⟩ := hcells hb4; have kf := freeAt hb4)
      go_end0
      refine ⟨rfl, ?_, Ext.set' (by simp) (hx.trans0 hx4) _ _⟩
      rw [HE.out]
      refine Eq.trans (heap_set hb4 8 _) ?_
      simp
end Go.Proofs.Ytjicjadibaomkaa
set_option linter.unusedSimpArgs false
set_option linter.unusedVariables false
namespace Go.Dg
open Go Go.RowKit

def wordOf (t : St) (i : Nat) : Int := [t.a, t.b, t.c, t.d, t.e, t.f, t.g, t.h].getD i 0
/-- The j-th of a state's 32 bytes. -/
def sumByte (t : St) (j : Nat) : Int := wordOf t (j / 4) / 2 ^ (24 - 8 * (j % 4)) % 256
def upTo (t : St) (c j : Nat) : Int := if j < c then sumByte t j else 0
def bytesL (f : Nat → Int) : Array Value := ((List.range 32).map fun j => Value.int .u8 (f j)).toArray
theorem bytesL_size (f : Nat → Int) : (bytesL f).size = 32 := by simp [bytesL]
theorem bytesL_get (f : Nat → Int) {j : Nat} (h : j < 32) : (bytesL f)[j]? = some (.int .u8 (f j)) := by
  simp [bytesL, h]
theorem bytesL_set (f : Nat → Int) {j : Nat} (h : j < 32) (v : Int) : (bytesL f).setIfInBounds j (.int .u8 v) = bytesL (fun q => if q = j then v else f q) := by
  apply Array.ext_getElem?
  intro q
  rw [Array.getElem?_setIfInBounds]
  by_cases hq : q < 32
  · by_cases e : j = q
    · subst e
      rw [if_pos rfl, if_pos (by rw [bytesL_size]; exact h), bytesL_get _ h, if_pos rfl]
    · rw [if_neg e, bytesL_get f hq, bytesL_get _ hq, if_neg (fun h => e h.symm)]
  · rw [if_neg (by omega), Array.getElem?_eq_none (by rw [bytesL_size]; omega), Array.getElem?_eq_none (by rw [bytesL_size]; omega)]
theorem bytesL_congr {f g : Nat → Int} (h : ∀ j, j < 32 → f j = g j) : bytesL f = bytesL g := by
  apply Array.ext_getElem?
  intro q
  by_cases hq : q < 32
  · rw [bytesL_get _ hq, bytesL_get _ hq, h q hq]
  · rw [Array.getElem?_eq_none (by rw [bytesL_size]; omega), Array.getElem?_eq_none (by rw [bytesL_size]; omega)]
theorem upTo_step (t : St) {c : Nat} (h : c < 32) : bytesL (fun q => if q = c then sumByte t c else upTo t c q) = bytesL (upTo t (c + 1)) := by
  refine bytesL_congr fun j _ => ?_
  unfold upTo
  by_cases e : j = c
  · subst e; simp
  · rw [if_neg e]
    by_cases h1 : j < c
    · rw [if_pos h1, if_pos (by omega)]
    · rw [if_neg h1, if_neg (by omega)]
theorem bytesL_one (f : Nat → Int) : (bytesL f).all (·.oneCell') = true := by
  rw [Array.all_eq_true_iff_forall_mem]
  intro v hv
  simp only [bytesL, List.mem_toArray, List.mem_map] at hv
  obtain ⟨j, _, rfl⟩ := hv
  rfl
/-- The digest. -/
def sumF (s : ByteArray) : St := (eat (eat begin0 s).1 (padB (eat begin0 s).2 s.size)).1
def sumV (t : St) (left : ByteArray) (n : Nat) : Array Value := bytesL (sumByte (eat t (padB left n)).1)
theorem sumV_size (t : St) (left : ByteArray) (n : Nat) : (sumV t left n).size = 32 := bytesL_size _
theorem sumV_one (t : St) (left : ByteArray) (n : Nat) : (sumV t left n).all (·.oneCell') = true := bytesL_one _
def digV (s : ByteArray) : Array Value := bytesL (sumByte (sumF s))
theorem digV_size (s : ByteArray) : (digV s).size = 32 := bytesL_size _
theorem digV_one (s : ByteArray) : (digV s).all (·.oneCell') = true := bytesL_one _
theorem eatN_left : ∀ (n : Nat) (t : St) (s : ByteArray), s.size ≤ n → (eatN n t s).2.size < 64
  | 0, t, s, h => by show s.size < 64; omega
  | n + 1, t, s, h => by
    simp only [eatN]
    split
    · exact eatN_left n _ _ (by rw [ByteArray.size_extract]; omega)
    · show s.size < 64; omega
theorem eat_left (t : St) (s : ByteArray) : (eat t s).2.size < 64 := eatN_left _ _ _ (Nat.le_refl _)
theorem empty_cat (s : ByteArray) : (⟨#[]⟩ : ByteArray) ++ s = s := by
  apply ByteArray.ext
  simp
/-- The digest's bytes, as numbers. -/
def digN (s : ByteArray) : List Nat := (List.range 32).map fun j => (sumByte (sumF s) j).toNat
theorem digN_len (s : ByteArray) : (digN s).length = 32 := by simp [digN]
theorem digN_V (s : ByteArray) : digV s = ((digN s).map fun (c : Nat) => Value.int .u8 c).toArray := by
  unfold digV digN bytesL
  rw [List.map_map]
  congr 1
  apply List.map_congr_left
  intro j _
  simp only [Function.comp]
  congr 1
  exact (Int.toNat_of_nonneg (Int.emod_nonneg _ (by decide))).symm
theorem digN_inj {a b : ByteArray} (h : digV a = digV b) : digN a = digN b := by
  rw [digN_V, digN_V] at h
  have h2 := List.toArray_inj h
  exact (List.map_inj_right (fun (x y : Nat) (e : Value.int IntKind.u8 (x : Int) = Value.int IntKind.u8 (y : Int)) => by
    injection e with _ e2
    omega)).1 h2
theorem digN_eq {a b : ByteArray} : digV a = digV b ↔ digN a = digN b := ⟨digN_inj, fun h => by rw [digN_V, digN_V, h]⟩
end Go.Dg
set_option linter.unusedSimpArgs false
set_option linter.unusedVariables false
set_option maxHeartbeats 1000000
set_option maxRecDepth 100000
namespace Go.Proofs.Ytjicjadibaomkaa
open Go.RowKit Go.Hs Go.Dg

theorem repeatL_len (l : List UInt8) : ∀ c, (Lib.repeatL l c).length = l.length * c
  | 0 => rfl
  | c + 1 => by
    unfold Lib.repeatL
    rw [List.length_append, repeatL_len l c, Nat.mul_succ]; omega
theorem repeat_any (c : Int) (h0 : 0 ≤ c) (h1 : c ≤ 1000) (w : World) : Calls Try.prog 49 #[.string ⟨#[0]⟩, .int .i64 c] w fun e w' => ∃ z : ByteArray, e = .returned (.string z) ∧ Hid (z = ⟨(Lib.repeatL [0] c.toNat).toArray⟩) ∧ z.size ≤ 1000 ∧ Ext [] w w' := by
  obtain ⟨k, rfl⟩ := Int.eq_ofNat_of_zero_le h0
  refine (Try.strings_Repeat ⟨#[0]⟩ k w (by omega) (by show 1 * k ≤ _; omega)).mono fun e w' ⟨g1, g2⟩ => ⟨_, g1, Hs.hid rfl, ?_, Ext.ofBelow g2⟩
  show (Lib.repeatL [0] k).toArray.size ≤ 1000
  rw [List.size_toArray, repeatL_len]
  simp; omega
theorem repeatL_zero : ∀ c, Lib.repeatL [0] c = List.replicate c 0
  | 0 => rfl
  | c + 1 => by unfold Lib.repeatL; rw [repeatL_zero c]; rfl
theorem one_conv (w : World) (x : Nat) : (convert 58 9 (.slice (some ⟨w.heap.size, 0, none⟩) 1 1)).run Try.prog (w.alloc (.cells #[.int .u8 (x : Int)] 5)) = .ok (.string (strN [x])) (w.alloc (.cells #[.int .u8 (x : Int)] 5)) := by
  have hown : Own (w.alloc (.cells #[.int .u8 (x : Int)] 5)).heap 5 1 (.slice (some ⟨w.heap.size, 0, none⟩) [x].length 1) [x].length ([x].map fun (c : Nat) => Value.int .u8 c) :=
    ⟨rfl, .inr ⟨_, 1, _, rfl, Nat.zero_le _, heap_new _ _, Nat.le_refl _, by decide, rfl, rfl⟩⟩
  exact run_bytes_text (P := Try.prog) 58 9 5 Try.underlying58 Try.underlying5 Try.underlying9 _ _ hown
abbrev sumCell (f : Nat → Int) : Obj := .cells (bytesL f) 35 (0, 0)
structure SmAt (w wr : World) (R T : Nat) (t1 : St) : Prop where
  r : wr.heap[R]? = some (sumCell fun _ => 0)
  t : wr.heap[T]? = some (stCell t1)
  ext : Ext [] w wr
  lo : w.heap.size ≤ T ∧ w.heap.size ≤ R ∧ R ≠ T
theorem SmAt.ext0 {w wr w' : World} {R T : Nat} {t1 : St} (h : SmAt w wr R T t1) (hx : Ext [] wr w') : SmAt w w' R T t1 := ⟨hx.same h.r (by simp), hx.same h.t (by simp), h.ext.trans0 hx, h.lo⟩
theorem SmAt.put {w wr : World} {R T : Nat} {t1 : St} (h : SmAt w wr R T t1) (u : St) :
    SmAt w ((((((((wr.setCell ⟨T, 0, none⟩ (.int .u32 u.a)).setCell ⟨T, 1, none⟩ (.int .u32 u.b)).setCell ⟨T, 2, none⟩ (.int .u32 u.c)).setCell ⟨T, 3, none⟩ (.int .u32 u.d)).setCell ⟨T, 4, none⟩ (.int .u32 u.e)).setCell ⟨T, 5, none⟩ (.int .u32 u.f)).setCell ⟨T, 6, none⟩ (.int .u32 u.g)).setCell ⟨T, 7, none⟩ (.int .u32 u.h)) R T u := by
  have hx : Ext [T] wr ((((((((wr.setCell ⟨T, 0, none⟩ (.int .u32 u.a)).setCell ⟨T, 1, none⟩ (.int .u32 u.b)).setCell ⟨T, 2, none⟩ (.int .u32 u.c)).setCell ⟨T, 3, none⟩ (.int .u32 u.d)).setCell ⟨T, 4, none⟩ (.int .u32 u.e)).setCell ⟨T, 5, none⟩ (.int .u32 u.f)).setCell ⟨T, 6, none⟩ (.int .u32 u.g)).setCell ⟨T, 7, none⟩ (.int .u32 u.h)) := by
    repeat (first | (with_reducible exact Ext.refl _ _) | (with_reducible refine Ext.set' (List.mem_singleton.2 rfl) ?_ _ _))
  refine ⟨hx.same h.r (by simpa using h.lo.2.2), ?_, h.ext.trans hx (fun g hg => .inr (by simp at hg; have := h.lo; omega)), h.lo⟩
  refine Eq.trans (heap_set (heap_set (heap_set (heap_set (heap_set (heap_set (heap_set (heap_set h.t 0 _) 1 _) 2 _) 3 _) 4 _) 5 _) 6 _) 7 _) ?_
  simp
abbrev wordsA (t : St) : Array Value := #[.int .u32 t.a, .int .u32 t.b, .int .u32 t.c, .int .u32 t.d, .int .u32 t.e, .int .u32 t.f, .int .u32 t.g, .int .u32 t.h]
structure OutAt (w wr : World) (R T O W : Nat) (t1 : St) (c : Nat) : Prop where
  sm : SmAt w wr R T t1
  o : wr.heap[O]? = some (sumCell (upTo t1 c))
  v : wr.heap[W]? = some (.cells (wordsA t1) 89 (0, 0))
  ne : O ≠ R ∧ O ≠ T ∧ O ≠ W ∧ w.heap.size ≤ O
theorem OutAt.put {w wr : World} {R T O W : Nat} {t1 : St} {c : Nat} (h : OutAt w wr R T O W t1 c) (hc : c < 32) : OutAt w (wr.setCell ⟨O, c, none⟩ (.int .u8 (sumByte t1 c))) R T O W t1 (c + 1) := by
  obtain ⟨n1, n2, n3, n4⟩ := h.ne
  have hx : Ext [O] wr (wr.setCell ⟨O, c, none⟩ (.int .u8 (sumByte t1 c))) := Ext.set' (by simp) (Ext.refl _ _) _ _
  refine ⟨⟨hx.same h.sm.r (by simp; exact Ne.symm n1), hx.same h.sm.t (by simp; exact Ne.symm n2), h.sm.ext.trans hx (fun g hg => .inr (by simp at hg; omega)), h.sm.lo⟩, ?_, hx.same h.v (by simp; exact Ne.symm n3), h.ne⟩
  rw [heap_set h.o, bytesL_set _ hc, upTo_step _ hc]
theorem wordsA_get (t : St) {i : Nat} (h : i < 8) : (wordsA t)[i]? = some (.int .u32 (wordOf t i)) := by
  unfold wordOf
  match i, h with
  | 0, _ => rfl
  | 1, _ => rfl
  | 2, _ => rfl
  | 3, _ => rfl
  | 4, _ => rfl
  | 5, _ => rfl
  | 6, _ => rfl
  | 7, _ => rfl
theorem digSum_any (b : Nat) (t : St) (left : ByteArray) (n : Nat) (w : World) (hb : w.heap[b]? = some (hashCell t left n)) (hl : left.size < 64) (hn : n ≤ 2000000000) :
    Calls Try.prog 32 #[.pointer (some ⟨b, 0, none⟩)] w fun e w' => e = .returned (.agg (sumV t left n)) ∧ Ext [] w w' := by
  obtain ⟨h0, h1, h2, h3, h4, h5, h6, h7, h8, h9⟩ := hcells hb
  have hli : (left.size : Int) < 64 := by omega
  have hli0 : (0 : Int) ≤ left.size := by omega
  have hni : (n : Int) ≤ 2000000000 := by omega
  have hn0 : (0 : Int) ≤ n := by omega
  have hr0 : (0 : Int) ≤ (119 - (left.size : Int)) % 64 := by omega
  have hr1 : (119 - (left.size : Int)) % 64 ≤ 1000 := by omega
  have hw1 : IntKind.i64.wrap (119 - (left.size : Int)) = 119 - (left.size : Int) := IntWalk.i64_in _ (by omega)
  have hw2 : Int.tmod (119 - (left.size : Int)) 64 = (119 - (left.size : Int)) % 64 := Int.tmod_eq_emod_of_nonneg (by omega)
  have HRR := Hs.hid (And.intro hr0 hr1)
  clear hr0 hr1
  have hbl := lt_of_heap hb
  have hc1 : ¬ 9223372036854775807 < left.size + 1 := by omega
  have hl1 : (left ++ (⟨#[128]⟩ : ByteArray)).size ≤ 64 := by rw [ByteArray.size_append]; show left.size + 1 ≤ 64; omega
  go_enter Try.func32, Try.ntmps32
  go_upto_region 1 with fail
  go_region_held3 (fun w' => w'.cell? ⟨b, 8, none⟩ = some (.string left))
    (first
      | exact h8
      | exact g8
      | go_keep)
    ((go_at_call 49; (refine (repeat_any _ HRR.out.1 HRR.out.2 _).mono ?_); rintro e w4 ⟨z, rfl, hz, hzs, hx4⟩; have hc2 : ¬ 9223372036854775807 < left.size + 1 + z.size := (by omega); have hb4 := hx4.same (by first | exact hb | exact heap_old' _ _ hb) (by simp); obtain ⟨g0, g1, g2, g3, g4, g5, g6, g7, g8, g9⟩ := hcells hb4))
  go_wp2
  have hR4 : w4.heap[w.heap.size]? = some (sumCell fun _ => 0) := hx4.same (b := w.heap.size) (o := sumCell fun _ => 0) (heap_new w (sumCell fun _ => 0)) (by simp)
  have hxw : Ext [] w w4 := ((((Ext.refl [] w).alloc _).drew).trans0 hx4)
  have HZ := Hs.hid (And.intro hz.out (And.intro hzs hl))
  obtain ⟨pre, hpre⟩ : ∃ pre, left ++ (⟨#[128]⟩ : ByteArray) ++ z = pre := ⟨_, rfl⟩
  rw [hpre]
  have hps : pre.size ≤ 2000 := by rw [← hpre, ByteArray.size_append]; omega
  have HP := Hs.hid (And.intro hpre hps)
  clear hz hzs hc2 hl1 hc1 h0 h1 h2 h3 h4 h5 h6 h7 h8 h9 g0 g1 g2 g3 g4 g5 g6 g7 g8 g9 hli hli0 hw1 hw2 hpre hx4
  go_loopw [4, 3] (fun i v wr => ∃ m s3, m ≤ 8 ∧ i = .int .i64 ((m : Nat) - 1 : Int) ∧ v = .string s3 ∧ Hid (s3 = lenTo pre n (8 - m)) ∧ wr.heap[b]? = some (hashCell t left n) ∧ Ext [] w wr ∧ wr.heap[w.heap.size]? = some (sumCell fun _ => 0)) (fun i _ _ => (intOf i + 1).toNat)
  case atStart => exact ⟨8, pre, Nat.le_refl _, rfl, rfl, Hs.hid rfl, hb4, hxw, hR4⟩
  case round =>
    clear hb hb4 hxw hR4
    obtain ⟨m, s3, hm, rfl, rfl, hs3, hb, hx, hR⟩ := hrel
    cases m with
    | succ q =>
      have hq : ((q + 1 : Nat) : Int) - 1 = q := by omega
      rw [hq]
      have hq0 : (0 : Int) ≤ q := by omega
      have hq7 : (q : Int) ≤ 7 := by omega
      have hsz : ¬ 9223372036854775807 < s3.size + 1 := by rw [hs3.out, lenTo_size]; have := HP.out.2; omega
      have HM := Hs.hid hm
      obtain ⟨h0, h1, h2, h3, h4, h5, h6, h7, h8, h9⟩ := hcells hb
      have hX : ((n * 8 / 2 ^ (8 * q) % 256 : Nat) : Int) = (n : Int) * 8 / 2 ^ (8 * q) % 256 := by simp
      have hcv := one_conv wr (n * 8 / 2 ^ (8 * q) % 256)
      rw [hX] at hcv
      have hsc : (strN [n * 8 / 2 ^ (8 * q) % 256]).size = 1 := rfl
      have hs4 : Hid (s3 ++ strN [n * 8 / 2 ^ (8 * q) % 256] = lenTo pre n (8 - q)) := Hs.hid (by
        have h1 := hm
        rw [hs3.out, show 8 - q = (8 - (q + 1)) + 1 by omega, lenTo, show 7 - (8 - (q + 1)) = q by omega])
      clear hm hX
      go_wp2
      go_round
      case rel => exact ⟨q, _, by have := HM.out; omega, rfl, rfl, hs4, heap_old' _ _ hb, hx.alloc _, heap_old' _ _ hR⟩
      case measure => simp [intOf]
    | zero =>
      have h01 : ((0 : Nat) : Int) - 1 = -1 := rfl
      rw [h01]
      have hpad : s3 = padB left n := by
        rw [hs3.out]
        unfold padB
        rw [← HP.out.1, HZ.out.1, repeatL_zero, show ((119 - (left.size : Int)) % 64).toNat = (119 - left.size) % 64 by have := HZ.out.2.2; omega]
      have hsz := padB_size HZ.out.2.2 n
      rw [← hpad] at hsz
      have HPD := Hs.hid hpad
      have HSZ := Hs.hid hsz
      obtain ⟨h0, h1, h2, h3, h4, h5, h6, h7, h8, h9⟩ := hcells hb
      clear hpad hsz hs3 hm h01
      have hM0 : SmAt w (wr.alloc (stCell t)) w.heap.size wr.heap.size t :=
        ⟨heap_old' _ _ hR, heap_new _ _, hx.alloc _, hx.size, Nat.le_refl _, Nat.ne_of_lt (lt_of_heap hR)⟩
      have hE0 : Hid (eat t s3 = eat t (padB left n)) := Hs.hid (by rw [HPD.out])
      have hZ0 : Hid (s3.size ≤ 128 ∧ s3.size % 64 = 0) := Hs.hid (by rcases HSZ.out with h | h <;> omega)
      go_wp2
      clear h0 h1 h2 h3 h4 h5 h6 h7 h8 h9 hb hR hx
      obtain ⟨R, hRR⟩ : ∃ R, w.heap.size = R := ⟨_, rfl⟩
      obtain ⟨T, hTT⟩ : ∃ T, wr.heap.size = T := ⟨_, rfl⟩
      rw [hRR, hTT] at hM0
      rw [hRR, hTT]
      obtain ⟨tf, htf⟩ : ∃ tf, eat t (padB left n) = tf := ⟨_, rfl⟩
      have HTF := Hs.hid htf
      have HRR := Hs.hid hRR
      rw [htf] at hE0
      clear hRR hTT htf
      go_loopw [3] (fun v wr => ∃ s1 t1, v = .string s1 ∧ SmAt w wr R T t1 ∧ Hid (eat t1 s1 = tf) ∧ Hid (s1.size ≤ 128 ∧ s1.size % 64 = 0)) (fun v _ => match v with | .string s1 => s1.size | _ => 0)
      case atStart => exact ⟨s3, t, rfl, hM0, hE0, hZ0⟩
      case round =>
        clear hM0 hE0 hZ0
        obtain ⟨s1, t1, rfl, hM, hE, hZ⟩ := hrel
        obtain ⟨h0, h1, h2, h3, h4, h5, h6, h7⟩ := st_cells hM.t
        have hz := hZ.out
        by_cases h0s : s1.size = 0
        · have hlt : decide ((0 : Int) < s1.size) = false := decide_eq_false (by omega)
          have hlt2 : ¬ (0 : Int) < s1.size := by omega
          have hlt3 : ¬ 0 < s1.size := by omega
          have hn64 : ¬ 64 ≤ s1.size := by omega
          have HF := Hs.hid (show tf.1 = t1 by have := hE.out; rw [eat_end hn64] at this; rw [← this])
          have hTl := lt_of_heap hM.t
          clear hz h0s hn64
          go_wp2
          have hw1 : (wr.alloc (sumCell fun _ => 0)).heap.size = wr.heap.size + 1 := by simp
          have hO0 : OutAt w ((wr.alloc (sumCell fun _ => 0)).alloc (.cells (wordsA t1) 89)) R T wr.heap.size (wr.heap.size + 1) t1 0 := by
            have hx2 : Ext [] wr ((wr.alloc (sumCell fun _ => 0)).alloc (.cells (wordsA t1) 89)) := ((Ext.refl [] wr).alloc _).alloc _
            have hlo := hM.lo
            have hext := hM.ext.size
            have hRl := lt_of_heap hM.r
            refine ⟨hM.ext0 hx2, heap_old' _ _ ?_, by rw [← hw1]; exact heap_new _ _, by omega⟩
            exact heap_new _ _
          clear hTl hM h0 h1 h2 h3 h4 h5 h6 h7 hw1 hlt hlt2 hlt3
          obtain ⟨O, hOO⟩ : ∃ O, wr.heap.size = O := ⟨_, rfl⟩
          rw [hOO] at hO0 ⊢
          clear hOO
          go_loopw [72] (fun ii wr => ∃ i, i ≤ 8 ∧ ii = .int .i64 (i : Nat) ∧ OutAt w wr R T O (O + 1) t1 (4 * i)) (fun ii _ => 8 - (intOf ii).toNat)
          case atStart => exact ⟨0, Nat.zero_le _, rfl, hO0⟩
          case round =>
            clear hO0
            obtain ⟨i, hi, rfl, hO⟩ := hrel
            have hi0 : (0 : Int) ≤ i := by omega
            by_cases hlt : i < 8
            · have hii : (i : Int) < 8 := by omega
              have cw := cellAt hO.v i
              rw [wordsA_get t1 hlt] at cw
              have HI := Hs.hid (And.intro hi hlt)
              clear hi hlt
              go_wp2
              clear cw
              go_loopw [77] (fun kk wr => ∃ k, k ≤ 4 ∧ kk = .int .i64 (k : Nat) ∧ OutAt w wr R T O (O + 1) t1 (4 * i + k)) (fun kk _ => 4 - (intOf kk).toNat)
              case atStart => exact ⟨0, Nat.zero_le _, rfl, hO⟩
              case round =>
                clear hO
                obtain ⟨k, hk, rfl, hO⟩ := hrel
                have hk0 : (0 : Int) ≤ k := by omega
                by_cases hlt : k < 4
                · have hkk : (k : Int) < 4 := by omega
                  have hc : 4 * i + k < 32 := by have := HI.out; omega
                  have cO := cellAt hO.o (4 * i + k)
                  rw [bytesL_get _ hc] at cO
                  have fO := freeAt hO.o
                  have hO2 := hO.put hc
                  have hsh : ((24 : Int) - 8 * k).toNat = 24 - 8 * k := by omega
                  have hdv : sumByte t1 (4 * i + k) = wordOf t1 i / 2 ^ (24 - 8 * k) % 256 := by
                    unfold sumByte
                    rw [show (4 * i + k) / 4 = i by omega, show (4 * i + k) % 4 = k by omega]
                  rw [hdv] at hO2
                  have HO2 := Hs.hid hO2
                  have HK := Hs.hid hlt
                  clear hk hlt hO2 hdv hc
                  go_wp2
                  go_round
                  case rel => exact ⟨k + 1, HK.out, by go_num, HO2.out⟩
                  case measure => have := HK.out; simp [intOf]; omega
                · obtain rfl : k = 4 := by omega
                  clear hk hlt hk0
                  go_wp2
                  go_round
                  case rel => exact ⟨i + 1, HI.out.2, by go_num, hO⟩
                  case measure => have := HI.out; simp [intOf]; omega
            · obtain rfl : i = 8 := by omega
              clear hi hlt hi0
              have hiS : (Try.prog.info? 35).map (·.size) = some 32 := by kernel_rfl
              go_wp2_with (first
                | (refine wpList_load_row rfl 35 (.tmp 6) rfl O rfl _ (bytesL (upTo t1 (4 * 8))) (0, 0) _ hO.o Try.underlying35 rfl (by rw [bytesL_size]; exact hiS) ?_)
                | (refine wpList_store_row rfl 35 (.tmp 2) (.tmp 93) rfl R (bytesL (upTo t1 (4 * 8))) rfl rfl _ _ hO.sm.r (by rw [bytesL_size]; exact hiS) (by rw [bytesL_size, bytesL_size]) (bytesL_one _) ?_))
              have hfin : bytesL (upTo t1 (4 * 8)) = sumV t left n := by
                unfold sumV
                rw [HTF.out, HF.out]
                exact bytesL_congr fun j hj => by unfold upTo; rw [if_pos (by omega)]
              have hx : Ext [] w (wr.setRow R (bytesL (upTo t1 (4 * 8)))) := hO.sm.ext.trans (F' := [R]) ⟨rfl, rfl, rfl, by simp, fun q _ hq => setRow_other _ _ _ _ (by simpa using hq)⟩ (fun g hg => .inr (by simp at hg; have := hO.sm.lo; omega))
              refine bodyPost_ret (v := .agg (bytesL (upTo t1 (4 * 8)))) (results_cell_row (P := Try.prog) Try.results32 _ _ R _ _ _ _ rfl (setRow_heap _ _ _ _ _ _ hO.sm.r) Try.underlying35 rfl (by rw [bytesL_size]; exact hiS)) rfl ⟨by rw [hfin], hx⟩
        · have h64 : 64 ≤ s1.size := by omega
          have hlt : (0 : Int) < s1.size := by omega
          have hz64 : (64 : Int) ≤ s1.size := by omega
          have hz128 : (s1.size : Int) ≤ 128 := by omega
          have HL := Hs.hid (And.intro h64 (show s1.size ≤ maxLen by simp [maxLen]; omega))
          clear hz h0s h64
          go_wp2_with (go_at_call 47; refine (mix_lit t1 s1 HL.out.1 HL.out.2 _).mono ?_; rintro e w4 ⟨rfl, hx4⟩; have hM4 := hM.ext0 hx4; obtain ⟨k0, k1, k2, k3, k4, k5, k6, k7⟩ := st_cells hM4.t; have kf := freeAt hM4.t)
          have hM5 := hM4.put (mixF t1 s1)
          go_round
          case rel => exact ⟨_, _, rfl, hM5, Hs.hid (by rw [← hE.out, eat_more HL.out.1]), Hs.hid (by have := hZ.out; have := HL.out.1; rw [ByteArray.size_extract]; omega)⟩
          case measure => have := HL.out.1; simp [ByteArray.size_extract]; omega
end Go.Proofs.Ytjicjadibaomkaa
set_option linter.unusedSimpArgs false
set_option linter.unusedVariables false
set_option maxHeartbeats 1000000
set_option maxRecDepth 100000
namespace Go.Proofs.Ytjicjadibaomkaa
open Go.RowKit Go.Hs Go.Dg

theorem infoSum : (Try.prog.info? 35).map (·.size) = some 32 := by kernel_rfl
theorem zeroLit : (#[.int .u8 0, .int .u8 0, .int .u8 0, .int .u8 0, .int .u8 0, .int .u8 0, .int .u8 0, .int .u8 0, .int .u8 0, .int .u8 0, .int .u8 0, .int .u8 0, .int .u8 0, .int .u8 0, .int .u8 0, .int .u8 0, .int .u8 0, .int .u8 0, .int .u8 0, .int .u8 0, .int .u8 0, .int .u8 0, .int .u8 0, .int .u8 0, .int .u8 0, .int .u8 0, .int .u8 0, .int .u8 0, .int .u8 0, .int .u8 0, .int .u8 0, .int .u8 0] : Array Value) = bytesL fun _ => 0 := by kernel_rfl
theorem zeroSum (w : World) : (w.alloc (.cells #[.int .u8 0, .int .u8 0, .int .u8 0, .int .u8 0, .int .u8 0, .int .u8 0, .int .u8 0, .int .u8 0, .int .u8 0, .int .u8 0, .int .u8 0, .int .u8 0, .int .u8 0, .int .u8 0, .int .u8 0, .int .u8 0, .int .u8 0, .int .u8 0, .int .u8 0, .int .u8 0, .int .u8 0, .int .u8 0, .int .u8 0, .int .u8 0, .int .u8 0, .int .u8 0, .int .u8 0, .int .u8 0, .int .u8 0, .int .u8 0, .int .u8 0, .int .u8 0] 35)).heap[w.heap.size]? = some (.cells (bytesL fun _ => 0) 35 (0, 0)) := by
  rw [← zeroLit]; exact heap_new _ _
theorem setRow_ext {w : World} (R : Nat) (cs : Array Value) : Ext [R] w (w.setRow R cs) := ⟨rfl, rfl, rfl, by simp, fun q _ hq => setRow_other _ _ _ _ (by simpa using hq)⟩
def IsSum (cs : Array Value) : Prop := cs.size = 32 ∧ cs.all (·.oneCell') = true
theorem IsSum.info {cs : Array Value} (h : IsSum cs) : (Try.prog.info? 35).map (·.size) = some cs.size := by rw [h.1]; exact infoSum
theorem IsSum.zero {cs : Array Value} (h : IsSum cs) : (bytesL fun _ => 0).size = cs.size := by rw [h.1, bytesL_size]
theorem isSum_digV (s : ByteArray) : IsSum (digV s) := ⟨digV_size s, digV_one s⟩
theorem digSum_cs (b : Nat) (t : St) (left : ByteArray) (n : Nat) (w : World) (hb : w.heap[b]? = some (hashCell t left n)) (hl : left.size < 64) (hn : n ≤ 2000000000) :
    Calls Try.prog 32 #[.pointer (some ⟨b, 0, none⟩)] w fun e w' => ∃ cs, e = .returned (.agg cs) ∧ Hid (IsSum cs ∧ cs = sumV t left n) ∧ Ext [] w w' :=
  (digSum_any b t left n w hb hl hn).mono fun e w' ⟨h1, h2⟩ => ⟨_, h1, Hs.hid ⟨⟨sumV_size t left n, sumV_one t left n⟩, rfl⟩, h2⟩
theorem of_any (s : ByteArray) (hs : s.size ≤ 100000000) (w : World) : Calls Try.prog 12 #[.string s] w fun e w' => ∃ cs, e = .returned (.agg cs) ∧ Hid (cs = digV s) ∧ Ext [] w w' := by
  have hR := zeroSum w
  have hx0 : Ext [] w (w.alloc (.cells #[.int .u8 0, .int .u8 0, .int .u8 0, .int .u8 0, .int .u8 0, .int .u8 0, .int .u8 0, .int .u8 0, .int .u8 0, .int .u8 0, .int .u8 0, .int .u8 0, .int .u8 0, .int .u8 0, .int .u8 0, .int .u8 0, .int .u8 0, .int .u8 0, .int .u8 0, .int .u8 0, .int .u8 0, .int .u8 0, .int .u8 0, .int .u8 0, .int .u8 0, .int .u8 0, .int .u8 0, .int .u8 0, .int .u8 0, .int .u8 0, .int .u8 0, .int .u8 0] 35)) := (Ext.refl _ _).alloc _
  have hl := eat_left begin0 s
  have hn : 0 + s.size ≤ 2000000000 := by omega
  have HL := Hs.hid (And.intro hl (And.intro hn hs))
  have hdv : digV s = sumV (eat begin0 s).1 (eat begin0 s).2 (0 + s.size) := by unfold digV sumF sumV; rw [Nat.zero_add]
  have HD := Hs.hid hdv
  clear hl hn hs hdv
  go_enter Try.func12, Try.ntmps12
  go_upto_region 1 with fail
  generalize w.alloc (.cells #[.int .u8 0, .int .u8 0, .int .u8 0, .int .u8 0, .int .u8 0, .int .u8 0, .int .u8 0, .int .u8 0, .int .u8 0, .int .u8 0, .int .u8 0, .int .u8 0, .int .u8 0, .int .u8 0, .int .u8 0, .int .u8 0, .int .u8 0, .int .u8 0, .int .u8 0, .int .u8 0, .int .u8 0, .int .u8 0, .int .u8 0, .int .u8 0, .int .u8 0, .int .u8 0, .int .u8 0, .int .u8 0, .int .u8 0, .int .u8 0, .int .u8 0, .int .u8 0] 35) = W at *
  obtain ⟨R, hRR⟩ : ∃ R, w.heap.size = R := ⟨_, rfl⟩
  rw [hRR] at hR ⊢
  have HRR := Hs.hid (show w.heap.size ≤ R from Nat.le_of_eq hRR)
  clear hRR
  go_upto_region 2 with (go_at_call 30; refine (digNew_any _).mono ?_; rintro e w1 ⟨b, rfl, hb, hx1, hbl⟩)
  have hR1 := hx1.same hR (by simp)
  have hbR : R ≠ b := by have := lt_of_heap hR; omega
  clear hR
  go_upto_region 3 with (go_at_call 31; refine (digAdd_any b begin0 ⟨#[]⟩ 0 s _ hb (by decide) HL.out.2.2 (by decide)).mono ?_; rintro e w2 ⟨rfl, hb2, hx2⟩)
  rw [empty_cat] at hb2
  have hR2 := hx2.same hR1 (by simpa using hbR)
  have hxb : Ext [] W w2 := hx1.trans hx2 (fun g hg => .inr (by simp at hg; subst hg; exact hbl))
  clear hR1 hb hx1 hx2
  go_wp2_with (first
    | (go_at_call 32; refine (digSum_cs b (eat begin0 s).1 (eat begin0 s).2 (0 + s.size) _ hb2 HL.out.1 HL.out.2.1).mono ?_; rintro e w3 ⟨cs, rfl, hcs, hx3⟩; have hR3 := hx3.same hR2 (by simp))
    | (refine wpList_store_row rfl 35 (.tmp 2) (.tmp 9) rfl R cs rfl rfl _ _ hR3 hcs.out.1.info hcs.out.1.zero hcs.out.1.2 ?_))
  have hxf : Ext [] w (w3.setRow R cs) := ((hx0.trans0 (hxb.trans0 hx3)).trans (setRow_ext R _) (fun g hg => .inr (by simp at hg; subst hg; exact HRR.out)))
  refine bodyPost_ret (v := .agg cs) (results_cell_row (P := Try.prog) Try.results12 _ _ R _ _ _ _ rfl (setRow_heap _ _ _ _ _ _ hR3) Try.underlying35 rfl (by rw [hcs.out.1.1]; exact infoSum)) rfl ⟨_, rfl, Hs.hid (by rw [HD.out, hcs.out.2]), hxf⟩
theorem leaf_any (s : ByteArray) (hs : s.size ≤ 99999999) (w : World) : Calls Try.prog 23 #[.string s] w fun e w' => ∃ cs, e = .returned (.agg cs) ∧ Hid (cs = digV (⟨#[0]⟩ ++ s)) ∧ Ext [] w w' := by
  have hR := zeroSum w
  have hx0 : Ext [] w (w.alloc (.cells #[.int .u8 0, .int .u8 0, .int .u8 0, .int .u8 0, .int .u8 0, .int .u8 0, .int .u8 0, .int .u8 0, .int .u8 0, .int .u8 0, .int .u8 0, .int .u8 0, .int .u8 0, .int .u8 0, .int .u8 0, .int .u8 0, .int .u8 0, .int .u8 0, .int .u8 0, .int .u8 0, .int .u8 0, .int .u8 0, .int .u8 0, .int .u8 0, .int .u8 0, .int .u8 0, .int .u8 0, .int .u8 0, .int .u8 0, .int .u8 0, .int .u8 0, .int .u8 0] 35)) := (Ext.refl _ _).alloc _
  have hsz : ((⟨#[0]⟩ : ByteArray) ++ s).size ≤ 100000000 := by rw [ByteArray.size_append]; show 1 + s.size ≤ _; omega
  have hc : ¬ 9223372036854775807 < 1 + s.size := by omega
  have HZ := Hs.hid hsz
  clear hsz hs
  go_enter Try.func23, Try.ntmps23
  go_upto_region 1 with fail
  generalize w.alloc (.cells #[.int .u8 0, .int .u8 0, .int .u8 0, .int .u8 0, .int .u8 0, .int .u8 0, .int .u8 0, .int .u8 0, .int .u8 0, .int .u8 0, .int .u8 0, .int .u8 0, .int .u8 0, .int .u8 0, .int .u8 0, .int .u8 0, .int .u8 0, .int .u8 0, .int .u8 0, .int .u8 0, .int .u8 0, .int .u8 0, .int .u8 0, .int .u8 0, .int .u8 0, .int .u8 0, .int .u8 0, .int .u8 0, .int .u8 0, .int .u8 0, .int .u8 0, .int .u8 0] 35) = W at *
  obtain ⟨R, hRR⟩ : ∃ R, w.heap.size = R := ⟨_, rfl⟩
  rw [hRR] at hR ⊢
  have HRR := Hs.hid (show w.heap.size ≤ R from Nat.le_of_eq hRR)
  clear hRR
  go_wp2_with (first
    | (go_at_call 12; refine (of_any _ HZ.out _).mono ?_; rintro e w1 ⟨cs, rfl, hcs, hx1⟩; have hR3 := hx1.same hR (by simp); have his : Hid (IsSum cs) := Hs.hid (by rw [hcs.out]; exact isSum_digV _))
    | (refine wpList_store_row rfl 35 (.tmp 2) (.tmp 5) rfl R cs rfl rfl _ _ hR3 his.out.info his.out.zero his.out.2 ?_))
  have hxf : Ext [] w (w1.setRow R cs) := ((hx0.trans0 hx1).trans (setRow_ext R _) (fun g hg => .inr (by simp at hg; subst hg; exact HRR.out)))
  refine bodyPost_ret (v := .agg cs) (results_cell_row (P := Try.prog) Try.results23 _ _ R _ _ _ _ rfl (setRow_heap _ _ _ _ _ _ hR3) Try.underlying35 rfl (by rw [his.out.1]; exact infoSum)) rfl ⟨_, rfl, hcs, hxf⟩
end Go.Proofs.Ytjicjadibaomkaa
set_option linter.unusedSimpArgs false
set_option linter.unusedVariables false
set_option maxHeartbeats 2000000
set_option maxRecDepth 100000
namespace Go.Proofs.Ytjicjadibaomkaa
open Go.RowKit Go.Hs Go.Dg

theorem run_eq_u8 (d : Nat) (a b : Int) (w : World) : (Op.equalIn (d + 1) 5 (.int .u8 a) (.int .u8 b)).run Try.prog w = .ok (a == b) w := by
  simp [Op.equalIn, run_underlying Try.underlying5]
theorem run_part_u8 {xs : Array Value} {i : Nat} {v : Value} (h : xs[i]? = some v) (w : World) : (part 5 xs i).run Try.prog w = .ok v w := by
  simp [part, isAgg, run_underlying Try.underlying5, h]
theorem run_eqItems_sum (d : Nat) (f g : Nat → Int) (w : World) : ∀ is : List Nat, (∀ i ∈ is, i < 32) → (Op.eqItems (d + 1) 5 1 (bytesL f) (bytesL g) is).run Try.prog w = .ok (is.all fun i => f i == g i) w
  | [], _ => by simp [Op.eqItems]
  | i :: is, h => by
    have hi := h i (List.mem_cons_self)
    have h1 := run_part_u8 (xs := bytesL f) (i := i * 1) (v := .int .u8 (f i)) (by rw [Nat.mul_one]; exact bytesL_get f hi) w
    have h2 := run_part_u8 (xs := bytesL g) (i := i * 1) (v := .int .u8 (g i)) (by rw [Nat.mul_one]; exact bytesL_get g hi) w
    simp only [Op.eqItems, Sem.run_bind, h1, h2, Result.andThen_ok, run_eq_u8, List.all_cons]
    cases hfg : (f i == g i)
    · simp
    · simp only [Bool.not_true, Bool.false_eq_true, if_false, Bool.true_and]
      exact run_eqItems_sum d f g w is fun j hj => h j (List.mem_cons_of_mem _ hj)
theorem infoU8 : (Try.prog.info? 5).map (fun i => (i.zero, i.size, i.bytes)) = some (some (.int .u8 0), 1, 1) := by kernel_rfl
theorem cellsU8 : Try.prog.cellsOf 5 = 1 := by kernel_rfl
theorem run_eq_sum (f g : Nat → Int) (w : World) : (Op.equal 35 (.agg (bytesL f)) (.agg (bytesL g))).run Try.prog w = .ok ((List.range 32).all fun i => f i == g i) w := by
  obtain ⟨i, hi, _⟩ := info_parts infoU8
  unfold Op.equal Op.maxDepth
  rw [show (10000 : Nat) = 9998 + 1 + 1 from rfl, run_equalIn_array (P := Try.prog) (w := w) (9998 + 1) (bytesL f) (bytesL g) Try.underlying35 hi, cellsU8, run_eqItems_sum 9998 f g w (List.range 32) (fun i hi => by simpa using hi)]
theorem run_eq_dig (a b : ByteArray) (w : World) : (Op.equal 35 (.agg (digV a)) (.agg (digV b))).run Try.prog w = .ok (decide (digN a = digN b)) w := by
  unfold digV
  rw [run_eq_sum]
  congr 1
  rw [Bool.eq_iff_iff, List.all_eq_true, decide_eq_true_iff]
  constructor
  · intro h
    unfold digN
    apply List.map_congr_left
    intro j hj
    have := h j hj
    simp at this
    rw [this]
  · intro h j hj
    have h2 := digN_eq.2 h
    have hj' : j < 32 := by simpa using hj
    unfold digV at h2
    have h1 := bytesL_get (sumByte (sumF a)) hj'
    rw [h2, bytesL_get _ hj'] at h1
    simp at h1
    simpa using h1.symm
theorem alloc_two' (w : World) (A B : Obj) : ((w.alloc A).alloc B).heap[w.heap.size]? = some A ∧ ((w.alloc A).alloc B).heap[w.heap.size + 1]? = some B ∧ Ext [] w ((w.alloc A).alloc B) ∧ ((w.alloc A).alloc B).heap.size = w.heap.size + 2 := by
  have h1 : (w.alloc A).heap.size = w.heap.size + 1 := by simp
  exact ⟨heap_old' _ _ (heap_new _ _), by rw [← h1]; exact heap_new _ _, ((Ext.refl _ _).alloc _).alloc _, by simp⟩
/-- A sum as bytes. -/
theorem conv_dig {w : World} {A : Nat} {a : ByteArray} {fr : Nat × Nat} (h : w.heap[A]? = some (.cells (digV a) 35 fr)) : (convert 58 9 (.slice (some ⟨A, 0, none⟩) 32 32)).run Try.prog w = .ok (.string (strN (digN a))) w := by
  have hc := run_convert_bytes_arg (P := Try.prog) w 58 5 Try.underlying58 Try.underlying5 A 0 32 32 ((digN a).map fun (c : Nat) => (c : Int)) (by simp [digN_len]) (fun i hi => by
    have hi' : i < (digN a).length := by rw [digN_len]; exact hi
    rw [Nat.zero_add, cellAt h i, digN_V]
    simp [List.getD, hi']) 9 Try.underlying9
  rw [hc]
  congr 2
theorem strN_digN (a : ByteArray) : (strN (digN a)).size = 32 := by
  show ((digN a).map UInt8.ofNat).toArray.size = 32
  simp [digN_len]
end Go.Proofs.Ytjicjadibaomkaa
set_option linter.unusedSimpArgs false
set_option linter.unusedVariables false
set_option maxHeartbeats 2000000
set_option maxRecDepth 100000
namespace Go.Proofs.Ytjicjadibaomkaa
open Go.RowKit Go.Hs Go.Dg

/-- Are two texts a clash? -/
def isPair (a b : ByteArray) : Bool := !(a.toList == b.toList) && decide (digN a = digN b)
theorem pairIs_any (a b : ByteArray) (ha : a.size ≤ 100000) (hb : b.size ≤ 100000) (w : World) : Calls Try.prog 15 #[.agg #[.string a, .string b]] w fun e w' => e = .returned (.bool (isPair a b)) ∧ Ext [] w w' := by
  have hA := heap_new w (.cells #[.string a, .string b] 43)
  have hx0 : Ext [] w (w.alloc (.cells #[.string a, .string b] 43)) := (Ext.refl _ _).alloc _
  go_enter Try.func15, Try.ntmps15
  go_upto_region 1 with fail
  generalize w.alloc (.cells #[.string a, .string b] 43) = W at *
  generalize w.heap.size = A at *
  have a0 : W.cell? ⟨A, 0, none⟩ = some (.string a) := cellAt hA 0
  have a1 : W.cell? ⟨A, 1, none⟩ = some (.string b) := cellAt hA 1
  by_cases hab : (a.toList == b.toList) = true
  · have hres : isPair a b = false := by unfold isPair; rw [hab]; rfl
    have HR := Hs.hid hres
    have hbq : (!(a.toList == b.toList)) = false := by rw [hab]; rfl
    clear hres
    go_quiet (fail)
    go_wp2
    go_ret
    exact ⟨by rw [HR.out]; rfl, hx0.drewN _⟩
  · have hab := Bool.eq_false_iff.2 hab
    have hres : isPair a b = decide (digN a = digN b) := by unfold isPair; rw [hab]; rfl
    have HR := Hs.hid hres
    have HS := Hs.hid (show a.size ≤ 100000000 ∧ b.size ≤ 100000000 by omega)
    clear hres
    go_region_held3 (fun w' => w'.cell? ⟨A, 0, none⟩ = some (.string a) ∧ w'.cell? ⟨A, 1, none⟩ = some (.string b))
      (first
        | exact ⟨a0, a1⟩
        | exact ⟨b0, b1⟩
        | exact ⟨d0, d1⟩
        | go_keep)
      (first
        | (go_at_call 12; (with_reducible refine (of_any a HS.out.1 _).mono ?_); rintro e w4 ⟨cs, rfl, hcs, hx4⟩; have hA4 := hx4.same (by first | exact hA | exact hA5) (by simp); have b0 := (show w4.cell? ⟨A, 0, none⟩ = some (.string a) from cellAt hA4 0); have b1 := (show w4.cell? ⟨A, 1, none⟩ = some (.string b) from cellAt hA4 1))
        | (go_at_call 12; (with_reducible refine (of_any b HS.out.2 _).mono ?_); rintro e w5 ⟨ds, rfl, hds, hx5⟩; have hA5 := hx5.same (by first | exact hA | exact hA4) (by simp); have d0 := (show w5.cell? ⟨A, 0, none⟩ = some (.string a) from cellAt hA5 0); have d1 := (show w5.cell? ⟨A, 1, none⟩ = some (.string b) from cellAt hA5 1); have hq := (show ∀ w, (Op.equalIn 10000 35 (.agg cs) (.agg ds)).run Try.prog w = .ok (decide (digN a = digN b)) w from fun w => (by rw [hcs.out, hds.out]; exact run_eq_dig a b w))))
    all_goals go_wp2
    all_goals go_ret
    all_goals exact ⟨by rw [HR.out]; rfl, by first | exact ((hx0.drew).trans0 hx4).trans0 hx5 | exact ((hx0.drew).trans0 hx5).trans0 hx4⟩
theorem node_any (a b : ByteArray) (w : World) : Calls Try.prog 28 #[.agg (digV a), .agg (digV b)] w fun e w' => e = .returned (.string (⟨#[1]⟩ ++ strN (digN a) ++ strN (digN b))) ∧ Ext [] w w' := by
  obtain ⟨hA, hB, hx0, _⟩ := alloc_two' w (.cells (digV a) 35) (.cells (digV b) 35)
  have hc1 : ¬ 9223372036854775807 < 1 + 32 := by decide
  have hs1 := strN_digN a
  have hs2 := strN_digN b
  go_enter Try.func28, Try.ntmps28
  go_upto_region 1 with fail
  generalize (w.alloc (.cells (digV a) 35)).alloc (.cells (digV b) 35) = W at hA hB hx0 ⊢
  refine wp_region_noPanic ?_
  refine wp_region_held_drew (S := (fun w' => w'.heap[w.heap.size]? = some (.cells (digV a) 35 (0, 0)) ∧ w'.heap[w.heap.size + 1]? = some (.cells (digV b) 35 (0, 0)))) (by kernel_rfl) ?_ (fun hHeld => ?_)
  · ((try dsimp only); exact ⟨hA, hB⟩)
  refine wpAnyH_take (i := 0) (v := ?_) rfl (by kernel_rfl) (by kernel_rfl) (by kernel_rfl) (fun _ _ _ h => h) (Or.inl ⟨by rfl, ?_⟩) (by assumption) ?_
  rotate_left
  · (intro w hSw; (try dsimp only at hSw); first | (go_simp; done) | (go_simp; with_reducible rfl))
  try simp only [Act.put, List.getElem_toArray, List.getElem_cons_succ, List.getElem_cons_zero, List.setIfInBounds_toArray, List.set_cons_zero, List.set_cons_succ]
  refine wpAnyH_take (i := 1) (v := ?_) rfl (by kernel_rfl) (by kernel_rfl) (by kernel_rfl) (fun _ _ _ h => h) (Or.inl ⟨by rfl, ?_⟩) (by assumption) ?_
  rotate_left
  · (intro w hSw; (try dsimp only at hSw); have hq := conv_dig hSw.1; first | (go_simp; done) | (go_simp; with_reducible rfl))
  try simp only [Act.put, List.getElem_toArray, List.getElem_cons_succ, List.getElem_cons_zero, List.setIfInBounds_toArray, List.set_cons_zero, List.set_cons_succ]
  refine wpAnyH_take (i := 2) (v := ?_) rfl (by kernel_rfl) (by kernel_rfl) (by kernel_rfl) (fun _ _ _ h => h) (Or.inl ⟨by rfl, ?_⟩) (by assumption) ?_
  rotate_left
  · (intro w hSw; (try dsimp only at hSw); first | (go_simp; done) | (go_simp; with_reducible rfl))
  try simp only [Act.put, List.getElem_toArray, List.getElem_cons_succ, List.getElem_cons_zero, List.setIfInBounds_toArray, List.set_cons_zero, List.set_cons_succ]
  refine wpAnyH_take (i := 3) (v := ?_) rfl (by kernel_rfl) (by kernel_rfl) (by kernel_rfl) (fun _ _ _ h => h) (Or.inl ⟨by rfl, ?_⟩) (by assumption) ?_
  rotate_left
  · (intro w hSw; (try dsimp only at hSw); first | (go_simp; done) | (go_simp; with_reducible rfl))
  try simp only [Act.put, List.getElem_toArray, List.getElem_cons_succ, List.getElem_cons_zero, List.setIfInBounds_toArray, List.set_cons_zero, List.set_cons_succ]
  refine wpAnyH_take (i := 4) (v := ?_) rfl (by kernel_rfl) (by kernel_rfl) (by kernel_rfl) (fun _ _ _ h => h) (Or.inl ⟨by rfl, ?_⟩) (by assumption) ?_
  rotate_left
  · (intro w hSw; (try dsimp only at hSw); have hq := conv_dig hSw.2; first | (go_simp; done) | (go_simp; with_reducible rfl))
  try simp only [Act.put, List.getElem_toArray, List.getElem_cons_succ, List.getElem_cons_zero, List.setIfInBounds_toArray, List.set_cons_zero, List.set_cons_succ]
  refine wpAnyH_take (i := 5) (v := ?_) rfl (by kernel_rfl) (by kernel_rfl) (by kernel_rfl) (fun _ _ _ h => h) (Or.inl ⟨by rfl, ?_⟩) (by assumption) ?_
  rotate_left
  · (intro w hSw; (try dsimp only at hSw); first | (go_simp; done) | (go_simp; with_reducible rfl))
  try simp only [Act.put, List.getElem_toArray, List.getElem_cons_succ, List.getElem_cons_zero, List.setIfInBounds_toArray, List.set_cons_zero, List.set_cons_succ]
  refine wpAnyH_take (i := 6) (v := ?_) rfl (by kernel_rfl) (by kernel_rfl) (by kernel_rfl) (fun _ _ _ h => h) (Or.inl ⟨by rfl, ?_⟩) (by assumption) ?_
  rotate_left
  · (intro w hSw; (try dsimp only at hSw); first | (go_simp; done) | (go_simp; with_reducible rfl))
  try simp only [Act.put, List.getElem_toArray, List.getElem_cons_succ, List.getElem_cons_zero, List.setIfInBounds_toArray, List.set_cons_zero, List.set_cons_succ]
  refine wpAnyH_done (by kernel_rfl) ?_ _
  refine NoPanic.normal ?_
  go_wp2
  go_ret
  exact ⟨rfl, hx0.drew⟩
end Go.Proofs.Ytjicjadibaomkaa
set_option linter.unusedSimpArgs false
set_option linter.unusedVariables false
set_option maxHeartbeats 2000000
set_option maxRecDepth 100000
namespace Go.Proofs.Ytjicjadibaomkaa
open Go.RowKit Go.Hs Go.Dg

theorem yieldsIf_load_row {P : Program} {ops : Array Oper} {S : World → Prop} {op : Oper} {a : Act} (hw : Region.wanted op (yielded ops a.tmps) = true) (ty : TypeId) (x : Operand) (ho : op.op = .load ty x)
    (g : Nat) (hx : a.eval x = .pointer (some ⟨g, 0, none⟩)) (cs : Array Value) (d : TypeDesc) (hS : ∀ w, S w → ∃ t fr, w.heap[g]? = some (.cells cs t fr))
    (hu : P.underlying ty = some d) (hd : (match d with | .struct _ | .array _ _ => true | _ => false) = true) (hi : (P.info? ty).map (·.size) = some cs.size) : YieldsIf P ops S op (.agg cs) a :=
  .inl ⟨hw, fun w hw' => by
    obtain ⟨t, fr, hg⟩ := hS w hw'
    unfold execOp
    simp only [ho, hx, Instr.loadAt, Instr.sureAddr, Sem.run_bind, Sem.run_pure, Result.andThen_ok, run_loadVar_row w g t ty cs fr d hg hu hd hi]⟩
theorem infoStr : (Try.prog.info? 9).map (fun i => (i.zero, i.size, i.bytes)) = some (some (.string ⟨#[]⟩), 1, 16) := by kernel_rfl
theorem half_two (w : World) : Calls Try.prog 27 #[.int .i64 2] w fun e w' => e = .returned (.int .i64 1) ∧ w' = w := by
  go_enter Try.func27, Try.ntmps27
  go_wp2
  refine wp_loop_rounds 1 ?_
  rw [rounds_succ]
  go_wp2
  go_ret
  exact ⟨rfl, rfl⟩
theorem way_one (ao : Option Addr) (cap : Nat) (w : World) : Calls Try.prog 10 #[.string ⟨#[97]⟩, .int .i64 0, .int .i64 1, .slice ao 0 cap] w fun e w' =>
    ∃ g, e = .returned (.tuple #[.slice (some ⟨g, 0, none⟩) 1 1, .bool true]) ∧ w'.heap[g]? = some (.cells #[.string ⟨#[0, 97]⟩] 9 (0, 0)) ∧ Ext [] w w' ∧ w.heap.size ≤ g := by
  go_enter Try.func10, Try.ntmps10
  go_wp2
  go_ret2
  exact ⟨_, rfl, heap_new _ _, (Ext.refl _ _).alloc _, Nat.le_refl _⟩
theorem cut_any (s : ByteArray) (n : Nat) (hn : n ≤ 1000000) (w : World) (hs : s.size ≤ maxLen) : Calls Try.prog 16 #[.string s, .int .i64 n] w fun e w' => ∃ t : ByteArray, e = .returned (.string t) ∧ t.size ≤ n ∧ w' = w := by
  unfold maxLen at hs
  have h1 : (n : Int) ≤ 1000000 := by omega
  have h2 : (0 : Int) ≤ n := by omega
  have h3 : (s.size : Int) ≤ 9223372036854775807 := by omega
  by_cases h : n < s.size
  · have hi : (n : Int) < s.size := by omega
    have HN := Hs.hid h
    clear h
    go_enter Try.func16, Try.ntmps16
    go_wp2
    go_ret
    exact ⟨_, rfl, by rw [ByteArray.size_extract]; omega, rfl⟩
  · have hi : ¬ (n : Int) < s.size := by omega
    have HN := Hs.hid h
    clear h
    go_enter Try.func16, Try.ntmps16
    go_wp2
    go_ret
    exact ⟨_, rfl, by have := HN.out; omega, rfl⟩
theorem way_two (x : ByteArray) (G cap : Nat) (fr : Nat × Nat) (w : World) (hG : w.heap[G]? = some (.cells (digV x) 35 fr)) : Calls Try.prog 10 #[.string ⟨#[97]⟩, .int .i64 0, .int .i64 2, .slice (some ⟨G, 0, none⟩) 1 cap] w fun e w' =>
    ∃ g c, e = .returned (.tuple #[.slice (some ⟨g, 0, none⟩) 2 c, .bool true]) ∧ Own w'.heap 9 1 (.slice (some ⟨g, 0, none⟩) 2 c) 2 [.string (⟨#[1]⟩ ++ strN (digN ⟨#[0, 97]⟩) ++ strN (digN x)), .string ⟨#[0, 97]⟩] ∧ Ext [] w w' := by
  obtain ⟨i0, hi, hz0, hz1, hz2⟩ := info_parts infoStr
  have HI := Hs.hid hi
  have HZ := Hs.hid (And.intro hz0 (And.intro hz1 hz2))
  clear hi hz0 hz1 hz2
  have hw0 : IntKind.i64.wrap 0 = 0 := by decide
  have hw1 : IntKind.i64.wrap (1 - 1) = 0 := by decide
  go_enter Try.func10, Try.ntmps10
  go_upto_region 5 with fail
  go_cut [10, 11] (fun s10 s11 wx => ∃ N, s10 = .pointer (some ⟨N, 0, none⟩) ∧ s11 = .int .i64 1 ∧ wx.heap[N]? = some (.cells (digV x) 35 (0, 0)) ∧ Ext [] w wx)
  case first =>
    refine wp_region_noPanic ?_
    refine wp_region_held_drew (S := (fun w' => w'.heap[G]? = some (.cells (digV x) 35 fr))) (by kernel_rfl) ?_ (fun hHeld => ?_)
    · ((try dsimp only); exact hG)
    refine wpAnyH_take (i := 0) (v := ?_) rfl (by kernel_rfl) (by kernel_rfl) (by kernel_rfl) (fun _ _ _ h => h) (Or.inl ⟨by rfl, ?_⟩) (by assumption) ?_
    rotate_left
    · (intro w hSw; (try dsimp only at hSw); first | (go_simp; done) | (go_simp; with_reducible rfl))
    try simp only [Act.put, List.getElem_toArray, List.getElem_cons_succ, List.getElem_cons_zero, List.setIfInBounds_toArray, List.set_cons_zero, List.set_cons_succ]
    refine wpAnyH_take (i := 1) (v := ?_) rfl (by kernel_rfl) (by kernel_rfl) (by kernel_rfl) (fun _ _ _ h => h) (Or.inl ⟨by rfl, ?_⟩) (by assumption) ?_
    rotate_left
    · (intro w hSw; (try dsimp only at hSw); first | (go_simp; done) | (go_simp; with_reducible rfl))
    try simp only [Act.put, List.getElem_toArray, List.getElem_cons_succ, List.getElem_cons_zero, List.setIfInBounds_toArray, List.set_cons_zero, List.set_cons_succ]
    refine wpAnyH_take (i := 2) (v := ?_) rfl (by kernel_rfl) (by kernel_rfl) (by kernel_rfl) (fun _ _ _ h => h) (Or.inl ⟨by rfl, ?_⟩) (by assumption) ?_
    rotate_left
    · (intro w hSw; (try dsimp only at hSw); first | (go_simp; done) | (go_simp; with_reducible rfl))
    try simp only [Act.put, List.getElem_toArray, List.getElem_cons_succ, List.getElem_cons_zero, List.setIfInBounds_toArray, List.set_cons_zero, List.set_cons_succ]
    refine wpAnyH_take (i := 3) (v := ?_) rfl (by kernel_rfl) (by kernel_rfl) (by kernel_rfl) (fun _ _ _ h => h) (Or.inl ⟨by rfl, ?_⟩) (by assumption) ?_
    rotate_left
    · (intro w hSw; (try dsimp only at hSw); first | (go_simp; done) | (go_simp; with_reducible rfl))
    try simp only [Act.put, List.getElem_toArray, List.getElem_cons_succ, List.getElem_cons_zero, List.setIfInBounds_toArray, List.set_cons_zero, List.set_cons_succ]
    refine wpAnyH_take (i := 4) (v := ?_) rfl (by kernel_rfl) (by kernel_rfl) (by kernel_rfl) (fun _ _ _ h => h) (Or.inl ⟨by rfl, ?_⟩) (by assumption) ?_
    rotate_left
    · (intro w hSw; (try dsimp only at hSw); first | (go_simp; done) | (go_simp; with_reducible rfl))
    try simp only [Act.put, List.getElem_toArray, List.getElem_cons_succ, List.getElem_cons_zero, List.setIfInBounds_toArray, List.set_cons_zero, List.set_cons_succ]
    refine wpAnyH_take (i := 5) (v := _) rfl (by kernel_rfl) (by kernel_rfl) (by kernel_rfl) (fun _ _ _ h => h) (yieldsIf_load_row (by rfl) 35 _ rfl G rfl (digV x) _ (fun w h => ⟨_, _, h⟩) Try.underlying35 rfl (by rw [digV_size]; exact infoSum)) (by assumption) ?_
    try simp only [Act.put, List.getElem_toArray, List.getElem_cons_succ, List.getElem_cons_zero, List.setIfInBounds_toArray, List.set_cons_zero, List.set_cons_succ]
    refine wpAnyH_take (i := 6) (v := ?_) rfl (by kernel_rfl) (by kernel_rfl) (by kernel_rfl) (fun _ _ _ h => h) (Or.inl ⟨by rfl, ?_⟩) (by assumption) ?_
    rotate_left
    · (intro w hSw; (try dsimp only at hSw); first | (go_simp; done) | (go_simp; with_reducible rfl))
    try simp only [Act.put, List.getElem_toArray, List.getElem_cons_succ, List.getElem_cons_zero, List.setIfInBounds_toArray, List.set_cons_zero, List.set_cons_succ]
    refine wpAnyH_ready (rs := [7, 8]) (by kernel_rfl) (by simp) ?_
    refine AllReadyH.cons rfl (fun K hK => ?_) (AllReadyH.cons rfl (fun K hK => ?_) AllReadyH.nil)
    · go_simp
      (go_at_call 27; refine (half_two _).mono ?_; rintro e w4 ⟨rfl, rfl⟩)
      go_wp2_with fail
      refine hK.out _ _ ?_ (fun hHeld => ?_)
      · ((try dsimp only); exact hHeld)
      clear hK K
      try simp only [Act.put, List.getElem_toArray, List.getElem_cons_succ, List.getElem_cons_zero, List.setIfInBounds_toArray, List.set_cons_zero, List.set_cons_succ]
      refine wpAnyH_ready (rs := [8]) (by kernel_rfl) (by simp) ?_
      refine AllReadyH.cons rfl (fun K hK => ?_) AllReadyH.nil
      rw [if_pos (by rfl)]
      go_simp
      refine hK.out _ _ ?_ (fun hHeld => ?_)
      · ((try dsimp only); exact heap_old' _ _ hHeld)
      clear hK K
      try simp only [Act.put, List.getElem_toArray, List.getElem_cons_succ, List.getElem_cons_zero, List.setIfInBounds_toArray, List.set_cons_zero, List.set_cons_succ]
      refine wpAnyH_ready (rs := [9]) (by kernel_rfl) (by simp) ?_
      refine AllReadyH.cons rfl (fun K hK => ?_) AllReadyH.nil
      rw [if_pos (by rfl)]
      (refine wp_store_row 35 _ _ rfl _ (digV x) rfl rfl _ _ (heap_new _ _) (by rw [digV_size]; exact infoSum) (by rw [digV_size]; rfl) (digV_one x) ?_)
      refine hK.out _ _ ?_ (fun hHeld => ?_)
      · ((try dsimp only); (rw [setRow_other _ _ _ _ (by have := lt_of_heap hG; simp; omega)]; exact hHeld))
      clear hK K
      try simp only [Act.put, List.getElem_toArray, List.getElem_cons_succ, List.getElem_cons_zero, List.setIfInBounds_toArray, List.set_cons_zero, List.set_cons_succ]
      refine wpAnyH_take (i := 10) (v := ?_) rfl (by kernel_rfl) (by kernel_rfl) (by kernel_rfl) (fun _ _ _ h => h) (Or.inl ⟨by rfl, ?_⟩) (by assumption) ?_
      rotate_left
      · (intro w hSw; (try dsimp only at hSw); first | (go_simp; done) | (go_simp; with_reducible rfl))
      try simp only [Act.put, List.getElem_toArray, List.getElem_cons_succ, List.getElem_cons_zero, List.setIfInBounds_toArray, List.set_cons_zero, List.set_cons_succ]
      refine wpAnyH_done (by kernel_rfl) ?_ _
      refine NoPanic.normal ?_
      go_wp2
      go_meet
      exact ⟨_, rfl, rfl, setRow_heap _ _ _ _ _ _ (heap_new _ _), (((Ext.refl [] w).drew).alloc _).trans (setRow_ext _ _) (fun g hg => .inr (by simp at hg; omega))⟩
    · rw [if_pos (by rfl)]
      go_simp
      refine hK.out _ _ ?_ (fun hHeld => ?_)
      · ((try dsimp only); exact heap_old' _ _ hHeld)
      clear hK K
      try simp only [Act.put, List.getElem_toArray, List.getElem_cons_succ, List.getElem_cons_zero, List.setIfInBounds_toArray, List.set_cons_zero, List.set_cons_succ]
      refine wpAnyH_ready (rs := [7]) (by kernel_rfl) (by simp) ?_
      refine AllReadyH.cons rfl (fun K hK => ?_) AllReadyH.nil
      go_simp
      (go_at_call 27; refine (half_two _).mono ?_; rintro e w4 ⟨rfl, rfl⟩)
      go_wp2_with fail
      refine hK.out _ _ ?_ (fun hHeld => ?_)
      · ((try dsimp only); exact hHeld)
      clear hK K
      try simp only [Act.put, List.getElem_toArray, List.getElem_cons_succ, List.getElem_cons_zero, List.setIfInBounds_toArray, List.set_cons_zero, List.set_cons_succ]
      refine wpAnyH_ready (rs := [9]) (by kernel_rfl) (by simp) ?_
      refine AllReadyH.cons rfl (fun K hK => ?_) AllReadyH.nil
      rw [if_pos (by rfl)]
      (refine wp_store_row 35 _ _ rfl _ (digV x) rfl rfl _ _ (heap_new _ _) (by rw [digV_size]; exact infoSum) (by rw [digV_size]; rfl) (digV_one x) ?_)
      refine hK.out _ _ ?_ (fun hHeld => ?_)
      · ((try dsimp only); (rw [setRow_other _ _ _ _ (by have := lt_of_heap hG; simp; omega)]; exact hHeld))
      clear hK K
      try simp only [Act.put, List.getElem_toArray, List.getElem_cons_succ, List.getElem_cons_zero, List.setIfInBounds_toArray, List.set_cons_zero, List.set_cons_succ]
      refine wpAnyH_take (i := 10) (v := ?_) rfl (by kernel_rfl) (by kernel_rfl) (by kernel_rfl) (fun _ _ _ h => h) (Or.inl ⟨by rfl, ?_⟩) (by assumption) ?_
      rotate_left
      · (intro w hSw; (try dsimp only at hSw); first | (go_simp; done) | (go_simp; with_reducible rfl))
      try simp only [Act.put, List.getElem_toArray, List.getElem_cons_succ, List.getElem_cons_zero, List.setIfInBounds_toArray, List.set_cons_zero, List.set_cons_succ]
      refine wpAnyH_done (by kernel_rfl) ?_ _
      refine NoPanic.normal ?_
      go_wp2
      go_meet
      exact ⟨_, rfl, rfl, setRow_heap _ _ _ _ _ _ (heap_new _ _), (((Ext.refl [] w).drew).alloc _).trans (setRow_ext _ _) (fun g hg => .inr (by simp at hg; omega))⟩
  case rest =>
    obtain ⟨N, rfl, rfl, hN, hx⟩ := hcut
    go_upto_region 12 with (go_at_call 10; refine (way_one _ _ _).mono ?_; rintro e w5 ⟨g, rfl, hg, hx5, hgl⟩)
    have hN := hx5.same hN (by simp)
    have hx := hx.trans0 hx5
    have hg0 : w5.cell? ⟨g, 0, none⟩ = some (.string ⟨#[0, 97]⟩) := cellAt hg 0
    clear hx5 hgl
    go_cut [16] (fun s16 wx => s16 = .string (⟨#[1]⟩ ++ strN (digN ⟨#[0, 97]⟩) ++ strN (digN x)) ∧ Ext [] w5 wx)
    case first =>
      refine wp_region_noPanic ?_
      refine wp_region_held_drew (S := (fun w' => w'.heap[N]? = some (.cells (digV x) 35 (0, 0)) ∧ w'.cell? ⟨g, 0, none⟩ = some (.string ⟨#[0, 97]⟩))) (by kernel_rfl) ?_ (fun hHeld => ?_)
      · ((try dsimp only); exact ⟨hN, hg0⟩)
      refine wpAnyH_take (i := 0) (v := ?_) rfl (by kernel_rfl) (by kernel_rfl) (by kernel_rfl) (fun _ _ _ h => h) (Or.inl ⟨by rfl, ?_⟩) (by assumption) ?_
      rotate_left
      · (intro w hSw; (try dsimp only at hSw); first | (go_simp; done) | (go_simp; with_reducible rfl))
      try simp only [Act.put, List.getElem_toArray, List.getElem_cons_succ, List.getElem_cons_zero, List.setIfInBounds_toArray, List.set_cons_zero, List.set_cons_succ]
      refine wpAnyH_take (i := 1) (v := ?_) rfl (by kernel_rfl) (by kernel_rfl) (by kernel_rfl) (fun _ _ _ h => h) (Or.inl ⟨by rfl, ?_⟩) (by assumption) ?_
      rotate_left
      · (intro w hSw; (try dsimp only at hSw); first | (go_simp; done) | (go_simp; with_reducible rfl))
      try simp only [Act.put, List.getElem_toArray, List.getElem_cons_succ, List.getElem_cons_zero, List.setIfInBounds_toArray, List.set_cons_zero, List.set_cons_succ]
      refine wpAnyH_take (i := 2) (v := ?_) rfl (by kernel_rfl) (by kernel_rfl) (by kernel_rfl) (fun _ _ _ h => h) (Or.inl ⟨by rfl, ?_⟩) (by assumption) ?_
      rotate_left
      · (intro w hSw; (try dsimp only at hSw); first | (go_simp; done) | (go_simp; with_reducible rfl))
      try simp only [Act.put, List.getElem_toArray, List.getElem_cons_succ, List.getElem_cons_zero, List.setIfInBounds_toArray, List.set_cons_zero, List.set_cons_succ]
      refine wpAnyH_take (i := 4) (v := _) rfl (by kernel_rfl) (by kernel_rfl) (by kernel_rfl) (fun _ _ _ h => h) (yieldsIf_load_row (by rfl) 35 _ rfl N rfl (digV x) _ (fun w h => ⟨_, _, h.1⟩) Try.underlying35 rfl (by rw [digV_size]; exact infoSum)) (by assumption) ?_
      try simp only [Act.put, List.getElem_toArray, List.getElem_cons_succ, List.getElem_cons_zero, List.setIfInBounds_toArray, List.set_cons_zero, List.set_cons_succ]
      refine wpAnyH_ready (rs := [3]) (by kernel_rfl) (by simp) ?_
      refine AllReadyH.cons rfl (fun K hK => ?_) AllReadyH.nil
      go_simp
      (go_at_call 12; refine (of_any ⟨#[0, 97]⟩ (by decide) _).mono ?_; rintro e w6 ⟨cs, rfl, hcs, hx6⟩; obtain rfl := hcs.out)
      go_wp2_with fail
      refine hK.out _ _ ?_ (fun hHeld => ?_)
      · ((try dsimp only); exact ⟨hx6.same hHeld.1 (by simp), (show _ from cellAt (hx6.same (show _ from hg) (by simp)) 0)⟩)
      clear hK K
      try simp only [Act.put, List.getElem_toArray, List.getElem_cons_succ, List.getElem_cons_zero, List.setIfInBounds_toArray, List.set_cons_zero, List.set_cons_succ]
      refine wpAnyH_ready (rs := [5]) (by kernel_rfl) (by simp) ?_
      refine AllReadyH.cons rfl (fun K hK => ?_) AllReadyH.nil
      go_simp
      (go_at_call 28; refine (node_any ⟨#[0, 97]⟩ x _).mono ?_; rintro e w7 ⟨rfl, hx7⟩)
      go_wp2_with fail
      refine hK.out _ _ ?_ (fun hHeld => ?_)
      · ((try dsimp only); exact ⟨hx7.same hHeld.1 (by simp), (show _ from cellAt (hx7.same (hx6.same (show _ from hg) (by simp)) (by simp)) 0)⟩)
      clear hK K
      try simp only [Act.put, List.getElem_toArray, List.getElem_cons_succ, List.getElem_cons_zero, List.setIfInBounds_toArray, List.set_cons_zero, List.set_cons_succ]
      refine wpAnyH_take (i := 6) (v := ?_) rfl (by kernel_rfl) (by kernel_rfl) (by kernel_rfl) (fun _ _ _ h => h) (Or.inl ⟨by rfl, ?_⟩) (by assumption) ?_
      rotate_left
      · (intro w hSw; (try dsimp only at hSw); first | (go_simp; done) | (go_simp; with_reducible rfl))
      try simp only [Act.put, List.getElem_toArray, List.getElem_cons_succ, List.getElem_cons_zero, List.setIfInBounds_toArray, List.set_cons_zero, List.set_cons_succ]
      refine wpAnyH_done (by kernel_rfl) ?_ _
      refine NoPanic.normal ?_
      go_wp2
      go_meet
      exact ⟨rfl, ((Ext.refl [] w5).drew.trans0 hx6).trans0 hx7⟩
    case rest =>
      obtain ⟨rfl, hx6⟩ := hcut
      have hg := hx6.same hg (by simp)
      have hx := hx.trans0 hx6
      clear hx6 hg0 hN
      have hi := HI.out
      obtain ⟨hz0, hz1, hz2⟩ := HZ.out
      have hgl := lt_of_heap hg
      have hown : Own (wc.alloc (.cells #[.string (⟨#[1]⟩ ++ strN (digN ⟨#[0, 97]⟩) ++ strN (digN x))] 9)).heap 9 1 (.slice (some ⟨wc.heap.size, 0, none⟩) 1 1) 1 [.string (⟨#[1]⟩ ++ strN (digN ⟨#[0, 97]⟩) ++ strN (digN x))] :=
        ⟨rfl, .inr ⟨_, 1, _, rfl, Nat.zero_le _, heap_new _ _, Nat.le_refl _, by decide, rfl, rfl⟩⟩
      have hnews : ∀ j u, ([Value.string ⟨#[0, 97]⟩] : List Value)[j]? = some u → (wc.alloc (.cells #[.string (⟨#[1]⟩ ++ strN (digN ⟨#[0, 97]⟩) ++ strN (digN x))] 9)).cell? ((⟨g, 0, none⟩ : Addr).add j) = some u := by
        intro j u hj
        rw [add_off', cellAt (heap_old' _ _ hg) j]
        simpa using hj
      generalize htx : (⟨#[1]⟩ ++ strN (digN ⟨#[0, 97]⟩) ++ strN (digN x) : ByteArray) = text at *
      have HT := Hs.hid htx
      clear htx
      go_wp2_with (at_builtin; refine wpList_append rfl (.tmp 98) (.tmp 99) 22 rfl 9 i0 _ 1 16 Try.underlying22 hi hz0 hz1 hz2 rfl (by decide) (.slice (some ⟨wc.heap.size, 0, none⟩) 1 1) 1 _ rfl hown ⟨g, 0, none⟩ 1 1 [.string ⟨#[0, 97]⟩] rfl rfl hnews (by simp [Value.oneCell']) (by decide) (by decide) ?_; intro ao2 cap2 w2 hl2 hx2 hf2)
      go_ret2
      have hxf : Ext [] w w2 := (hx.alloc (.cells #[.string text] 9)).trans hx2 (fun q hq => .inr (by simp [Value.ownBlock] at hq; subst hq; exact hx.size))
      rcases hl2.2 with ⟨_, q⟩ | ⟨g2, c2, cur, q1, q2⟩
      · omega
      · cases q1
        exact ⟨g2, _, rfl, by rw [HT.out]; exact hl2, hxf⟩
end Go.Proofs.Ytjicjadibaomkaa
set_option linter.unusedSimpArgs false
set_option linter.unusedVariables false
set_option maxHeartbeats 2000000
set_option maxRecDepth 100000
namespace Go.Proofs.Ytjicjadibaomkaa
open Go.RowKit Go.Hs Go.Dg

theorem grow64_any (w : World) : Calls Try.prog 50 #[.slice none 0 0, .int .i64 64] w fun e w' => ∃ g cap, e = .returned (.slice (some ⟨g, 0, none⟩) 0 cap) ∧ 64 ≤ cap ∧ Own w'.heap 5 1 (.slice (some ⟨g, 0, none⟩) 0 cap) 0 [] ∧ Ext [] w w' ∧ w.heap.size ≤ g := by
  go_enter Try.func50, Try.ntmps50
  go_wp2
  go_ret
  have hc : 64 ≤ (Question.appendCap 64 0 5).cut (w.tape w.drawn (Question.appendCap 64 0 5)) ∧ (Question.appendCap 64 0 5).cut (w.tape w.drawn (Question.appendCap 64 0 5)) ≤ maxLen := by
    simp only [Question.cut, maxLen]
    have hmod := Nat.mod_lt (w.tape w.drawn (Question.appendCap 64 0 5)) (y := 2 ^ 63 - 64) (by decide)
    omega
  refine ⟨_, _, rfl, hc.1, ⟨by simp, .inr ⟨_, _, _, rfl, Nat.zero_le _, heap_new _ _, Nat.zero_le _, hc.2, ?_, by simp⟩⟩, ((Ext.refl _ _).alloc _).drew, Nat.le_refl _⟩
  have hs : (#[Value.int IntKind.u8 0] : Array Value).size = 1 := rfl
  simp only [Array.size_append, size_zeroCells, hs]
  omega
theorem concat_any (a b : ByteArray) (A B R : Nat) (fa fb fr : Nat × Nat) (w : World) (hA : w.heap[A]? = some (.cells (digV a) 35 fa)) (hB : w.heap[B]? = some (.cells (digV b) 35 fb))
    (hR : w.heap[R]? = some (.cells #[.slice (some ⟨A, 0, none⟩) 32 32, .slice (some ⟨B, 0, none⟩) 32 32] 58 fr)) : Calls Try.prog 41 #[.slice (some ⟨R, 0, none⟩) 2 2] w fun e w' =>
    ∃ ao cap, e = .returned (.slice ao 64 cap) ∧ Own w'.heap 5 1 (.slice ao 64 cap) 64 ((digN a ++ digN b).map fun (c : Nat) => Value.int .u8 c) ∧ Ext [] w w' := by
  have hBw := hB
  have hRw := hR
  have r0 : w.cell? ⟨R, 0, none⟩ = some (.slice (some ⟨A, 0, none⟩) 32 32) := by rw [cellAt hR]; rfl
  have r1 : w.cell? ⟨R, 1, none⟩ = some (.slice (some ⟨B, 0, none⟩) 32 32) := by rw [cellAt hR]; rfl
  go_enter Try.func41, Try.ntmps41
  go_wp2
  refine wp_loop_rounds 3 ?_
  rw [rounds_succ]
  go_wp2
  rw [rounds_succ]
  go_wp2
  rw [rounds_succ]
  have h64 : (64 : Int).toNat = 64 := rfl
  go_wp2_with (go_at_call 50; refine (grow64_any w).mono ?_; rintro e w1 ⟨g, cap, rfl, hc, hO, hx, hg⟩; replace hA := hx.same hA List.not_mem_nil; replace hB := hx.same hB List.not_mem_nil; replace hR := hx.same hR List.not_mem_nil; replace r0 : w1.cell? ⟨R, 0, none⟩ = some (.slice (some ⟨A, 0, none⟩) 32 32) := (by rw [cellAt hR]; rfl); replace r1 : w1.cell? ⟨R, 1, none⟩ = some (.slice (some ⟨B, 0, none⟩) 32 32) := (by rw [cellAt hR]; rfl))
  obtain ⟨i0, hi, hz0, hz1, hz2⟩ := info_parts infoU8
  have hnA : ∀ j u, (digV a).toList[j]? = some u → w1.cell? ((⟨A, 0, none⟩ : Addr).add j) = some u := by
    intro j u hj
    rw [add_off', cellAt hA j]
    simpa using hj
  have hne : ∀ x ∈ (Value.slice (some ⟨g, 0, none⟩) 0 cap).ownBlock.toList, x ∈ ([] : List Nat) ∨ w.heap.size ≤ x := by
    intro k hk
    have hk' : k = g := by simpa [Value.ownBlock] using hk
    exact .inr (hk' ▸ hg)
  have hlA : (digV a).toList.length = 32 * 1 := by rw [Array.length_toList, digV_size]
  have hlB : (digV b).toList.length = 32 * 1 := by rw [Array.length_toList, digV_size]
  have hoA : ∀ u ∈ (digV a).toList, u.oneCell' = true := fun u hu => (Array.all_eq_true'.1 (digV_one a)) u (Array.mem_toList_iff.1 hu)
  have hoB : ∀ u ∈ (digV b).toList, u.oneCell' = true := fun u hu => (Array.all_eq_true'.1 (digV_one b)) u (Array.mem_toList_iff.1 hu)
  have hBlt : B < w.heap.size := lt_of_heap hBw
  have hRlt : R < w.heap.size := lt_of_heap hRw
  refine wp_loop_rounds 3 ?_
  rw [rounds_succ]
  go_wp2_with (at_builtin; refine wpList_append rfl (.tmp 31) (.tmp 32) 58 rfl 5 i0 _ 1 1 Try.underlying58 hi hz0 hz1 hz2 rfl (by decide) (.slice (some ⟨g, 0, none⟩) 0 cap) 0 [] rfl hO ⟨A, 0, none⟩ 32 32 (digV a).toList rfl hlA hnA hoA (by decide) (by decide) ?_; intro ao2 cap2 w2 hO2 hx2 hf2; replace hx2 := hx.trans hx2 hne; replace hB := hx2.same hBw List.not_mem_nil; replace hR := hx2.same hRw List.not_mem_nil; clear r0 r1; have r1 : w2.cell? ⟨R, 1, none⟩ = some (.slice (some ⟨B, 0, none⟩) 32 32) := (by rw [cellAt hR]; rfl))
  have hnB : ∀ j u, (digV b).toList[j]? = some u → w2.cell? ((⟨B, 0, none⟩ : Addr).add j) = some u := by
    intro j u hj
    rw [add_off', cellAt hB j]
    simpa using hj
  have hne2 : ∀ x ∈ (Value.slice ao2 (0 + 32) cap2).ownBlock.toList, x ∈ ([] : List Nat) ∨ w.heap.size ≤ x := by
    intro k hk
    right
    rcases hf2 k (by simpa using hk) with h | h
    · exact (hne k (by simp [h])).resolve_left List.not_mem_nil
    · have := hx.size; omega
  rw [rounds_succ]
  go_wp2_with (at_builtin; refine wpList_append rfl (.tmp 31) (.tmp 32) 58 rfl 5 i0 _ 1 1 Try.underlying58 hi hz0 hz1 hz2 rfl (by decide) (.slice ao2 (0 + 32) cap2) (0 + 32) _ rfl hO2 ⟨B, 0, none⟩ 32 32 (digV b).toList rfl hlB hnB hoB (by decide) (by decide) ?_; intro ao3 cap3 w3 hO3 hx3 hf3; replace hx3 := hx2.trans hx3 hne2; clear hf3)
  rw [rounds_succ]
  go_wp2
  go_ret
  refine ⟨_, _, rfl, ?_, hx3⟩
  have he : ((digN a ++ digN b).map fun (c : Nat) => Value.int .u8 c) = [] ++ (digV a).toList ++ (digV b).toList := by
    rw [digN_V, digN_V, List.map_append, List.nil_append]
  rw [he]
  exact hO3
/-- NODE -/
theorem heap_drew' {w : World} {b : Nat} {x : Obj} (h : w.heap[b]? = some x) : w.drew.heap[b]? = some x := h
theorem infoSl : (Try.prog.info? 58).map (fun i => (i.zero, i.size, i.bytes)) = some (some (.slice none 0 0), 1, 24) := by kernel_rfl
theorem conv_two {w : World} {ao : Option Addr} {cap : Nat} {a b : ByteArray} (h : Own w.heap 5 1 (.slice ao 64 cap) 64 ((digN a ++ digN b).map fun (c : Nat) => Value.int .u8 c)) : (convert 58 9 (.slice ao 64 cap)).run Try.prog w = .ok (.string (strN (digN a ++ digN b))) w := by
  have hl : (digN a ++ digN b).length = 64 := by rw [List.length_append, digN_len, digN_len]
  exact run_bytes_text 58 9 5 Try.underlying58 Try.underlying5 Try.underlying9 _ (digN a ++ digN b) (by rw [hl]; exact h)
def nodeT (a b : ByteArray) : ByteArray := ⟨#[1]⟩ ++ strN (digN a ++ digN b)
theorem strN_app (a b : ByteArray) : (strN (digN a ++ digN b)).size = 64 := by
  show ((digN a ++ digN b).map UInt8.ofNat).toArray.size = 64
  simp [digN_len]
theorem nodeT_size (a b : ByteArray) : (nodeT a b).size = 65 := by
  unfold nodeT
  rw [ByteArray.size_append, strN_app]; rfl
theorem dignode_any (a b : ByteArray) (w : World) : Calls Try.prog 24 #[.agg (digV a), .agg (digV b)] w fun e w' => ∃ cs, e = .returned (.agg cs) ∧ Hid (cs = digV (nodeT a b)) ∧ Ext [] w w' := by
  obtain ⟨hA, hB, hx0, hz2⟩ := alloc_two' w (.cells (digV a) 35) (.cells (digV b) 35)
  have hR := zeroSum ((w.alloc (.cells (digV a) 35)).alloc (.cells (digV b) 35))
  rw [hz2] at hR
  replace hA := heap_old' _ (.cells #[.int .u8 0, .int .u8 0, .int .u8 0, .int .u8 0, .int .u8 0, .int .u8 0, .int .u8 0, .int .u8 0, .int .u8 0, .int .u8 0, .int .u8 0, .int .u8 0, .int .u8 0, .int .u8 0, .int .u8 0, .int .u8 0, .int .u8 0, .int .u8 0, .int .u8 0, .int .u8 0, .int .u8 0, .int .u8 0, .int .u8 0, .int .u8 0, .int .u8 0, .int .u8 0, .int .u8 0, .int .u8 0, .int .u8 0, .int .u8 0, .int .u8 0, .int .u8 0] 35) hA
  replace hB := heap_old' _ (.cells #[.int .u8 0, .int .u8 0, .int .u8 0, .int .u8 0, .int .u8 0, .int .u8 0, .int .u8 0, .int .u8 0, .int .u8 0, .int .u8 0, .int .u8 0, .int .u8 0, .int .u8 0, .int .u8 0, .int .u8 0, .int .u8 0, .int .u8 0, .int .u8 0, .int .u8 0, .int .u8 0, .int .u8 0, .int .u8 0, .int .u8 0, .int .u8 0, .int .u8 0, .int .u8 0, .int .u8 0, .int .u8 0, .int .u8 0, .int .u8 0, .int .u8 0, .int .u8 0] 35) hB
  replace hx0 := hx0.alloc (.cells #[.int .u8 0, .int .u8 0, .int .u8 0, .int .u8 0, .int .u8 0, .int .u8 0, .int .u8 0, .int .u8 0, .int .u8 0, .int .u8 0, .int .u8 0, .int .u8 0, .int .u8 0, .int .u8 0, .int .u8 0, .int .u8 0, .int .u8 0, .int .u8 0, .int .u8 0, .int .u8 0, .int .u8 0, .int .u8 0, .int .u8 0, .int .u8 0, .int .u8 0, .int .u8 0, .int .u8 0, .int .u8 0, .int .u8 0, .int .u8 0, .int .u8 0, .int .u8 0] 35)
  clear hz2
  have hc1 : ¬ 9223372036854775807 < 1 + 64 := by decide
  have hs1 := strN_app a b
  have HZ := Hs.hid (show (nodeT a b).size ≤ 100000000 by rw [nodeT_size]; decide)
  obtain ⟨i0, hi, hz0, hz1, _⟩ := info_parts infoSl
  go_enter Try.func24, Try.ntmps24
  go_upto_region 1 with fail
  generalize ((w.alloc (.cells (digV a) 35)).alloc (.cells (digV b) 35)).alloc (.cells #[.int .u8 0, .int .u8 0, .int .u8 0, .int .u8 0, .int .u8 0, .int .u8 0, .int .u8 0, .int .u8 0, .int .u8 0, .int .u8 0, .int .u8 0, .int .u8 0, .int .u8 0, .int .u8 0, .int .u8 0, .int .u8 0, .int .u8 0, .int .u8 0, .int .u8 0, .int .u8 0, .int .u8 0, .int .u8 0, .int .u8 0, .int .u8 0, .int .u8 0, .int .u8 0, .int .u8 0, .int .u8 0, .int .u8 0, .int .u8 0, .int .u8 0, .int .u8 0] 35) = W at hA hB hR hx0 ⊢
  obtain ⟨A, hAA⟩ : ∃ A, w.heap.size = A := ⟨_, rfl⟩
  rw [hAA] at hA hB hR ⊢
  have HAA := Hs.hid (show w.heap.size ≤ A from Nat.le_of_eq hAA)
  clear hAA
  refine wp_region_noPanic ?_
  refine wp_region_held_drew (S := (fun w' => w'.heap[A]? = some (.cells (digV a) 35 (0, 0)) ∧ w'.heap[A + 1]? = some (.cells (digV b) 35 (0, 0)))) (by kernel_rfl) ?_ (fun hHeld => ?_)
  · ((try dsimp only); exact ⟨hA, hB⟩)
  refine wpAnyH_take (i := 0) (v := ?_) rfl (by kernel_rfl) (by kernel_rfl) (by kernel_rfl) (fun _ _ _ h => h) (Or.inl ⟨by rfl, ?_⟩) (by assumption) ?_
  rotate_left
  · (intro w hSw; (try dsimp only at hSw); first | (go_simp; done) | (go_simp; with_reducible rfl))
  try simp only [Act.put, List.getElem_toArray, List.getElem_cons_succ, List.getElem_cons_zero, List.setIfInBounds_toArray, List.set_cons_zero, List.set_cons_succ]
  refine wpAnyH_take (i := 1) (v := ?_) rfl (by kernel_rfl) (by kernel_rfl) (by kernel_rfl) (fun _ _ _ h => h) (Or.inl ⟨by rfl, ?_⟩) (by assumption) ?_
  rotate_left
  · (intro w hSw; (try dsimp only at hSw); first | (go_simp; done) | (go_simp; with_reducible rfl))
  try simp only [Act.put, List.getElem_toArray, List.getElem_cons_succ, List.getElem_cons_zero, List.setIfInBounds_toArray, List.set_cons_zero, List.set_cons_succ]
  refine wpAnyH_ready (rs := [2]) (by kernel_rfl) (by simp) ?_
  refine AllReadyH.cons rfl (fun K hK => ?_) AllReadyH.nil
  rw [if_pos (by rfl)]
  (have hSx := hHeld; refine wp_buildSlice 103 58 2 _ rfl #[.slice (some ⟨A, 0, none⟩) 32 32, .slice (some ⟨A + 1, 0, none⟩) 32 32] i0 _ Try.underlying103 hi hz0 (by rw [hz1]; decide) (by rw [hz1]; decide) (by rw [hz1]; first | rfl | kernel_rfl | (simp [Instr.fill, Value.cells, Act.eval, Act.put, Array.range]; done) | (simp [Instr.fill, Value.cells, Act.eval, Act.put]; rfl) | trace_state) ?_)
  refine hK.out _ _ ?_ (fun hHeld => ?_)
  · ((try dsimp only); exact ⟨heap_old' _ _ hHeld.1, heap_old' _ _ hHeld.2⟩)
  clear hK K
  try simp only [Act.put, List.getElem_toArray, List.getElem_cons_succ, List.getElem_cons_zero, List.setIfInBounds_toArray, List.set_cons_zero, List.set_cons_succ]
  refine wpAnyH_ready (rs := [3]) (by kernel_rfl) (by simp) ?_
  refine AllReadyH.cons rfl (fun K hK => ?_) AllReadyH.nil
  go_simp
  (go_at_call 41; refine (concat_any a b A (A + 1) W.heap.size (0, 0) (0, 0) (0, 0) _ hHeld.1 hHeld.2 (heap_new _ _)).mono ?_; rintro e w1 ⟨ao, cap, rfl, hO, hx1⟩; have hC1 := hx1.same (heap_old' _ _ (heap_drew' hR)) List.not_mem_nil)
  go_wp2_with fail
  refine hK.out _ _ ?_ (fun hHeld => ?_)
  · ((try dsimp only); exact ⟨hx1.same hHeld.1 List.not_mem_nil, hx1.same hHeld.2 List.not_mem_nil⟩)
  clear hK K
  try simp only [Act.put, List.getElem_toArray, List.getElem_cons_succ, List.getElem_cons_zero, List.setIfInBounds_toArray, List.set_cons_zero, List.set_cons_succ]
  refine wpAnyH_ready (rs := [4]) (by kernel_rfl) (by simp) ?_
  refine AllReadyH.cons rfl (fun K hK => ?_) AllReadyH.nil
  rw [if_pos (by rfl)]
  (have hq := conv_two hO; go_simp)
  refine hK.out _ _ ?_ (fun hHeld => ?_)
  · ((try dsimp only); exact hHeld)
  clear hK K
  try simp only [Act.put, List.getElem_toArray, List.getElem_cons_succ, List.getElem_cons_zero, List.setIfInBounds_toArray, List.set_cons_zero, List.set_cons_succ]
  refine wpAnyH_take (i := 5) (v := ?_) rfl (by kernel_rfl) (by kernel_rfl) (by kernel_rfl) (fun _ _ _ h => h) (Or.inl ⟨by rfl, ?_⟩) (by assumption) ?_
  rotate_left
  · (intro w hSw; (try dsimp only at hSw); first | (go_simp; done) | (go_simp; with_reducible rfl))
  try simp only [Act.put, List.getElem_toArray, List.getElem_cons_succ, List.getElem_cons_zero, List.setIfInBounds_toArray, List.set_cons_zero, List.set_cons_succ]
  refine wpAnyH_ready (rs := [6]) (by kernel_rfl) (by simp) ?_
  refine AllReadyH.cons rfl (fun K hK => ?_) AllReadyH.nil
  go_simp
  (go_at_call 12; refine (of_any _ HZ.out _).mono ?_; rintro e w2 ⟨cs, rfl, hcs, hx2⟩; have hC2 := hx2.same hC1 List.not_mem_nil; have his : Hid (IsSum cs) := Hs.hid (by rw [hcs.out]; exact isSum_digV _))
  go_wp2_with fail
  refine hK.out _ _ ?_ (fun hHeld => ?_)
  · ((try dsimp only); exact ⟨hx2.same hHeld.1 List.not_mem_nil, hx2.same hHeld.2 List.not_mem_nil⟩)
  clear hK K
  try simp only [Act.put, List.getElem_toArray, List.getElem_cons_succ, List.getElem_cons_zero, List.setIfInBounds_toArray, List.set_cons_zero, List.set_cons_succ]
  refine wpAnyH_ready (rs := [7]) (by kernel_rfl) (by simp) ?_
  refine AllReadyH.cons rfl (fun K hK => ?_) AllReadyH.nil
  rw [if_pos (by rfl)]
  (refine wp_store_row 35 _ _ rfl _ cs rfl rfl _ _ hC2 his.out.info his.out.zero his.out.2 ?_)
  refine hK.out _ _ ?_ (fun hHeld => ?_)
  · ((try dsimp only); (rw [setRow_other _ _ _ _ (by omega), setRow_other _ _ _ _ (by omega)]; exact hHeld))
  clear hK K
  try simp only [Act.put, List.getElem_toArray, List.getElem_cons_succ, List.getElem_cons_zero, List.setIfInBounds_toArray, List.set_cons_zero, List.set_cons_succ]
  refine wpAnyH_done (by kernel_rfl) ?_ _
  refine NoPanic.normal ?_
  go_wp2
  have hxf : Ext [] w (w2.setRow (A + 1 + 1) cs) := (((hx0.drew.alloc _).trans0 hx1).trans0 hx2).trans (setRow_ext (A + 1 + 1) _) (fun g hg => .inr (by simp at hg; subst hg; have := HAA.out; omega))
  refine bodyPost_ret (v := .agg cs) (results_cell_row (P := Try.prog) Try.results24 _ _ (A + 1 + 1) _ _ _ _ rfl (setRow_heap _ _ _ _ _ _ hC2) Try.underlying35 rfl (by rw [his.out.1]; exact infoSum)) rfl ⟨_, rfl, hcs, hxf⟩
end Go.Proofs.Ytjicjadibaomkaa
set_option linter.unusedSimpArgs false
set_option linter.unusedVariables false
set_option maxHeartbeats 2000000
set_option maxRecDepth 100000
namespace Go.Proofs.Ytjicjadibaomkaa
open Go.RowKit Go.Hs Go.Dg

/-- Any sum: 32 bytes. -/
structure S32 where
  l : List Nat
  len : l.length = 32
  lt : ∀ c ∈ l, c < 256
theorem S32.ext' {x y : S32} (h : x.l = y.l) : x = y := by cases x; cases y; cases h; rfl
instance : DecidableEq S32 := fun x y => if h : x.l = y.l then isTrue (S32.ext' h) else isFalse fun e => h (by rw [e])
def S32.V (x : S32) : Array Value := (x.l.map fun (c : Nat) => Value.int .u8 c).toArray
/-- As a text. -/
def S32.s (x : S32) : ByteArray := strN x.l
theorem S32.size (x : S32) : x.V.size = 32 := by simp [S32.V, x.len]
theorem S32.ssize (x : S32) : x.s.size = 32 := by
  show (x.l.map UInt8.ofNat).toArray.size = 32
  simp [x.len]
theorem S32.one (x : S32) : x.V.all (·.oneCell') = true := by
  rw [Array.all_eq_true']
  intro u hu
  simp only [S32.V, List.mem_toArray, List.mem_map] at hu
  obtain ⟨c, _, rfl⟩ := hu
  rfl
theorem S32.s_inj {x y : S32} (h : x.s = y.s) : x = y := by
  apply S32.ext'
  have h1 : x.l.map UInt8.ofNat = y.l.map UInt8.ofNat := by
    have := congrArg (fun b : ByteArray => b.data.toList) h
    simpa [S32.s, strN] using this
  apply List.ext_getElem?
  intro i
  have h2 := congrArg (·[i]?) h1
  simp only [List.getElem?_map] at h2
  cases hx : x.l[i]? with
  | none => rw [hx] at h2; cases hy : y.l[i]? with
    | none => rfl
    | some b => rw [hy] at h2; simp at h2
  | some a => rw [hx] at h2; cases hy : y.l[i]? with
    | none => rw [hy] at h2; simp at h2
    | some b =>
      rw [hy] at h2
      have ha := x.lt a (List.mem_of_getElem? hx)
      have hb := y.lt b (List.mem_of_getElem? hy)
      have h3 := congrArg UInt8.toNat (Option.some.inj h2)
      simp [UInt8.toNat_ofNat'] at h3
      rw [Nat.mod_eq_of_lt ha, Nat.mod_eq_of_lt hb] at h3
      rw [h3]
theorem digN_lt (t : ByteArray) : ∀ c ∈ digN t, c < 256 := by
  intro c hc
  simp only [digN, List.mem_map] at hc
  obtain ⟨j, _, rfl⟩ := hc
  have h1 : sumByte (sumF t) j < 256 := by unfold sumByte; exact Int.emod_lt_of_pos _ (by decide)
  have h2 : 0 ≤ sumByte (sumF t) j := by unfold sumByte; exact Int.emod_nonneg _ (by decide)
  omega
/-- The sum of a text. -/
def dig (t : ByteArray) : S32 := ⟨digN t, digN_len t, digN_lt t⟩
theorem dig_V (t : ByteArray) : digV t = (dig t).V := digN_V t
theorem dig_s (t : ByteArray) : (dig t).s = strN (digN t) := rfl
theorem S32.bytes (x : S32) : x.V = bytesL (fun j => ((x.l.getD j 0 : Nat) : Int)) := by
  apply Array.ext_getElem?
  intro i
  by_cases h : i < 32
  · rw [bytesL_get _ h]
    have hl : i < x.l.length := by rw [x.len]; exact h
    simp [S32.V, List.getD, hl]
  · rw [Array.getElem?_eq_none (by rw [x.size]; omega), Array.getElem?_eq_none (by rw [bytesL_size]; omega)]
theorem run_eq_V (x y : S32) (w : World) : (Op.equal 35 (.agg x.V) (.agg y.V)).run Try.prog w = .ok (decide (x = y)) w := by
  rw [x.bytes, y.bytes, run_eq_sum]
  congr 1
  rw [Bool.eq_iff_iff, List.all_eq_true, decide_eq_true_iff]
  constructor
  · intro h
    apply S32.ext'
    apply List.ext_getElem?
    intro i
    by_cases hi : i < 32
    · have := h i (by simpa using hi)
      have h1 : i < x.l.length := by rw [x.len]; exact hi
      have h2 : i < y.l.length := by rw [y.len]; exact hi
      simp [List.getD, h1, h2] at this
      rw [List.getElem?_eq_getElem h1, List.getElem?_eq_getElem h2]
      congr 1; omega
    · rw [List.getElem?_eq_none (by rw [x.len]; omega), List.getElem?_eq_none (by rw [y.len]; omega)]
  · rintro rfl j _
    simp
/-- A sum as bytes. -/
theorem conv_V {w : World} {A : Nat} {x : S32} {fr : Nat × Nat} (h : w.heap[A]? = some (.cells x.V 35 fr)) : (convert 58 9 (.slice (some ⟨A, 0, none⟩) 32 32)).run Try.prog w = .ok (.string x.s) w := by
  have hc := run_convert_bytes_arg (P := Try.prog) w 58 5 Try.underlying58 Try.underlying5 A 0 32 32 (x.l.map fun (c : Nat) => (c : Int)) (by simp [x.len]) (fun i hi => by
    have hi' : i < x.l.length := by rw [x.len]; exact hi
    rw [Nat.zero_add, cellAt h i, S32.V]
    simp [List.getD, hi']) 9 Try.underlying9
  rw [hc]
  congr 2
  unfold S32.s strN strOfNums
  rw [List.map_map]
  rfl
/-- The node of two sums. -/
def node2 (a b : ByteArray) : ByteArray := ⟨#[1]⟩ ++ a ++ b
theorem node2_def (a b : ByteArray) : node2 a b = ⟨#[1]⟩ ++ a ++ b := rfl
theorem node2_size (a b : ByteArray) : (node2 a b).size = 1 + a.size + b.size := by rw [node2_def, ByteArray.size_append, ByteArray.size_append]; rfl
def leaf2 (a : ByteArray) : ByteArray := ⟨#[0]⟩ ++ a
theorem leaf2_def (a : ByteArray) : leaf2 a = ⟨#[0]⟩ ++ a := rfl
theorem leaf2_size (a : ByteArray) : (leaf2 a).size = 1 + a.size := by rw [leaf2_def, ByteArray.size_append]; rfl
def nodeS (x y : S32) : S32 := dig (node2 x.s y.s)
def zeroS : S32 := ⟨List.replicate 32 0, by simp, by simp⟩
end Go.Proofs.Ytjicjadibaomkaa
set_option linter.unusedSimpArgs false
set_option linter.unusedVariables false
set_option maxHeartbeats 1000000
set_option maxRecDepth 100000
namespace Go.Proofs.Ytjicjadibaomkaa
open Go.RowKit Go.Hs Go.Dg

/-- A slice of sums. -/
def Sums32 (h : Array Obj) (ao : Option Addr) (cap : Nat) (xs : List S32) : Prop :=
  xs.length ≤ cap ∧ (cap : Int) ≤ 9223372036854775807 ∧ (xs = [] ∨ ∃ b o cs t fr, ao = some ⟨b, o, none⟩ ∧ h[b]? = some (.cells cs t fr) ∧ ∀ (k : Nat) x, xs[k]? = some x → ∀ j v, x.V.toList[j]? = some v → cs[o + k * 32 + j]? = some v)
theorem Sums32.ext {w w' : World} {F : List Nat} {ao : Option Addr} {cap : Nat} {xs : List S32} (h : Sums32 w.heap ao cap xs) (x : Ext F w w') (hF : ∀ b ∈ F, w.heap.size ≤ b) : Sums32 w'.heap ao cap xs := by
  obtain ⟨h1, h2, rfl | ⟨b, o, cs, t, fr, e, hb, hk⟩⟩ := h
  · exact ⟨h1, h2, .inl rfl⟩
  · exact ⟨h1, h2, .inr ⟨b, o, cs, t, fr, e, x.same hb (fun hm => by have := hF b hm; have := lt_of_heap hb; omega), hk⟩⟩
theorem Sums32.at {w : World} {ao : Option Addr} {cap : Nat} {xs : List S32} (h : Sums32 w.heap ao cap xs) {k : Nat} {x : S32} (hk : xs[k]? = some x) :
    ∃ b o, ao = some ⟨b, o, none⟩ ∧ b < w.heap.size ∧ w.rangeAt b (o + k * 32) x.V.toList := by
  obtain ⟨h1, h2, rfl | ⟨b, o, cs, t, fr, e, hb, hh⟩⟩ := h
  · simp at hk
  · exact ⟨b, o, e, lt_of_heap hb, fun j v hj => by rw [cellAt hb]; exact hh k x hk j v hj⟩
theorem Sums32.tail {h : Array Obj} {b o cap : Nat} {x : S32} {zs : List S32} (t : Sums32 h (some ⟨b, o, none⟩) cap (x :: zs)) : Sums32 h (some ⟨b, o + 32, none⟩) (cap - 1) zs := by
  obtain ⟨h1, h2, h3 | ⟨b', o', cs, ty, fr, e, hb, hh⟩⟩ := t
  · simp at h3
  · injection e with e; injection e with e1 e2
    subst e1; subst e2
    refine ⟨by simp at h1; omega, by omega, .inr ⟨b, o + 32, cs, ty, fr, rfl, hb, fun k y hy j v hj => ?_⟩⟩
    have := hh (k + 1) y (by simpa using hy) j v hj
    rwa [show o + (k + 1) * 32 + j = o + 32 + k * 32 + j by omega] at this
theorem Sums32.init {h : Array Obj} {ao : Option Addr} {cap : Nat} {xs : List S32} {x : S32} (t : Sums32 h ao cap (xs ++ [x])) : Sums32 h ao cap xs := by
  obtain ⟨h1, h2, h3 | ⟨b, o, cs, ty, fr, e, hb, hk⟩⟩ := t
  · simp at h3
  · refine ⟨by simp at h1; omega, h2, .inr ⟨b, o, cs, ty, fr, e, hb, fun k y hy => hk k y ?_⟩⟩
    rw [List.getElem?_append_left (List.getElem?_eq_some_iff.1 hy).1]; exact hy
end Go.Proofs.Ytjicjadibaomkaa
set_option linter.unusedSimpArgs false
set_option linter.unusedVariables false
set_option maxHeartbeats 2000000
set_option maxRecDepth 100000
namespace Go.Proofs.Ytjicjadibaomkaa
open Go.RowKit Go.Hs

theorem bitLenAux_log : ∀ (f x : Nat), x ≠ 0 → x < 2 ^ f → Lib.bitLenAux f x = x.log2 + 1
  | 0, x, h0, h => by simp at h; omega
  | f + 1, x, h0, h => by
    simp only [Lib.bitLenAux, h0, if_false]
    by_cases h1 : x < 2
    · have : x = 1 := by omega
      subst this
      have hl : Nat.log2 1 = 0 := by decide +kernel
      cases f <;> simp [Lib.bitLenAux, hl]
    · rw [bitLenAux_log f (x / 2) (by omega) (by rw [Nat.pow_succ] at h; omega), Nat.log2_def x, if_pos (by omega)]
      omega
/-- The greatest power of two below n. -/
def halfN (n : Nat) : Nat := 2 ^ (n - 1).log2
theorem bitLen_log {x : Nat} (h0 : x ≠ 0) (h : x < 2 ^ 64) : Lib.bitLen x = x.log2 + 1 := bitLenAux_log 64 x h0 h
theorem halfN_lt {n : Nat} (h : 2 ≤ n) : halfN n < n := by
  have := Nat.log2_self_le (n := n - 1) (by omega)
  unfold halfN; omega
theorem halfN_two {n : Nat} (h : 2 ≤ n) : n ≤ 2 * halfN n := by
  have := Nat.lt_log2_self (n := n - 1)
  unfold halfN
  rw [Nat.pow_succ] at this; omega
theorem halfN_pos (n : Nat) : 0 < halfN n := Nat.two_pow_pos _
end Go.Proofs.Ytjicjadibaomkaa
set_option linter.unusedSimpArgs false
set_option linter.unusedVariables false
set_option maxHeartbeats 2000000
set_option maxRecDepth 100000
namespace Go.Proofs.Ytjicjadibaomkaa

theorem halfN_le {n h : Nat} (h2 : 2 ^ h ≤ n - 1) (h3 : n - 1 < 2 ^ (h + 1)) : halfN n = 2 ^ h := by
  have h0 : n - 1 ≠ 0 := by have := Nat.two_pow_pos h; omega
  have : (n - 1).log2 = h := by
    apply Nat.le_antisymm
    · have := (Nat.log2_lt h0).2 h3; omega
    · exact (Nat.le_log2 h0).2 h2
  unfold halfN; rw [this]
theorem halfN_self (h : Nat) : halfN (2 ^ (h + 1)) = 2 ^ h := by
  have := Nat.two_pow_pos h
  apply halfN_le <;> (have : (2:Nat) ^ (h + 1) = 2 * 2 ^ h := by rw [Nat.pow_succ]; omega) <;> omega
/-- The sides of a leaf's sums, from within out: true where the sum stands on the left. -/
def dirs (i n : Nat) : List Bool :=
  if h : n ≤ 1 then [] else if i < halfN n then dirs i (halfN n) ++ [false] else dirs (i - halfN n) (n - halfN n) ++ [true]
termination_by n
decreasing_by
  · exact halfN_lt (by omega)
  · have := halfN_pos n; omega
/-- Those of the first m among n, behind the first sum. -/
def dirsB (m n : Nat) : List Bool :=
  if h : n ≤ 1 ∨ m = n then [] else if m ≤ halfN n then dirsB m (halfN n) ++ [false] else dirsB (m - halfN n) (n - halfN n) ++ [true]
termination_by n
decreasing_by
  · exact halfN_lt (by omega)
  · have := halfN_pos n; omega
/-- Whether the elder root itself stands first. -/
def firstB (m n : Nat) : Bool :=
  if h : n ≤ 1 ∨ m = n then true else if m ≤ halfN n then firstB m (halfN n) else false
termination_by n
decreasing_by
  · exact halfN_lt (by omega)
def climbE (a e : Nat) : Nat × Nat := if h : a % 2 = 0 ∧ a ≠ 0 then climbE (a / 2) (e / 2) else (a, e)
termination_by a
decreasing_by omega
def climbO (a e : Nat) : Nat × Nat := if h : a % 2 = 1 then climbO (a / 2) (e / 2) else (a, e)
termination_by a
decreasing_by omega
def sideW (a e : Nat) : Bool := decide (a % 2 = 1 ∨ a = e)
def nextP (a e : Nat) : Nat × Nat := if sideW a e = true then climbE a e else (a, e)
theorem climbE_le (a e : Nat) : (climbE a e).2 ≤ e := by
  induction a using Nat.strongRecOn generalizing e with
  | _ a ih =>
    rw [climbE]; split
    · next h => have := ih (a / 2) (by omega) (e / 2); omega
    · exact Nat.le_refl _
theorem nextP_le (a e : Nat) : (nextP a e).2 ≤ e := by
  unfold nextP; split
  · exact climbE_le a e
  · exact Nat.le_refl _
def ways (a e : Nat) : List Bool :=
  if h : e = 0 then [] else sideW a e :: ways ((nextP a e).1 / 2) ((nextP a e).2 / 2)
termination_by e
decreasing_by have := nextP_le a e; omega
theorem ways_zero (a : Nat) : ways a 0 = [] := by rw [ways]; rfl
theorem ways_pos {a e : Nat} (h : e ≠ 0) : ways a e = sideW a e :: ways ((nextP a e).1 / 2) ((nextP a e).2 / 2) := by
  rw [ways, dif_neg h]
theorem climbE_odd {a e : Nat} (h : a % 2 = 1) : climbE a e = (a, e) := by
  rw [climbE, dif_neg (by omega)]
theorem ways_odd {a e : Nat} (h : e ≠ 0) (ho : a % 2 = 1) : ways a e = true :: ways (a / 2) (e / 2) := by
  have hs : sideW a e = true := by simp [sideW, ho]
  rw [ways_pos h]; unfold nextP; rw [if_pos hs, climbE_odd ho, hs]
theorem ways_lt {a e : Nat} (h : e ≠ 0) (ho : a % 2 = 0) (hne : a ≠ e) : ways a e = false :: ways (a / 2) (e / 2) := by
  have hs : sideW a e = false := by simp [sideW, ho, hne]
  rw [ways_pos h]; unfold nextP; rw [hs]; rfl
theorem ways_even {a : Nat} (h : a ≠ 0) (ho : a % 2 = 0) : ways a a = ways (a / 2) (a / 2) := by
  have hs : sideW a a = true := by simp [sideW]
  have hs' : sideW (a / 2) (a / 2) = true := by simp [sideW]
  rw [ways_pos h, ways_pos (a := a / 2) (by omega)]; unfold nextP; rw [if_pos hs, if_pos hs', hs, hs', climbE, dif_pos ⟨ho, h⟩]
theorem div_pow_succ (e h : Nat) : e / 2 / 2 ^ h = e / 2 ^ (h + 1) := by
  rw [Nat.div_div_eq_div_mul, Nat.pow_succ, Nat.mul_comm]
theorem ways_left : ∀ (h a e : Nat), a < 2 ^ h → e / 2 ^ h = 1 → ways a e = ways a (2 ^ h - 1) ++ [false]
  | 0, a, e, h1, h2 => by
    have ha : a = 0 := by simpa using h1
    have he : e = 1 := by simpa using h2
    subst ha; subst he
    rw [ways_lt (by omega) rfl (by omega)]
    show false :: ways 0 0 = ways 0 0 ++ [false]
    rw [ways_zero]; rfl
  | h + 1, a, e, h1, h2 => by
    have hp := Nat.two_pow_pos h
    have hs : (2 : Nat) ^ (h + 1) = 2 * 2 ^ h := by rw [Nat.pow_succ]; omega
    have he : 2 ^ (h + 1) ≤ e := by
      apply Nat.le_of_not_lt; intro hh; rw [Nat.div_eq_of_lt hh] at h2; omega
    have IH := ways_left h (a / 2) (e / 2) (by omega) (by rw [div_pow_succ]; exact h2)
    have hE : (2 ^ (h + 1) - 1) / 2 = 2 ^ h - 1 := by omega
    rcases Nat.mod_two_eq_zero_or_one a with ho | ho
    · rw [ways_lt (by omega) ho (by omega), ways_lt (e := 2 ^ (h + 1) - 1) (by omega) ho (by omega), IH, hE]; rfl
    · rw [ways_odd (by omega) ho, ways_odd (e := 2 ^ (h + 1) - 1) (by omega) ho, IH, hE]; rfl
theorem ways_pow : ∀ h : Nat, ways (2 ^ h) (2 ^ h) = [true]
  | 0 => by rw [show (2:Nat) ^ 0 = 1 from rfl, ways_odd (by omega) rfl, ways_zero]
  | h + 1 => by
    have hp := Nat.two_pow_pos h
    have hs : (2 : Nat) ^ (h + 1) = 2 * 2 ^ h := by rw [Nat.pow_succ]; omega
    rw [ways_even (by omega) (by omega), show 2 ^ (h + 1) / 2 = 2 ^ h by omega, ways_pow h]
theorem ways_right : ∀ (h a e : Nat), a ≤ e → e < 2 ^ h → ways (2 ^ h + a) (2 ^ h + e) = ways a e ++ [true]
  | 0, a, e, h1, h2 => by
    have he : e = 0 := by simpa using h2
    have ha : a = 0 := by omega
    subst ha; subst he
    rw [ways_zero]; exact ways_pow 0
  | h + 1, a, e, h1, h2 => by
    have hp := Nat.two_pow_pos h
    have hs : (2 : Nat) ^ (h + 1) = 2 * 2 ^ h := by rw [Nat.pow_succ]; omega
    rcases Nat.eq_zero_or_pos e with he | he
    · have ha : a = 0 := by omega
      subst ha; subst he
      rw [ways_zero]; exact ways_pow (h + 1)
    have IH := ways_right h (a / 2) (e / 2) (by omega) (by omega)
    have e1 : (2 ^ (h + 1) + a) / 2 = 2 ^ h + a / 2 := by omega
    have e2 : (2 ^ (h + 1) + e) / 2 = 2 ^ h + e / 2 := by omega
    rcases Nat.mod_two_eq_zero_or_one a with ho | ho
    · by_cases hae : a = e
      · subst hae
        rw [ways_even (a := 2 ^ (h + 1) + a) (by omega) (by omega), ways_even (a := a) (by omega) ho, e1, IH]
      · rw [ways_lt (a := 2 ^ (h + 1) + a) (by omega) (by omega) (by omega), ways_lt (a := a) (by omega) ho hae, e1, e2, IH]; rfl
    · rw [ways_odd (a := 2 ^ (h + 1) + a) (by omega) (by omega), ways_odd (a := a) (by omega) ho, e1, e2, IH]; rfl
/-- n's half, as a power. -/
theorem half_pow {n : Nat} (h2 : 2 ≤ n) : ∃ h, halfN n = 2 ^ h ∧ 2 ^ h ≤ n - 1 ∧ n - 1 < 2 ^ (h + 1) :=
  ⟨(n - 1).log2, rfl, Nat.log2_self_le (by omega), Nat.lt_log2_self⟩
theorem div_one {e h : Nat} (h2 : 2 ^ h ≤ e) (h3 : e < 2 ^ (h + 1)) : e / 2 ^ h = 1 := by
  have hs : (2 : Nat) ^ (h + 1) = 2 * 2 ^ h := by rw [Nat.pow_succ]; omega
  have hp := Nat.two_pow_pos h
  exact Nat.div_eq_of_lt_le (by omega) (by omega)
theorem ways_dirs (n i : Nat) (hi : i < n) : ways i (n - 1) = dirs i n := by
  induction n using Nat.strongRecOn generalizing i with
  | _ n ih =>
    by_cases h1 : n ≤ 1
    · rw [dirs, dif_pos h1, show n - 1 = 0 by omega, ways_zero]
    · obtain ⟨h, e1, e2, e3⟩ := half_pow (n := n) (by omega)
      have hs : (2 : Nat) ^ (h + 1) = 2 * 2 ^ h := by rw [Nat.pow_succ]; omega
      have hp := Nat.two_pow_pos h
      rw [dirs, dif_neg h1, e1]
      split
      · next hlt => rw [ways_left h i (n - 1) hlt (div_one e2 e3), ih (2 ^ h) (by omega) i hlt]
      · next hlt =>
        have := ways_right h (i - 2 ^ h) (n - 1 - 2 ^ h) (by omega) (by omega)
        rw [show 2 ^ h + (i - 2 ^ h) = i by omega, show 2 ^ h + (n - 1 - 2 ^ h) = n - 1 by omega] at this
        rw [this, ← ih (n - 2 ^ h) (by omega) (i - 2 ^ h) (by omega), show n - 2 ^ h - 1 = n - 1 - 2 ^ h by omega]
/-- How many ones a number ends in. -/
def ones (a : Nat) : Nat := if h : a % 2 = 1 then ones (a / 2) + 1 else 0
termination_by a
decreasing_by omega
theorem climbO_ones (a e : Nat) : climbO a e = (a / 2 ^ ones a, e / 2 ^ ones a) := by
  induction a using Nat.strongRecOn generalizing e with
  | _ a ih =>
    by_cases h : a % 2 = 1
    · have e1 : ones a = ones (a / 2) + 1 := by rw [ones, dif_pos h]
      rw [climbO, dif_pos h, ih (a / 2) (by omega), e1, div_pow_succ, div_pow_succ]
    · rw [climbO, dif_neg h, ones, dif_neg h]; simp
theorem ones_all : ∀ h : Nat, ones (2 ^ h - 1) = h
  | 0 => by rw [ones]; simp
  | h + 1 => by
    have hs : (2 : Nat) ^ (h + 1) = 2 * 2 ^ h := by rw [Nat.pow_succ]; omega
    have hp := Nat.two_pow_pos h
    rw [ones, dif_pos (by omega), show (2 ^ (h + 1) - 1) / 2 = 2 ^ h - 1 by omega, ones_all h]
theorem ones_lt : ∀ (h a : Nat), a < 2 ^ h - 1 → ones a < h
  | 0, a, h1 => by simp at h1
  | h + 1, a, h1 => by
    have hs : (2 : Nat) ^ (h + 1) = 2 * 2 ^ h := by rw [Nat.pow_succ]; omega
    rw [ones]; split
    · next ho => have := ones_lt h (a / 2) (by omega); omega
    · omega
theorem ones_add : ∀ (h a : Nat), ones a < h → ones (2 ^ h + a) = ones a
  | 0, a, h1 => absurd h1 (by omega)
  | h + 1, a, h1 => by
    have hs : (2 : Nat) ^ (h + 1) = 2 * 2 ^ h := by rw [Nat.pow_succ]; omega
    by_cases ho : a % 2 = 1
    · have e1 : ones a = ones (a / 2) + 1 := by rw [ones, dif_pos ho]
      have e2 : ones (2 ^ (h + 1) + a) = ones ((2 ^ (h + 1) + a) / 2) + 1 := by rw [ones, dif_pos (by omega)]
      rw [e1, e2, show (2 ^ (h + 1) + a) / 2 = 2 ^ h + a / 2 by omega, ones_add h (a / 2) (by omega)]
    · have e1 : ones a = 0 := by rw [ones, dif_neg ho]
      have e2 : ones (2 ^ (h + 1) + a) = 0 := by rw [ones, dif_neg (by omega)]
      rw [e1, e2]
theorem div_pow_sub {h t : Nat} (ht : t ≤ h) : 2 ^ h / 2 ^ t = 2 ^ (h - t) := Nat.pow_div ht (by omega)
theorem pow_split {h t : Nat} (ht : t ≤ h) : (2 : Nat) ^ h = 2 ^ (h - t) * 2 ^ t := by rw [← Nat.pow_add]; congr 1; omega
theorem add_div_pow {h t a : Nat} (ht : t ≤ h) : (2 ^ h + a) / 2 ^ t = 2 ^ (h - t) + a / 2 ^ t := by
  rw [pow_split ht, Nat.add_comm, Nat.add_mul_div_right _ _ (Nat.two_pow_pos t), Nat.add_comm]
theorem ones_div {h t : Nat} (ht : t ≤ h) : (2 ^ h - 1) / 2 ^ t = 2 ^ (h - t) - 1 := by
  have hp := Nat.two_pow_pos t
  have hq := Nat.two_pow_pos (h - t)
  have e := pow_split ht
  apply Nat.div_eq_of_lt_le
  · rw [e, Nat.sub_mul]; omega
  · rw [show (2 ^ (h - t) - 1 + 1 : Nat) = 2 ^ (h - t) by omega, ← e]
    have := Nat.two_pow_pos h; omega
theorem climbO_dirsB (n m : Nat) (h1 : 1 ≤ m) (hm : m < n) :
    ways (climbO (m - 1) (n - 1)).1 (climbO (m - 1) (n - 1)).2 = dirsB m n ∧ (decide ((climbO (m - 1) (n - 1)).1 = 0)) = firstB m n ∧ (climbO (m - 1) (n - 1)).1 ≤ (climbO (m - 1) (n - 1)).2 ∧ (climbO (m - 1) (n - 1)).2 ≤ n := by
  induction n using Nat.strongRecOn generalizing m with
  | _ n ih =>
    obtain ⟨h, e1, e2, e3⟩ := half_pow (n := n) (by omega)
    have hs : (2 : Nat) ^ (h + 1) = 2 * 2 ^ h := by rw [Nat.pow_succ]; omega
    have hp := Nat.two_pow_pos h
    rw [dirsB, dif_neg (by omega), firstB, dif_neg (by omega), e1]
    rw [climbO_ones]
    refine ⟨?_, ?_, ?_, ?_⟩
    · split
      · next hle =>
        by_cases heq : m = 2 ^ h
        · have hB : dirsB m (2 ^ h) = [] := by rw [dirsB, dif_pos (.inr heq)]
          rw [hB, heq, ones_all h, div_one e2 e3, Nat.div_eq_of_lt (by omega : 2 ^ h - 1 < 2 ^ h), show ways (0, 1).1 (0, 1).2 = ways 0 1 from rfl, ways_lt (by omega) rfl (by omega), show 1 / 2 = 0 from rfl, ways_zero]; rfl
        · have IH := (ih (2 ^ h) (by omega) m h1 (by omega)).1
          have ho := ones_lt h (m - 1) (by omega)
          rw [climbO_ones] at IH
          rw [← IH, ones_div (Nat.le_of_lt ho)]
          refine ways_left (h - ones (m - 1)) _ _ ?_ ?_
          · rw [Nat.div_lt_iff_lt_mul (Nat.two_pow_pos _), ← pow_split (Nat.le_of_lt ho)]; omega
          · rw [Nat.div_div_eq_div_mul, Nat.mul_comm, ← pow_split (Nat.le_of_lt ho)]; exact div_one e2 e3
      · next hle =>
        have IH := (ih (n - 2 ^ h) (by omega) (m - 2 ^ h) (by omega) (by omega)).1
        have ho := ones_lt h (m - 2 ^ h - 1) (by omega)
        have e4 : ones (m - 1) = ones (m - 2 ^ h - 1) := by
          have := ones_add h (m - 2 ^ h - 1) ho
          rwa [show 2 ^ h + (m - 2 ^ h - 1) = m - 1 by omega] at this
        rw [climbO_ones] at IH
        rw [← IH, e4]
        have a1 : (m - 1) / 2 ^ ones (m - 2 ^ h - 1) = 2 ^ (h - ones (m - 2 ^ h - 1)) + (m - 2 ^ h - 1) / 2 ^ ones (m - 2 ^ h - 1) := by
          rw [← add_div_pow (Nat.le_of_lt ho)]; congr 1; omega
        have a2 : (n - 1) / 2 ^ ones (m - 2 ^ h - 1) = 2 ^ (h - ones (m - 2 ^ h - 1)) + (n - 2 ^ h - 1) / 2 ^ ones (m - 2 ^ h - 1) := by
          rw [← add_div_pow (Nat.le_of_lt ho)]; congr 1; omega
        show ways ((m - 1) / 2 ^ ones (m - 2 ^ h - 1)) ((n - 1) / 2 ^ ones (m - 2 ^ h - 1)) = _
        rw [a1, a2]
        refine ways_right _ _ _ (Nat.div_le_div_right (by omega)) ?_
        rw [Nat.div_lt_iff_lt_mul (Nat.two_pow_pos _), ← pow_split (Nat.le_of_lt ho)]; omega
    · split
      · next hle =>
        by_cases heq : m = 2 ^ h
        · have hB : firstB m (2 ^ h) = true := by rw [firstB, dif_pos (.inr heq)]
          rw [hB, heq, ones_all h, Nat.div_eq_of_lt (by omega : 2 ^ h - 1 < 2 ^ h)]; rfl
        · have IH := (ih (2 ^ h) (by omega) m h1 (by omega)).2.1
          rw [climbO_ones] at IH
          rw [← IH]
      · next hle =>
        have ho := ones_lt h (m - 2 ^ h - 1) (by omega)
        have e4 : ones (m - 1) = ones (m - 2 ^ h - 1) := by
          have := ones_add h (m - 2 ^ h - 1) ho
          rwa [show 2 ^ h + (m - 2 ^ h - 1) = m - 1 by omega] at this
        rw [e4]
        have a1 : (m - 1) / 2 ^ ones (m - 2 ^ h - 1) = 2 ^ (h - ones (m - 2 ^ h - 1)) + (m - 2 ^ h - 1) / 2 ^ ones (m - 2 ^ h - 1) := by
          rw [← add_div_pow (Nat.le_of_lt ho)]; congr 1; omega
        have := Nat.two_pow_pos (h - ones (m - 2 ^ h - 1))
        simp only [decide_eq_false_iff_not]
        show ¬ (m - 1) / 2 ^ ones (m - 2 ^ h - 1) = 0
        rw [a1]
        exact Nat.ne_of_gt (Nat.lt_of_lt_of_le this (Nat.le_add_right _ _))
    · exact Nat.div_le_div_right (by omega)
    · exact Nat.le_trans (Nat.div_le_self _ _) (by omega)

section
variable {B : Type} (N : B → B → B)
def nodeD (d : Bool) (s x : B) : B := if d then N s x else N x s
def foldU : List Bool → B → List B → B
  | d :: ds, x, s :: ss => foldU ds (nodeD N d s x) ss
  | _, x, _ => x
/-- Of the elder root: only what stands on the left counts. -/
def foldO : List Bool → B → List B → B
  | d :: ds, x, s :: ss => foldO ds (if d then N s x else x) ss
  | _, x, _ => x
theorem foldU_snoc : ∀ (ds : List Bool) (x : B) (ss : List B) (d : Bool) (s : B), ds.length = ss.length → foldU N (ds ++ [d]) x (ss ++ [s]) = nodeD N d s (foldU N ds x ss)
  | [], x, [], d, s, _ => rfl
  | [], x, t :: ss, d, s, h => by simp at h
  | c :: ds, x, [], d, s, h => by simp at h
  | c :: ds, x, t :: ss, d, s, h => by
    show foldU N (ds ++ [d]) _ (ss ++ [s]) = nodeD N d s (foldU N ds _ ss)
    exact foldU_snoc ds _ ss d s (by simpa using h)
theorem foldO_snoc : ∀ (ds : List Bool) (x : B) (ss : List B) (d : Bool) (s : B), ds.length = ss.length → foldO N (ds ++ [d]) x (ss ++ [s]) = if d then N s (foldO N ds x ss) else foldO N ds x ss
  | [], x, [], d, s, _ => by cases d <;> rfl
  | [], x, t :: ss, d, s, h => by simp at h
  | c :: ds, x, [], d, s, h => by simp at h
  | c :: ds, x, t :: ss, d, s, h => by
    show foldO N (ds ++ [d]) _ (ss ++ [s]) = if d then N s (foldO N ds _ ss) else foldO N ds _ ss
    exact foldO_snoc ds _ ss d s (by simpa using h)
structure WSt (B : Type) where
  a : Nat
  e : Nat
  o : B
  l : B
  st : Bool
def WSt.take (w : WSt B) (x : B) : WSt B :=
  if w.e = 0 then { w with st := true }
  else ⟨(nextP w.a w.e).1 / 2, (nextP w.a w.e).2 / 2, if sideW w.a w.e then N x w.o else w.o, nodeD N (sideW w.a w.e) x w.l, w.st⟩
theorem take_stop (xs : List B) : ∀ w : WSt B, w.st = true → (xs.foldl (WSt.take N) w).st = true := by
  induction xs with
  | nil => intro w h; exact h
  | cons x xs ih =>
    intro w h
    refine ih _ ?_
    unfold WSt.take; split
    · rfl
    · exact h
theorem take_all (xs : List B) : ∀ w : WSt B, w.st = false →
    ((¬ (xs.foldl (WSt.take N) w).st = true ∧ (xs.foldl (WSt.take N) w).e = 0) ↔ xs.length = (ways w.a w.e).length) ∧
    (xs.length = (ways w.a w.e).length → (xs.foldl (WSt.take N) w).l = foldU N (ways w.a w.e) w.l xs ∧ (xs.foldl (WSt.take N) w).o = foldO N (ways w.a w.e) w.o xs) := by
  induction xs with
  | nil =>
    intro w h
    refine ⟨⟨fun q => ?_, fun q => ⟨by simp [h], ?_⟩⟩, fun q => ?_⟩
    · rw [show w.e = 0 from q.2, ways_zero]; rfl
    · by_cases he : w.e = 0
      · exact he
      · rw [ways_pos he] at q; simp at q
    · cases hw : ways w.a w.e <;> exact ⟨rfl, rfl⟩
  | cons x xs ih =>
    intro w h
    by_cases he : w.e = 0
    · have hs : (WSt.take N w x).st = true := by unfold WSt.take; rw [if_pos he]
      have := take_stop N xs _ hs
      rw [he, ways_zero]
      refine ⟨⟨fun q => absurd this q.1, fun q => by simp at q⟩, fun q => by simp at q⟩
    · have hw : WSt.take N w x = ⟨(nextP w.a w.e).1 / 2, (nextP w.a w.e).2 / 2, if sideW w.a w.e then N x w.o else w.o, nodeD N (sideW w.a w.e) x w.l, w.st⟩ := by
        unfold WSt.take; rw [if_neg he]
      have IH := ih (WSt.take N w x) (by rw [hw]; exact h)
      rw [List.foldl_cons, ways_pos he, List.length_cons, List.length_cons]
      rw [hw] at IH ⊢
      refine ⟨IH.1.trans ⟨fun q => congrArg (· + 1) q, fun q => Nat.succ.inj q⟩, fun q => ?_⟩
      exact IH.2 (Nat.succ.inj q)
end
end Go.Proofs.Ytjicjadibaomkaa
set_option linter.unusedSimpArgs false
set_option linter.unusedVariables false
set_option maxHeartbeats 1000000
set_option maxRecDepth 100000
namespace Go.Proofs.Ytjicjadibaomkaa
open Go.RowKit Go.Hs Go.Dg

theorem guardT : Try.prog.eqGuardType Try.prog.depth 35 = false := by kernel_rfl
theorem run_guard_sum (op : BinOp) (x y : Operand) (a b : Array Value) (w : World) (h : op = .eql ∨ op = .neq) : (eqGuard op 35 x y (.agg a) (.agg b)).run Try.prog w = .ok () w := by
  rcases h with rfl | rfl <;> simp [eqGuard, Sem.run_bind, guardT, Sem.run]
section
variable {ops : Array Oper} {rest : List Oper} {o : Oper} {a : Act} {w : World} {Q : Exit → Act → World → Prop} {S : World → Prop}
/-- An operation that yields its value, whatever it is. -/
theorem wpList_yield {P : Program} (v : Value) (hg : Region.wanted o (yielded ops a.tmps) = true) (h : (execOp a.eval o).run P w = .ok (.value v) w) (hK : wpList P ops Q rest (a.put o.dst v) w) : wpList P ops Q (o :: rest) a w := by
  refine wpList_step fun K' hK' => ?_
  rw [if_pos hg]
  unfold Oper.wp
  rw [h, Oper.upon_value]
  exact hK' _ _ hK
theorem wpStill_yield {P : Program} {Q : Act → Prop} (v : Value) (hg : Region.wanted o (yielded ops a.tmps) = true) (h : (execOp a.eval o).run P w = .ok (.value v) w) (hK : wpStill P ops w Q rest (a.put o.dst v)) : wpStill P ops w Q (o :: rest) a := by
  refine wpStill_step fun K' hK' => ?_
  rw [if_pos hg]
  unfold Oper.still
  rw [h, Oper.stillUpon_value]
  exact hK' _ hK
theorem yieldsIf_of {P : Program} (v : Value) (hg : Region.wanted o (yielded ops a.tmps) = true) (h : ∀ w, S w → (execOp a.eval o).run P w = .ok (.value v) w) : YieldsIf P ops S o v a := .inl ⟨hg, h⟩
end
theorem load_sum {w : World} {g : Nat} {cs : Array Value} {fr : Nat × Nat} (hg : w.heap[g]? = some (.cells cs 35 fr)) (h : cs.size = 32) : (loadVar 35 ⟨g, 0, none⟩).run Try.prog w = .ok (.agg cs) w :=
  run_loadVar_row w g _ _ cs fr _ hg Try.underlying35 rfl (by rw [h]; exact infoSum)
end Go.Proofs.Ytjicjadibaomkaa
set_option linter.unusedSimpArgs false
set_option linter.unusedVariables false
set_option maxHeartbeats 1000000
set_option maxRecDepth 100000
namespace Go.Proofs.Ytjicjadibaomkaa
open Go.RowKit Go.Hs Go.Dg

theorem exec_eq_V {a : Act} {o : Oper} (x y : Operand) (t : TypeId) (ho : o.op = Op.binOp .eql 35 x y t) (p q : S32) (hx : a.eval x = .agg p.V) (hy : a.eval y = .agg q.V) (w : World) :
    (execOp a.eval o).run Try.prog w = .ok (.value (.bool (decide (p = q)))) w := by
  unfold execOp
  simp only [ho, hx, hy, Sem.run_bind, run_guard_sum _ _ _ _ _ _ (.inl rfl), Result.andThen_ok, binOp, run_eq_V, Sem.run_pure]
theorem exec_load_midV {a : Act} {o : Oper} (y : Operand) (ho : o.op = Op.load 35 y) (b off : Nat) (hy : a.eval y = .pointer (some ⟨b, off, none⟩)) (x : S32) (w : World) (h : w.rangeAt b off x.V.toList) :
    (execOp a.eval o).run Try.prog w = .ok (.value (.agg x.V)) w := by
  unfold execOp
  have := run_loadVar_mid (P := Try.prog) w b off 35 x.V.toList _ h Try.underlying35 rfl (by rw [Array.length_toList, x.size]; exact infoSum)
  simp only [ho, hy, Instr.loadAt, Instr.sureAddr, Sem.run_bind, Sem.run_pure, Result.andThen_ok, this]
theorem exec_load_rowV {a : Act} {o : Oper} (y : Operand) (ho : o.op = Op.load 35 y) (g : Nat) (hy : a.eval y = .pointer (some ⟨g, 0, none⟩)) (x : S32) (w : World) (h : ∃ fr, w.heap[g]? = some (.cells x.V 35 fr)) :
    (execOp a.eval o).run Try.prog w = .ok (.value (.agg x.V)) w := by
  obtain ⟨fr, h⟩ := h
  unfold execOp
  simp only [ho, hy, Instr.loadAt, Instr.sureAddr, Sem.run_bind, Sem.run_pure, Result.andThen_ok, load_sum h x.size]
end Go.Proofs.Ytjicjadibaomkaa
set_option linter.unusedSimpArgs false
set_option linter.unusedVariables false
set_option maxHeartbeats 2000000
set_option maxRecDepth 100000
namespace Go.Proofs.Ytjicjadibaomkaa
open Go.RowKit Go.Hs Go.Dg

theorem nodeC_any (a b : S32) (w : World) : Calls Try.prog 28 #[.agg (a.V), .agg (b.V)] w fun e w' => e = .returned (.string (⟨#[1]⟩ ++ a.s ++ b.s)) ∧ Ext [] w w' := by
  obtain ⟨hA, hB, hx0, _⟩ := alloc_two' w (.cells (a.V) 35) (.cells (b.V) 35)
  have hc1 : ¬ 9223372036854775807 < 1 + 32 := by decide
  have hs1 := a.ssize
  have hs2 := b.ssize
  go_enter Try.func28, Try.ntmps28
  go_upto_region 1 with fail
  generalize (w.alloc (.cells (a.V) 35)).alloc (.cells (b.V) 35) = W at hA hB hx0 ⊢
  refine wp_region_noPanic ?_
  refine wp_region_held_drew (S := (fun w' => w'.heap[w.heap.size]? = some (.cells (a.V) 35 (0, 0)) ∧ w'.heap[w.heap.size + 1]? = some (.cells (b.V) 35 (0, 0)))) (by kernel_rfl) ?_ (fun hHeld => ?_)
  · ((try dsimp only); exact ⟨hA, hB⟩)
  refine wpAnyH_take (i := 0) (v := ?_) rfl (by kernel_rfl) (by kernel_rfl) (by kernel_rfl) (fun _ _ _ h => h) (Or.inl ⟨by rfl, ?_⟩) (by assumption) ?_
  rotate_left
  · (intro w hSw; (try dsimp only at hSw); first | (go_simp; done) | (go_simp; with_reducible rfl))
  try simp only [Act.put, List.getElem_toArray, List.getElem_cons_succ, List.getElem_cons_zero, List.setIfInBounds_toArray, List.set_cons_zero, List.set_cons_succ]
  refine wpAnyH_take (i := 1) (v := ?_) rfl (by kernel_rfl) (by kernel_rfl) (by kernel_rfl) (fun _ _ _ h => h) (Or.inl ⟨by rfl, ?_⟩) (by assumption) ?_
  rotate_left
  · (intro w hSw; (try dsimp only at hSw); have hq := conv_V hSw.1; first | (go_simp; done) | (go_simp; with_reducible rfl))
  try simp only [Act.put, List.getElem_toArray, List.getElem_cons_succ, List.getElem_cons_zero, List.setIfInBounds_toArray, List.set_cons_zero, List.set_cons_succ]
  refine wpAnyH_take (i := 2) (v := ?_) rfl (by kernel_rfl) (by kernel_rfl) (by kernel_rfl) (fun _ _ _ h => h) (Or.inl ⟨by rfl, ?_⟩) (by assumption) ?_
  rotate_left
  · (intro w hSw; (try dsimp only at hSw); first | (go_simp; done) | (go_simp; with_reducible rfl))
  try simp only [Act.put, List.getElem_toArray, List.getElem_cons_succ, List.getElem_cons_zero, List.setIfInBounds_toArray, List.set_cons_zero, List.set_cons_succ]
  refine wpAnyH_take (i := 3) (v := ?_) rfl (by kernel_rfl) (by kernel_rfl) (by kernel_rfl) (fun _ _ _ h => h) (Or.inl ⟨by rfl, ?_⟩) (by assumption) ?_
  rotate_left
  · (intro w hSw; (try dsimp only at hSw); first | (go_simp; done) | (go_simp; with_reducible rfl))
  try simp only [Act.put, List.getElem_toArray, List.getElem_cons_succ, List.getElem_cons_zero, List.setIfInBounds_toArray, List.set_cons_zero, List.set_cons_succ]
  refine wpAnyH_take (i := 4) (v := ?_) rfl (by kernel_rfl) (by kernel_rfl) (by kernel_rfl) (fun _ _ _ h => h) (Or.inl ⟨by rfl, ?_⟩) (by assumption) ?_
  rotate_left
  · (intro w hSw; (try dsimp only at hSw); have hq := conv_V hSw.2; first | (go_simp; done) | (go_simp; with_reducible rfl))
  try simp only [Act.put, List.getElem_toArray, List.getElem_cons_succ, List.getElem_cons_zero, List.setIfInBounds_toArray, List.set_cons_zero, List.set_cons_succ]
  refine wpAnyH_take (i := 5) (v := ?_) rfl (by kernel_rfl) (by kernel_rfl) (by kernel_rfl) (fun _ _ _ h => h) (Or.inl ⟨by rfl, ?_⟩) (by assumption) ?_
  rotate_left
  · (intro w hSw; (try dsimp only at hSw); first | (go_simp; done) | (go_simp; with_reducible rfl))
  try simp only [Act.put, List.getElem_toArray, List.getElem_cons_succ, List.getElem_cons_zero, List.setIfInBounds_toArray, List.set_cons_zero, List.set_cons_succ]
  refine wpAnyH_take (i := 6) (v := ?_) rfl (by kernel_rfl) (by kernel_rfl) (by kernel_rfl) (fun _ _ _ h => h) (Or.inl ⟨by rfl, ?_⟩) (by assumption) ?_
  rotate_left
  · (intro w hSw; (try dsimp only at hSw); first | (go_simp; done) | (go_simp; with_reducible rfl))
  try simp only [Act.put, List.getElem_toArray, List.getElem_cons_succ, List.getElem_cons_zero, List.setIfInBounds_toArray, List.set_cons_zero, List.set_cons_succ]
  refine wpAnyH_done (by kernel_rfl) ?_ _
  refine NoPanic.normal ?_
  go_wp2
  go_ret
  exact ⟨rfl, hx0.drew⟩
end Go.Proofs.Ytjicjadibaomkaa
set_option linter.unusedSimpArgs false
set_option linter.unusedVariables false
set_option maxHeartbeats 2000000
set_option maxRecDepth 100000
namespace Go.Proofs.Ytjicjadibaomkaa
open Go.RowKit Go.Hs Go.Dg

theorem chalf_any (n : Nat) (h2 : 2 ≤ n) (hn : n ≤ 2 ^ 40) (w : World) : Calls Try.prog 27 #[.int .i64 n] w fun e w' => e = .returned (.int .i64 (halfN n : Int)) ∧ w' = w := by
  have hp : (2 : Nat) ^ 40 = 1099511627776 := by decide
  rw [hp] at hn
  go_enter Try.func27, Try.ntmps27
  go_wp2_with fail
  go_loopw [3] (fun kv wr => ∃ j : Nat, kv = .int .i64 ((2 ^ j : Nat) : Int) ∧ 2 ^ j < n ∧ wr = w) (fun kv _ => n - (intOf kv).toNat)
  case atStart => exact ⟨0, rfl, by show 1 < n; omega, rfl⟩
  case round =>
    obtain ⟨j, rfl, hj, rfl⟩ := hrel
    have hpos := Nat.two_pow_pos j
    have hs : (2 : Nat) ^ (j + 1) = 2 * 2 ^ j := by rw [Nat.pow_succ]; omega
    have HH := Hs.hid (fun h => halfN_le (n := n) (h := j) (show 2 ^ j ≤ n - 1 by omega) h)
    generalize (2 : Nat) ^ j = p at hj hpos hs HH ⊢
    by_cases hlt : 2 * p < n
    · have hlt' : (2 : Int) * p < n := by omega
      go_wp2
      go_round
      case rel => exact ⟨j + 1, by rw [hs]; go_num, by rw [hs]; exact ⟨hlt, trivial⟩⟩
      case measure => simp [intOf]; omega
    · have hlt' : ¬ (2 : Int) * p < n := by omega
      have hq := Hs.hid (HH.out (by rw [hs]; omega))
      clear hs
      go_wp2
      go_ret
      exact ⟨by rw [hq.out]; rfl, rfl⟩
end Go.Proofs.Ytjicjadibaomkaa
set_option linter.unusedSimpArgs false
set_option linter.unusedVariables false
set_option maxHeartbeats 2000000
set_option maxRecDepth 100000
namespace Go.Proofs.Ytjicjadibaomkaa
open Go.RowKit Go.Hs Go.Dg

def nodeX (a b : S32) : ByteArray := ⟨#[1]⟩ ++ strN (a.l ++ b.l)
theorem strX_app (a b : S32) : (strN (a.l ++ b.l)).size = 64 := by
  show ((a.l ++ b.l).map UInt8.ofNat).toArray.size = 64
  simp [a.len, b.len]
theorem nodeX_size (a b : S32) : (nodeX a b).size = 65 := by
  unfold nodeX
  rw [ByteArray.size_append, strX_app]; rfl
theorem strX_append (x y : List Nat) : strN (x ++ y) = strN x ++ strN y := by
  apply ByteArray.ext
  rw [ByteArray.data_append]
  simp [strN]
theorem nodeX_eq (a b : S32) : nodeS a b = dig (nodeX a b) := by
  unfold nodeS node2 nodeX S32.s
  rw [strX_append, ByteArray.append_assoc]
theorem isSum_V (x : S32) : IsSum x.V := ⟨x.size, x.one⟩
theorem concatS_any (a b : S32) (A B R : Nat) (fa fb fr : Nat × Nat) (w : World) (hA : w.heap[A]? = some (.cells a.V 35 fa)) (hB : w.heap[B]? = some (.cells b.V 35 fb))
    (hR : w.heap[R]? = some (.cells #[.slice (some ⟨A, 0, none⟩) 32 32, .slice (some ⟨B, 0, none⟩) 32 32] 58 fr)) : Calls Try.prog 41 #[.slice (some ⟨R, 0, none⟩) 2 2] w fun e w' =>
    ∃ ao cap, e = .returned (.slice ao 64 cap) ∧ Own w'.heap 5 1 (.slice ao 64 cap) 64 ((a.l ++ b.l).map fun (c : Nat) => Value.int .u8 c) ∧ Ext [] w w' := by
  have hBw := hB
  have hRw := hR
  have r0 : w.cell? ⟨R, 0, none⟩ = some (.slice (some ⟨A, 0, none⟩) 32 32) := by rw [cellAt hR]; rfl
  have r1 : w.cell? ⟨R, 1, none⟩ = some (.slice (some ⟨B, 0, none⟩) 32 32) := by rw [cellAt hR]; rfl
  go_enter Try.func41, Try.ntmps41
  go_wp2
  refine wp_loop_rounds 3 ?_
  rw [rounds_succ]
  go_wp2
  rw [rounds_succ]
  go_wp2
  rw [rounds_succ]
  have h64 : (64 : Int).toNat = 64 := rfl
  go_wp2_with (go_at_call 50; refine (grow64_any w).mono ?_; rintro e w1 ⟨g, cap, rfl, hc, hO, hx, hg⟩; replace hA := hx.same hA List.not_mem_nil; replace hB := hx.same hB List.not_mem_nil; replace hR := hx.same hR List.not_mem_nil; replace r0 : w1.cell? ⟨R, 0, none⟩ = some (.slice (some ⟨A, 0, none⟩) 32 32) := (by rw [cellAt hR]; rfl); replace r1 : w1.cell? ⟨R, 1, none⟩ = some (.slice (some ⟨B, 0, none⟩) 32 32) := (by rw [cellAt hR]; rfl))
  obtain ⟨i0, hi, hz0, hz1, hz2⟩ := info_parts infoU8
  have hnA : ∀ j u, a.V.toList[j]? = some u → w1.cell? ((⟨A, 0, none⟩ : Addr).add j) = some u := by
    intro j u hj
    rw [add_off', cellAt hA j]
    simpa using hj
  have hne : ∀ x ∈ (Value.slice (some ⟨g, 0, none⟩) 0 cap).ownBlock.toList, x ∈ ([] : List Nat) ∨ w.heap.size ≤ x := by
    intro k hk
    have hk' : k = g := by simpa [Value.ownBlock] using hk
    exact .inr (hk' ▸ hg)
  have hlA : a.V.toList.length = 32 * 1 := by rw [Array.length_toList, a.size]
  have hlB : b.V.toList.length = 32 * 1 := by rw [Array.length_toList, b.size]
  have hoA : ∀ u ∈ a.V.toList, u.oneCell' = true := fun u hu => (Array.all_eq_true'.1 (a.one)) u (Array.mem_toList_iff.1 hu)
  have hoB : ∀ u ∈ b.V.toList, u.oneCell' = true := fun u hu => (Array.all_eq_true'.1 (b.one)) u (Array.mem_toList_iff.1 hu)
  have hBlt : B < w.heap.size := lt_of_heap hBw
  have hRlt : R < w.heap.size := lt_of_heap hRw
  refine wp_loop_rounds 3 ?_
  rw [rounds_succ]
  go_wp2_with (at_builtin; refine wpList_append rfl (.tmp 31) (.tmp 32) 58 rfl 5 i0 _ 1 1 Try.underlying58 hi hz0 hz1 hz2 rfl (by decide) (.slice (some ⟨g, 0, none⟩) 0 cap) 0 [] rfl hO ⟨A, 0, none⟩ 32 32 a.V.toList rfl hlA hnA hoA (by decide) (by decide) ?_; intro ao2 cap2 w2 hO2 hx2 hf2; replace hx2 := hx.trans hx2 hne; replace hB := hx2.same hBw List.not_mem_nil; replace hR := hx2.same hRw List.not_mem_nil; clear r0 r1; have r1 : w2.cell? ⟨R, 1, none⟩ = some (.slice (some ⟨B, 0, none⟩) 32 32) := (by rw [cellAt hR]; rfl))
  have hnB : ∀ j u, b.V.toList[j]? = some u → w2.cell? ((⟨B, 0, none⟩ : Addr).add j) = some u := by
    intro j u hj
    rw [add_off', cellAt hB j]
    simpa using hj
  have hne2 : ∀ x ∈ (Value.slice ao2 (0 + 32) cap2).ownBlock.toList, x ∈ ([] : List Nat) ∨ w.heap.size ≤ x := by
    intro k hk
    right
    rcases hf2 k (by simpa using hk) with h | h
    · exact (hne k (by simp [h])).resolve_left List.not_mem_nil
    · have := hx.size; omega
  rw [rounds_succ]
  go_wp2_with (at_builtin; refine wpList_append rfl (.tmp 31) (.tmp 32) 58 rfl 5 i0 _ 1 1 Try.underlying58 hi hz0 hz1 hz2 rfl (by decide) (.slice ao2 (0 + 32) cap2) (0 + 32) _ rfl hO2 ⟨B, 0, none⟩ 32 32 b.V.toList rfl hlB hnB hoB (by decide) (by decide) ?_; intro ao3 cap3 w3 hO3 hx3 hf3; replace hx3 := hx2.trans hx3 hne2; clear hf3)
  rw [rounds_succ]
  go_wp2
  go_ret
  refine ⟨_, _, rfl, ?_, hx3⟩
  have he : ((a.l ++ b.l).map fun (c : Nat) => Value.int .u8 c) = [] ++ a.V.toList ++ b.V.toList := by
    simp only [S32.V]; rw [List.map_append, List.nil_append]
  rw [he]
  exact hO3
theorem convS_two {w : World} {ao : Option Addr} {cap : Nat} {a b : S32} (h : Own w.heap 5 1 (.slice ao 64 cap) 64 ((a.l ++ b.l).map fun (c : Nat) => Value.int .u8 c)) : (convert 58 9 (.slice ao 64 cap)).run Try.prog w = .ok (.string (strN (a.l ++ b.l))) w := by
  have hl : (a.l ++ b.l).length = 64 := by rw [List.length_append, a.len, b.len]
  exact run_bytes_text 58 9 5 Try.underlying58 Try.underlying5 Try.underlying9 _ (a.l ++ b.l) (by rw [hl]; exact h)
theorem nodeX_any (a b : S32) (w : World) : Calls Try.prog 24 #[.agg a.V, .agg b.V] w fun e w' => ∃ cs, e = .returned (.agg cs) ∧ Hid (cs = digV (nodeX a b)) ∧ Ext [] w w' := by
  obtain ⟨hA, hB, hx0, hz2⟩ := alloc_two' w (.cells a.V 35) (.cells b.V 35)
  have hR := zeroSum ((w.alloc (.cells a.V 35)).alloc (.cells b.V 35))
  rw [hz2] at hR
  replace hA := heap_old' _ (.cells #[.int .u8 0, .int .u8 0, .int .u8 0, .int .u8 0, .int .u8 0, .int .u8 0, .int .u8 0, .int .u8 0, .int .u8 0, .int .u8 0, .int .u8 0, .int .u8 0, .int .u8 0, .int .u8 0, .int .u8 0, .int .u8 0, .int .u8 0, .int .u8 0, .int .u8 0, .int .u8 0, .int .u8 0, .int .u8 0, .int .u8 0, .int .u8 0, .int .u8 0, .int .u8 0, .int .u8 0, .int .u8 0, .int .u8 0, .int .u8 0, .int .u8 0, .int .u8 0] 35) hA
  replace hB := heap_old' _ (.cells #[.int .u8 0, .int .u8 0, .int .u8 0, .int .u8 0, .int .u8 0, .int .u8 0, .int .u8 0, .int .u8 0, .int .u8 0, .int .u8 0, .int .u8 0, .int .u8 0, .int .u8 0, .int .u8 0, .int .u8 0, .int .u8 0, .int .u8 0, .int .u8 0, .int .u8 0, .int .u8 0, .int .u8 0, .int .u8 0, .int .u8 0, .int .u8 0, .int .u8 0, .int .u8 0, .int .u8 0, .int .u8 0, .int .u8 0, .int .u8 0, .int .u8 0, .int .u8 0] 35) hB
  replace hx0 := hx0.alloc (.cells #[.int .u8 0, .int .u8 0, .int .u8 0, .int .u8 0, .int .u8 0, .int .u8 0, .int .u8 0, .int .u8 0, .int .u8 0, .int .u8 0, .int .u8 0, .int .u8 0, .int .u8 0, .int .u8 0, .int .u8 0, .int .u8 0, .int .u8 0, .int .u8 0, .int .u8 0, .int .u8 0, .int .u8 0, .int .u8 0, .int .u8 0, .int .u8 0, .int .u8 0, .int .u8 0, .int .u8 0, .int .u8 0, .int .u8 0, .int .u8 0, .int .u8 0, .int .u8 0] 35)
  clear hz2
  have hc1 : ¬ 9223372036854775807 < 1 + 64 := by decide
  have hs1 := strX_app a b
  have HZ := Hs.hid (show (nodeX a b).size ≤ 100000000 by rw [nodeX_size]; decide)
  obtain ⟨i0, hi, hz0, hz1, _⟩ := info_parts infoSl
  go_enter Try.func24, Try.ntmps24
  go_upto_region 1 with fail
  generalize ((w.alloc (.cells a.V 35)).alloc (.cells b.V 35)).alloc (.cells #[.int .u8 0, .int .u8 0, .int .u8 0, .int .u8 0, .int .u8 0, .int .u8 0, .int .u8 0, .int .u8 0, .int .u8 0, .int .u8 0, .int .u8 0, .int .u8 0, .int .u8 0, .int .u8 0, .int .u8 0, .int .u8 0, .int .u8 0, .int .u8 0, .int .u8 0, .int .u8 0, .int .u8 0, .int .u8 0, .int .u8 0, .int .u8 0, .int .u8 0, .int .u8 0, .int .u8 0, .int .u8 0, .int .u8 0, .int .u8 0, .int .u8 0, .int .u8 0] 35) = W at hA hB hR hx0 ⊢
  obtain ⟨A, hAA⟩ : ∃ A, w.heap.size = A := ⟨_, rfl⟩
  rw [hAA] at hA hB hR ⊢
  have HAA := Hs.hid (show w.heap.size ≤ A from Nat.le_of_eq hAA)
  clear hAA
  refine wp_region_noPanic ?_
  refine wp_region_held_drew (S := (fun w' => w'.heap[A]? = some (.cells a.V 35 (0, 0)) ∧ w'.heap[A + 1]? = some (.cells b.V 35 (0, 0)))) (by kernel_rfl) ?_ (fun hHeld => ?_)
  · ((try dsimp only); exact ⟨hA, hB⟩)
  refine wpAnyH_take (i := 0) (v := ?_) rfl (by kernel_rfl) (by kernel_rfl) (by kernel_rfl) (fun _ _ _ h => h) (Or.inl ⟨by rfl, ?_⟩) (by assumption) ?_
  rotate_left
  · (intro w hSw; (try dsimp only at hSw); first | (go_simp; done) | (go_simp; with_reducible rfl))
  try simp only [Act.put, List.getElem_toArray, List.getElem_cons_succ, List.getElem_cons_zero, List.setIfInBounds_toArray, List.set_cons_zero, List.set_cons_succ]
  refine wpAnyH_take (i := 1) (v := ?_) rfl (by kernel_rfl) (by kernel_rfl) (by kernel_rfl) (fun _ _ _ h => h) (Or.inl ⟨by rfl, ?_⟩) (by assumption) ?_
  rotate_left
  · (intro w hSw; (try dsimp only at hSw); first | (go_simp; done) | (go_simp; with_reducible rfl))
  try simp only [Act.put, List.getElem_toArray, List.getElem_cons_succ, List.getElem_cons_zero, List.setIfInBounds_toArray, List.set_cons_zero, List.set_cons_succ]
  refine wpAnyH_ready (rs := [2]) (by kernel_rfl) (by simp) ?_
  refine AllReadyH.cons rfl (fun K hK => ?_) AllReadyH.nil
  rw [if_pos (by rfl)]
  (have hSx := hHeld; refine wp_buildSlice 103 58 2 _ rfl #[.slice (some ⟨A, 0, none⟩) 32 32, .slice (some ⟨A + 1, 0, none⟩) 32 32] i0 _ Try.underlying103 hi hz0 (by rw [hz1]; decide) (by rw [hz1]; decide) (by rw [hz1]; first | rfl | kernel_rfl | (simp [Instr.fill, Value.cells, Act.eval, Act.put, Array.range]; done) | (simp [Instr.fill, Value.cells, Act.eval, Act.put]; rfl) | trace_state) ?_)
  refine hK.out _ _ ?_ (fun hHeld => ?_)
  · ((try dsimp only); exact ⟨heap_old' _ _ hHeld.1, heap_old' _ _ hHeld.2⟩)
  clear hK K
  try simp only [Act.put, List.getElem_toArray, List.getElem_cons_succ, List.getElem_cons_zero, List.setIfInBounds_toArray, List.set_cons_zero, List.set_cons_succ]
  refine wpAnyH_ready (rs := [3]) (by kernel_rfl) (by simp) ?_
  refine AllReadyH.cons rfl (fun K hK => ?_) AllReadyH.nil
  go_simp
  (go_at_call 41; refine (concatS_any a b A (A + 1) W.heap.size (0, 0) (0, 0) (0, 0) _ hHeld.1 hHeld.2 (heap_new _ _)).mono ?_; rintro e w1 ⟨ao, cap, rfl, hO, hx1⟩; have hC1 := hx1.same (heap_old' _ _ (heap_drew' hR)) List.not_mem_nil)
  go_wp2_with fail
  refine hK.out _ _ ?_ (fun hHeld => ?_)
  · ((try dsimp only); exact ⟨hx1.same hHeld.1 List.not_mem_nil, hx1.same hHeld.2 List.not_mem_nil⟩)
  clear hK K
  try simp only [Act.put, List.getElem_toArray, List.getElem_cons_succ, List.getElem_cons_zero, List.setIfInBounds_toArray, List.set_cons_zero, List.set_cons_succ]
  refine wpAnyH_ready (rs := [4]) (by kernel_rfl) (by simp) ?_
  refine AllReadyH.cons rfl (fun K hK => ?_) AllReadyH.nil
  rw [if_pos (by rfl)]
  (have hq := convS_two hO; go_simp)
  refine hK.out _ _ ?_ (fun hHeld => ?_)
  · ((try dsimp only); exact hHeld)
  clear hK K
  try simp only [Act.put, List.getElem_toArray, List.getElem_cons_succ, List.getElem_cons_zero, List.setIfInBounds_toArray, List.set_cons_zero, List.set_cons_succ]
  refine wpAnyH_take (i := 5) (v := ?_) rfl (by kernel_rfl) (by kernel_rfl) (by kernel_rfl) (fun _ _ _ h => h) (Or.inl ⟨by rfl, ?_⟩) (by assumption) ?_
  rotate_left
  · (intro w hSw; (try dsimp only at hSw); first | (go_simp; done) | (go_simp; with_reducible rfl))
  try simp only [Act.put, List.getElem_toArray, List.getElem_cons_succ, List.getElem_cons_zero, List.setIfInBounds_toArray, List.set_cons_zero, List.set_cons_succ]
  refine wpAnyH_ready (rs := [6]) (by kernel_rfl) (by simp) ?_
  refine AllReadyH.cons rfl (fun K hK => ?_) AllReadyH.nil
  go_simp
  (go_at_call 12; refine (of_any _ HZ.out _).mono ?_; rintro e w2 ⟨cs, rfl, hcs, hx2⟩; have hC2 := hx2.same hC1 List.not_mem_nil; have his : Hid (IsSum cs) := Hs.hid (by rw [hcs.out]; exact isSum_digV _))
  go_wp2_with fail
  refine hK.out _ _ ?_ (fun hHeld => ?_)
  · ((try dsimp only); exact ⟨hx2.same hHeld.1 List.not_mem_nil, hx2.same hHeld.2 List.not_mem_nil⟩)
  clear hK K
  try simp only [Act.put, List.getElem_toArray, List.getElem_cons_succ, List.getElem_cons_zero, List.setIfInBounds_toArray, List.set_cons_zero, List.set_cons_succ]
  refine wpAnyH_ready (rs := [7]) (by kernel_rfl) (by simp) ?_
  refine AllReadyH.cons rfl (fun K hK => ?_) AllReadyH.nil
  rw [if_pos (by rfl)]
  (refine wp_store_row 35 _ _ rfl _ cs rfl rfl _ _ hC2 his.out.info his.out.zero his.out.2 ?_)
  refine hK.out _ _ ?_ (fun hHeld => ?_)
  · ((try dsimp only); (rw [setRow_other _ _ _ _ (by omega), setRow_other _ _ _ _ (by omega)]; exact hHeld))
  clear hK K
  try simp only [Act.put, List.getElem_toArray, List.getElem_cons_succ, List.getElem_cons_zero, List.setIfInBounds_toArray, List.set_cons_zero, List.set_cons_succ]
  refine wpAnyH_done (by kernel_rfl) ?_ _
  refine NoPanic.normal ?_
  go_wp2
  have hxf : Ext [] w (w2.setRow (A + 1 + 1) cs) := (((hx0.drew.alloc _).trans0 hx1).trans0 hx2).trans (setRow_ext (A + 1 + 1) _) (fun g hg => .inr (by simp at hg; subst hg; have := HAA.out; omega))
  refine bodyPost_ret (v := .agg cs) (results_cell_row (P := Try.prog) Try.results24 _ _ (A + 1 + 1) _ _ _ _ rfl (setRow_heap _ _ _ _ _ _ hC2) Try.underlying35 rfl (by rw [his.out.1]; exact infoSum)) rfl ⟨_, rfl, hcs, hxf⟩
theorem nodeS_any (a b : S32) (w : World) : Calls Try.prog 24 #[.agg a.V, .agg b.V] w fun e w' => ∃ cs, e = .returned (.agg cs) ∧ Hid (cs = (nodeS a b).V) ∧ Ext [] w w' :=
  (nodeX_any a b w).mono fun e w' ⟨cs, h1, h2, h3⟩ => ⟨cs, h1, Hs.hid (by rw [h2.out, nodeX_eq, dig_V]), h3⟩
theorem nodeY_any (a b : S32) (w : World) : Calls Try.prog 24 #[.agg a.V, .agg b.V] w fun e w' => ∃ y : S32, e = .returned (.agg y.V) ∧ Hid (y = nodeS a b) ∧ Ext [] w w' :=
  (nodeS_any a b w).mono fun e w' ⟨cs, h1, h2, h3⟩ => ⟨nodeS a b, by rw [h1, h2.out], Hs.hid rfl, h3⟩
end Go.Proofs.Ytjicjadibaomkaa
set_option linter.unusedSimpArgs false
set_option linter.unusedVariables false
set_option maxHeartbeats 1000000
namespace Go.Proofs.Ytjicjadibaomkaa
open Go.RowKit Go.Hs Go.Dg

/-- One sum more: the text ahead. -/
def wayStep (d : Bool) (s : S32) (l : List ByteArray) : List ByteArray := (if d then node2 s.s (dig (l.headD ⟨#[]⟩)).s else node2 (dig (l.headD ⟨#[]⟩)).s s.s) :: l
/-- The texts, from the root to the leaf: of the sides and sums from within out. -/
def wayL : List Bool → List S32 → List ByteArray → List ByteArray
  | d :: ds, s :: ss, l => wayL ds ss (wayStep d s l)
  | _, _, l => l
theorem wayL_snoc : ∀ (ds : List Bool) (ss : List S32) (l : List ByteArray) (d : Bool) (s : S32), ds.length = ss.length → wayL (ds ++ [d]) (ss ++ [s]) l = wayStep d s (wayL ds ss l)
  | [], [], l, d, s, _ => rfl
  | [], t :: ss, l, d, s, h => by simp at h
  | c :: ds, [], l, d, s, h => by simp at h
  | c :: ds, t :: ss, l, d, s, h => wayL_snoc ds ss _ d s (by simpa using h)
theorem wayL_len : ∀ (ds : List Bool) (ss : List S32) (l : List ByteArray), ds.length = ss.length → (wayL ds ss l).length = l.length + ss.length
  | [], [], l, _ => rfl
  | [], t :: ss, l, h => by simp at h
  | c :: ds, [], l, h => by simp at h
  | c :: ds, t :: ss, l, h => by
    show (wayL ds ss _).length = _
    rw [wayL_len ds ss _ (by simpa using h)]
    simp [wayStep]; omega
theorem nodeS_def (x y : S32) : nodeS x y = dig (node2 x.s y.s) := rfl
attribute [local irreducible] dig nodeS node2
/-- The outermost text's sum is the root that the sums reckon. -/
theorem wayL_root : ∀ (ds : List Bool) (ss : List S32) (l : List ByteArray) (x : S32), ds.length = ss.length → dig (l.headD ⟨#[]⟩) = x → dig ((wayL ds ss l).headD ⟨#[]⟩) = foldU nodeS ds x ss
  | [], [], l, x, _, h => h
  | [], t :: ss, l, x, h, _ => by simp at h
  | c :: ds, [], l, x, h, _ => by simp at h
  | c :: ds, t :: ss, l, x, h, hx => by
    show dig ((wayL ds ss (wayStep c t l)).headD ⟨#[]⟩) = foldU nodeS ds (nodeD nodeS c t x) ss
    refine wayL_root ds ss _ _ (by simpa using h) ?_
    unfold wayStep nodeD
    rw [hx, List.headD_cons]
    cases c
    · rw [if_neg (by decide), if_neg (by decide), nodeS_def]
    · rw [if_pos rfl, if_pos rfl, nodeS_def]
theorem wayL_last : ∀ (ds : List Bool) (ss : List S32) (l : List ByteArray), l ≠ [] → (wayL ds ss l).getLast? = l.getLast?
  | [], _, l, _ => by cases l <;> rfl
  | c :: ds, [], l, _ => rfl
  | c :: ds, t :: ss, l, h => by
    show (wayL ds ss (wayStep c t l)).getLast? = _
    rw [wayL_last ds ss _ (by simp [wayStep])]
    unfold wayStep
    cases l with
    | nil => exact absurd rfl h
    | cons a l => rw [List.getLast?_cons_cons]
theorem wayL_sizes : ∀ (ds : List Bool) (ss : List S32) (l : List ByteArray) (m : Nat), 65 ≤ m → (∀ t ∈ l, t.size ≤ m) → ∀ t ∈ wayL ds ss l, t.size ≤ m
  | [], _, l, m, _, h => by cases l <;> exact h
  | c :: ds, [], l, m, _, h => h
  | c :: ds, s :: ss, l, m, h65, h => by
    refine wayL_sizes ds ss _ m h65 ?_
    intro t ht
    rcases List.mem_cons.1 ht with rfl | ht
    · have h1 := s.ssize
      have h2 := (dig (l.headD ⟨#[]⟩)).ssize
      split <;> rw [node2_size] <;> omega
    · exact h t ht
end Go.Proofs.Ytjicjadibaomkaa
set_option linter.unusedSimpArgs false
set_option linter.unusedVariables false
set_option maxHeartbeats 2000000
set_option maxRecDepth 100000
namespace Go.Proofs.Ytjicjadibaomkaa
open Go.RowKit Go.Hs Go.Dg

/-- A place: level, index. -/
abbrev Pl := Int × Int
def encP (p : Pl) : Value := .agg #[.int .i64 p.1, .int .i64 p.2]
theorem fieldsP0 : ((Try.prog.fieldsOf 63).toList.map fun f => (f.name, f.type, f.offset)) = [("level", 3, 0), ("index", 3, 1)] := by kernel_rfl
theorem fieldsP : ∃ f g : Field, Try.prog.fieldsOf 63 = #[f, g] ∧ f.name = "level" ∧ f.type = 3 ∧ f.offset = 0 ∧ g.name = "index" ∧ g.type = 3 ∧ g.offset = 1 := by
  have h := fieldsP0
  generalize Try.prog.fieldsOf 63 = fs at h
  obtain ⟨fs⟩ := fs
  match fs, h with
  | [], h => simp at h
  | [_], h => simp at h
  | _ :: _ :: _ :: _, h => simp at h
  | [f, g], h =>
    simp only [List.map_cons, List.map_nil, List.cons.injEq, Prod.mk.injEq] at h
    exact ⟨f, g, rfl, h.1.1, h.1.2.1, h.1.2.2, h.2.1.1, h.2.1.2.1, h.2.1.2.2⟩
theorem underP : Try.prog.underlying 63 = some (.struct (Try.prog.fieldsOf 63)) := by kernel_rfl
theorem stoodP : Try.prog.stoodInHeld 63 = false := by kernel_rfl
theorem run_part_int {xs : Array Value} {i : Nat} {v : Value} (h : xs[i]? = some v) (w : World) : (part 3 xs i).run Try.prog w = .ok v w := by
  simp [part, isAgg, run_underlying Try.underlying3, h]
theorem run_eq_place (p q : Pl) (w : World) : (Op.equal 63 (encP p) (encP q)).run Try.prog w = .ok (decide (p = q)) w := by
  unfold Op.equal Op.maxDepth encP
  obtain ⟨f, g, hf, f1, f2, f3, g1, g2, g3⟩ := fieldsP
  rw [show (10000 : Nat) = 9999 + 1 from rfl, run_equalIn_struct w 9999 63 _ _ underP stoodP, hf]
  have a1 : ∀ p : Pl, (part 3 #[.int .i64 p.1, .int .i64 p.2] 0).run Try.prog w = .ok (.int .i64 p.1) w := fun p => run_part_int rfl w
  have a2 : ∀ p : Pl, (part 3 #[.int .i64 p.1, .int .i64 p.2] 1).run Try.prog w = .ok (.int .i64 p.2) w := fun p => run_part_int rfl w
  have eI : ∀ a b : Int, (Op.equalIn 9999 3 (.int .i64 a) (.int .i64 b)).run Try.prog w = .ok (a == b) w := fun a b => run_equalIn_int w 9998 3 .i64 .i64 a b Try.underlying3
  have n1 : ("level" ≠ "_") = True := by simp
  have n2 : ("index" ≠ "_") = True := by simp
  simp only [Op.eqFields, f1, f2, f3, g1, g2, g3, n1, n2, if_true, Sem.run_bind, a1, a2, Result.andThen_ok, eI, Sem.run_ite, Sem.run_pure]
  obtain ⟨p1, p2⟩ := p
  obtain ⟨q1, q2⟩ := q
  by_cases h1 : p1 = q1 <;> by_cases h2 : p2 = q2 <;> simp [h1, h2]
theorem keyOK_place : KeyOK Try.prog 63 encP where
  check em k w := by
    unfold Instr.checkKey encP
    obtain ⟨f, g, hf, f1, f2, f3, g1, g2, g3⟩ := fieldsP
    have a1 : ∀ w, (part 3 #[.int .i64 k.1, .int .i64 k.2] 0).run Try.prog w = .ok (.int .i64 k.1) w := fun w => run_part_int rfl w
    have a2 : ∀ w, (part 3 #[.int .i64 k.1, .int .i64 k.2] 1).run Try.prog w = .ok (.int .i64 k.2) w := fun w => run_part_int rfl w
    have c1 : ∀ v (w : World), (Instr.checkKey em 9999 3 v).run Try.prog w = .ok () w := fun v w => checkKey_plain Try.underlying3 (fun _ _ => by simp) em 9998 v w
    have n1 : ("level" ≠ "_") = True := by simp
    have n2 : ("index" ≠ "_") = True := by simp
    simp only [Sem.run_bind, run_underlying underP, Result.andThen_ok, hf]
    simp [f1, f2, f3, g1, g2, g3, a1, a2, c1, Sem.run_bind]
  find venc k es l w he _ := by
    have key : ∀ (es : List MapEntry) (l : List (Pl × _)) (i : Nat), es.map (fun e => (e.key, e.val)) = l.map (fun p => (encP p.1, venc p.2)) →
        (Instr.findAsking 63 (encP k) es i).run Try.prog w = .ok ((mfind l k i).map fun x => (x.1, venc x.2)) w := by
      intro es
      induction es with
      | nil => intro l i he; cases l <;> simp_all [Instr.findAsking, mfind]
      | cons e es ih =>
        intro l i he
        cases l with
        | nil => simp at he
        | cons p l =>
          simp only [List.map_cons, List.cons.injEq, Prod.mk.injEq] at he
          obtain ⟨⟨h1, h2⟩, h3⟩ := he
          simp only [Instr.findAsking, Sem.run_bind, h1, run_eq_place, Result.andThen_ok, mfind]
          by_cases hk : k = p.1
          · simp [hk, h2]
          · simp [hk, ih l (i + 1) h3]
    have hnow : ∀ (es : List MapEntry) (l : List (Pl × _)), es.map (fun e => (e.key, e.val)) = l.map (fun p => (encP p.1, venc p.2)) →
        Instr.findNow (.struct (Try.prog.fieldsOf 63)) (encP k) es 0 = none ∨ es = [] := by
      intro es l _
      cases es with
      | nil => exact .inr rfl
      | cons e es => left; simp [Instr.findNow, Instr.sameNow]
    simp only [Instr.findKey, Sem.run_bind, run_underlying underP, Result.andThen_ok]
    rcases hnow es l he with h | rfl
    · rw [h]; exact key es l 0 he
    · cases l with
      | nil => rfl
      | cons _ _ => simp at he
  stays k w := by
    have : Instr.sameBits 10000 (encP k) (encP k) = true := by simp [encP, Instr.sameBits]
    simp [Instr.keyThatStays, this]
end Go.Proofs.Ytjicjadibaomkaa
set_option linter.unusedSimpArgs false
set_option linter.unusedVariables false
set_option maxHeartbeats 2000000
set_option maxRecDepth 100000
namespace Go.Proofs.Ytjicjadibaomkaa
open Go.RowKit Go.Hs Go.Dg

theorem end_any (v i : Nat) (hv : v ≤ 50) (hi : (i + 1) * 2 ^ v ≤ 2 ^ 50) (w : World) : Calls Try.prog 43 #[encP (v, i)] w fun e w' => e = .returned (.int .i64 (((i + 1) * 2 ^ v : Nat) : Int)) ∧ Ext [] w w' := by
  have h1 : i + 1 ≤ 2 ^ 50 := Nat.le_trans (Nat.le_mul_of_pos_right _ (Nat.two_pow_pos _)) hi
  have h2 : (i : Int) ≤ 1125899906842624 := by have : (2 : Nat) ^ 50 = 1125899906842624 := by decide
                                               omega
  have h3 : (0 : Int) ≤ i := by omega
  have h4 : (v : Int) ≤ 50 := by omega
  have h5 : (0 : Int) ≤ v := by omega
  have HI := Hs.hid hi
  clear hi h1
  unfold encP
  have hc : ((i : Int) + 1) * 2 ^ v = (((i + 1) * 2 ^ v : Nat) : Int) := by push_cast; rfl
  have hw : wrap64 (((i : Int) + 1) * 2 ^ v) = (((i + 1) * 2 ^ v : Nat) : Int) := by
    rw [hc]
    have hb := HI.out
    generalize (i + 1) * 2 ^ v = n at hb ⊢
    have : (2 : Nat) ^ 50 = 1125899906842624 := by decide
    unfold wrap64; omega
  have HW := Hs.hid hw
  clear hc hw
  go_enter Try.func43, Try.ntmps43
  go_wp2
  go_ret
  exact ⟨by rw [HW.out]; rfl, (Ext.refl _ _).alloc _⟩
theorem up_any (v i : Nat) (hv : v ≤ 50) (hi : i ≤ 2 ^ 50) (w : World) : Calls Try.prog 42 #[encP (v, i)] w fun e w' => e = .returned (encP ((v + 1 : Nat), (i / 2 : Nat))) ∧ Ext [] w w' := by
  unfold encP
  have h2 : (i : Int) ≤ 1125899906842624 := by have : (2 : Nat) ^ 50 = 1125899906842624 := by decide
                                               omega
  have h3 : (0 : Int) ≤ i := by omega
  have h4 : (v : Int) ≤ 50 := by omega
  have h5 : (0 : Int) ≤ v := by omega
  have hinf : (Try.prog.info? 63).map (·.size) = some 2 := by kernel_rfl
  go_enter Try.func42, Try.ntmps42
  go_wp2
  refine bodyPost_ret (v := encP ((v + 1 : Nat), (i / 2 : Nat))) (results_cell_row (P := Try.prog) Try.results42 _ _ (w.heap.size + 1) _ _ _ _ rfl (by have := heap_new (w.alloc (.cells #[.int .i64 v, .int .i64 i] 63)) (.cells #[.int .i64 (v + 1), .int .i64 (i / 2)] 63); simpa using this) Try.underlying63 rfl hinf) rfl ⟨rfl, ((Ext.refl _ _).alloc _).alloc _⟩
theorem half_any (n : Nat) (h2 : 2 ≤ n) (hn : n ≤ 2 ^ 50) (w : World) : Calls Try.prog 44 #[.int .i64 n] w fun e w' => e = .returned (.int .i64 (halfN n : Int)) ∧ w' = w := by
  have hp : (2 : Nat) ^ 50 = 1125899906842624 := by decide
  have h3 : (n : Int) ≤ 1125899906842624 := by omega
  have h4 : (2 : Int) ≤ n := by omega
  have hL : Lib.bitLen ((n : Int) - 1).toNat = (n - 1).log2 + 1 := by
    have : ((n : Int) - 1).toNat = n - 1 := by omega
    rw [this]
    exact bitLen_log (by omega) (by omega)
  have HL := Hs.hid hL
  clear hL
  have hk : (n - 1).log2 < 50 := (Nat.log2_lt (by omega)).2 (by omega)
  have HK := Hs.hid hk
  obtain ⟨k, hkk⟩ : ∃ k, (n - 1).log2 = k := ⟨_, rfl⟩
  rw [hkk] at hk
  have h5 : (k : Int) ≤ 50 := by omega
  have h6 : (0 : Int) ≤ k := by omega
  have HKK := Hs.hid hkk
  have hres : (halfN n : Int) = 2 ^ k := by unfold halfN; rw [hkk]; push_cast; rfl
  have hbound : ((2 : Int) ^ k) ≤ 1125899906842624 := by
    have := Nat.pow_le_pow_right (n := 2) (by decide) (show k ≤ 50 by omega)
    have hq : ((2 ^ k : Nat) : Int) ≤ ((2 ^ 50 : Nat) : Int) := by omega
    simpa using hq
  have hpos : (0 : Int) < 2 ^ k := by exact_mod_cast Nat.two_pow_pos k
  have hw : wrap64 (2 ^ k) = (halfN n : Int) := by
    rw [hres]
    generalize (2 : Int) ^ k = z at hbound hpos
    unfold wrap64; omega
  have HR := Hs.hid hw
  clear hw hkk hres hbound hpos
  go_enter Try.func44, Try.ntmps44
  go_wp2_with (go_at_call 45; refine (Try.bits_Len ((n : Int) - 1) _ (by omega) (by omega)).mono ?_; rintro e w1 ⟨rfl, rfl⟩; rw [HL.out, HKK.out])
  go_ret
  exact ⟨by rw [HR.out]; rfl, rfl⟩
end Go.Proofs.Ytjicjadibaomkaa
set_option linter.unusedSimpArgs false
set_option linter.unusedVariables false
set_option maxHeartbeats 1000000
namespace Go.Proofs.Ytjicjadibaomkaa
open Go.RowKit Go.Hs
open Go.ChangeMaps (setBlock)

def leftN (h : Array Obj) (r bm : Nat) : Nat := match h[r]?, h[bm]? with
  | some (.mapIter _ _ seen _), some (.map es _) => (leftOf es seen).size
  | _, _ => 0
theorem leftN_same {h h' : Array Obj} {r bm : Nat} (h1 : h'[r]? = h[r]?) (h2 : h'[bm]? = h[bm]?) : leftN h' r bm = leftN h r bm := by unfold leftN; rw [h1, h2]
section
variable {κ ν : Type} [DecidableEq κ] {enc : κ → Value} {venc : ν → Value} {l : List (κ × ν)} {w : World} {P : Program}
/-- Block r is an iterator over the map in block bm, which holds l. -/
def RangeAt (enc : κ → Value) (venc : ν → Value) (h : Array Obj) (r bm : Nat) (l : List (κ × ν)) : Prop :=
  ∃ es clock since c0 seen, h[bm]? = some (.map es clock) ∧ Ents enc venc es clock l ∧ h[r]? = some (.mapIter (some bm) since seen c0) ∧ (∀ x ∈ es.toList, x.born < since) ∧ since ≤ c0 ∧ since ≤ clock
theorem RangeAt.same {h h' : Array Obj} {r bm : Nat} (i : RangeAt enc venc h r bm l) (h1 : h'[r]? = h[r]?) (h2 : h'[bm]? = h[bm]?) : RangeAt enc venc h' r bm l := by
  obtain ⟨es, clock, since, c0, seen, a1, a2, a3, a4⟩ := i
  exact ⟨es, clock, since, c0, seen, h2.trans a1, a2, h1.trans a3, a4⟩
theorem RangeAt.map {h : Array Obj} {r bm : Nat} (i : RangeAt enc venc h r bm l) : MapAt enc venc h bm l := by
  obtain ⟨es, clock, since, c0, seen, a1, a2, _⟩ := i
  exact ⟨es, clock, a1, a2⟩
theorem RangeAt.lt {h : Array Obj} {r bm : Nat} (i : RangeAt enc venc h r bm l) : r < h.size := by
  obtain ⟨es, clock, since, c0, seen, _, _, a3, _⟩ := i
  exact lt_of_heap a3
theorem RangeAt.ext {F : List Nat} {w' : World} {r bm : Nat} (i : RangeAt enc venc w.heap r bm l) (hx : Ext F w w') (h1 : r ∉ F) (h2 : bm ∉ F) : RangeAt enc venc w'.heap r bm l ∧ leftN w'.heap r bm = leftN w.heap r bm :=
  ⟨i.same (hx.block r i.lt h1) (hx.block bm i.map.lt h2), leftN_same (hx.block r i.lt h1) (hx.block bm i.map.lt h2)⟩
theorem run_rangeAt {t k e : TypeId} {bm : Nat} (ht : P.underlying t = some (.map k e)) (m : MapAt enc venc w.heap bm l) :
    ∃ o, (Instr.range t (.map (some bm))).run P w = .ok (.pointer (some ⟨w.heap.size, 0, none⟩)) (w.alloc o) ∧ RangeAt enc venc (w.alloc o).heap w.heap.size bm l := by
  obtain ⟨es, clock, hb, E⟩ := m
  exact ⟨_, run_range_map w t k e bm es clock ht hb, es, clock, clock, clock, #[], heap_old' _ _ hb, E, heap_new _ _, E.clk, Nat.le_refl _, Nat.le_refl _⟩
theorem ext_setBlock (w : World) (r : Nat) (o : Obj) : Ext [r] w (setBlock w r o) := by
  refine ⟨rfl, rfl, rfl, ?_, fun k hk hn => ?_⟩
  · simp [setBlock]
  · simp at hn
    simp [setBlock, Array.getElem?_setIfInBounds, Ne.symm hn]
theorem run_nextAt {r bm : Nat} (ty : TypeId) (i : RangeAt enc venc w.heap r bm l) :
    (leftN w.heap r bm = 0 ∧ (Instr.next (.pointer (some ⟨r, 0, none⟩)) false ty).run P w = .ok (.tuple #[.bool false]) w) ∨
    ∃ p ∈ l, ∃ w1, leftN w1.heap r bm < leftN w.heap r bm ∧ (Instr.next (.pointer (some ⟨r, 0, none⟩)) false ty).run P w = .ok (.tuple #[.bool true, enc p.1, venc p.2]) w1 ∧
      (Instr.entry (.pointer (some ⟨r, 0, none⟩))).run P w1 = .ok (.tuple #[enc p.1, venc p.2]) w1 ∧ RangeAt enc venc w1.heap r bm l ∧ Ext [r] w w1 := by
  obtain ⟨es, clock, since, c0, seen, hb, E, hr, hold, hsc, hcl⟩ := i
  have hN : leftN w.heap r bm = (leftOf es seen).size := by unfold leftN; rw [hr, hb]
  rcases run_next_at (P := P) w ty r bm since c0 seen es clock hr hb hold hsc with ⟨h0, h1⟩ | ⟨e, he, w1, hw, h1⟩
  · exact .inl ⟨by rw [hN]; exact h0, h1⟩
  · right
    have hin := (mem_left he).1
    have hkv : (e.key, e.val) ∈ l.map (fun p => (enc p.1, venc p.2)) := by rw [← E.ents]; exact List.mem_map.2 ⟨e, hin, rfl⟩
    obtain ⟨p, hp, hpe⟩ := List.mem_map.1 hkv
    simp only [Prod.mk.injEq] at hpe
    have hrb : r ≠ bm := ne_block hr hb (by simp)
    have hh : w1.heap = w.heap := by rcases hw with rfl | rfl <;> rfl
    have hrlt := lt_of_heap hr
    have hr' : (setBlock w1 r (.mapIter (some bm) since (seen.push e.born) clock)).heap[r]? = some (.mapIter (some bm) since (seen.push e.born) clock) := by
      simp [setBlock, hh, hrlt]
    have hb' : (setBlock w1 r (.mapIter (some bm) since (seen.push e.born) clock)).heap[bm]? = some (.map es clock) := by
      simp [setBlock, hh, Array.getElem?_setIfInBounds, hrb, hb]
    have hnd : (es.toList.map (·.born)).Nodup := E.born.imp (fun h => by omega)
    refine ⟨p, hp, _, ?_, by rw [hpe.1, hpe.2]; exact h1, ?_, ⟨es, clock, since, clock, _, hb', E, hr', hold, hcl, hcl⟩, ?_⟩
    · rw [hN]
      unfold leftN
      rw [hr', hb']
      exact left_shrinks es seen e he
    · rw [hpe.1, hpe.2]
      exact run_entry_at _ r bm since seen es clock e hr' hb' hin hnd
    · have hE : Ext [r] w w1 := by rcases hw with rfl | rfl; exact Ext.refl _ _; exact (Ext.refl _ _).drew
      exact hE.trans' (ext_setBlock _ _ _)
theorem run_lenAt {bm : Nat} (m : MapAt enc venc w.heap bm l) : ∃ es clock, w.heap[bm]? = some (.map es clock) ∧ es.size = l.length := by
  obtain ⟨es, clock, hb, E⟩ := m
  refine ⟨es, clock, hb, ?_⟩
  have := congrArg List.length E.ents
  simpa using this
theorem run_lenMap {t k e : TypeId} (ty : TypeId) {bm : Nat} (ht : P.underlying t = some (.map k e)) (m : MapAt enc venc w.heap bm l) : (Builtin.len_ #[t] ty #[.map (some bm)]).run P w = .ok (.int .i64 l.length) w := by
  obtain ⟨es, clock, hb, hes⟩ := run_lenAt m
  simp [Builtin.len_, run_underlying ht, getObj, Sem.run, hb, Result.andThen, goInt, hes]
end
end Go.Proofs.Ytjicjadibaomkaa
set_option linter.unusedSimpArgs false
set_option linter.unusedVariables false
set_option maxHeartbeats 2000000
set_option maxRecDepth 100000
namespace Go.Proofs.Ytjicjadibaomkaa
open Go.RowKit Go.Hs Go.Dg

/-- A sum in the map, as the text that it is the sum of. -/
def encS (x : ByteArray) : Value := .agg (digV x)
/-- Block T is a tree of n leaves and a floor, its map in block M, with the places l. -/
structure TAt (h : Array Obj) (T M n floor : Nat) (l : List (Pl × ByteArray)) : Prop where
  cells : h[T]? = some (.cells #[.map (some M), .int .i64 n, .int .i64 floor] 61 (0, 0))
  map : MapAt encP encS h M l
theorem TAt.ne {h : Array Obj} {T M n floor : Nat} {l : List (Pl × ByteArray)} (t : TAt h T M n floor l) : T ≠ M := t.map.ne t.cells
theorem TAt.ext {w w' : World} {F : List Nat} {T M n floor : Nat} {l : List (Pl × ByteArray)} (t : TAt w.heap T M n floor l) (x : Ext F w w') (h1 : T ∉ F) (h2 : M ∉ F) : TAt w'.heap T M n floor l :=
  ⟨x.same t.cells h1, t.map.ext x h2⟩
theorem TAt.ext0 {w w' : World} {T M n floor : Nat} {l : List (Pl × ByteArray)} (t : TAt w.heap T M n floor l) (x : Ext [] w w') : TAt w'.heap T M n floor l := t.ext x (by simp) (by simp)
theorem TAt.get {w : World} {T M n floor : Nat} {l : List (Pl × ByteArray)} (t : TAt w.heap T M n floor l) : w.cell? ⟨T, 0, none⟩ = some (.map (some M)) ∧ w.cell? ⟨T, 1, none⟩ = some (.int .i64 n) ∧ w.cell? ⟨T, 2, none⟩ = some (.int .i64 floor) :=
  ⟨by rw [cellAt t.cells]; rfl, by rw [cellAt t.cells]; rfl, by rw [cellAt t.cells]; rfl⟩
theorem treeNew_any (w : World) : Calls Try.prog 7 #[] w fun e w' => ∃ T M, e = .returned (.pointer (some ⟨T, 0, none⟩)) ∧ TAt w'.heap T M 0 0 [] ∧ Ext [] w w' ∧ w.heap.size ≤ T ∧ w.heap.size ≤ M := by
  have hmk := fun w => run_makeMap (P := Try.prog) 59 w
  go_enter Try.func7, Try.ntmps7
  go_wp2
  go_ret
  refine ⟨_, _, rfl, ⟨?_, ?_⟩, ((Ext.refl _ _).alloc _).alloc _, by omega, Nat.le_refl _⟩
  · have h := heap_new (w.alloc (.map #[] 0)) (.cells #[.map (some w.heap.size), .int .i64 0, .int .i64 0] 61)
    have hz : (w.alloc (.map #[] 0)).heap.size = w.heap.size + 1 := by simp
    rw [hz] at h
    exact h
  · exact (mapAt_new encP encS w).ext ((Ext.refl [] _).alloc _) (by simp)
end Go.Proofs.Ytjicjadibaomkaa
set_option linter.unusedSimpArgs false
set_option linter.unusedVariables false
set_option maxHeartbeats 1000000
namespace Go.Proofs.Ytjicjadibaomkaa
open Go.RowKit Go.Hs
open Go.ChangeMaps (setBlock)

section
variable {κ ν : Type} [DecidableEq κ] {enc : κ → Value} {venc : ν → Value} {l : List (κ × ν)} {w : World} {P : Program}
theorem mfind_erase : ∀ (l : List (κ × ν)) (k : κ) (j i : Nat) (v : ν), (l.map (·.1)).Nodup → mfind l k j = some (i, v) → j ≤ i ∧ l.eraseIdx (i - j) = mdel l k
  | [], k, j, i, v, _, h => by simp [mfind] at h
  | p :: l, k, j, i, v, hn, h => by
    simp only [List.map_cons, List.nodup_cons] at hn
    by_cases hk : k = p.1
    · simp [mfind, hk] at h
      obtain ⟨rfl, rfl⟩ := h
      refine ⟨Nat.le_refl _, ?_⟩
      simp only [Nat.sub_self, List.eraseIdx_zero, List.tail_cons, mdel, List.filter_cons, hk, ne_eq, not_true, decide_false, Bool.false_eq_true, if_false]
      refine (List.filter_eq_self.2 fun q hq => ?_).symm
      have : p.1 ≠ q.1 := fun e => hn.1 (List.mem_map.2 ⟨q, hq, e.symm⟩)
      simpa using this
    · have h' : mfind l k (j + 1) = some (i, v) := by simpa [mfind, hk] using h
      obtain ⟨h1, h2⟩ := mfind_erase l k (j + 1) i v hn.2 h'
      refine ⟨by omega, ?_⟩
      rw [show i - j = (i - (j + 1)) + 1 by omega, List.eraseIdx_cons_succ, h2]
      simp [mdel, List.filter_cons, hk]
/-- Block r is an iterator over the map in block bm, which holds l; what it has seen is good, or x. -/
def RangeG (enc : κ → Value) (venc : ν → Value) (good : κ → Bool) (x : Option κ) (h : Array Obj) (r bm : Nat) (l : List (κ × ν)) : Prop :=
  ∃ es clock since c0 seen, h[bm]? = some (.map es clock) ∧ Ents enc venc es clock l ∧ h[r]? = some (.mapIter (some bm) since seen c0) ∧ (∀ y ∈ es.toList, y.born < since) ∧ since ≤ c0 ∧ since ≤ clock ∧
    ∀ y ∈ es.toList, seen.contains y.born = true → ∃ k, y.key = enc k ∧ (good k = true ∨ x = some k)
theorem RangeG.at {good : κ → Bool} {x : Option κ} {h : Array Obj} {r bm : Nat} (i : RangeG enc venc good x h r bm l) : RangeAt enc venc h r bm l := by
  obtain ⟨es, clock, since, c0, seen, a1, a2, a3, a4, a5, a6, _⟩ := i
  exact ⟨es, clock, since, c0, seen, a1, a2, a3, a4, a5, a6⟩
theorem RangeG.same {good : κ → Bool} {x : Option κ} {h h' : Array Obj} {r bm : Nat} (i : RangeG enc venc good x h r bm l) (h1 : h'[r]? = h[r]?) (h2 : h'[bm]? = h[bm]?) : RangeG enc venc good x h' r bm l := by
  obtain ⟨es, clock, since, c0, seen, a1, a2, a3, a4⟩ := i
  exact ⟨es, clock, since, c0, seen, h2.trans a1, a2, h1.trans a3, a4⟩
theorem RangeG.ext {good : κ → Bool} {x : Option κ} {F : List Nat} {w' : World} {r bm : Nat} (i : RangeG enc venc good x w.heap r bm l) (hx : Ext F w w') (h1 : r ∉ F) (h2 : bm ∉ F) : RangeG enc venc good x w'.heap r bm l ∧ leftN w'.heap r bm = leftN w.heap r bm :=
  ⟨i.same (hx.block r i.at.lt h1) (hx.block bm i.at.map.lt h2), leftN_same (hx.block r i.at.lt h1) (hx.block bm i.at.map.lt h2)⟩
theorem RangeG.good {good : κ → Bool} {k : κ} {h : Array Obj} {r bm : Nat} (i : RangeG enc venc good (some k) h r bm l) (hk : good k = true) : RangeG enc venc good none h r bm l := by
  obtain ⟨es, clock, since, c0, seen, a1, a2, a3, a4, a5, a6, a7⟩ := i
  refine ⟨es, clock, since, c0, seen, a1, a2, a3, a4, a5, a6, fun y hy hs => ?_⟩
  obtain ⟨q, h1, h2⟩ := a7 y hy hs
  refine ⟨q, h1, .inl ?_⟩
  rcases h2 with h2 | h2
  · exact h2
  · cases h2; exact hk
theorem inj_of_nodup_map {α β : Type} (f : α → β) : ∀ (l : List α), (l.map f).Nodup → ∀ x ∈ l, ∀ y ∈ l, f x = f y → x = y
  | [], _, _, hx, _, _, _ => by cases hx
  | a :: l, hn, x, hx, y, hy, he => by
    simp only [List.map_cons, List.nodup_cons] at hn
    rcases List.mem_cons.1 hx with rfl | hx1 <;> rcases List.mem_cons.1 hy with rfl | hy1
    · rfl
    · exact absurd (List.mem_map.2 ⟨y, hy1, he.symm⟩) hn.1
    · exact absurd (List.mem_map.2 ⟨x, hx1, he⟩) hn.1
    · exact inj_of_nodup_map f l hn.2 x hx1 y hy1 he
theorem run_rangeG {t k e : TypeId} {bm : Nat} (good : κ → Bool) (ht : P.underlying t = some (.map k e)) (m : MapAt enc venc w.heap bm l) :
    ∃ o, (Instr.range t (.map (some bm))).run P w = .ok (.pointer (some ⟨w.heap.size, 0, none⟩)) (w.alloc o) ∧ RangeG enc venc good none (w.alloc o).heap w.heap.size bm l := by
  obtain ⟨es, clock, hb, E⟩ := m
  exact ⟨_, run_range_map w t k e bm es clock ht hb, es, clock, clock, clock, #[], heap_old' _ _ hb, E, heap_new _ _, E.clk, Nat.le_refl _, Nat.le_refl _, fun y _ h => by simp at h⟩
theorem run_nextG {good : κ → Bool} {r bm : Nat} (ty : TypeId) (hinj : ∀ a b, enc a = enc b → a = b) (i : RangeG enc venc good none w.heap r bm l) :
    (leftN w.heap r bm = 0 ∧ (Instr.next (.pointer (some ⟨r, 0, none⟩)) false ty).run P w = .ok (.tuple #[.bool false]) w ∧ ∀ p ∈ l, good p.1 = true) ∨
    ∃ p ∈ l, ∃ w1, leftN w1.heap r bm < leftN w.heap r bm ∧ (Instr.next (.pointer (some ⟨r, 0, none⟩)) false ty).run P w = .ok (.tuple #[.bool true, enc p.1, venc p.2]) w1 ∧
      (Instr.entry (.pointer (some ⟨r, 0, none⟩))).run P w1 = .ok (.tuple #[enc p.1, venc p.2]) w1 ∧ RangeG enc venc good (some p.1) w1.heap r bm l ∧ Ext [r] w w1 := by
  obtain ⟨es, clock, since, c0, seen, hb, E, hr, hold, hsc, hcl, hgood⟩ := i
  have hN : leftN w.heap r bm = (leftOf es seen).size := by unfold leftN; rw [hr, hb]
  have hnd : (es.toList.map (·.born)).Nodup := E.born.imp (fun h => by omega)
  rcases run_next_at (P := P) w ty r bm since c0 seen es clock hr hb hold hsc with ⟨h0, h1⟩ | ⟨e, he, w1, hw, h1⟩
  · refine .inl ⟨by rw [hN]; exact h0, h1, fun p hp => ?_⟩
    have hkv : (enc p.1, venc p.2) ∈ es.toList.map (fun e => (e.key, e.val)) := by rw [E.ents]; exact List.mem_map.2 ⟨p, hp, rfl⟩
    obtain ⟨e, he, hee⟩ := List.mem_map.1 hkv
    simp only [Prod.mk.injEq] at hee
    have hs : seen.contains e.born = true := by
      have h2 : leftOf es seen = #[] := Array.eq_empty_of_size_eq_zero h0
      unfold leftOf at h2
      rw [Array.filter_eq_empty_iff] at h2
      have := h2 e (by simpa using he)
      simpa using this
    obtain ⟨k, hk, hg⟩ := hgood e he hs
    have : p.1 = k := hinj _ _ (hee.1.symm.trans hk)
    rcases hg with hg | hg
    · rw [this]; exact hg
    · cases hg
  · right
    have hin := (mem_left he).1
    have hkv : (e.key, e.val) ∈ l.map (fun p => (enc p.1, venc p.2)) := by rw [← E.ents]; exact List.mem_map.2 ⟨e, hin, rfl⟩
    obtain ⟨p, hp, hpe⟩ := List.mem_map.1 hkv
    simp only [Prod.mk.injEq] at hpe
    have hrb : r ≠ bm := ne_block hr hb (by simp)
    have hh : w1.heap = w.heap := by rcases hw with rfl | rfl <;> rfl
    have hrlt := lt_of_heap hr
    have hr' : (setBlock w1 r (.mapIter (some bm) since (seen.push e.born) clock)).heap[r]? = some (.mapIter (some bm) since (seen.push e.born) clock) := by
      simp [setBlock, hh, hrlt]
    have hb' : (setBlock w1 r (.mapIter (some bm) since (seen.push e.born) clock)).heap[bm]? = some (.map es clock) := by
      simp [setBlock, hh, Array.getElem?_setIfInBounds, hrb, hb]
    refine ⟨p, hp, _, ?_, by rw [hpe.1, hpe.2]; exact h1, ?_, ⟨es, clock, since, clock, _, hb', E, hr', hold, hcl, hcl, ?_⟩, ?_⟩
    · rw [hN]
      unfold leftN
      rw [hr', hb']
      exact left_shrinks es seen e he
    · rw [hpe.1, hpe.2]
      exact run_entry_at _ r bm since seen es clock e hr' hb' hin hnd
    · intro y hy hs
      have hs' : seen.contains y.born = true ∨ y.born = e.born := by simpa [Array.contains_push] using hs
      rcases hs' with hs' | hs'
      · obtain ⟨k, hk, hg⟩ := hgood y hy hs'
        exact ⟨k, hk, .inl (hg.resolve_right (by simp))⟩
      · have : y = e := inj_of_nodup_map _ _ hnd y hy e hin hs'
        exact ⟨p.1, by rw [this]; exact hpe.1.symm, .inr rfl⟩
    · have hE : Ext [r] w w1 := by rcases hw with rfl | rfl; exact Ext.refl _ _; exact (Ext.refl _ _).drew
      exact hE.trans' (ext_setBlock _ _ _)
theorem map_eraseIdx' {α β : Type} (f : α → β) : ∀ (l : List α) (i : Nat), (l.eraseIdx i).map f = (l.map f).eraseIdx i
  | [], _ => rfl
  | _ :: _, 0 => rfl
  | a :: l, i + 1 => by simp [map_eraseIdx' f l i]
theorem mfind_none : ∀ (l : List (κ × ν)) (k : κ) (j : Nat), mfind l k j = none → mdel l k = l
  | [], k, j, h => rfl
  | p :: l, k, j, h => by
    by_cases hk : k = p.1
    · simp [mfind, hk] at h
    · have h' : mfind l k (j + 1) = none := by simpa [mfind, hk] using h
      have := mfind_none l k (j + 1) h'
      simp only [mdel] at this ⊢
      rw [List.filter_cons, if_pos (by simpa using hk), this]
theorem run_deleteG {t kt et kt' ty : TypeId} {k : κ} {good : κ → Bool} {r bm : Nat} (K : KeyOK P kt enc) (ht : P.underlying t = some (.map kt et)) (hinj : ∀ a b, enc a = enc b → a = b) (i : RangeG enc venc good (some k) w.heap r bm l) :
    ∃ w', (Builtin.delete_ #[t, kt'] ty #[.map (some bm), enc k]).run P w = .ok (.tuple #[]) w' ∧ RangeG enc venc good none w'.heap r bm (mdel l k) ∧ leftN w'.heap r bm ≤ leftN w.heap r bm ∧ Ext [bm] w w' := by
  obtain ⟨es, clock, since, c0, seen, hb, E, hr, hold, hsc, hcl, hgood⟩ := i
  have hrb : r ≠ bm := ne_block hr hb (by simp)
  have hblt := lt_of_heap hb
  have hN : leftN w.heap r bm = (leftOf es seen).size := by unfold leftN; rw [hr, hb]
  have hfind := K.find venc k es.toList l w E.ents E.nodup
  have hchk := K.check es.isEmpty k w
  have hset : ∀ es' : Array MapEntry, (setObj bm (.map es' clock)).run P w = .ok () (setBlock w bm (.map es' clock)) := by
    intro es'
    simp [setObj, Sem.run, setBlock, hb]
  have hfin : ∀ es' : Array MapEntry, List.Sublist es'.toList es.toList → es'.toList.map (fun e => (e.key, e.val)) = (mdel l k).map (fun p => (enc p.1, venc p.2)) →
      RangeG enc venc good none (setBlock w bm (.map es' clock)).heap r bm (mdel l k) ∧ leftN (setBlock w bm (.map es' clock)).heap r bm ≤ leftN w.heap r bm := by
    intro es' hsub hents
    have hb' : (setBlock w bm (.map es' clock)).heap[bm]? = some (.map es' clock) := by simp [setBlock, hblt]
    have hr' : (setBlock w bm (.map es' clock)).heap[r]? = some (.mapIter (some bm) since seen c0) := by
      simp [setBlock, Array.getElem?_setIfInBounds, Ne.symm hrb, hr]
    refine ⟨⟨es', clock, since, c0, seen, hb', ⟨hents, mdel_nodup E.nodup k, E.born.sublist (hsub.map _), fun e he => E.clk e (hsub.subset he)⟩, hr', fun y hy => hold y (hsub.subset hy), hsc, hcl, ?_⟩, ?_⟩
    · intro y hy hs
      obtain ⟨q, h1, h2⟩ := hgood y (hsub.subset hy) hs
      have hin : (y.key, y.val) ∈ (mdel l k).map (fun p => (enc p.1, venc p.2)) := by rw [← hents]; exact List.mem_map.2 ⟨y, hy, rfl⟩
      obtain ⟨p, hp, hpe⟩ := List.mem_map.1 hin
      simp only [Prod.mk.injEq] at hpe
      have hpq : p.1 = q := hinj _ _ (hpe.1.trans h1)
      have hpk : k ≠ p.1 := by
        unfold mdel at hp
        have := (List.mem_filter.1 hp).2
        simpa using this
      refine ⟨q, h1, .inl ?_⟩
      rcases h2 with h2 | h2
      · exact h2
      · simp only [Option.some.injEq] at h2
        exact absurd (h2.trans hpq.symm) hpk
    · rw [hN]
      unfold leftN
      rw [hr', hb']
      unfold leftOf
      show (es'.filter fun e => !seen.contains e.born).size ≤ (es.filter fun e => !seen.contains e.born).size
      have hs : ∀ (p : MapEntry → Bool) (a : Array MapEntry), (a.filter p).size = (a.toList.filter p).length := fun p a => by rw [← Array.toList_filter, Array.length_toList]
      rw [hs, hs]
      exact (hsub.filter _).length_le
  cases hm : mfind l k 0 with
  | none =>
    rw [hm] at hfind
    have hd := mfind_none l k 0 hm
    obtain ⟨f1, f2⟩ := hfin es (List.Sublist.refl _) (by rw [hd]; exact E.ents)
    refine ⟨setBlock w bm (.map es clock), ?_, f1, f2, ext_setBlock _ _ _⟩
    simp [Builtin.delete_, run_underlying ht, getObj, Sem.run, hb, Result.andThen, hchk, hfind]
    rw [hset es]
  | some x =>
    obtain ⟨i, v⟩ := x
    rw [hm] at hfind
    obtain ⟨_, hd⟩ := mfind_erase l k 0 i v E.nodup hm
    rw [Nat.sub_zero] at hd
    obtain ⟨f1, f2⟩ := hfin (es.eraseIdxIfInBounds i) (by simpa using List.eraseIdx_sublist es.toList i) (by
      rw [← hd]
      have h := E.ents
      rw [Array.toList_eraseIdxIfInBounds, map_eraseIdx', h, ← map_eraseIdx'])
    refine ⟨setBlock w bm (.map (es.eraseIdxIfInBounds i) clock), ?_, f1, f2, ext_setBlock _ _ _⟩
    simp [Builtin.delete_, run_underlying ht, getObj, Sem.run, hb, Result.andThen, hchk, hfind]
    rw [hset (es.eraseIdxIfInBounds i)]
end
end Go.Proofs.Ytjicjadibaomkaa
set_option linter.unusedSimpArgs false
set_option linter.unusedVariables false
namespace Go.Hs
open Go Go.RowKit
theorem wp_region_tail {P : Program} {id : Nat} {Q : Exit → Act → World → Prop} {a : Act} {w : World} {l : List Oper} (n : Nat) (hm : P.follows .mixedOrders = true) (hB : Region.lexTailB .any l.toArray n = true)
    (h : wpStill P l.toArray w.drew (fun a' => wpList P l.toArray Q (l.drop n) a' w.drew) (l.take n) a) : (Code.region id l.toArray true).wp P Q a w :=
  wp_region_still_tail n hm hB h
theorem wpStill_load_row {P : Program} {ops : Array Oper} {rest : List Oper} {o : Oper} {a : Act} {w : World} {Q : Act → Prop} (hgd : o.guard = none) (ty : TypeId) (x : Operand) (ho : o.op = .load ty x)
    (g : Nat) (hx : a.eval x = .pointer (some ⟨g, 0, none⟩)) (t : TypeId) (cs : Array Value) (fr : Nat × Nat) (d : TypeDesc) (hg : w.heap[g]? = some (.cells cs t fr))
    (hu : P.underlying ty = some d) (hd : (match d with | .struct _ | .array _ _ => true | _ => false) = true) (hi : (P.info? ty).map (·.size) = some cs.size)
    (h : wpStill P ops w Q rest (a.put o.dst (.agg cs))) : wpStill P ops w Q (o :: rest) a := by
  refine wpStill_step fun K hK => ?_
  have hw : Region.wanted o (yielded ops a.tmps) = true := by simp [Region.wanted, hgd]
  rw [if_pos hw]
  unfold Oper.still execOp
  simp only [ho, hx, Instr.loadAt, Instr.sureAddr, Sem.run_bind, Sem.run_pure, Result.andThen_ok, run_loadVar_row w g t ty cs fr d hg hu hd hi, Oper.stillUpon_value]
  exact hK _ h
end Go.Hs
set_option linter.unusedSimpArgs false
set_option linter.unusedVariables false
namespace Go.Hs
open Go Go.RowKit
theorem wpList_delete {P : Program} {ops : Array Oper} {rest : List Oper} {o : Oper} {a : Act} {w : World} {Q : Exit → Act → World → Prop}
    (hg : o.guard = none) (hd : o.dst = none) (s x : Operand) (t kt : TypeId) (hop : o.op = Op.call { callee := Callee.builtin Builtin.delete, args := #[s, x], argTypes := #[t, kt] })
    (v k : Value) (hs : a.eval s = v) (hx : a.eval x = k) (w' : World) (hr : (Builtin.delete_ #[t, kt] o.type #[v, k]).run P w = .ok (.tuple #[]) w')
    (hK : wpList P ops Q rest a w') : wpList P ops Q (o :: rest) a w := by
  refine wpList_plain hg fun K' hK' => ?_
  unfold Oper.wp execOp
  simp only [hop, resolve, invoke, builtin, Sem.run_bind, Sem.run_pure, Result.andThen_ok, List.map_toArray, List.map_cons, List.map_nil, hs, hx, hr]
  rw [Oper.upon_value]
  have := hK' _ _ hK
  simpa [Act.put, hd] using this
section
variable {κ ν : Type} [DecidableEq κ] {enc : κ → Value} {venc : ν → Value} {l : List (κ × ν)} {b : Nat} {w : World} {P : Program} {kt et t : TypeId}
/-- A lookup, the zero value any value. -/
def lookV (venc : ν → Value) (z : Value) (o : Option ν) (ok : Bool) : Value := match o with
  | some x => if ok then .tuple #[venc x, .bool true] else venc x
  | none => if ok then .tuple #[z, .bool false] else z
theorem run_lookup_z (K : KeyOK P kt enc) (ht : P.underlying t = some (.map kt et)) {z : Value} (hz : (zeroValue et).run P w = .ok z w) (m : MapAt enc venc w.heap b l) (k : κ) (ok : Bool) :
    (Instr.lookup t (.map (some b)) (enc k) ok).run P w = .ok (lookV venc z (mlook l k) ok) w := by
  obtain ⟨es, c, hb, E⟩ := m
  have hg : (getObj b).run P w = .ok (.map es c) w := by simp [getObj, Sem.run, hb]
  have hf := K.find venc k es.toList l w E.ents E.nodup
  simp only [Instr.lookup, Sem.run_bind, run_underlying ht, Result.andThen_ok, hg, K.check, Sem.run_pure]
  rw [hf]
  have hm := mfind_eq l k 0
  cases hx : mfind l k 0 with
  | none => rw [hx] at hm; rw [← hm]; cases ok <;> simp [hz, lookV]
  | some x => rw [hx] at hm; rw [← hm]; cases ok <;> simp [lookV]
theorem wpStill_lookup {ops : Array Oper} {rest : List Oper} {o : Oper} {a : Act} {Q : Act → Prop} (hgd : o.guard = none) (mo x : Operand) (ok : Bool) (ho : o.op = Op.lookup t mo x ok)
    (K : KeyOK P kt enc) (ht : P.underlying t = some (.map kt et)) {z : Value} (hz : (zeroValue et).run P w = .ok z w) (hm : a.eval mo = .map (some b)) (m : MapAt enc venc w.heap b l) (k : κ) (hx : a.eval x = enc k)
    (v : Value) (hv : lookV venc z (mlook l k) ok = v) (h : wpStill P ops w Q rest (a.put o.dst v)) : wpStill P ops w Q (o :: rest) a := by
  refine wpStill_step fun K' hK => ?_
  have hw : Region.wanted o (yielded ops a.tmps) = true := by simp [Region.wanted, hgd]
  rw [if_pos hw]
  have hrun := run_lookup_z K ht hz m k ok
  rw [hv] at hrun
  unfold Oper.still
  simp only [execOp, ho, hm, hx, Sem.run_bind, hrun, Result.andThen_ok, Sem.run_pure, Oper.stillUpon_value]
  exact hK _ h
theorem MapAt.nodup {h : Array Obj} (m : MapAt enc venc h b l) : (l.map (·.1)).Nodup := by obtain ⟨es, c, hb, E⟩ := m; exact E.nodup
end
end Go.Hs
set_option linter.unusedSimpArgs false
set_option linter.unusedVariables false
set_option maxHeartbeats 2000000
set_option maxRecDepth 100000
namespace Go.Proofs.Ytjicjadibaomkaa
open Go.RowKit Go.Hs Go.Dg

theorem encP_inj (a b : Pl) (h : encP a = encP b) : a = b := by
  obtain ⟨a1, a2⟩ := a
  obtain ⟨b1, b2⟩ := b
  simp [encP] at h
  simp [h.1, h.2]
/-- Behind which leaf the subtree ends in which a place is one half. -/
def upEnd (p : Pl) : Nat := (p.2.toNat / 2 + 1) * 2 ^ (p.1.toNat + 1)
def keepP (floor : Nat) (p : Pl) : Bool := decide (floor < upEnd p)
/-- Places as they are kept: small ones. -/
def SmallP (l : List (Pl × ByteArray)) : Prop := ∀ p ∈ l, ∃ v i : Nat, p.1 = ((v : Int), (i : Int)) ∧ v ≤ 40 ∧ (i + 1) * 2 ^ v ≤ 2 ^ 40
theorem filter_mdel (l : List (Pl × ByteArray)) (k : Pl) (f : Pl → Bool) (h : f k = false) : ((mdel l k).filter fun p => f p.1) = l.filter fun p => f p.1 := by
  unfold mdel
  rw [List.filter_filter]
  apply List.filter_congr
  intro q _
  by_cases e : k = q.1
  · subst e; simp [h]
  · simp [e]
theorem trim_any {w : World} {T M n floor : Nat} {l : List (Pl × ByteArray)} (t : TAt w.heap T M n floor l) (hs : SmallP l) : Calls Try.prog 25 #[.pointer (some ⟨T, 0, none⟩)] w fun e w' =>
    e = .returned (.tuple #[]) ∧ TAt w'.heap T M n floor (l.filter fun p => keepP floor p.1) ∧ Ext [M] w w' := by
  obtain ⟨c0, c1, c2⟩ := t.get
  have hTM := t.ne
  obtain ⟨o, hrun, hRG⟩ := run_rangeG (P := Try.prog) (t := 59) (keepP floor) Try.underlying59 t.map
  go_enter Try.func25, Try.ntmps25
  go_wp2_with fail
  clear hrun
  have hcl := heap_old' _ o t.cells
  have hE := (Ext.refl [M] w).alloc o
  have hml := t.map.lt
  generalize w.alloc o = W6 at *
  generalize hrr : w.heap.size = r at *
  have HRR := Hs.hid hrr
  clear hrr
  go_loopw [8] (fun _ wq => ∃ l1, RangeG encP encS (keepP floor) none wq.heap r M l1 ∧ wq.heap[T]? = some (.cells #[.map (some M), .int .i64 n, .int .i64 floor] 61 (0, 0)) ∧ Ext [M] w wq ∧ Hid ((l1.filter fun p => keepP floor p.1) = (l.filter fun p => keepP floor p.1) ∧ SmallP l1)) (fun _ wq => leftN wq.heap r M)
  case atStart => exact ⟨l, hRG, hcl, hE, Hs.hid ⟨rfl, hs⟩⟩
  case round =>
    clear hRG hcl hE
    obtain ⟨l1, hRG, hcl, hE, HL⟩ := hrel
    rcases run_nextG (P := Try.prog) 0 encP_inj hRG with ⟨h0, hnx, hall⟩ | ⟨p, hp, w7, hlt, hnx, hen, hRG7, hx7⟩
    · go_wp2_with fail
      have hl1 : (l1.filter fun p => keepP floor p.1) = l1 := List.filter_eq_self.2 hall
      exact bodyPost_end (v := .tuple #[]) (by simp [results, Try.results25, go_sem]) rfl ⟨rfl, ⟨hcl, by rw [← HL.out.1, hl1]; exact hRG.at.map⟩, hE⟩
    · obtain ⟨v, i, hvi, hv, hi⟩ := HL.out.2 p hp
      have hrT : r ≠ T := by
        obtain ⟨_, _, _, _, _, _, _, h1, _⟩ := hRG.at
        exact ne_block h1 hcl (by simp)
      have hcl7 := hx7.same hcl (by simpa using Ne.symm hrT)
      rw [hvi, show encP ((v : Int), (i : Int)) = .agg #[.int .i64 v, .int .i64 i] from rfl] at hen
      have HI := Hs.hid (And.intro hvi (And.intro hv hi))
      clear hvi hv hi
      have hzz : w7.heap[w7.heap.size]? = none := by simp
      go_upto_region 3 with fail
      have hC := heap_new w7 (.cells #[.int .i64 v, .int .i64 i] 63)
      have hcl8 := heap_old' w7 (.cells #[.int .i64 v, .int .i64 i] 63) hcl7
      have hx8 := (Ext.refl [] w7).alloc (.cells #[.int .i64 v, .int .i64 i] 63)
      generalize w7.alloc (.cells #[.int .i64 v, .int .i64 i] 63) = W8 at *
      generalize w7.heap.size = C at *
      have HB1 : Hid (v ≤ 50 ∧ i ≤ 2 ^ 50 ∧ v + 1 ≤ 50 ∧ (i / 2 + 1) * 2 ^ (v + 1) ≤ 2 ^ 50) := Hs.hid (by
        obtain ⟨_, h1, h2⟩ := HI.out
        have h3 : i + 1 ≤ (i + 1) * 2 ^ v := Nat.le_mul_of_pos_right _ (Nat.two_pow_pos _)
        have h4 : (i / 2 + 1) * 2 ^ (v + 1) ≤ 2 * ((i + 1) * 2 ^ v) := by
          rw [Nat.pow_succ, Nat.mul_comm (2 ^ v) 2, ← Nat.mul_assoc, ← Nat.mul_assoc, Nat.mul_comm _ 2]
          exact Nat.mul_le_mul_right _ (by omega)
        have h5 : (2 : Nat) ^ 40 = 1099511627776 := by decide
        have h6 : (2 : Nat) ^ 50 = 1125899906842624 := by decide
        omega)
      have a0 : W8.cell? ⟨T, 2, none⟩ = some (.int .i64 floor) := by rw [cellAt hcl8]; rfl
      have a1 : W8.cell? ⟨C, 0, none⟩ = some (.int .i64 v) := by rw [cellAt hC]; rfl
      have a2 : W8.cell? ⟨C, 1, none⟩ = some (.int .i64 i) := by rw [cellAt hC]; rfl
      go_region_held3 (fun w' => w'.cell? ⟨T, 2, none⟩ = some (.int .i64 floor) ∧ w'.cell? ⟨C, 0, none⟩ = some (.int .i64 v) ∧ w'.cell? ⟨C, 1, none⟩ = some (.int .i64 i))
        (first
          | exact ⟨a0, a1, a2⟩
          | exact ⟨b0, b1, b2⟩
          | exact ⟨d0, d1, d2⟩
          | go_keep)
        (first
          | (go_at_call 42; refine (up_any v i HB1.out.1 HB1.out.2.1 _).mono ?_; rintro e w9 ⟨rfl, hx9⟩; have hC9 := hx9.same hC (by simp); have hcl9 := hx9.same hcl8 (by simp); have b0 := (show w9.cell? ⟨T, 2, none⟩ = some (.int .i64 floor) by rw [cellAt hcl9]; rfl); have b1 := (show w9.cell? ⟨C, 0, none⟩ = some (.int .i64 v) by rw [cellAt hC9]; rfl); have b2 := (show w9.cell? ⟨C, 1, none⟩ = some (.int .i64 i) by rw [cellAt hC9]; rfl))
          | (go_at_call 43; refine (end_any (v + 1) (i / 2) HB1.out.2.2.1 HB1.out.2.2.2 _).mono ?_; rintro e w10 ⟨rfl, hx10⟩; have hC10 := hx10.same hC9 (by simp); have hcl10 := hx10.same hcl9 (by simp); have d0 := (show w10.cell? ⟨T, 2, none⟩ = some (.int .i64 floor) by rw [cellAt hcl10]; rfl); have d1 := (show w10.cell? ⟨C, 0, none⟩ = some (.int .i64 v) by rw [cellAt hC10]; rfl); have d2 := (show w10.cell? ⟨C, 1, none⟩ = some (.int .i64 i) by rw [cellAt hC10]; rfl)))
      have hxa : Ext [] w7 w10 := (hx8.drew.trans0 hx9).trans0 hx10
      have hue : upEnd p.1 = (i / 2 + 1) * 2 ^ (v + 1) := by rw [HI.out.1]; simp [upEnd]
      have hue2 : ((i : Int) / 2 + 1) * 2 ^ (v + 1) = (upEnd p.1 : Int) := by rw [hue]; push_cast; rfl
      rw [hue2]
      clear hue hue2
      by_cases hk : upEnd p.1 ≤ floor
      · have hki : (upEnd p.1 : Int) ≤ floor := by omega
        rw [decide_eq_true hki]
        have t0 : w10.cell? ⟨T, 0, none⟩ = some (.map (some M)) := by rw [cellAt hcl10]; rfl
        obtain ⟨g1, g2⟩ := hRG7.ext hxa (by simp) (by simp)
        obtain ⟨wd, hdr, hRGd, hld, hxd⟩ := run_deleteG (P := Try.prog) (w := w10.drew) (t := 59) (kt' := 63) (ty := 0) keyOK_place Try.underlying59 encP_inj g1
        rw [HI.out.1, show encP ((v : Int), (i : Int)) = .agg #[.int .i64 v, .int .i64 i] from rfl] at hdr
        go_upto_region 4 with fail
        have hl10 : w10.cell? ⟨C, 0, none⟩ = some (.int .i64 v) := by rw [cellAt hC10]; rfl
        have hl11 : w10.cell? ⟨C, 1, none⟩ = some (.int .i64 i) := by rw [cellAt hC10]; rfl
        have HRd := Hs.hid (And.intro hRGd (And.intro hld (And.intro hxd (And.intro hlt g2))))
        have HDR := Hs.hid hdr
        have HKP : Hid (keepP floor p.1 = false) := Hs.hid (by unfold keepP; simp; omega)
        clear hdr hRGd hld hxd hlt g2 g1 a0 a1 a2 b0 b1 b2 d0 d1 d2 hnx hen hki hk
        refine wp_region_tail 5 (by kernel_rfl) (by kernel_rfl) ?_
        simp only [List.take_succ_cons, List.take_zero, List.drop_succ_cons, List.drop_zero]
        iterate 5 still_step
        refine wpStill_nil ?_
        refine wpList_delete rfl rfl (.tmp 23) (.tmp 24) 59 63 rfl _ _ rfl rfl wd HDR.out ?_
        go_wp2_with fail
        go_round
        case rel =>
          refine ⟨mdel l1 p.1, HRd.out.1, HRd.out.2.2.1.same hcl10 (by simpa using hTM), ?_, Hs.hid ?_⟩
          · exact (((hE.trans hx7 (fun g hg => .inr (by simp at hg; subst hg; exact Nat.le_of_eq HRR.out))).trans0 hxa).drew).trans' HRd.out.2.2.1
          · exact ⟨(filter_mdel _ _ _ HKP.out).trans HL.out.1, fun q hq => HL.out.2 q (List.mem_filter.1 hq).1⟩
        case measure => exact Nat.lt_of_le_of_lt HRd.out.2.1 (by have := HRd.out.2.2.2.2; have h2 := HRd.out.2.2.2.1; show leftN w10.heap r M < _; omega)
      · have hki : ¬ (upEnd p.1 : Int) ≤ floor := by omega
        rw [decide_eq_false hki]
        have hkeep : keepP floor p.1 = true := by unfold keepP; simp; omega
        obtain ⟨g1, g2⟩ := hRG7.good hkeep |>.ext hxa (by simp) (by simp)
        have HG2 := Hs.hid (And.intro g2 hlt)
        have hEx : Ext [M] w w10 := (hE.trans hx7 (fun g hg => .inr (by simp at hg; subst hg; exact Nat.le_of_eq HRR.out))).trans0 hxa
        clear g2 hlt
        go_wp2_with fail
        go_round
        case rel => exact ⟨l1, g1, hcl10, hEx, HL⟩
        case measure => rw [HG2.out.1]; exact HG2.out.2
end Go.Proofs.Ytjicjadibaomkaa
set_option linter.unusedSimpArgs false
set_option linter.unusedVariables false
namespace Go.Proofs.Ytjicjadibaomkaa
open Go.RowKit Go.Hs Go.Dg

def leafT (s : ByteArray) : ByteArray := ⟨#[0]⟩ ++ s
/-- The text of a place, of leaves L. -/
def textP (L : List ByteArray) : Nat → Nat → ByteArray
  | 0, i => leafT (L.getD i noB)
  | v + 1, i => nodeT (textP L v (2 * i)) (textP L v (2 * i + 1))
where noB : ByteArray := ⟨#[]⟩
theorem textP_app (L : List ByteArray) (m : List ByteArray) : ∀ v i, (i + 1) * 2 ^ v ≤ L.length → textP (L ++ m) v i = textP L v i
  | 0, i, h => by
    simp only [Nat.pow_zero, Nat.mul_one] at h
    simp only [textP, List.getD_eq_getElem?_getD]
    rw [List.getElem?_append_left (by omega)]
  | v + 1, i, h => by
    have h1 : (2 * i + 1 + 1) * 2 ^ v ≤ L.length := by
      have : (2 * i + 1 + 1) * 2 ^ v = (i + 1) * 2 ^ (v + 1) := by rw [Nat.pow_succ, ← Nat.mul_assoc, show (2 * i + 1 + 1) = (i + 1) * 2 by omega, Nat.mul_assoc, Nat.mul_assoc, Nat.mul_comm 2]
      omega
    have h2 : (2 * i + 1) * 2 ^ v ≤ L.length := Nat.le_trans (Nat.mul_le_mul_right _ (by omega)) h1
    simp only [textP]
    rw [textP_app L m v (2 * i) h2, textP_app L m v (2 * i + 1) h1]
def plN (v i : Nat) : Pl := ((v : Int), (i : Int))
theorem plN_inj {v i v' i' : Nat} : plN v i = plN v' i' ↔ v = v' ∧ i = i' := by
  unfold plN; simp; omega
theorem upEnd_N (v i : Nat) : upEnd (plN v i) = (i / 2 + 1) * 2 ^ (v + 1) := by simp [upEnd, plN]
theorem up_le (v i : Nat) : (i + 1) * 2 ^ v ≤ upEnd (plN v i) := by
  rw [upEnd_N, Nat.pow_succ, Nat.mul_comm (2 ^ v) 2, ← Nat.mul_assoc]
  exact Nat.mul_le_mul_right _ (by omega)
/-- The places that a tree of leaves L and of a floor keeps; so many of the leaves came. -/
structure TInv (L : List ByteArray) (n floor : Nat) (l : List (Pl × ByteArray)) : Prop where
  mem : ∀ p ∈ l, ∃ v i : Nat, p = (plN v i, textP L v i) ∧ (i + 1) * 2 ^ v ≤ n ∧ floor < upEnd (plN v i)
  all : ∀ v i : Nat, (i + 1) * 2 ^ v ≤ n → floor < upEnd (plN v i) → (plN v i, textP L v i) ∈ l
theorem TInv.nil (L : List ByteArray) : TInv L 0 0 [] := ⟨by simp, fun v i h _ => by
  have := Nat.two_pow_pos v
  have h2 := Nat.mul_pos (Nat.succ_pos i) this
  simp only [Nat.succ_eq_add_one] at h2; omega⟩
theorem TInv.small {L : List ByteArray} {n floor : Nat} {l : List (Pl × ByteArray)} (h : TInv L n floor l) (hn : n ≤ 2 ^ 40) : SmallP l := fun p hp => by
  obtain ⟨v, i, rfl, h1, h2⟩ := h.mem p hp
  refine ⟨v, i, rfl, ?_, Nat.le_trans h1 hn⟩
  have h3 : 2 ^ v ≤ (i + 1) * 2 ^ v := Nat.le_mul_of_pos_left _ (by omega)
  exact (Nat.pow_le_pow_iff_right (a := 2) (by omega)).1 (by omega)
theorem mlook_of_mem {κ ν : Type} [DecidableEq κ] {l : List (κ × ν)} (hn : (l.map (·.1)).Nodup) {k : κ} {x : ν} (h : (k, x) ∈ l) : mlook l k = some x := by
  induction l with
  | nil => cases h
  | cons p l ih =>
    simp only [List.map_cons, List.nodup_cons] at hn
    rw [mlook_cons]
    rcases List.mem_cons.1 h with rfl | h
    · simp
    · rw [if_neg (fun e => hn.1 (List.mem_map.2 ⟨_, h, e⟩)), ih hn.2 h]
theorem mem_of_mlook {κ ν : Type} [DecidableEq κ] : ∀ {l : List (κ × ν)} {k : κ} {x : ν}, mlook l k = some x → (k, x) ∈ l
  | [], k, x, h => by simp at h
  | p :: l, k, x, h => by
    rw [mlook_cons] at h
    split at h
    · rename_i e
      simp only [Option.some.injEq] at h
      subst h; subst e; exact List.mem_cons_self ..
    · exact List.mem_cons_of_mem _ (mem_of_mlook h)
theorem TInv.get {L : List ByteArray} {n floor : Nat} {l : List (Pl × ByteArray)} (h : TInv L n floor l) (hn : (l.map (·.1)).Nodup) (v i : Nat) :
    mlook l (plN v i) = if (i + 1) * 2 ^ v ≤ n ∧ floor < upEnd (plN v i) then some (textP L v i) else none := by
  split
  · rename_i hc
    exact mlook_of_mem hn (h.all v i hc.1 hc.2)
  · rename_i hc
    cases hm : mlook l (plN v i) with
    | none => rfl
    | some x =>
      obtain ⟨v', i', he, h1, h2⟩ := h.mem _ (mem_of_mlook hm)
      simp only [Prod.mk.injEq, plN_inj] at he
      obtain ⟨⟨rfl, rfl⟩, _⟩ := he
      exact absurd ⟨h1, h2⟩ hc
/-- Forgotten: a greater floor, and what lies behind it. -/
theorem TInv.trim {L : List ByteArray} {n floor f : Nat} {l : List (Pl × ByteArray)} (h : TInv L n floor l) (hf : floor ≤ f) : TInv L n f (l.filter fun p => keepP f p.1) := by
  refine ⟨fun p hp => ?_, fun v i h1 h2 => ?_⟩
  · obtain ⟨hp, hk⟩ := List.mem_filter.1 hp
    obtain ⟨v, i, rfl, h1, _⟩ := h.mem p hp
    exact ⟨v, i, rfl, h1, by simpa [keepP] using hk⟩
  · exact List.mem_filter.2 ⟨h.all v i h1 (by omega), by simpa [keepP] using h2⟩
/-- .. nothing. -/
theorem TInv.trim_same {L : List ByteArray} {n floor : Nat} {l : List (Pl × ByteArray)} (h : TInv L n floor l) : (l.filter fun p => keepP floor p.1) = l :=
  List.filter_eq_self.2 fun p hp => by
    obtain ⟨v, i, rfl, _, h2⟩ := h.mem p hp
    simpa [keepP] using h2
/-- Fewer leaves (a clone). -/
theorem TInv.less {L : List ByteArray} {n m floor : Nat} {l l' : List (Pl × ByteArray)} (h : TInv L n floor l) (hm : m ≤ n)
    (h' : ∀ p, p ∈ l' ↔ p ∈ l ∧ ∃ v i : Nat, p.1 = plN v i ∧ (i + 1) * 2 ^ v ≤ m) : TInv L m floor l' := by
  refine ⟨fun p hp => ?_, fun v i h1 h2 => (h' _).2 ⟨h.all v i (by omega) h2, v, i, rfl, h1⟩⟩
  obtain ⟨hp, v, i, he, h1⟩ := (h' p).1 hp
  obtain ⟨v', i', rfl, _, h2⟩ := h.mem p hp
  simp only [plN_inj] at he
  obtain ⟨rfl, rfl⟩ := he
  exact ⟨_, _, rfl, h1, h2⟩
/-- While a leaf comes in: the places up to level v that end with it are there. -/
structure TMid (L : List ByteArray) (n floor v : Nat) (l : List (Pl × ByteArray)) : Prop where
  mem : ∀ p ∈ l, ∃ u i : Nat, p = (plN u i, textP L u i) ∧ ((i + 1) * 2 ^ u ≤ n ∨ (i + 1) * 2 ^ u = n + 1 ∧ u ≤ v) ∧ floor < upEnd (plN u i)
  all : ∀ u i : Nat, ((i + 1) * 2 ^ u ≤ n ∨ (i + 1) * 2 ^ u = n + 1 ∧ u ≤ v) → floor < upEnd (plN u i) → (plN u i, textP L u i) ∈ l
theorem mem_mput {κ ν : Type} [DecidableEq κ] {l : List (κ × ν)} (hn : (l.map (·.1)).Nodup) {k : κ} {x : ν} {p : κ × ν} : p ∈ mput l k x ↔ p = (k, x) ∨ p ∈ l ∧ p.1 ≠ k := by
  have h1 := mput_nodup hn k x
  constructor
  · intro h
    have h2 := mlook_of_mem h1 (k := p.1) (x := p.2) h
    rw [mlook_put] at h2
    split at h2
    · rename_i e; simp at h2; left; exact Prod.ext e h2.symm
    · rename_i e; exact .inr ⟨mem_of_mlook h2, e⟩
  · rintro (rfl | ⟨h, e⟩)
    · exact mem_of_mlook (by rw [mlook_put, if_pos rfl])
    · have := mlook_of_mem hn (k := p.1) (x := p.2) h
      exact mem_of_mlook (l := mput l k x) (k := p.1) (x := p.2) (by rw [mlook_put, if_neg e]; exact this)
theorem keep_new {n floor v i : Nat} (hf : floor ≤ n) (h : (i + 1) * 2 ^ v = n + 1) : floor < upEnd (plN v i) := by
  have := up_le v i; omega
/-- One leaf's place. -/
theorem TInv.first {L : List ByteArray} {n floor : Nat} {l : List (Pl × ByteArray)} (h : TInv L n floor l) (hl : n = L.length) (hn : (l.map (·.1)).Nodup) (hf : floor ≤ n) (s : ByteArray) :
    TMid (L ++ [s]) n floor 0 (mput l (plN 0 n) (textP (L ++ [s]) 0 n)) := by
  subst hl
  refine ⟨fun p hp => ?_, fun u i hc h2 => ?_⟩
  · rcases (mem_mput hn).1 hp with rfl | ⟨hp, hne⟩
    · exact ⟨0, _, rfl, .inr (by simp), keep_new hf (by simp)⟩
    · obtain ⟨v, i, rfl, h1, h2⟩ := h.mem p hp
      exact ⟨v, i, by rw [textP_app _ _ _ _ h1], .inl h1, h2⟩
  · refine (mem_mput hn).2 ?_
    by_cases h1 : (i + 1) * 2 ^ u ≤ L.length
    · rw [textP_app _ _ _ _ h1]
      refine .inr ⟨h.all u i h1 h2, fun e => ?_⟩
      obtain ⟨rfl, rfl⟩ := plN_inj.1 e
      simp only [Nat.pow_zero, Nat.mul_one] at h1; omega
    · obtain ⟨h3, h4⟩ := hc.resolve_left h1
      have : u = 0 := by omega
      subst this
      simp only [Nat.pow_zero, Nat.mul_one] at h3
      have : i = L.length := by omega
      subst this
      exact .inl rfl
theorem odd_half {v i n : Nat} (ho : i % 2 = 1) (h : (i + 1) * 2 ^ v = n + 1) : (i / 2 + 1) * 2 ^ (v + 1) = n + 1 ∧ (i - 1 + 1) * 2 ^ v ≤ n := by
  have h1 : (i / 2 + 1) * 2 ^ (v + 1) = (i + 1) * 2 ^ v := by
    rw [Nat.pow_succ, Nat.mul_comm (2 ^ v) 2, ← Nat.mul_assoc]
    congr 1; omega
  refine ⟨by omega, ?_⟩
  have h2 : i - 1 + 1 = i := by omega
  have h3 := Nat.two_pow_pos v
  rw [h2]
  rw [Nat.add_mul] at h; omega
/-- The half ahead is there, and the place above comes in. -/
theorem TMid.next {L : List ByteArray} {n floor v i : Nat} {l : List (Pl × ByteArray)} (h : TMid L n floor v l) (hn : (l.map (·.1)).Nodup) (hf : floor ≤ n) (ho : i % 2 = 1) (hi : (i + 1) * 2 ^ v = n + 1) :
    mlook l (plN v (i - 1)) = some (textP L v (i - 1)) ∧ nodeT (textP L v (i - 1)) (textP L v i) = textP L (v + 1) (i / 2) ∧ (i / 2 + 1) * 2 ^ (v + 1) = n + 1 ∧
      TMid L n floor (v + 1) (mput l (plN (v + 1) (i / 2)) (textP L (v + 1) (i / 2))) := by
  obtain ⟨h1, h2⟩ := odd_half ho hi
  have hu : upEnd (plN v (i - 1)) = n + 1 := by rw [upEnd_N, show (i - 1) / 2 = i / 2 by omega]; exact h1
  refine ⟨mlook_of_mem hn (h.all v (i - 1) (.inl h2) (by omega)), ?_, h1, fun p hp => ?_, fun u j hc h3 => ?_⟩
  · simp only [textP]
    rw [show 2 * (i / 2) = i - 1 by omega, show i - 1 + 1 = i by omega]
  · rcases (mem_mput hn).1 hp with rfl | ⟨hp, hne⟩
    · exact ⟨_, _, rfl, .inr ⟨h1, Nat.le_refl _⟩, keep_new hf h1⟩
    · obtain ⟨u, j, rfl, hc, h3⟩ := h.mem p hp
      exact ⟨u, j, rfl, hc.imp id fun hc => ⟨hc.1, by omega⟩, h3⟩
  · refine (mem_mput hn).2 ?_
    by_cases he : plN u j = plN (v + 1) (i / 2)
    · obtain ⟨rfl, rfl⟩ := plN_inj.1 he
      exact .inl rfl
    · refine .inr ⟨h.all u j ?_ h3, he⟩
      rcases hc with hc | ⟨hc, hc2⟩
      · exact .inl hc
      · refine .inr ⟨hc, ?_⟩
        by_cases e : u = v + 1
        · subst e
          have : (j + 1) * 2 ^ (v + 1) = (i / 2 + 1) * 2 ^ (v + 1) := by omega
          have := Nat.eq_of_mul_eq_mul_right (Nat.two_pow_pos _) this
          exact absurd (by rw [show j = i / 2 by omega]) he
        · omega
/-- The leaf is in. -/
theorem TMid.done {L : List ByteArray} {n floor v i : Nat} {l : List (Pl × ByteArray)} (h : TMid L n floor v l) (he : i % 2 = 0) (hi : (i + 1) * 2 ^ v = n + 1) : TInv L (n + 1) floor l := by
  refine ⟨fun p hp => ?_, fun u j hc h3 => h.all u j ?_ h3⟩
  · obtain ⟨u, j, rfl, hc, h3⟩ := h.mem p hp
    exact ⟨u, j, rfl, by omega, h3⟩
  · by_cases h1 : (j + 1) * 2 ^ u ≤ n
    · exact .inl h1
    · refine .inr ⟨by omega, ?_⟩
      have heq : (j + 1) * 2 ^ u = (i + 1) * 2 ^ v := by omega
      by_cases hle : u ≤ v
      · exact hle
      · exfalso
        obtain ⟨d, rfl⟩ : ∃ d, u = v + (d + 1) := ⟨u - v - 1, by omega⟩
        rw [Nat.pow_add, Nat.mul_comm (2 ^ v), ← Nat.mul_assoc] at heq
        have h5 := Nat.eq_of_mul_eq_mul_right (Nat.two_pow_pos _) heq
        rw [Nat.pow_succ, ← Nat.mul_assoc] at h5
        omega
/-- Two lists of one tree are equally long. -/
theorem TInv.length_eq {L : List ByteArray} {n floor : Nat} {l l' : List (Pl × ByteArray)} (h : TInv L n floor l) (h' : TInv L n floor l') (hn : (l.map (·.1)).Nodup) (hn' : (l'.map (·.1)).Nodup) : l.length = l'.length := by
  have nd : ∀ {l : List (Pl × ByteArray)}, (l.map (·.1)).Nodup → l.Nodup := fun h => List.Pairwise.of_map _ (fun a b hab e => hab (by rw [e])) h
  have key : ∀ {l l' : List (Pl × ByteArray)}, TInv L n floor l → TInv L n floor l' → ∀ p ∈ l, p ∈ l' := fun h h' p hp => by
    obtain ⟨v, i, rfl, h1, h2⟩ := h.mem p hp
    exact h'.all v i h1 h2
  have hp : l.Perm l' := (List.perm_ext_iff_of_nodup (nd hn) (nd hn')).2 fun p => ⟨key h h' p, key h' h p⟩
  exact hp.length_eq
end Go.Proofs.Ytjicjadibaomkaa
