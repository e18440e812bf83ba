/-
  Texts of this claim, put together: Base, Wire, RText, Ref, Ref2, Mem.
-/
import Derived.WalkKit
import Derived.Deep.Draws
import Derived.MapKept
import Derived.Lib.AppendStr
import Derived.Laws.BytesArg
import Derived.Test.YtkhihpmadmmeaaaRows
import Derived.Deep.QuietTactic
import Derived.BigQuiet
import Derived.Deep.RegionWith
import Derived.Deep.DeepCutAuto
import Derived.Deep.RegionHeld3
import Derived.Deep.CutBlock
import Derived.Test.YtkhihpmadmmeaaaPScx2
import Derived.Deep.RegionLaw
import Derived.Maps.OwnOps
set_option linter.unusedSimpArgs false
set_option linter.unusedVariables false
namespace Go.Hs
open Go Go.RowKit

theorem hid {p : Prop} (h : p) : Hid p := h

/-! ### What has turned: only blocks of F, and new ones -/
structure Ext (F : List Nat) (w w' : World) : Prop where
  os : w'.os = w.os
  tape : w'.tape = w.tape
  output : w'.output = w.output
  size : w.heap.size ≤ w'.heap.size
  block : ∀ k, k < w.heap.size → k ∉ F → w'.heap[k]? = w.heap[k]?

theorem Ext.refl (F : List Nat) (w : World) : Ext F w w := ⟨rfl, rfl, rfl, Nat.le_refl _, fun _ _ _ => rfl⟩
theorem Ext.trans {F F' : List Nat} {a b c : World} (h : Ext F a b) (k : Ext F' b c) (hF : ∀ x ∈ F', x ∈ F ∨ a.heap.size ≤ x) : Ext F a c :=
  ⟨k.os.trans h.os, k.tape.trans h.tape, k.output.trans h.output, Nat.le_trans h.size k.size, fun i hi hn =>
    (k.block i (Nat.lt_of_lt_of_le hi h.size) (fun hm => by rcases hF i hm with h1 | h1; exact hn h1; omega)).trans (h.block i hi hn)⟩
theorem Ext.trans' {F : List Nat} {a b c : World} (h : Ext F a b) (k : Ext F b c) : Ext F a c := h.trans k fun _ hx => .inl hx
theorem Ext.trans0 {F : List Nat} {a b c : World} (h : Ext F a b) (k : Ext [] b c) : Ext F a c := h.trans k fun _ hx => by cases hx
theorem Ext.mono {F F' : List Nat} {a b : World} (h : Ext F a b) (hF : ∀ x ∈ F, x ∈ F' ∨ a.heap.size ≤ x) : Ext F' a b := (Ext.refl F' a).trans h hF
theorem Ext.drew {F : List Nat} {a w : World} (h : Ext F a w) : Ext F a w.drew := ⟨h.os, h.tape, h.output, h.size, h.block⟩
theorem Ext.drewN {F : List Nat} {a w : World} (h : Ext F a w) (n : Nat) : Ext F a (w.drewN n) := ⟨h.os, h.tape, h.output, h.size, h.block⟩
theorem Ext.alloc {F : List Nat} {a w : World} (h : Ext F a w) (o : Obj) : Ext F a (w.alloc o) :=
  h.trans0 ⟨rfl, rfl, rfl, by simp, fun k hk _ => Below.heap_alloc _ _ _ hk⟩
theorem Ext.setCell {F : List Nat} {a w : World} (h : Ext F a w) {p : Addr} (hp : p.block ∈ F ∨ a.heap.size ≤ p.block) (u : Value) : Ext F a (w.setCell p u) :=
  h.trans (F' := [p.block]) ⟨rfl, rfl, rfl, by simp [World.setCell], fun k _ hn => Below.heap_setCell _ _ _ _ (by simpa using hn)⟩ (by simpa using hp)
theorem Ext.set' {F : List Nat} {a w : World} {b : Nat} (hb : b ∈ F) (h : Ext F a w) (o : Nat) (u : Value) : Ext F a (w.setCell ⟨b, o, none⟩ u) := h.setCell (.inl hb) u
theorem Ext.setN {F : List Nat} {a w : World} {b : Nat} (hb : a.heap.size ≤ b) (h : Ext F a w) (o : Nat) (u : Value) : Ext F a (w.setCell ⟨b, o, none⟩ u) := h.setCell (.inr hb) u
theorem Ext.grown {F : List Nat} {a w w' : World} {row : Option Nat} (h : Ext F a w) (hg : w.grownBy w' row) (hr : ∀ k, row = some k → k ∈ F ∨ a.heap.size ≤ k) : Ext F a w' :=
  h.trans (F' := row.toList) ⟨hg.os, hg.tape, hg.output, hg.size, fun k hk hn => hg.block k hk (by cases row <;> simp_all <;> exact fun e => hn e.symm)⟩ (by intro x hx; exact hr x (by simpa using hx))
theorem Ext.below {w w' : World} (h : Ext [] w w') : Below w.heap.size w w' := ⟨h.os, h.tape, h.output, h.size, fun k hk => h.block k hk (by simp)⟩
theorem Ext.ofBelow {w w' : World} (h : Below w.heap.size w w') : Ext [] w w' := ⟨h.os, h.tape, h.output, h.size, fun k hk _ => h.block k hk⟩
theorem Ext.same {F : List Nat} {w w' : World} (h : Ext F w w') {b : Nat} {o : Obj} (hb : w.heap[b]? = some o) (hn : b ∉ F) : w'.heap[b]? = some o :=
  (h.block b (Array.getElem?_eq_some_iff.1 hb).1 hn).trans hb

/-! ### Blocks -/
theorem cellAt {w : World} {b : Nat} {cs : Array Value} {t : TypeId} {fr : Nat × Nat} (h : w.heap[b]? = some (.cells cs t fr)) (o : Nat) : w.cell? ⟨b, o, none⟩ = cs[o]? := cell_of_row w b o cs t fr h
theorem freeAt {w : World} {b : Nat} {cs : Array Value} {t : TypeId} (h : w.heap[b]? = some (.cells cs t (0, 0))) (o : Nat) : w.frozen? ⟨b, o, none⟩ = false := by simp [World.frozen?, h]
theorem heap_set {w : World} {b : Nat} {cs : Array Value} {t : TypeId} {fr : Nat × Nat} (h : w.heap[b]? = some (.cells cs t fr)) (o : Nat) (v : Value) :
    (w.setCell ⟨b, o, none⟩ v).heap[b]? = some (.cells (cs.setIfInBounds o v) t fr) := by
  simp [World.setCell, Array.getElem?_modify, h]
theorem heap_set_ne (w : World) (a : Addr) (v : Value) {b : Nat} (h : a.block ≠ b) : (w.setCell a v).heap[b]? = w.heap[b]? := Below.heap_setCell w a v b (fun e => h e.symm)
theorem heap_new (w : World) (o : Obj) : (w.alloc o).heap[w.heap.size]? = some o := heap_alloc_new w o
theorem heap_old (w : World) (o : Obj) {b : Nat} (h : b < w.heap.size) : (w.alloc o).heap[b]? = w.heap[b]? := heap_alloc_old w o h
theorem heap_old' (w : World) (o : Obj) {b : Nat} {x : Obj} (h : w.heap[b]? = some x) : (w.alloc o).heap[b]? = some x := (heap_alloc_old w o (Array.getElem?_eq_some_iff.1 h).1).trans h
theorem lt_of_heap {h : Array Obj} {b : Nat} {x : Obj} (e : h[b]? = some x) : b < h.size := (Array.getElem?_eq_some_iff.1 e).1

/-! ### Maps, as lists of keys and values -/
section
variable {κ ν : Type} [DecidableEq κ]
def mlook (l : List (κ × ν)) (k : κ) : Option ν := (l.find? fun p => decide (k = p.1)).map (·.2)
def mput (l : List (κ × ν)) (k : κ) (v : ν) : List (κ × ν) := if k ∈ l.map (·.1) then l.map (fun p => if k = p.1 then (k, v) else p) else l ++ [(k, v)]
def mdel (l : List (κ × ν)) (k : κ) : List (κ × ν) := l.filter fun p => decide (k ≠ p.1)
def mfind : List (κ × ν) → κ → Nat → Option (Nat × ν)
  | [], _, _ => none
  | p :: l, k, i => if k = p.1 then some (i, p.2) else mfind l k (i + 1)

@[simp] theorem mlook_nil (k : κ) : mlook ([] : List (κ × ν)) k = none := rfl
theorem mlook_cons (p : κ × ν) (l : List (κ × ν)) (k : κ) : mlook (p :: l) k = if k = p.1 then some p.2 else mlook l k := by
  unfold mlook; rw [List.find?_cons]; by_cases h : k = p.1 <;> simp [h]
theorem mfind_eq : ∀ (l : List (κ × ν)) (k : κ) (i : Nat), (mfind l k i).map (·.2) = mlook l k
  | [], _, _ => rfl
  | p :: l, k, i => by rw [mlook_cons]; unfold mfind; split <;> simp [mfind_eq l]
theorem mlook_none {l : List (κ × ν)} {k : κ} : mlook l k = none ↔ k ∉ l.map (·.1) := by
  induction l with
  | nil => simp
  | cons p l ih => rw [mlook_cons]; by_cases h : k = p.1 <;> simp_all
theorem mlook_append (l l' : List (κ × ν)) (k : κ) : mlook (l ++ l') k = (mlook l k).or (mlook l' k) := by
  induction l with
  | nil => simp
  | cons p l ih => rw [List.cons_append, mlook_cons, mlook_cons, ih]; split <;> simp
theorem mlook_put (l : List (κ × ν)) (k : κ) (v : ν) (q : κ) : mlook (mput l k v) q = if q = k then some v else mlook l q := by
  unfold mput
  split
  · rename_i hk
    have key : ∀ (l : List (κ × ν)), mlook (l.map fun p => if k = p.1 then (k, v) else p) q = if q = k then (if k ∈ l.map (·.1) then some v else none) else mlook l q := by
      intro l
      induction l with
      | nil => simp
      | cons p l ih =>
        rw [List.map_cons, mlook_cons, mlook_cons, ih]
        by_cases h1 : k = p.1
        · by_cases h2 : q = k
          · simp [h1, h2]
          · have h3 : ¬ q = p.1 := fun e => h2 (e.trans h1.symm)
            simp [← h1, h2]
        · by_cases h2 : q = k
          · have h3 : ¬ q = p.1 := fun e => h1 (h2.symm.trans e)
            rw [if_neg h1]
            simp only [h2, h1, if_false, if_true, List.map_cons, List.mem_cons, false_or]
          · rw [if_neg h1]
            simp [h2]
    rw [key, if_pos hk]
  · rename_i hk
    rw [mlook_append, mlook_cons]
    by_cases h : q = k
    · subst h; rw [mlook_none.2 hk]; simp
    · simp [h]
theorem mput_nodup {l : List (κ × ν)} (h : (l.map (·.1)).Nodup) (k : κ) (v : ν) : ((mput l k v).map (·.1)).Nodup := by
  unfold mput
  split
  · have : (l.map fun p => if k = p.1 then (k, v) else p).map (·.1) = l.map (·.1) := by
      rw [List.map_map]; apply List.map_congr_left; intro p _; simp only [Function.comp]; split <;> simp_all
    rw [this]; exact h
  · rename_i hk
    rw [List.map_append, List.nodup_append]
    exact ⟨h, by simp, fun a ha b hb e => by simp at hb; subst hb; subst e; exact hk ha⟩
theorem mlook_del (l : List (κ × ν)) (k q : κ) : mlook (mdel l k) q = if q = k then none else mlook l q := by
  unfold mdel
  induction l with
  | nil => simp
  | cons p l ih =>
    rw [List.filter_cons]
    by_cases h1 : k = p.1
    · simp only [h1, ne_eq, not_true_eq_false, decide_false, Bool.false_eq_true, if_false] at ih ⊢
      rw [ih, mlook_cons]
      by_cases h2 : q = p.1 <;> simp [h2]
    · simp only [h1, ne_eq, not_false_eq_true, decide_true, if_true]
      rw [mlook_cons, mlook_cons, ih]
      by_cases h2 : q = p.1
      · have h3 : ¬ q = k := fun e => h1 (e.symm.trans h2)
        simp [h2, Ne.symm h1]
      · simp [h2]
theorem mdel_nodup {l : List (κ × ν)} (h : (l.map (·.1)).Nodup) (k : κ) : ((mdel l k).map (·.1)).Nodup :=
  h.sublist (List.Sublist.map _ (List.filter_sublist ..))
end

/-- The key's type, as this seat's maps use it: 'enc k' is what stands in an entry. -/
structure KeyOK (P : Program) (kt : TypeId) {κ : Type} [DecidableEq κ] (enc : κ → Value) : Prop where
  check : ∀ em k (w : World), (Instr.checkKey em 10000 kt (enc k)).run P w = .ok () w
  find : ∀ {ν : Type} (venc : ν → Value) k (es : List MapEntry) (l : List (κ × ν)) (w : World), es.map (fun e => (e.key, e.val)) = l.map (fun p => (enc p.1, venc p.2)) →
    (Instr.findKey kt (enc k) es).run P w = .ok ((mfind l k 0).map fun x => (x.1, venc x.2)) w
  stays : ∀ k (w : World), (Instr.keyThatStays (enc k) (enc k)).run P w = .ok (enc k) w

theorem checkKey_plain {P : Program} {kt : TypeId} {d : TypeDesc} (h : P.underlying kt = some d) (hd : ∀ (x : Nat) (_ : Nat), d = .string ∨ d = .bool ∨ ∃ q, d = .int q) (em : Bool) (n : Nat) (v : Value) (w : World) :
    (Instr.checkKey em (n + 1) kt v).run P w = .ok () w := by
  unfold Instr.checkKey
  simp only [Sem.run_bind, run_underlying h, Result.andThen_ok]
  rcases hd 0 0 with rfl | rfl | ⟨q, rfl⟩ <;> rfl

theorem keyOK_int {P : Program} {kt : TypeId} {q : IntKind} (h : P.underlying kt = some (.int q)) : KeyOK P kt (fun k : Int => Value.int q k) where
  check em k w := checkKey_plain h (fun _ _ => by simp) em 9999 _ w
  find venc k es l w he := by
    have key : ∀ (es : List MapEntry) (l : List (Int × _)) (i : Nat), es.map (fun e => (e.key, e.val)) = l.map (fun p => (Value.int q p.1, venc p.2)) →
        Instr.findNow (.int q) (.int q k) es i = some ((mfind l k i).map fun x => (x.1, venc x.2)) := by
      intro es
      induction es with
      | nil => intro l i he; cases l <;> simp_all [Instr.findNow, mfind]
      | cons e es ih =>
        intro l i he
        cases l with
        | nil => simp at he
        | cons p l =>
          simp only [List.map_cons, List.cons.injEq, Prod.mk.injEq] at he
          obtain ⟨⟨h1, h2⟩, h3⟩ := he
          simp only [Instr.findNow, h1, Instr.sameNow, if_true, mfind]
          by_cases hk : k = p.1
          · simp [hk, h2]
          · rw [show (k == p.1) = false by simpa using hk]; simp [hk, ih l (i + 1) h3]
    simp only [Instr.findKey, Sem.run_bind, run_underlying h, Result.andThen_ok, key es l 0 he]; rfl
  stays k w := by
    have : Instr.sameBits 10000 (.int q k) (.int q k) = true := by simp [Instr.sameBits]
    simp [Instr.keyThatStays, this]

theorem keyOK_string {P : Program} {kt : TypeId} (h : P.underlying kt = some .string) : KeyOK P kt (fun k : ByteArray => Value.string k) where
  check em k w := checkKey_plain h (fun _ _ => by simp) em 9999 _ w
  find venc k es l w he := by
    have key : ∀ (es : List MapEntry) (l : List (ByteArray × _)) (i : Nat), es.map (fun e => (e.key, e.val)) = l.map (fun p => (Value.string p.1, venc p.2)) →
        Instr.findNow .string (.string k) es i = some ((mfind l k i).map fun x => (x.1, venc x.2)) := by
      intro es
      induction es with
      | nil => intro l i he; cases l <;> simp_all [Instr.findNow, mfind]
      | cons e es ih =>
        intro l i he
        cases l with
        | nil => simp at he
        | cons p l =>
          simp only [List.map_cons, List.cons.injEq, Prod.mk.injEq] at he
          obtain ⟨⟨h1, h2⟩, h3⟩ := he
          simp only [Instr.findNow, h1, Instr.sameNow, mfind]
          by_cases hk : k = p.1
          · rw [(MapKept.bytes_beq k p.1).2 hk]; simp [hk, h2]
          · rw [show (k == p.1) = false from Bool.eq_false_iff.2 fun e => hk ((MapKept.bytes_beq k p.1).1 e)]; simp [hk, ih l (i + 1) h3]
    simp only [Instr.findKey, Sem.run_bind, run_underlying h, Result.andThen_ok, key es l 0 he]; rfl
  stays k w := by
    have : Instr.sameBits 10000 (.string k) (.string k) = true := by simp [Instr.sameBits, (MapKept.bytes_beq k k).2 rfl]
    simp [Instr.keyThatStays, this]

structure Ents {κ ν : Type} [DecidableEq κ] (enc : κ → Value) (venc : ν → Value) (es : Array MapEntry) (clock : Nat) (l : List (κ × ν)) : Prop where
  ents : es.toList.map (fun e => (e.key, e.val)) = l.map (fun p => (enc p.1, venc p.2))
  nodup : (l.map (·.1)).Nodup
  born : (es.toList.map (·.born)).Pairwise (· < ·)
  clk : ∀ e ∈ es.toList, e.born < clock

/-- Block b is a map that holds l. -/
def MapAt {κ ν : Type} [DecidableEq κ] (enc : κ → Value) (venc : ν → Value) (h : Array Obj) (b : Nat) (l : List (κ × ν)) : Prop :=
  ∃ es clock, h[b]? = some (.map es clock) ∧ Ents enc venc es clock l

section
variable {κ ν : Type} [DecidableEq κ] {enc : κ → Value} {venc : ν → Value} {l : List (κ × ν)} {b : Nat} {w : World} {P : Program} {kt et t : TypeId}

theorem MapAt.lt {h : Array Obj} (m : MapAt enc venc h b l) : b < h.size := by obtain ⟨es, c, hb, _⟩ := m; exact lt_of_heap hb
theorem MapAt.same {h h' : Array Obj} (m : MapAt enc venc h b l) (e : h'[b]? = h[b]?) : MapAt enc venc h' b l := by
  obtain ⟨es, c, hb, r⟩ := m; exact ⟨es, c, e.trans hb, r⟩
theorem MapAt.ext {F : List Nat} {w' : World} (m : MapAt enc venc w.heap b l) (h : Ext F w w') (hn : b ∉ F) : MapAt enc venc w'.heap b l := m.same (h.block b m.lt hn)
theorem mapAt_new (enc : κ → Value) (venc : ν → Value) (w : World) : MapAt enc venc (w.alloc (.map #[] 0)).heap w.heap.size ([] : List (κ × ν)) :=
  ⟨#[], 0, heap_new w _, by simp, by simp, by simp, by simp⟩

theorem run_lookup (K : KeyOK P kt enc) (ht : P.underlying t = some (.map kt et)) {d : ν} (hz : (zeroValue et).run P w = .ok (venc d) w) (m : MapAt enc venc w.heap b l) (k : κ) (ok : Bool) :
    (Instr.lookup t (.map (some b)) (enc k) ok).run P w = .ok (if ok then .tuple #[venc ((mlook l k).getD d), .bool (mlook l k).isSome] else venc ((mlook l k).getD d)) w := by
  obtain ⟨es, c, hb, E⟩ := m
  have hg : (getObj b).run P w = .ok (.map es c) w := by simp [getObj, Sem.run, hb]
  have hf := K.find venc k es.toList l w E.ents
  simp only [Instr.lookup, Sem.run_bind, run_underlying ht, Result.andThen_ok, hg, K.check, Sem.run_pure]
  rw [hf]
  have hm := mfind_eq l k 0
  cases hx : mfind l k 0 with
  | none => rw [hx] at hm; rw [← hm]; cases ok <;> simp [hz]
  | some x => rw [hx] at hm; rw [← hm]; cases ok <;> simp

theorem run_lookup_nil (K : KeyOK P kt enc) (ht : P.underlying t = some (.map kt et)) {d : ν} (hz : (zeroValue et).run P w = .ok (venc d) w) (k : κ) (ok : Bool) :
    (Instr.lookup t (.map none) (enc k) ok).run P w = .ok (if ok then .tuple #[venc d, .bool false] else venc d) w := by
  have hf := K.find venc k [] [] w rfl
  simp only [Instr.lookup, Sem.run_bind, run_underlying ht, Result.andThen_ok, K.check, Sem.run_pure]
  rw [hf]
  cases ok <;> simp [mfind, hz]

theorem mfind_get : ∀ (l : List (κ × ν)) (k : κ) (i : Nat), (mfind l k i = none ∧ k ∉ l.map (·.1)) ∨ ∃ j v, mfind l k i = some (i + j, v) ∧ l[j]? = some (k, v)
  | [], k, i => by simp [mfind]
  | p :: l, k, i => by
    by_cases h : k = p.1
    · exact .inr ⟨0, p.2, by simp [mfind, h], by simp [h]⟩
    · rcases mfind_get l k (i + 1) with ⟨h1, h2⟩ | ⟨j, v, h1, h2⟩
      · exact .inl ⟨by simp [mfind, h, h1], by simp at h2; simp [h, h2]⟩
      · exact .inr ⟨j + 1, v, by rw [mfind, if_neg h, h1, Nat.add_assoc, Nat.add_comm 1 j], by simpa using h2⟩

theorem mput_at {l : List (κ × ν)} (hn : (l.map (·.1)).Nodup) {j : Nat} {k : κ} {v0 v : ν} (h : l[j]? = some (k, v0)) : mput l k v = l.set j (k, v) := by
  have hk : k ∈ l.map (·.1) := List.mem_map.2 ⟨(k, v0), List.mem_of_getElem? h, rfl⟩
  unfold mput
  rw [if_pos hk]
  have hj := (List.getElem?_eq_some_iff.1 h).1
  apply List.ext_getElem
  · simp
  · intro i h1 h2
    simp only [List.getElem_map, List.getElem_set]
    simp only [List.length_map] at h1
    by_cases e : j = i
    · subst e
      have : l[j] = (k, v0) := by simpa [List.getElem?_eq_getElem hj] using h
      simp [this]
    · rw [if_neg e]
      have : ¬ k = l[i].1 := by
        intro hk2
        have hj2 : l[j] = (k, v0) := by simpa [List.getElem?_eq_getElem hj] using h
        have hp := List.pairwise_iff_getElem.1 hn
        rcases Nat.lt_or_gt_of_ne e with hlt | hlt
        · exact hp j i (by simpa using hj) (by simpa using h1) hlt (by simp [hj2, ← hk2])
        · exact hp i j (by simpa using h1) (by simpa using hj) hlt (by simp [hj2, ← hk2])
      rw [if_neg this]

theorem run_mapUpdate (K : KeyOK P kt enc) (ht : P.underlying t = some (.map kt et)) (m : MapAt enc venc w.heap b l) (k : κ) (v : ν) :
    ∃ w', (Instr.mapUpdate t (.map (some b)) (enc k) (venc v)).run P w = .ok () w' ∧ MapAt enc venc w'.heap b (mput l k v) ∧ Ext [b] w w' := by
  obtain ⟨es, c, hb, E⟩ := m
  have hg : (getObj b).run P w = .ok (.map es c) w := by simp [getObj, Sem.run, hb]
  have hs : ∀ o, (setObj b o).run P w = .ok () { w with heap := w.heap.setIfInBounds b o } := by intro o; simp [setObj, Sem.run, hb]
  have hf := K.find venc k es.toList l w E.ents
  have hblt := lt_of_heap hb
  have hext : ∀ o, Ext [b] w { w with heap := w.heap.setIfInBounds b o } := fun o =>
    ⟨rfl, rfl, rfl, by simp, fun i hi hn => by simp at hn; simp [Array.getElem?_setIfInBounds, show ¬ b = i from fun e => hn e.symm]⟩
  have hlen : es.size = l.length := by have := congrArg List.length E.ents; simpa using this
  rcases mfind_get l k 0 with ⟨h1, h2⟩ | ⟨j, v0, h1, h2⟩
  · refine ⟨{ w with heap := w.heap.setIfInBounds b (.map (es.push { key := enc k, val := venc v, born := c }) (c + 1)) }, ?_, ⟨es.push { key := enc k, val := venc v, born := c }, c + 1, by simp [hblt], ?_⟩, hext _⟩
    · simp only [Instr.mapUpdate, Sem.run_bind, run_underlying ht, Result.andThen_ok, hg, K.check]
      rw [hf, h1]
      simp [hs]
    · refine ⟨?_, mput_nodup E.nodup k v, ?_, ?_⟩
      · simp [mput, h2, E.ents]
      · simp only [Array.toList_push, List.map_append, List.map_cons, List.map_nil]
        refine List.pairwise_append.2 ⟨E.born, by simp, ?_⟩
        intro x hx y hy
        obtain ⟨e, he, rfl⟩ := List.mem_map.1 hx
        simp at hy; subst hy
        exact E.clk e he
      · intro e he
        simp only [Array.toList_push, List.mem_append, List.mem_singleton] at he
        rcases he with he | rfl
        · have := E.clk e he; omega
        · simp
  · simp only [Nat.zero_add] at h1
    have hj := (List.getElem?_eq_some_iff.1 h2).1
    have hje : j < es.size := by omega
    have hent : (es.toList.map (fun e => (e.key, e.val)))[j]? = some (enc k, venc v0) := by rw [E.ents]; simp [h2]
    have hent' : es[j].key = enc k := by
      simp [hje] at hent
      exact hent.1
    have hmod : es.modify j (fun e => { e with key := enc k, val := venc v }) = es.set j { es[j] with key := enc k, val := venc v } := by
      apply Array.ext
      · simp
      · intro i h3 h4; simp [Array.getElem_modify, Array.getElem_set]; split <;> simp_all
    refine ⟨{ w with heap := w.heap.setIfInBounds b (.map (es.modify j fun e => { e with key := enc k, val := venc v }) c) }, ?_, ⟨es.modify j fun e => { e with key := enc k, val := venc v }, c, by simp [hblt], ?_⟩, hext _⟩
    · simp only [Instr.mapUpdate, Sem.run_bind, run_underlying ht, Result.andThen_ok, hg, K.check]
      rw [hf, h1]
      simp [hs, hje, hent', K.stays]
    · have hb2 : (es.modify j fun e => { e with key := enc k, val := venc v }).toList.map (·.born) = es.toList.map (·.born) := by
        rw [hmod]
        simp only [Array.toList_set, List.map_set]
        apply List.ext_getElem (by simp)
        intro i h3 h4
        simp only [List.getElem_set]
        split
        · rename_i e; subst e; simp
        · rfl
      refine ⟨?_, mput_nodup E.nodup k v, by rw [hb2]; exact E.born, ?_⟩
      · rw [mput_at E.nodup h2, hmod]
        simp only [Array.toList_set, List.map_set, E.ents]
      · intro e he
        have : e.born ∈ es.toList.map (·.born) := by rw [← hb2]; exact List.mem_map.2 ⟨e, he, rfl⟩
        obtain ⟨e', he', h3⟩ := List.mem_map.1 this
        rw [← h3]; exact E.clk e' he'

/-! ### at the operation, for the walk -/
theorem wpList_lookup {ops : Array Oper} {rest : List Oper} {o : Oper} {a : Act} {Q : Exit → Act → World → Prop}
    (hg : o.guard = none) (mo x : Operand) (ok : Bool) (hop : o.op = Op.lookup t mo x ok) (K : KeyOK P kt enc) (ht : P.underlying t = some (.map kt et)) {d : ν} (hz : (zeroValue et).run P w = .ok (venc d) w)
    (hm : a.eval mo = .map (some b)) (m : MapAt enc venc w.heap b l) (k : κ) (hx : a.eval x = enc k)
    (hK : wpList P ops Q rest (a.put o.dst (if ok then .tuple #[venc ((mlook l k).getD d), .bool (mlook l k).isSome] else venc ((mlook l k).getD d))) w) :
    wpList P ops Q (o :: rest) a w := by
  refine wpList_plain hg fun K' hK' => ?_
  have hrun := run_lookup K ht hz m k ok
  unfold Oper.wp
  simp only [execOp, hop, hm, hx, Sem.run_bind, hrun, Result.andThen_ok, Sem.run_pure, Oper.upon_value]
  exact hK' _ _ hK
theorem wpList_mapUpdate {ops : Array Oper} {rest : List Oper} {o : Oper} {a : Act} {Q : Exit → Act → World → Prop}
    (hg : o.guard = none) (hd : o.dst = none) (mo x y : Operand) (hop : o.op = Op.mapUpdate t mo x y) (K : KeyOK P kt enc) (ht : P.underlying t = some (.map kt et))
    (hm : a.eval mo = .map (some b)) (m : MapAt enc venc w.heap b l) (k : κ) (hx : a.eval x = enc k) (v : ν) (hy : a.eval y = venc v)
    (hK : ∀ w', MapAt enc venc w'.heap b (mput l k v) → Ext [b] w w' → wpList P ops Q rest a w') :
    wpList P ops Q (o :: rest) a w := by
  refine wpList_plain hg fun K' hK' => ?_
  obtain ⟨w', hrun, r1, r2⟩ := run_mapUpdate (venc := venc) K ht m k v
  unfold Oper.wp
  simp only [execOp, hop, hm, hx, hy, Sem.run_bind, hrun, Result.andThen_ok, Sem.run_pure, Oper.upon_skip, hd, Act.put]
  exact hK' _ _ (hK w' r1 r2)
end

/-- A row of cells that the call owns: nil, or the head of a block. -/
def Own (h : Array Obj) (e : TypeId) (size : Nat) (v : Value) (n : Nat) (xs : List Value) : Prop :=
  xs.length = n * size ∧
  ((v = .slice none 0 0 ∧ n = 0) ∨
   ∃ g cap cur, v = .slice (some ⟨g, 0, none⟩) n cap ∧ 0 ≤ g ∧ h[g]? = some (.cells cur e (0, 0)) ∧ n ≤ cap ∧ cap ≤ maxLen ∧ cur.size = cap * size ∧ cur.toList.take (n * size) = xs)
theorem own_row {w : World} {e : TypeId} {size n : Nat} {v : Value} {xs : List Value} : Own w.heap e size v n xs ↔ w.ownsRow 0 e size v n xs := Iff.rfl
theorem Own.same {h h' : Array Obj} {e : TypeId} {size n : Nat} {v : Value} {xs : List Value} (o : Own h e size v n xs) (hb : ∀ g, v.ownBlock = some g → h'[g]? = h[g]?) : Own h' e size v n xs := by
  refine ⟨o.1, ?_⟩
  rcases o.2 with h1 | ⟨g, cap, cur, rfl, h2, h3, r⟩
  · exact .inl h1
  · exact .inr ⟨g, cap, cur, rfl, h2, (hb g rfl).trans h3, r⟩
theorem Own.block {h : Array Obj} {e : TypeId} {size n : Nat} {v : Value} {xs : List Value} (o : Own h e size v n xs) {g : Nat} (hg : v.ownBlock = some g) : ∃ cur, h[g]? = some (.cells cur e (0, 0)) := by
  rcases o.2 with ⟨rfl, _⟩ | ⟨g', cap, cur, rfl, _, h3, _⟩
  · cases hg
  · cases hg; exact ⟨cur, h3⟩
theorem Own.lt {h : Array Obj} {e : TypeId} {size n : Nat} {v : Value} {xs : List Value} (o : Own h e size v n xs) {g : Nat} (hg : v.ownBlock = some g) : g < h.size := by
  obtain ⟨_, hc⟩ := o.block hg; exact lt_of_heap hc
theorem Own.form {w : World} {e : TypeId} {size n : Nat} {v : Value} {xs : List Value} (o : Own w.heap e size v n xs) : ∃ ao cap, v = .slice ao n cap := by
  rcases o.2 with ⟨rfl, rfl⟩ | ⟨g, cap, cur, rfl, _⟩
  · exact ⟨none, 0, rfl⟩
  · exact ⟨_, _, rfl⟩
theorem run_append {P : Program} {w : World} (t ty e : TypeId) (i : TypeInfo) (z : Value) (size bytes : Nat) (ht : P.underlying t = some (.slice e)) (hi : P.info? e = some i) (hz : i.zero = some z)
    (hsize : i.size = size) (hby : i.bytes = bytes) (hzs : z.cells.size = size) (hsz : 0 < size)
    (v : Value) (n : Nat) (xs : List Value) (hown : Own w.heap e size v n xs)
    (a : Addr) (m c : Nat) (news : List Value) (hl : news.length = m * size) (hnews : ∀ j u, news[j]? = some u → w.cell? (a.add j) = some u) (h1 : ∀ u ∈ news, u.oneCell' = true)
    (h63 : n + m ≤ maxLen) (hbytes : (n + m) * bytes ≤ 140737488355328) :
    ∃ ao cap w', (Builtin.append_ #[t, t] ty #[v, .slice (some a) m c]).run P w = .ok (.slice ao (n + m) cap) w' ∧ Own w'.heap e size (.slice ao (n + m) cap) (n + m) (xs ++ news) ∧ Ext v.ownBlock.toList w w' ∧
      (∀ g, (Value.slice ao (n + m) cap).ownBlock = some g → v.ownBlock = some g ∨ w.heap.size ≤ g) := by
  obtain ⟨v', w', hrun, ho, hg, _⟩ := run_append_own (P := P) w 0 t ty e i z size bytes ht hi hz hsize hby hzs hsz v n xs hown a m c news hl hnews h1 h63 hbytes (Nat.zero_le _)
  obtain ⟨ao, cap, rfl⟩ := Own.form (w := w') (own_row.2 ho)
  refine ⟨ao, cap, w', hrun, ho, (Ext.refl _ _).grown hg fun k hk => .inl (by simp [hk]), ?_⟩
  intro g hgg
  have hsmall : n + m ≤ 9223372036854775807 := by simp only [maxLen] at h63; omega
  subst hsize; subst hby
  rcases hown.2 with ⟨rfl, rfl⟩ | ⟨g0, cap0, cur, rfl, _, hg0, hnc, hcm, hcs, htake⟩
  · right
    by_cases hm : m = 0
    · subst hm
      have hn : news = [] := List.eq_nil_of_length_eq_zero (by simpa using hl)
      rcases ho.2 with ⟨h2, _⟩ | ⟨g1, cap1, cur1, h2, _, h3, _⟩
      · cases h2; cases hgg
      · exfalso
        subst hn
        have hr2 : (Builtin.append_ #[t, t] ty #[.slice none 0 0, .slice (some a) 0 c]).run P w = .ok (.slice none 0 0) w := by
          simp [Builtin.append_, run_underlying ht, sizeOf, typeInfo, hi, Builtin.lenOf, Builtin.firstCells, loadCells, loadCellsFrom]
        rw [hr2] at hrun
        simp only [Result.ok.injEq] at hrun
        rw [← hrun.1] at h2
        cases h2
    · have hr := run_append_nil (P := P) w t ty e i z ht hi hz a m c news hl hnews (by omega) (by omega) (by have hb := hbytes; simp only [Nat.zero_add] at hb; omega)
      rw [hr] at hrun
      simp only [Result.ok.injEq] at hrun
      rw [← hrun.1] at hgg
      simp only [Value.ownBlock, Option.some.injEq] at hgg
      omega
  · by_cases hroom : n + m ≤ cap0
    · left
      have hfit : n * i.size + news.length ≤ cur.size := by rw [hl, hcs, ← Nat.add_mul]; exact Nat.mul_le_mul_right _ hroom
      have hr := run_append_room (P := P) w t ty e i ht hi g0 n cap0 cur hg0 a m c news hl hnews h1 hroom hfit
      rw [hr] at hrun
      simp only [Result.ok.injEq] at hrun
      rw [← hrun.1] at hgg
      exact hgg
    · right
      have holds : ∀ j u, xs[j]? = some u → w.cell? ((⟨g0, 0, none⟩ : Addr).add j) = some u := World.ownsRow.cells (own_row.1 hown) (g := g0) rfl
      have hr := run_append_grow (P := P) w t ty e i z ht hi hz ⟨g0, 0, none⟩ n cap0 xs hown.1 holds a m c news hl hnews (by omega) (by omega) (growslice_fits (by omega) hbytes)
      rw [hr] at hrun
      simp only [Result.ok.injEq] at hrun
      rw [← hrun.1] at hgg
      simp only [Value.ownBlock, Option.some.injEq] at hgg
      omega

theorem add_off' (b j : Nat) : (⟨b, 0, none⟩ : Addr).add j = ⟨b, j, none⟩ := by unfold Addr.add; split <;> simp_all
/-- 'append' to a row of the call's own, as a step of a region that draws its order. -/
theorem step_append_own {P : Program} {ops : Array Oper} {o : Oper} {a : Act} {w : World} {K : Act → World → Prop} {Q : Exit → Act → World → Prop} {E : Prop}
    (hg : o.guard = none) (s x : Operand) (t : TypeId) (hop : o.op = Op.call { callee := Callee.builtin Builtin.append, args := #[s, x], argTypes := #[t, t] })
    (e : TypeId) (i : TypeInfo) (z : Value) (size bytes : Nat) (ht : P.underlying t = some (.slice e)) (hi : P.info? e = some i) (hz : i.zero = some z)
    (hsize : i.size = size) (hby : i.bytes = bytes) (hzs : z.cells.size = size) (hsz : 0 < size)
    (v : Value) (n : Nat) (xs : List Value) (hs : a.eval s = v) (hown : Own w.heap e size v n xs)
    (ad : Addr) (m c : Nat) (news : List Value) (hx : a.eval x = .slice (some ad) m c) (hl : news.length = m * size) (hnews : ∀ j u, news[j]? = some u → w.cell? (ad.add j) = some u) (h1 : ∀ u ∈ news, u.oneCell' = true)
    (h63 : n + m ≤ maxLen) (hbytes : (n + m) * bytes ≤ 140737488355328)
    (hK : ∀ ao cap w', Own w'.heap e size (.slice ao (n + m) cap) (n + m) (xs ++ news) → Ext v.ownBlock.toList w w' → (∀ g, (Value.slice ao (n + m) cap).ownBlock = some g → v.ownBlock = some g ∨ w.heap.size ≤ g) →
      K (a.put o.dst (.slice ao (n + m) cap)) w') :
    if Region.wanted o (yielded ops a.tmps) = true then Oper.wp P o a w K Q else E := by
  have hw : Region.wanted o (yielded ops a.tmps) = true := by simp [Region.wanted, hg]
  rw [if_pos hw]
  obtain ⟨ao, cap, w', hr, h2, h3, h4⟩ := run_append (P := P) (w := w) t o.type e i z size bytes ht hi hz hsize hby hzs hsz v n xs hown ad m c news hl hnews h1 h63 hbytes
  unfold Oper.wp execOp
  simp only [hop, resolve, invoke, builtin, Sem.run_bind, Sem.run_pure, Result.andThen_ok, List.map_toArray, List.map_cons, List.map_nil, hs, hx, hr]
  exact hK ao cap w' h2 h3 h4
/-- .. in a region that doesn't. -/
theorem wpList_append {P : Program} {ops : Array Oper} {rest : List Oper} {o : Oper} {a : Act} {w : World} {Q : Exit → Act → World → Prop}
    (hg : o.guard = none) (s x : Operand) (t : TypeId) (hop : o.op = Op.call { callee := Callee.builtin Builtin.append, args := #[s, x], argTypes := #[t, t] })
    (e : TypeId) (i : TypeInfo) (z : Value) (size bytes : Nat) (ht : P.underlying t = some (.slice e)) (hi : P.info? e = some i) (hz : i.zero = some z)
    (hsize : i.size = size) (hby : i.bytes = bytes) (hzs : z.cells.size = size) (hsz : 0 < size)
    (v : Value) (n : Nat) (xs : List Value) (hs : a.eval s = v) (hown : Own w.heap e size v n xs)
    (ad : Addr) (m c : Nat) (news : List Value) (hx : a.eval x = .slice (some ad) m c) (hl : news.length = m * size) (hnews : ∀ j u, news[j]? = some u → w.cell? (ad.add j) = some u) (h1 : ∀ u ∈ news, u.oneCell' = true)
    (h63 : n + m ≤ maxLen) (hbytes : (n + m) * bytes ≤ 140737488355328)
    (hK : ∀ ao cap w', Own w'.heap e size (.slice ao (n + m) cap) (n + m) (xs ++ news) → Ext v.ownBlock.toList w w' → (∀ g, (Value.slice ao (n + m) cap).ownBlock = some g → v.ownBlock = some g ∨ w.heap.size ≤ g) →
      wpList P ops Q rest (a.put o.dst (.slice ao (n + m) cap)) w') : wpList P ops Q (o :: rest) a w := by
  refine wpList_plain hg fun K' hK' => ?_
  obtain ⟨ao, cap, w', hr, h2, h3, h4⟩ := run_append (P := P) (w := w) t o.type e i z size bytes ht hi hz hsize hby hzs hsz v n xs hown ad m c news hl hnews h1 h63 hbytes
  unfold Oper.wp execOp
  simp only [hop, resolve, invoke, builtin, Sem.run_bind, Sem.run_pure, Result.andThen_ok, List.map_toArray, List.map_cons, List.map_nil, hs, hx, hr]
  exact hK' _ _ (hK ao cap w' h2 h3 h4)
theorem run_append_str {P : Program} {w : World} (t u ty e : TypeId) (i : TypeInfo) (ht : P.underlying t = some (.slice e)) (hu : P.underlying u = some .string) (hi : P.info? e = some i) (hz : i.zero = some (.int .u8 0))
    (hsize : i.size = 1) (hby : i.bytes = 1) (v : Value) (n : Nat) (xs : List Value) (hown : Own w.heap e 1 v n xs) (s : ByteArray) (h63 : n + s.size ≤ maxLen) (hbytes : n + s.size ≤ 140737488355328) :
    ∃ ao cap w', (Builtin.append_ #[t, u] ty #[v, .string s]).run P w = .ok (.slice ao (n + s.size) cap) w' ∧ Own w'.heap e 1 (.slice ao (n + s.size) cap) (n + s.size) (xs ++ Lib.strCells s) ∧ Ext v.ownBlock.toList w w' ∧
      (∀ g, (Value.slice ao (n + s.size) cap).ownBlock = some g → v.ownBlock = some g ∨ w.heap.size ≤ g) := by
  obtain ⟨v', w', hrun, ho, hg, _⟩ := Lib.run_append_own_string (P := P) w 0 t u ty e i ht hu hi hz hsize hby v n xs hown s h63 hbytes (Nat.zero_le _)
  obtain ⟨ao, cap, rfl⟩ := Own.form (w := w') (own_row.2 ho)
  refine ⟨ao, cap, w', hrun, ho, (Ext.refl _ _).grown hg fun k hk => .inl (by simp [hk]), ?_⟩
  intro g hgg
  have hsmall : n + s.size ≤ 9223372036854775807 := by simp only [maxLen] at h63; omega
  rcases hown.2 with ⟨rfl, rfl⟩ | ⟨g0, cap0, cur, rfl, _, hg0, hnc, hcm, hcs, htake⟩
  · right
    by_cases hm : s.size = 0
    · rcases ho.2 with ⟨h2, _⟩ | ⟨g1, cap1, cur1, h2, _, h3, _⟩
      · simp only [Value.slice.injEq] at h2
        rw [h2.1] at hgg; cases hgg
      · exfalso
        have hr2 : (Builtin.append_ #[t, u] ty #[.slice none 0 0, .string s]).run P w = .ok (.slice none 0 0) w := by
          have hf := Lib.run_firstCells_string (P := P) w 1 s
          rw [hm] at hf
          simp [Builtin.append_, run_underlying ht, run_underlying hu, sizeOf, typeInfo, hi, Builtin.lenOf, hm, hsize, hf]
        rw [hr2] at hrun
        simp only [Result.ok.injEq] at hrun
        rw [← hrun.1] at h2
        cases h2
    · have hr := run_append_nil_string (P := P) w t u ty e i _ ht hu hi hz s (by omega) (by omega) (by rw [hby]; omega)
      rw [hr] at hrun
      simp only [Result.ok.injEq] at hrun
      rw [← hrun.1] at hgg
      simp only [Value.ownBlock, Option.some.injEq] at hgg
      omega
  · by_cases hroom : n + s.size ≤ cap0
    · left
      have hr := Lib.run_append_room_string (P := P) w t u ty e i ht hu hi hsize g0 n cap0 cur hg0 s hroom (by omega)
      rw [hr] at hrun
      simp only [Result.ok.injEq] at hrun
      rw [← hrun.1] at hgg
      exact hgg
    · right
      have holds : ∀ j u, xs[j]? = some u → w.cell? ((⟨g0, 0, none⟩ : Addr).add j) = some u := World.ownsRow.cells (own_row.1 hown) (g := g0) rfl
      have hr := Lib.run_append_grow_string (P := P) w t u ty e i _ ht hu hi hz ⟨g0, 0, none⟩ n cap0 xs (by rw [hsize]; exact hown.1) holds s (by omega) (by omega) (growslice_fits (by omega) (by rw [hby]; omega))
      rw [hr] at hrun
      simp only [Result.ok.injEq] at hrun
      rw [← hrun.1] at hgg
      simp only [Value.ownBlock, Option.some.injEq] at hgg
      omega
theorem wpList_append_str {P : Program} {ops : Array Oper} {rest : List Oper} {o : Oper} {a : Act} {w : World} {Q : Exit → Act → World → Prop}
    (hg : o.guard = none) (sl x : Operand) (t u : TypeId) (hop : o.op = Op.call { callee := Callee.builtin Builtin.append, args := #[sl, x], argTypes := #[t, u] })
    (e : TypeId) (i : TypeInfo) (ht : P.underlying t = some (.slice e)) (hu : P.underlying u = some .string) (hi : P.info? e = some i) (hz : i.zero = some (.int .u8 0)) (hsize : i.size = 1) (hby : i.bytes = 1)
    (v : Value) (n : Nat) (xs : List Value) (hs : a.eval sl = v) (hown : Own w.heap e 1 v n xs) (s : ByteArray) (hx : a.eval x = .string s) (h63 : n + s.size ≤ maxLen) (hbytes : n + s.size ≤ 140737488355328)
    (hK : ∀ ao cap w', Own w'.heap e 1 (.slice ao (n + s.size) cap) (n + s.size) (xs ++ Lib.strCells s) → Ext v.ownBlock.toList w w' → (∀ g, (Value.slice ao (n + s.size) cap).ownBlock = some g → v.ownBlock = some g ∨ w.heap.size ≤ g) →
      wpList P ops Q rest (a.put o.dst (.slice ao (n + s.size) cap)) w') : wpList P ops Q (o :: rest) a w := by
  refine wpList_plain hg fun K' hK' => ?_
  obtain ⟨ao, cap, w', hr, h2, h3, h4⟩ := run_append_str (P := P) (w := w) t u o.type e i ht hu hi hz hsize hby v n xs hown s h63 hbytes
  unfold Oper.wp execOp
  simp only [hop, resolve, invoke, builtin, Sem.run_bind, Sem.run_pure, Result.andThen_ok, List.map_toArray, List.map_cons, List.map_nil, hs, hx, hr]
  exact hK' _ _ (hK ao cap w' h2 h3 h4)
theorem Own.cells {h : Array Obj} {w : World} (hw : w.heap = h) {e : TypeId} {size n : Nat} {v : Value} {xs : List Value} (o : Own h e size v n xs) {g : Nat} (hg : v.ownBlock = some g) : ∀ j u, xs[j]? = some u → w.cell? ((⟨g, 0, none⟩ : Addr).add j) = some u := by
  subst hw; exact World.ownsRow.cells (own_row.1 o) hg
/-- Bytes, as numbers, as a string. -/
def strN (l : List Nat) : ByteArray := ⟨(l.map UInt8.ofNat).toArray⟩
theorem run_bytes_text {P : Program} {w : World} (src dst e : TypeId) (hs : P.underlying src = some (.slice e)) (he : P.underlying e = some (.int .u8)) (hd : P.underlying dst = some .string)
    (v : Value) (l : List Nat) (hown : Own w.heap e 1 v l.length (l.map fun (c : Nat) => Value.int .u8 c)) : (convert src dst v).run P w = .ok (.string (strN l)) w := by
  rcases hown.2 with ⟨rfl, h0⟩ | ⟨g, cap, cur, rfl, _, hg, hnc, hcm, hcs, htake⟩
  · have : l = [] := List.eq_nil_of_length_eq_zero h0
    subst this
    rw [run_convert_bytes_nil w src e hs he 0 0 dst hd]; rfl
  · rw [run_convert_bytes_arg w src e hs he g 0 l.length cap (l.map fun (c : Nat) => (c : Int)) (by simp) (fun i hi => by
      have := Own.cells (w := w) rfl hown (g := g) rfl i (.int .u8 ((l.getD i 0 : Nat) : Int)) (by simp [List.getElem?_map, hi])
      rw [add_off'] at this
      rw [Nat.zero_add, this]
      simp [List.getD, hi]) dst hd]
    congr 2
    simp [strOfNums, strN]

theorem Own.alloc {w : World} {e : TypeId} {size n : Nat} {v : Value} {xs : List Value} (o : Own w.heap e size v n xs) (x : Obj) : Own (w.alloc x).heap e size v n xs :=
  o.same fun g hg => heap_old w x (o.lt hg)
theorem add_off (b j : Nat) : (⟨b, 0, none⟩ : Addr).add j = ⟨b, j, none⟩ := by unfold Addr.add; split <;> simp_all
theorem news_new (w : World) (cs : List Value) (t : TypeId) : ∀ j u, cs[j]? = some u → (w.alloc (.cells cs.toArray t)).cell? ((⟨w.heap.size, 0, none⟩ : Addr).add j) = some u := by
  intro j u h
  rw [add_off, World.cell?_alloc_new]
  simpa using h
theorem ne_block {h : Array Obj} {a b : Nat} {x y : Obj} (ha : h[a]? = some x) (hb : h[b]? = some y) (hne : x ≠ y) : a ≠ b := fun e => hne (by subst e; rw [ha] at hb; exact Option.some.inj hb)
theorem MapAt.ne {κ ν : Type} [DecidableEq κ] {enc : κ → Value} {venc : ν → Value} {l : List (κ × ν)} {h : Array Obj} {b m : Nat} (hm : MapAt enc venc h m l) {cs : Array Value} {t : TypeId} {f : Nat × Nat} (hb : h[b]? = some (.cells cs t f)) : b ≠ m := by
  obtain ⟨es, c, h1, _⟩ := hm
  exact ne_block hb h1 (by simp)

end Go.Hs
set_option linter.unusedSimpArgs false
set_option linter.unusedVariables false
set_option maxHeartbeats 1000000
set_option maxRecDepth 100000
namespace Go.Proofs.Ytkhihpmadmmeaaa
open Go.RowKit Go.Hs

def shrN (n y : Nat) : Nat := n / 2 ^ y
theorem shr_nat (n y : Nat) (yk : IntKind) (hn : n < 18446744073709551616) {Y : Int} (hY : Y = (y : Int)) : Op.shift .shr .u64 (n : Int) yk Y = pure (.int .u64 ((shrN n y : Nat) : Int)) := by
  subst hY
  have h0 : ¬ (y : Int) < 0 := by omega
  simp only [Op.shift, h0, if_false]
  congr 2
  have hp : (0 : Int) ≤ 2 ^ min (y : Int).toNat IntKind.u64.bits := Int.pow_nonneg (by decide)
  rw [Int.fdiv_eq_ediv_of_nonneg _ hp]
  unfold shrN
  rw [Int.toNat_natCast]
  by_cases h : y ≤ 64
  · have : min y IntKind.u64.bits = y := by simp [IntKind.bits]; omega
    rw [this]; simp
  · have : min y IntKind.u64.bits = 64 := by simp [IntKind.bits]; omega
    rw [this]
    have h1 : n / 2 ^ y = 0 := Nat.div_eq_of_lt (Nat.lt_of_lt_of_le hn (by
      have : 2 ^ 64 ≤ 2 ^ y := Nat.pow_le_pow_right (by decide) (by omega)
      simpa using this))
    rw [h1]
    exact Int.ediv_eq_zero_of_lt (by omega) (by simpa using (by omega : (n : Int) < 18446744073709551616))
def topK (n : Nat) (k : Nat) : Nat → Nat
  | 0 => k
  | f + 1 => if 0 < shrN n (7 * (k + 1)) ∧ k < 9 then topK n (k + 1) f else k
/-- The byte of seven bits of a number. -/
def sept (n k : Nat) : Nat := shrN n (7 * k) % 128 + if 0 < k then 128 else 0
def septs (n : Nat) : Nat → List Nat
  | 0 => [sept n 0]
  | k + 1 => sept n (k + 1) :: septs n k
/-- A number's bytes. -/
def numB (n : Nat) : List Nat := septs n (topK n 0 9)

def bytesV (l : List Nat) : List Value := l.map fun (c : Nat) => Value.int .u8 c
structure IsW (h : Array Obj) (b : Nat) (v : Value) (l : List Nat) : Prop where
  hb : h[b]? = some (.cells #[v] 77 (0, 0))
  ho : Own h 5 1 v l.length (bytesV l)

theorem topK_le_aux (n : Nat) : ∀ f k, k + f ≤ 9 → topK n k f ≤ 9
  | 0, k, h => by simp [topK]; omega
  | f + 1, k, h => by
    unfold topK
    split
    · exact topK_le_aux n f (k + 1) (by omega)
    · omega
theorem topK_le (n : Nat) : topK n 0 9 ≤ 9 := topK_le_aux n 9 0 (by omega)
/-- The bytes from number K down to j. -/
def septsTo (n j : Nat) : Nat → List Nat
  | 0 => if j = 0 then [sept n 0] else []
  | k + 1 => if j ≤ k + 1 then sept n (k + 1) :: septsTo n j k else []
theorem septsTo_zero (n : Nat) : ∀ K, septsTo n 0 K = septs n K
  | 0 => rfl
  | K + 1 => by simp [septsTo, septs, septsTo_zero n K]
theorem septsTo_top (n : Nat) : ∀ K j, K < j → septsTo n j K = []
  | 0, j, h => by simp [septsTo]; omega
  | K + 1, j, h => by simp [septsTo]; omega
theorem septsTo_step (n : Nat) : ∀ K j, j ≤ K → septsTo n j K = septsTo n (j + 1) K ++ [sept n j]
  | 0, j, h => by have : j = 0 := by omega
                  subst this; simp [septsTo]
  | K + 1, j, h => by
    by_cases h2 : j = K + 1
    · subst h2; simp [septsTo, septsTo_top n K (K + 1) (by omega)]
    · have h3 : j ≤ K := by omega
      simp only [septsTo]
      rw [if_pos h, if_pos (by omega), septsTo_step n K j h3, List.cons_append]
theorem septsTo_len (n j : Nat) : ∀ K, (septsTo n j K).length ≤ K + 1
  | 0 => by simp [septsTo]; split <;> simp
  | K + 1 => by simp only [septsTo]; split <;> simp; have := septsTo_len n j K; omega
def NumAt (w : World) (b : Nat) (v : Value) (l : List Nat) (n K j : Nat) (wr : World) : Prop :=
  ∃ v', IsW wr.heap b v' (l ++ septsTo n j K) ∧ Ext (b :: v.ownBlock.toList) w wr ∧ (∀ g, v'.ownBlock = some g → v.ownBlock = some g ∨ w.heap.size ≤ g)
theorem numAt_start {w : World} {b : Nat} {v : Value} {l : List Nat} {n K : Nat} (h : IsW w.heap b v l) : NumAt w b v l n K (K + 1) w :=
  ⟨v, by rw [septsTo_top n K (K + 1) (by omega)]; simpa using h, Ext.refl _ _, fun g hg => .inl hg⟩

theorem and127 (x : Nat) (h : x < 256) : bits .and .u8 ((x : Nat) : Int) 127 = ((x % 128 : Nat) : Int) := by
  have : ∀ x : Fin 256, bits .and .u8 ((x.1 : Nat) : Int) 127 = ((x.1 % 128 : Nat) : Int) := by decide +kernel
  exact this ⟨x, h⟩
theorem or128 (x : Nat) (h : x < 128) : bits .or .u8 ((x : Nat) : Int) 128 = ((x + 128 : Nat) : Int) := by
  have : ∀ x : Fin 128, bits .or .u8 ((x.1 : Nat) : Int) 128 = ((x.1 + 128 : Nat) : Int) := by decide +kernel
  exact this ⟨x, h⟩
theorem sept_and0 (n : Nat) : bits .and .u8 ((n : Int) % 256) 127 = ((sept n 0 : Nat) : Int) := by
  have := and127 (n % 256) (by omega)
  rw [show ((n : Int) % 256) = ((n % 256 : Nat) : Int) by simp, this]
  congr 1
  simp [sept, shrN]
theorem sept_or (n j : Nat) (h : 0 < j) : bits .or .u8 (bits .and .u8 ((n : Int) / 2 ^ (7 * j) % 256) 127) 128 = ((sept n j : Nat) : Int) := by
  have e : ((n : Int) / 2 ^ (7 * j) % 256) = ((n / 2 ^ (7 * j) % 256 : Nat) : Int) := by simp
  rw [e, and127 _ (by omega), or128 _ (by omega)]
  congr 1
  simp only [sept, shrN, h, if_true]; omega
theorem numAt_step {w wr w2 : World} {b : Nat} {v v1 : Value} {l ll : List Nat} {n K j : Nat} {ao : Option Addr} {cap : Nat} {X : Obj} {c : Int} (hq : l ++ septsTo n (j + 1) K = ll)
    (h1 : IsW wr.heap b v1 ll) (h2 : Ext (b :: v.ownBlock.toList) w wr) (h3 : ∀ g, v1.ownBlock = some g → v.ownBlock = some g ∨ w.heap.size ≤ g) (hj : j ≤ K)
    (hl2 : Own w2.heap 5 1 (.slice ao (ll.length + 1) cap) (ll.length + 1) (bytesV ll ++ [Value.int .u8 c])) (hx2 : Ext v1.ownBlock.toList (wr.alloc X) w2)
    (hf2 : ∀ g, (Value.slice ao (ll.length + 1) cap).ownBlock = some g → v1.ownBlock = some g ∨ (wr.alloc X).heap.size ≤ g) (hbl : b ∉ v1.ownBlock.toList) (hc : c = ((sept n j : Nat) : Int)) :
    NumAt w b v l n K j (w2.setCell ⟨b, 0, none⟩ (.slice ao (ll.length + 1) cap)) := by
  have hb2 := hx2.same (heap_old' _ _ h1.hb) hbl
  have hll : l ++ septsTo n j K = ll ++ [sept n j] := by rw [septsTo_step n K j hj, ← List.append_assoc, hq]
  refine ⟨.slice ao (ll.length + 1) cap, ⟨?_, ?_⟩, ?_, ?_⟩
  · rw [heap_set hb2]; simp
  · rw [hll]
    have : Own w2.heap 5 1 (.slice ao (ll.length + 1) cap) (ll ++ [sept n j]).length (bytesV (ll ++ [sept n j])) := by
      subst hc; simpa [bytesV] using hl2
    exact this.same fun g hg => heap_set_ne _ _ _ (by
      obtain ⟨cur, hcur⟩ := this.block hg
      exact ne_block hb2 hcur (by simp))
  · refine ((h2.alloc X).trans hx2 fun g hg => ?_).setCell (.inl (by simp)) _
    rcases h3 g (by simpa using hg) with h | h
    · left; simp [h]
    · right; exact h
  · intro g hg
    rcases hf2 g hg with h | h
    · exact h3 g h
    · right; have := h2.size; simp at h; omega

theorem infoU8 : (Try.prog.info? 5).map (fun i => (i.zero, i.size, i.bytes)) = some (some (.int .u8 0), 1, 1) := by kernel_rfl

theorem num_any (b : Nat) (v : Value) (l : List Nat) (n : Nat) (w : World) (hI : IsW w.heap b v l) (hn : n < 18446744073709551616) (hl : l.length < 1000000) :
    Calls Try.prog 35 #[.pointer (some ⟨b, 0, none⟩), .int .u64 n] w fun e w' =>
      ∃ v', e = .returned (.pointer (some ⟨b, 0, none⟩)) ∧ IsW w'.heap b v' (l ++ numB n) ∧ Ext (b :: v.ownBlock.toList) w w' ∧ (∀ g, v'.ownBlock = some g → v.ownBlock = some g ∨ w.heap.size ≤ g) := by
  go_enter Try.func35, Try.ntmps35
  go_upto_block 0 with fail
  go_cut [5] (fun k wx => k = .int .i64 ((topK n 0 9 : Nat) : Int) ∧ wx = w)
  case first =>
    go_wp2_with fail
    go_loop [5] (fun k => ∃ j : Nat, j ≤ 9 ∧ k = .int .i64 j ∧ topK n j (9 - j) = topK n 0 9) (fun k => 9 - (intOf k).toNat)
    case atStart => exact ⟨0, by omega, rfl, rfl⟩
    case round =>
      obtain ⟨j, hj, rfl, hk⟩ := hrel
      have hsh := shr_nat n (7 * (j + 1)) .i64 hn (Y := 7 * ((j : Int) + 1)) (by omega)
      by_cases hp : 0 < shrN n (7 * (j + 1))
      · by_cases h9 : j < 9
        · have hk' : topK n (j + 1) (9 - (j + 1)) = topK n 0 9 := by
            rw [← hk, show 9 - j = (9 - (j + 1)) + 1 by omega]
            simp [topK, hp, h9]
          have HK := Hs.hid (And.intro hk' h9); clear hk hk'
          have h9b : decide ((j : Int) < 9) = true := by simp; omega
          clear h9
          go_wp2_with fail
          go_round
          case rel => exact ⟨j + 1, by have := HK.out.2; omega, by go_num, HK.out.1⟩
          case measure => have := HK.out.2; simp [intOf]; omega
        · have hk' : topK n 0 9 = j := by rw [← hk, show 9 - j = 0 by omega]; rfl
          have HK := Hs.hid hk'; clear hk hk'
          have h9b : decide ((j : Int) < 9) = false := by simp; omega
          clear h9
          go_wp2_with fail
          go_meet
          exact ⟨by rw [HK.out], rfl⟩
      · have hk' : topK n 0 9 = j := by
          rw [← hk]
          cases h : 9 - j with
          | zero => rfl
          | succ f => simp [topK, hp]
        have HK := Hs.hid hk'; clear hk hk'
        go_wp2_with fail
        go_meet
        exact ⟨by rw [HK.out], rfl⟩
  case rest =>
    obtain ⟨rfl, rfl⟩ := hcut
    have hK9 := topK_le n
    obtain ⟨K, hKe⟩ : ∃ K, topK n 0 9 = K := ⟨_, rfl⟩
    have HB : Hid (numB n = septsTo n 0 K) := by show numB n = _; rw [septsTo_zero]; unfold numB; rw [hKe]
    rw [hKe] at hK9 ⊢
    clear hKe
    go_wp2_with fail
    go_loopw [5] (fun k wr => (k = .int .i64 (-1) ∧ NumAt wc b v l n K 0 wr) ∨ ∃ j : Nat, j ≤ K ∧ k = .int .i64 j ∧ NumAt wc b v l n K (j + 1) wr) (fun k _ => (intOf k + 1).toNat)
    case atStart => exact .inr ⟨K, Nat.le_refl _, rfl, numAt_start hI⟩
    case round =>
      rcases hrel with ⟨rfl, hN⟩ | ⟨j, hj, rfl, hN⟩
      · go_wp2_with fail
        go_ret
        obtain ⟨v', h1, h2, h3⟩ := hN
        exact ⟨v', rfl, by rw [HB.out]; exact h1, h2, h3⟩
      · obtain ⟨v1, h1, h2, h3⟩ := hN
        have hsh := shr_nat n (7 * j) .i64 hn (Y := 7 * (j : Int)) (by omega)
        have c0 := cellAt h1.hb 0
        simp at c0
        have f0 := freeAt h1.hb 0
        obtain ⟨i0, hi, hz0, hz1, hz2⟩ := info_parts infoU8
        have hll : (l ++ septsTo n (j + 1) K).length ≤ 1000020 := by have := septsTo_len n (j + 1) K; simp; omega
        obtain ⟨ll, hq⟩ : ∃ ll, l ++ septsTo n (j + 1) K = ll := ⟨_, rfl⟩
        rw [hq] at hll h1
        have HQ := Hs.hid hq; clear hq
        have hm1 : ll.length + 1 ≤ maxLen := by unfold maxLen; omega
        have hm2 : (ll.length + 1) * 1 ≤ 140737488355328 := by omega
        have hbl : b ∉ v1.ownBlock.toList := fun hm => by
          obtain ⟨cur, hcur⟩ := h1.ho.block (by simpa using hm)
          exact absurd rfl (ne_block h1.hb hcur (by simp))
        by_cases hj0 : j = 0
        · subst hj0
          go_wp2_with (at_builtin; refine wpList_append rfl (.tmp 37) (.tmp 39) 56 rfl 5 i0 _ 1 1 Try.underlying56 hi hz0 hz1 hz2 rfl (by decide) v1 _ _ rfl (h1.ho.alloc _) ⟨wr.heap.size, 0, none⟩ 1 1 [_] rfl rfl (news_new wr _ _) (by simp [Value.oneCell']) hm1 hm2 ?_; intro ao2 cap2 w2 hl2 hx2 hf2; have hb2 := hx2.same (heap_old' _ _ h1.hb) hbl; have e2 := cellAt hb2 0; have f2' := freeAt hb2 0; simp at e2)
          refine ⟨.inl ⟨rfl, ?_⟩, by simp [intOf]⟩
          exact numAt_step HQ.out h1 h2 h3 (Nat.zero_le _) hl2 hx2 hf2 hbl (by rw [sept_and0])
        · have hjp : (0 : Int) < j := by omega
          go_wp2_with (at_builtin; refine wpList_append rfl (.tmp 37) (.tmp 39) 56 rfl 5 i0 _ 1 1 Try.underlying56 hi hz0 hz1 hz2 rfl (by decide) v1 _ _ rfl (h1.ho.alloc _) ⟨wr.heap.size, 0, none⟩ 1 1 [_] rfl rfl (news_new wr _ _) (by simp [Value.oneCell']) hm1 hm2 ?_; intro ao2 cap2 w2 hl2 hx2 hf2; have hb2 := hx2.same (heap_old' _ _ h1.hb) hbl; have e2 := cellAt hb2 0; have f2' := freeAt hb2 0; simp at e2)
          refine ⟨.inr ⟨j - 1, by omega, by congr 1; omega, ?_⟩, by simp [intOf]⟩
          rw [show j - 1 + 1 = j by omega]
          exact numAt_step HQ.out h1 h2 h3 hj hl2 hx2 hf2 hbl (by rw [sept_or n j (by omega)])
def bytesOf (s : ByteArray) : List Nat := s.data.toList.map UInt8.toNat
theorem bytesV_of (s : ByteArray) : bytesV (bytesOf s) = Lib.strCells s := by simp [bytesV, bytesOf, Lib.strCells]
theorem bytesOf_len (s : ByteArray) : (bytesOf s).length = s.size := by rw [bytesOf, List.length_map, Array.length_toList]; rfl
theorem numB_len (n : Nat) : (numB n).length ≤ 10 := by
  have h : ∀ k, (septs n k).length = k + 1 := by
    intro k
    induction k with
    | zero => rfl
    | succ k ih => show ((sept n (k + 1) :: septs n k).length = _); rw [List.length_cons, ih]
  unfold numB; rw [h]; have := topK_le n; omega

theorem str_any (b : Nat) (v : Value) (l : List Nat) (s : ByteArray) (w : World) (hI : IsW w.heap b v l) (hs : s.size < 1000000) (hl : l.length < 900000) :
    Calls Try.prog 36 #[.pointer (some ⟨b, 0, none⟩), .string s] w fun e w' =>
      ∃ v', e = .returned (.pointer (some ⟨b, 0, none⟩)) ∧ IsW w'.heap b v' (l ++ numB s.size ++ bytesOf s) ∧ Ext (b :: v.ownBlock.toList) w w' ∧ (∀ g, v'.ownBlock = some g → v.ownBlock = some g ∨ w.heap.size ≤ g) := by
  have hsz : (s.size : Int) < 1000000 := by omega
  go_enter Try.func36, Try.ntmps36
  go_wp2_with fail
  refine (num_any b v l s.size _ hI (by omega) (by omega)).mono ?_
  rintro e w1 ⟨v1, rfl, h1, hx1, hf1⟩
  have c0 := cellAt h1.hb 0
  simp at c0
  obtain ⟨i0, hi, hz0, hz1, hz2⟩ := info_parts infoU8
  have hll : (l ++ numB s.size).length ≤ 900010 := by have := numB_len s.size; simp; omega
  obtain ⟨ll, hq⟩ : ∃ ll, l ++ numB s.size = ll := ⟨_, rfl⟩
  rw [hq] at hll h1
  have HQ := Hs.hid hq; clear hq
  have hm1 : ll.length + s.size ≤ maxLen := by unfold maxLen; omega
  have hm2 : ll.length + s.size ≤ 140737488355328 := by omega
  have hbl : b ∉ v1.ownBlock.toList := fun hm => by
    obtain ⟨cur, hcur⟩ := h1.ho.block (by simpa using hm)
    exact absurd rfl (ne_block h1.hb hcur (by simp))
  go_wp2_with (at_builtin; refine wpList_append_str rfl (.tmp 14) (.tmp 15) 56 9 rfl 5 i0 Try.underlying56 Try.underlying9 hi hz0 hz1 hz2 v1 _ _ rfl h1.ho s rfl hm1 hm2 ?_; intro ao2 cap2 w2 hl2 hx2 hf2; have hb2 := hx2.same h1.hb hbl; have e2 := cellAt hb2 0; have f2' := freeAt hb2 0; simp at e2)
  go_ret
  refine ⟨.slice ao2 (ll.length + s.size) cap2, rfl, ⟨?_, ?_⟩, ?_, ?_⟩
  · rw [heap_set hb2]; simp
  · rw [HQ.out]
    have : Own w2.heap 5 1 (.slice ao2 (ll.length + s.size) cap2) (ll ++ bytesOf s).length (bytesV (ll ++ bytesOf s)) := by
      have e : bytesV (ll ++ bytesOf s) = bytesV ll ++ Lib.strCells s := by rw [← bytesV_of]; simp [bytesV]
      rw [e, List.length_append, bytesOf_len]; exact hl2
    exact this.same fun g hg => heap_set_ne _ _ _ (by
      obtain ⟨cur, hcur⟩ := this.block hg
      exact ne_block hb2 hcur (by simp))
  · refine (hx1.trans hx2 fun g hg => ?_).setCell (.inl (by simp)) _
    rcases hf1 g (by simpa using hg) with h | h
    · left; simp [h]
    · right; exact h
  · intro g hg
    rcases hf2 g hg with h | h
    · exact hf1 g h
    · right; have := hx1.size; omega

theorem text_any (b : Nat) (v : Value) (l : List Nat) (w : World) (hI : IsW w.heap b v l) :
    Calls Try.prog 37 #[.pointer (some ⟨b, 0, none⟩)] w fun e w' => e = .returned (.string (strN l)) ∧ w' = w := by
  have c0 := cellAt hI.hb 0
  simp at c0
  have hr := run_bytes_text (P := Try.prog) 56 9 5 Try.underlying56 Try.underlying5 Try.underlying9 v l hI.ho
  go_enter Try.func37, Try.ntmps37
  go_wp2_with fail
  go_ret
  exact ⟨rfl, rfl⟩

theorem wrap_u64 (x : Int) (h0 : 0 ≤ x) (h1 : x < 18446744073709551616) : IntKind.u64.wrap x = x := by
  rw [IntKind.wrap_u64]; omega
theorem nIn {h : Array Obj} {b : Nat} {v : Value} {l : List Nat} {A : Nat} {cs : Array Value} (hA : h[A]? = some (.cells cs 50 (0, 0))) (hI : IsW h b v l) : A ∉ b :: v.ownBlock.toList := by
  intro hm
  rcases List.mem_cons.1 hm with rfl | hm
  · exact absurd rfl (ne_block hA hI.hb (by simp))
  · obtain ⟨cur, hcur⟩ := hI.ho.block (by simpa using hm)
    exact absurd rfl (ne_block hA hcur (by simp))
/-- A record's text. -/
def recText (who seq : Nat) (body : ByteArray) : ByteArray := strN (numB who ++ numB seq ++ (numB body.size ++ bytesOf body))
theorem recText_any (who seq : Nat) (body : ByteArray) (w : World) (h1 : who < 1000000) (h2 : seq < 1000000000000000) (h3 : body.size < 100000) :
    Calls Try.prog 19 #[.agg #[.int .i64 who, .int .i64 seq, .string body]] w fun e w' => e = .returned (.string (recText who seq body)) ∧ Ext [] w w' := by
  have hA := heap_new w (.cells #[.int .i64 ↑who, .int .i64 ↑seq, .string body] 50)
  have hA2 := heap_old' _ (.cells #[.slice none 0 0] 77) hA
  have hB := heap_new (w.alloc (.cells #[.int .i64 ↑who, .int .i64 ↑seq, .string body] 50)) (.cells #[.slice none 0 0] 77)
  have hsz : (w.alloc (.cells #[.int .i64 ↑who, .int .i64 ↑seq, .string body] 50)).heap.size = w.heap.size + 1 := by simp
  rw [hsz] at hB
  have E0 := ((Ext.refl [] w).alloc (.cells #[.int .i64 ↑who, .int .i64 ↑seq, .string body] 50)).alloc (.cells #[.slice none 0 0] 77)
  have hI : IsW ((w.alloc (.cells #[.int .i64 ↑who, .int .i64 ↑seq, .string body] 50)).alloc (.cells #[.slice none 0 0] 77)).heap (w.heap.size + 1) (.slice none 0 0) [] :=
    ⟨hB, rfl, .inl ⟨rfl, rfl⟩⟩
  have hs : w.heap.size < ((w.alloc (.cells #[.int .i64 ↑who, .int .i64 ↑seq, .string body] 50)).alloc (.cells #[.slice none 0 0] 77)).heap.size := by simp; omega
  have hw0 : (0 : Int) ≤ who := by omega
  have hq0 : (0 : Int) ≤ seq := by omega
  go_enter Try.func19, Try.ntmps19
  go_wp2_with fail
  generalize (w.alloc (.cells #[.int .i64 ↑who, .int .i64 ↑seq, .string body] 50)).alloc (.cells #[.slice none 0 0] 77) = W at *
  clear hA hB hsz
  have hAs : w.heap.size < W.heap.size := hs
  generalize hAe : w.heap.size = A at *
  have a0 := cellAt hA2 0
  have a1 := cellAt hA2 1
  have a2 := cellAt hA2 2
  simp at a0 a1 a2
  have HE := Hs.hid hAe; clear hAe
  have hl1 : ([] ++ numB who).length < 1000000 := by have := numB_len who; simp; omega
  have hl2 : ([] ++ numB who ++ numB seq).length < 900000 := by have := numB_len who; have := numB_len seq; simp; omega
  have n1 : ¬ (who : Int) < 0 := by omega
  have n2 : ¬ (seq : Int) < 0 := by omega
  have u1 : IntKind.u64.wrap (who : Int) = who := wrap_u64 _ (by omega) (by omega)
  have u2 : IntKind.u64.wrap (seq : Int) = seq := wrap_u64 _ (by omega) (by omega)
  have u3 : IntKind.u64.wrap (if (who : Int) < 0 then 0 else who) = who := by rw [if_neg n1, u1]
  have u4 : IntKind.u64.wrap (if (seq : Int) < 0 then 0 else seq) = seq := by rw [if_neg n2, u2]
  go_region_held3 (fun w' => w'.cell? ⟨A, 0, none⟩ = some (.int .i64 ↑who) ∧ w'.cell? ⟨A, 1, none⟩ = some (.int .i64 ↑seq) ∧ w'.cell? ⟨A, 2, none⟩ = some (.string body))
    (first
      | go_keep
      | exact ⟨k0, k1, k2⟩)
    (first
      | (go_at_call 36; (with_reducible refine (str_any (A + 1) v2 _ body _ ?_ (by omega) hl2).mono ?_); exact hI2; rintro e w3 ⟨v3, rfl, hI3, hx3, hf3⟩; clear k0 k1 k2; have hA5 := hx3.same hA4 (nIn hA4 hI2); have k0 := cellAt hA5 0; have k1 := cellAt hA5 1; have k2 := cellAt hA5 2; simp at k0 k1 k2)
      | (go_at_call 35; (with_reducible refine (num_any (A + 1) v1 _ seq _ ?_ (by omega) hl1).mono ?_); exact hI1; rintro e w2 ⟨v2, rfl, hI2, hx2, hf2⟩; clear k0 k1 k2; have hA4 := hx2.same hA3 (nIn hA3 hI1); have k0 := cellAt hA4 0; have k1 := cellAt hA4 1; have k2 := cellAt hA4 2; simp at k0 k1 k2)
      | (go_at_call 35; (with_reducible refine (num_any (A + 1) (.slice none 0 0) [] who _ ?_ (by omega) (by simp)).mono ?_); exact hI; rintro e w1 ⟨v1, rfl, hI1, hx1, hf1⟩; have hA3 := hx1.same hA2 (by simp [Value.ownBlock]); have k0 := cellAt hA3 0; have k1 := cellAt hA3 1; have k2 := cellAt hA3 2; simp at k0 k1 k2)
      | (go_at_call 37; (with_reducible refine (text_any (A + 1) v3 _ _ hI3).mono ?_); rintro e w4 ⟨rfl, rfl⟩))
  all_goals
    go_wp2_with fail
    go_ret
    refine ⟨by simp [recText], ?_⟩
    have e1 := E0.drew.trans hx1 fun g hg => .inr (by simp [Value.ownBlock] at hg; subst hg; have := HE.out; omega)
    have e2 := e1.trans hx2 fun g hg => .inr (by
      have := HE.out
      rcases List.mem_cons.1 hg with rfl | hg
      · omega
      · rcases hf1 g (by simpa using hg) with h | h
        · simp [Value.ownBlock] at h
        · have : w.heap.size < W.drew.heap.size := by rw [HE.out]; exact hAs
          omega)
    refine e2.trans hx3 fun g hg => .inr ?_
    have := HE.out
    have hAs' : w.heap.size < W.drew.heap.size := by rw [HE.out]; exact hAs
    rcases List.mem_cons.1 hg with rfl | hg
    · omega
    · rcases hf2 g (by simpa using hg) with h | h
      · rcases hf1 g h with h | h
        · simp [Value.ownBlock] at h
        · omega
      · have := hx1.size; omega
end Go.Proofs.Ytkhihpmadmmeaaa
set_option linter.unusedSimpArgs false
set_option linter.unusedVariables false
set_option maxHeartbeats 2000000
set_option maxRecDepth 100000
namespace Go.Proofs.Ytkhihpmadmmeaaa
open Go.RowKit Go.Hs

theorem shrN_next (n y : Nat) : shrN n y / 128 = shrN n (y + 7) := by
  unfold shrN
  rw [Nat.div_div_eq_div_mul, show (128 : Nat) = 2 ^ 7 from rfl, ← Nat.pow_add]
theorem septs_size (n : Nat) : ∀ j, (septs n j).length = j + 1
  | 0 => rfl
  | j + 1 => by simp [septs, septs_size n j]
theorem strN_append (a b : List Nat) : strN (a ++ b) = strN a ++ strN b := by
  simp [strN, ByteArray.ext_iff]
theorem strN_size (a : List Nat) : (strN a).size = a.length := by simp [strN, ByteArray.size]
theorem sept_str (n j : Nat) (h : n < 4611686018427387904) :
    strOfNums [IntKind.u64.wrap (128 + Int.tmod ((shrN n (7 * (j + 1)) : Nat) : Int) 128) % 256] ++ strN (septs n j) = strN (septs n (j + 1)) := by
  have h1 : Int.tmod ((shrN n (7 * (j + 1)) : Nat) : Int) 128 = ((shrN n (7 * (j + 1)) % 128 : Nat) : Int) := by
    rw [Int.tmod_eq_emod_of_nonneg (Int.natCast_nonneg _)]; rfl
  have hs : sept n (j + 1) = shrN n (7 * (j + 1)) % 128 + 128 := by unfold sept; rw [if_pos (by omega)]
  rw [h1]
  have hm := Nat.mod_lt (shrN n (7 * (j + 1))) (show 128 > 0 by decide)
  generalize shrN n (7 * (j + 1)) % 128 = r at *
  rw [wrap_u64 _ (by omega) (by omega), show (128 + (r : Int)) % 256 = ((r + 128 : Nat) : Int) by omega]
  rw [show septs n (j + 1) = [sept n (j + 1)] ++ septs n j from rfl, strN_append, hs]
  congr 1
theorem num_l0 (n : Nat) (hn : n < 4611686018427387904) : ∀ (f k j : Nat), j + f = 9 → f + 1 ≤ k →
    PSc.hindsightref02_Num.l0 k ((shrN n (7 * (j + 1)) : Nat) : Int) (strN (septs n j)) (j : Int) = some (strN (septs n (topK n j f)))
  | 0, k, j, hj, hk => by
    obtain ⟨k, rfl⟩ : ∃ m, k = m + 1 := ⟨k - 1, by omega⟩
    unfold PSc.hindsightref02_Num.l0
    rw [if_neg (by omega)]
    rfl
  | f + 1, k, j, hj, hk => by
    obtain ⟨k, rfl⟩ : ∃ m, k = m + 1 := ⟨k - 1, by omega⟩
    have ih := num_l0 n hn f k (j + 1) (by omega) (by omega)
    unfold PSc.hindsightref02_Num.l0
    rw [if_pos (by omega)]
    by_cases h0 : 0 < shrN n (7 * (j + 1))
    · rw [if_pos (by omega), Option.bind_some]
      have ht : topK n j (f + 1) = topK n (j + 1) f := by rw [show topK n j (f + 1) = if 0 < shrN n (7 * (j + 1)) ∧ j < 9 then topK n (j + 1) f else j from rfl, if_pos ⟨h0, by omega⟩]
      rw [if_pos (by rw [strOfNums_size, strN_size, septs_size]; simp; omega), sept_str n j hn, ht, ← ih]
      congr 1
      · have : Int.tdiv ((shrN n (7 * (j + 1)) : Nat) : Int) 128 = ((shrN n (7 * (j + 1)) / 128 : Nat) : Int) := by
          rw [Int.tdiv_eq_ediv_of_nonneg (Int.natCast_nonneg _)]; rfl
        rw [this, shrN_next, show 7 * (j + 1) + 7 = 7 * (j + 1 + 1) by omega]
        refine wrap_u64 _ (Int.natCast_nonneg _) ?_
        have : shrN n (7 * (j + 1 + 1)) ≤ n := Nat.div_le_self _ _
        omega
      · show wrap64 ((j : Int) + 1) = ((j + 1 : Nat) : Int)
        unfold wrap64
        omega
    · have ht : topK n j (f + 1) = j := by rw [show topK n j (f + 1) = if 0 < shrN n (7 * (j + 1)) ∧ j < 9 then topK n (j + 1) f else j from rfl, if_neg (fun h => h0 h.1)]
      rw [if_neg (by omega), ht]
theorem num_f (n : Nat) (hn : n < 4611686018427387904) : PSc.hindsightref02_Num.f 11 (n : Int) = some (strN (numB n)) := by
  have h := num_l0 n hn 9 11 0 (by omega) (by omega)
  unfold PSc.hindsightref02_Num.f numB
  rw [← h]
  congr 1
  · have : Int.tdiv (n : Int) 128 = ((n / 128 : Nat) : Int) := by
      rw [Int.tdiv_eq_ediv_of_nonneg (Int.natCast_nonneg _)]; rfl
    rw [this, wrap_u64 _ (Int.natCast_nonneg _) (by have : n / 128 ≤ n := Nat.div_le_self _ _; omega)]
    rfl
  · have h1 : Int.tmod (n : Int) 128 = ((n % 128 : Nat) : Int) := by
      rw [Int.tmod_eq_emod_of_nonneg (Int.natCast_nonneg _)]; rfl
    have hm := Nat.mod_lt n (show 128 > 0 by decide)
    have hs : septs n 0 = [n % 128] := by simp [septs, sept, shrN]
    rw [h1, hs, show ((n % 128 : Nat) : Int) % 256 = ((n % 128 : Nat) : Int) by omega]
    rfl
theorem refNum_any (n : Nat) (hn : n < 4611686018427387904) (w : World) :
    Calls Try.prog 62 #[.int .u64 n] w fun e w' => e = .returned (.string (strN (numB n))) ∧ Ext [] w w' :=
  (PSc.hindsightref02_Num.calls 11 n _ w (num_f n hn)).mono fun e w' ⟨h1, h2⟩ => ⟨h1, Ext.ofBelow h2⟩
theorem strN_bytes (b : ByteArray) : strN (bytesOf b) = b := by
  have h : UInt8.ofNat ∘ UInt8.toNat = id := by funext x; simp
  simp [strN, bytesOf, ByteArray.ext_iff, h]
theorem refStr_any (s : ByteArray) (hs : s.size < 100000) (w : World) :
    Calls Try.prog 63 #[.string s] w fun e w' => e = .returned (.string (strN (numB s.size) ++ s)) ∧ Ext [] w w' := by
  have u1 : IntKind.u64.wrap (s.size : Int) = s.size := wrap_u64 _ (by omega) (by omega)
  have hl := numB_len s.size
  have hz : (strN (numB s.size)).size ≤ 11 := by rw [strN_size]; omega
  go_enter Try.func63, Try.ntmps63
  go_wp2_with (go_at_call 62; refine (refNum_any s.size (by omega) _).mono ?_; rintro e w1 ⟨rfl, hx1⟩)
  go_ret
  exact ⟨rfl, hx1⟩
theorem recText_eq (who seq : Nat) (body : ByteArray) : strN (numB who) ++ strN (numB seq) ++ (strN (numB body.size) ++ body) = recText who seq body := by
  unfold recText
  rw [strN_append, strN_append, strN_append, strN_bytes]
theorem refText_any (who seq : Nat) (body : ByteArray) (w : World) (h1 : who < 1000000) (h2 : seq < 1000000000000000) (h3 : body.size < 100000) :
    Calls Try.prog 56 #[.agg #[.int .i64 who, .int .i64 seq, .string body]] w fun e w' => e = .returned (.string (recText who seq body)) ∧ Ext [] w w' := by
  have hA := heap_new w (.cells #[.int .i64 ↑who, .int .i64 ↑seq, .string body] 60)
  have E0 : Ext [] w (w.alloc (.cells #[.int .i64 ↑who, .int .i64 ↑seq, .string body] 60)) := (Ext.refl _ _).alloc _
  go_enter Try.func56, Try.ntmps56
  go_wp2_with fail
  generalize w.alloc (.cells #[.int .i64 ↑who, .int .i64 ↑seq, .string body] 60) = W at *
  generalize w.heap.size = A at *
  have k0 := cellAt hA 0
  have k1 := cellAt hA 1
  have k2 := cellAt hA 2
  simp at k0 k1 k2
  have n1 : ¬ (who : Int) < 0 := by omega
  have n2 : ¬ (seq : Int) < 0 := by omega
  have u1 : IntKind.u64.wrap (who : Int) = who := wrap_u64 _ (by omega) (by omega)
  have u2 : IntKind.u64.wrap (seq : Int) = seq := wrap_u64 _ (by omega) (by omega)
  have u3 : IntKind.u64.wrap (if (who : Int) < 0 then 0 else who) = who := by rw [if_neg n1, u1]
  have u4 : IntKind.u64.wrap (if (seq : Int) < 0 then 0 else seq) = seq := by rw [if_neg n2, u2]
  have l1 := numB_len who
  have l2 := numB_len seq
  have l3 := numB_len body.size
  have z1 : (strN (numB who)).size ≤ 11 := by rw [strN_size]; omega
  have z2 : (strN (numB seq)).size ≤ 11 := by rw [strN_size]; omega
  have z3 : (strN (numB body.size)).size ≤ 11 := by rw [strN_size]; omega
  clear l1 l2 l3
  have s12 : (strN (numB who)).size + (strN (numB seq)).size ≤ 9223372036854775807 := by omega
  have s34 : (strN (numB who)).size + (strN (numB seq)).size + ((strN (numB body.size)).size + body.size) ≤ 9223372036854775807 := by omega
  have t12 : ¬ 9223372036854775807 < (strN (numB who)).size + (strN (numB seq)).size := by omega
  have t34 : ¬ 9223372036854775807 < (strN (numB who)).size + (strN (numB seq)).size + ((strN (numB body.size)).size + body.size) := by omega
  clear z1 z2 z3
  go_region_held3 (fun w' => w'.cell? ⟨A, 0, none⟩ = some (.int .i64 ↑who) ∧ w'.cell? ⟨A, 1, none⟩ = some (.int .i64 ↑seq) ∧ w'.cell? ⟨A, 2, none⟩ = some (.string body))
    (first
      | go_keep
      | exact ⟨k0, k1, k2⟩)
    (first
      | (go_at_call 63; (with_reducible refine (refStr_any body (by omega) _).mono ?_); rintro e w3 ⟨rfl, hx3⟩; clear k0 k1 k2; have hA5 := hx3.same hA4 (by simp); have k0 := cellAt hA5 0; have k1 := cellAt hA5 1; have k2 := cellAt hA5 2; simp at k0 k1 k2)
      | (go_at_call 62; (with_reducible refine (refNum_any seq (by omega) _).mono ?_); rintro e w2 ⟨rfl, hx2⟩; clear k0 k1 k2; have hA4 := hx2.same hA3 (by simp); have k0 := cellAt hA4 0; have k1 := cellAt hA4 1; have k2 := cellAt hA4 2; simp at k0 k1 k2)
      | (go_at_call 62; (with_reducible refine (refNum_any who (by omega) _).mono ?_); rintro e w1 ⟨rfl, hx1⟩; have hA3 := hx1.same hA (by simp); clear k0 k1 k2; have k0 := cellAt hA3 0; have k1 := cellAt hA3 1; have k2 := cellAt hA3 2; simp at k0 k1 k2))
  all_goals
    go_wp2_with fail
    go_ret
    exact ⟨by rw [← recText_eq]; rfl, ((E0.drew.trans0 hx1).trans0 hx2).trans0 hx3⟩
end Go.Proofs.Ytkhihpmadmmeaaa
set_option linter.unusedSimpArgs false
set_option linter.unusedVariables false
set_option maxHeartbeats 2000000
set_option maxRecDepth 100000
namespace Go.Proofs.Ytkhihpmadmmeaaa
open Go.RowKit Go.Hs

structure RP where
  next : Int
  at_ : Nat
  who : Nat
  seq : Nat
  body : ByteArray
  offer : ByteArray
def RP.cells (p : RP) : List Value := [.int .i64 p.next, .int .i64 p.at_, .int .i64 p.who, .int .i64 p.seq, .string p.body, .string p.offer]
structure RW where
  slots : List ByteArray
  wishes : List ByteArray
  P : List RP
/-- A world's three slices, where they lie: S slots, Pn wishes and processes. -/
structure RefV (h : Array Obj) (S Pn : Nat) (sao : Option Addr) (scap : Nat) (wao : Option Addr) (wcap pg pcap : Nat) (X : RW) : Prop where
  s : Own h 9 1 (.slice sao S scap) S (X.slots.map Value.string)
  w : Own h 9 1 (.slice wao Pn wcap) Pn (X.wishes.map Value.string)
  p : Own h 62 6 (.slice (some ⟨pg, 0, none⟩) Pn pcap) Pn (X.P.flatMap RP.cells)
theorem own_ext {F : List Nat} {w w' : World} {e : TypeId} {size n : Nat} {v : Value} {xs : List Value} (o : Own w.heap e size v n xs) (hx : Ext F w w') (hF : ∀ g, v.ownBlock = some g → g ∉ F) : Own w'.heap e size v n xs :=
  o.same fun g hg => hx.block g (o.lt hg) (hF g hg)
section
variable {S Pn : Nat} {sao : Option Addr} {scap : Nat} {wao : Option Addr} {wcap pg pcap : Nat} {X : RW}
theorem RefV.ext {F : List Nat} {w w' : World} (r : RefV w.heap S Pn sao scap wao wcap pg pcap X) (hx : Ext F w w')
    (hF : ∀ g, (Value.slice sao S scap).ownBlock = some g ∨ (Value.slice wao Pn wcap).ownBlock = some g ∨ g = pg → g ∉ F) : RefV w'.heap S Pn sao scap wao wcap pg pcap X :=
  ⟨own_ext r.s hx fun g h => hF g (.inl h), own_ext r.w hx fun g h => hF g (.inr (.inl h)), own_ext r.p hx fun g h => hF g (.inr (.inr (by simpa [Value.ownBlock] using h.symm)))⟩
theorem RefV.ext0 {w w' : World} (r : RefV w.heap S Pn sao scap wao wcap pg pcap X) (hx : Ext [] w w') : RefV w'.heap S Pn sao scap wao wcap pg pcap X := r.ext hx (by simp)
theorem RefV.S_eq {h : Array Obj} (r : RefV h S Pn sao scap wao wcap pg pcap X) : X.slots.length = S := by have := r.s.1; simpa using this
theorem RefV.W_eq {h : Array Obj} (r : RefV h S Pn sao scap wao wcap pg pcap X) : X.wishes.length = Pn := by have := r.w.1; simpa using this
end
/-- An owned slice that is not empty lies in a block. -/
theorem own_some {h : Array Obj} {e : TypeId} {size n : Nat} {v : Value} {xs : List Value} (o : Own h e size v n xs) (hn : 0 < n) :
    ∃ g cap cur, v = .slice (some ⟨g, 0, none⟩) n cap ∧ h[g]? = some (.cells cur e (0, 0)) ∧ n ≤ cap ∧ cap ≤ maxLen ∧ cur.size = cap * size ∧ cur.toList.take (n * size) = xs := by
  rcases o.2 with ⟨_, h0⟩ | ⟨g, cap, cur, h1, _, h2, h3, h4, h5, h6⟩
  · omega
  · exact ⟨g, cap, cur, h1, h2, h3, h4, h5, h6⟩
theorem flat_len (L : List RP) : (L.flatMap RP.cells).length = L.length * 6 := by
  induction L with
  | nil => rfl
  | cons x L ih => rw [List.flatMap_cons, List.length_append, ih]; simp [RP.cells]; omega
theorem flat_get (L : List RP) (k : Nat) (h : k < L.length) (i : Nat) (hi : i < 6) : (L.flatMap RP.cells)[k * 6 + i]? = (L[k].cells)[i]? := by
  induction L generalizing k with
  | nil => simp at h
  | cons x L ih =>
    rw [List.flatMap_cons]
    cases k with
    | zero => rw [List.getElem?_append_left (by simp [RP.cells]; omega)]; simp
    | succ k =>
      have hl : x.cells.length = 6 := rfl
      rw [List.getElem?_append_right (by rw [hl]; omega), hl, show (k + 1) * 6 + i - 6 = k * 6 + i by omega, ih k (by simpa using h)]
      simp
theorem flat_set (L : List RP) (k : Nat) (p : RP) (h : k < L.length) :
    ((((((L.flatMap RP.cells).set (k * 6) (.int .i64 p.next)).set (k * 6 + 1) (.int .i64 p.at_)).set (k * 6 + 2) (.int .i64 p.who)).set (k * 6 + 3) (.int .i64 p.seq)).set (k * 6 + 4) (.string p.body)).set (k * 6 + 5) (.string p.offer) = (L.set k p).flatMap RP.cells := by
  induction L generalizing k with
  | nil => simp at h
  | cons x L ih =>
    cases k with
    | zero => simp [RP.cells]
    | succ k =>
      have hl : x.cells.length = 6 := rfl
      have hs : ∀ (M : List Value) (i : Nat) (v : Value), (x.cells ++ M).set ((k + 1) * 6 + i) v = x.cells ++ M.set (k * 6 + i) v := by
        intro M i v
        rw [List.set_append_right _ _ (by rw [hl]; omega), hl, show (k + 1) * 6 + i - 6 = k * 6 + i by omega]
      have hs0 : ∀ (M : List Value) (v : Value), (x.cells ++ M).set ((k + 1) * 6) v = x.cells ++ M.set (k * 6) v := fun M v => hs M 0 v
      rw [List.flatMap_cons, hs0, hs, hs, hs, hs, hs, ih k (by simpa using h), List.set_cons_succ, List.flatMap_cons]
theorem infoRP : (Try.prog.info? 62).map (fun i => (i.zero, i.size, i.bytes)) = some (some (.agg #[.int .i64 0, .int .i64 0, .int .i64 0, .int .i64 0, .string ⟨#[]⟩, .string ⟨#[]⟩]), 6, 64) := by kernel_rfl
theorem alloc_three (w : World) (A C D : Obj) :
    (((w.alloc A).alloc C).alloc D).heap[w.heap.size]? = some A ∧ (((w.alloc A).alloc C).alloc D).heap[w.heap.size + 1]? = some C ∧ (((w.alloc A).alloc C).alloc D).heap[w.heap.size + 1 + 1]? = some D ∧
    Ext [] w (((w.alloc A).alloc C).alloc D) ∧ (((w.alloc A).alloc C).alloc D).heap.size = w.heap.size + 1 + 1 + 1 := by
  have hs1 : (w.alloc A).heap.size = w.heap.size + 1 := by simp
  have hs2 : ((w.alloc A).alloc C).heap.size = w.heap.size + 1 + 1 := by simp
  refine ⟨heap_old' _ _ (heap_old' _ _ (heap_new w A)), ?_, ?_, (((Ext.refl _ _).alloc _).alloc _).alloc _, by simp⟩
  · have := heap_old' _ D (heap_new (w.alloc A) C)
    rw [hs1] at this
    exact this
  · have := heap_new ((w.alloc A).alloc C) D
    rw [hs2] at this
    exact this
theorem RefV.P_eq {S Pn : Nat} {sao : Option Addr} {scap : Nat} {wao : Option Addr} {wcap pg pcap : Nat} {X : RW} {h : Array Obj} (r : RefV h S Pn sao scap wao wcap pg pcap X) : X.P.length = Pn := by have := r.p.1; rw [flat_len] at this; omega
theorem set_any (S Pn : Nat) (sao : Option Addr) (scap : Nat) (wao : Option Addr) (wcap g cap : Nat) (X : RW) (who : Nat) (p : RP) (w : World) (hR : RefV w.heap S Pn sao scap wao wcap g cap X) (hw : who < Pn) (hl : Pn ≤ 1000) :
    Calls Try.prog 49 #[.agg #[.slice sao S scap, .slice wao Pn wcap, .slice (some ⟨g, 0, none⟩) Pn cap], .int .i64 who, .agg p.cells.toArray] w fun e w' =>
      ∃ g2 cap2, e = .returned (.agg #[.slice sao S scap, .slice wao Pn wcap, .slice (some ⟨g2, 0, none⟩) Pn cap2]) ∧ RefV w'.heap S Pn sao scap wao wcap g2 cap2 { X with P := X.P.set who p } ∧ Ext [] w w' ∧ w.heap.size ≤ g2 := by
  have hPl := hR.P_eq
  have hw' : who < X.P.length := by omega
  obtain ⟨g', cap', cur, hvv, hg, hnc, hcm, hcs, htk⟩ := own_some hR.p (by omega)
  simp only [Value.slice.injEq, Option.some.injEq, Addr.mk.injEq] at hvv
  obtain ⟨⟨rfl, _, _⟩, _, rfl⟩ := hvv
  obtain ⟨i0, hi, hz0, hz1, hz2⟩ := info_parts infoRP
  obtain ⟨hB, hC, hD, hE, hsz⟩ := alloc_three w (.cells #[.slice sao S scap, .slice wao Pn wcap, .slice (some ⟨g, 0, none⟩) Pn cap] 37) (.cells p.cells.toArray 62) (.cells #[.slice none 0 0, .slice none 0 0, .slice none 0 0] 37)
  have hP := hR.p
  have hglt := lt_of_heap hg
  have hg1 := hE.same hg (by simp)
  go_enter Try.func49, Try.ntmps49
  go_upto_region 1 with fail
  have hRW := hR.ext0 hE
  generalize ((w.alloc (Obj.cells #[Value.slice sao S scap, Value.slice wao Pn wcap, Value.slice (some ⟨g, 0, none⟩) Pn cap] 37)).alloc (Obj.cells p.cells.toArray 62)).alloc (Obj.cells #[Value.slice none 0 0, Value.slice none 0 0, Value.slice none 0 0] 37) = W at *
  generalize hBB : w.heap.size = B at *
  have b0 := cellAt hB 0
  have b1 := cellAt hB 1
  have b2 := cellAt hB 2
  simp at b0 b1 b2
  have hm1 : 0 + Pn ≤ maxLen := by simp [maxLen]; omega
  have hm2 : (0 + Pn) * 64 ≤ 140737488355328 := by omega
  have hnil : Own (W.alloc (.cells #[] 62)).heap 62 6 (.slice (some ⟨W.heap.size, 0, none⟩) 0 0) 0 [] :=
    ⟨rfl, .inr ⟨W.heap.size, 0, #[], rfl, Nat.zero_le _, heap_new _ _, Nat.le_refl _, Nat.zero_le _, rfl, rfl⟩⟩
  rw [hsz] at hnil
  have hold := Own.cells (w := W.alloc (.cells #[] 62)) rfl (own_ext hRW.p ((Ext.refl [] W).alloc _) (by simp)) (g := g) rfl
  have h1c : ∀ u ∈ X.P.flatMap RP.cells, u.oneCell' = true := by
    intro u hu
    obtain ⟨q, _, hq⟩ := List.mem_flatMap.1 hu
    simp [RP.cells] at hq
    rcases hq with rfl | rfl | rfl | rfl | rfl | rfl <;> rfl
  have hwi0 : (0 : Int) ≤ who := by omega
  have hwi : (who : Int) < Pn := by omega
  go_upto_region 2 with (at_builtin; refine wpList_append rfl (.tmp 8) (.tmp 10) 35 rfl 62 i0 _ 6 64 Try.underlying35 hi hz0 hz1 hz2 rfl (by decide) (.slice (some ⟨B + 1 + 1 + 1, 0, none⟩) 0 0) 0 [] rfl hnil ⟨g, 0, none⟩ Pn cap (X.P.flatMap RP.cells) rfl (by rw [flat_len, hPl]) hold h1c hm1 hm2 ?_; intro ao cap2 w2 hl2 hx2 hf2)
  simp only [Nat.zero_add, List.nil_append] at hl2
  obtain ⟨g2, cap3, cur2, hv, hg2, hn2, hc2, hcs2, htk2⟩ := own_some hl2 (by omega)
  simp only [Value.slice.injEq] at hv
  obtain ⟨rfl, _, rfl⟩ := hv
  have hg2lo : B + 1 + 1 + 1 ≤ g2 := by
    rcases hf2 g2 rfl with h | h
    · simp [Value.ownBlock] at h; omega
    · have : (W.alloc (.cells #[] 62)).heap.size = W.heap.size + 1 := by simp
      omega
  have hB2 := hx2.same (heap_old' _ _ hB) (by simp [Value.ownBlock]; omega)
  have hC2 := hx2.same (heap_old' _ _ hC) (by simp [Value.ownBlock])
  have hD2 := hx2.same (heap_old' _ _ hD) (by simp [Value.ownBlock])
  have hE2 : Ext [] w w2 := (hE.alloc _).trans hx2 (fun q hq => .inr (by simp [Value.ownBlock] at hq; omega))
  have c0 := cellAt hC2 0
  have c1 := cellAt hC2 1
  have c2 := cellAt hC2 2
  have c3 := cellAt hC2 3
  have c4 := cellAt hC2 4
  have c5 := cellAt hC2 5
  simp [RP.cells] at c0 c1 c2 c3 c4 c5
  have hat : ∀ i, i < 6 → ∀ u, (X.P[who].cells)[i]? = some u → w2.cell? ⟨g2, who * 6 + i, none⟩ = some u := by
    intro i hi6 u hu
    have := Own.cells (w := w2) rfl hl2 (g := g2) rfl (who * 6 + i) u (by rw [flat_get _ _ hw' _ hi6]; exact hu)
    rw [add_off'] at this
    exact this
  have e0 := hat 0 (by omega) _ rfl
  have e1 := hat 1 (by omega) _ rfl
  have e2 := hat 2 (by omega) _ rfl
  have e3 := hat 3 (by omega) _ rfl
  have e4 := hat 4 (by omega) _ rfl
  have e5 := hat 5 (by omega) _ rfl
  simp only [Nat.add_zero] at e0
  have ff := freeAt hg2
  clear hat b0 b1 b2 hold h1c hnil
  go_upto_region 3 with fail
  have h3 := heap_set (heap_set (heap_set (heap_set (heap_set (heap_set hg2 (who * 6) (.int .i64 p.next)) (who * 6 + 1) (.int .i64 p.at_)) (who * 6 + 2) (.int .i64 p.who)) (who * 6 + 3) (.int .i64 p.seq)) (who * 6 + 4) (.string p.body)) (who * 6 + 5) (.string p.offer)
  have hE3 : Ext [] w ((((((w2.setCell ⟨g2, who * 6, none⟩ (.int .i64 p.next)).setCell ⟨g2, who * 6 + 1, none⟩ (.int .i64 p.at_)).setCell ⟨g2, who * 6 + 2, none⟩ (.int .i64 p.who)).setCell ⟨g2, who * 6 + 3, none⟩ (.int .i64 p.seq)).setCell ⟨g2, who * 6 + 4, none⟩ (.string p.body)).setCell ⟨g2, who * 6 + 5, none⟩ (.string p.offer)) := by
    repeat (refine Ext.setN (by omega) ?_ _ _)
    exact hE2
  have hfar : ∀ q, q ≠ g2 → ((((((w2.setCell ⟨g2, who * 6, none⟩ (.int .i64 p.next)).setCell ⟨g2, who * 6 + 1, none⟩ (.int .i64 p.at_)).setCell ⟨g2, who * 6 + 2, none⟩ (.int .i64 p.who)).setCell ⟨g2, who * 6 + 3, none⟩ (.int .i64 p.seq)).setCell ⟨g2, who * 6 + 4, none⟩ (.string p.body)).setCell ⟨g2, who * 6 + 5, none⟩ (.string p.offer)).heap[q]? = w2.heap[q]? := by
    intro q hq
    have hq' : g2 ≠ q := fun e => hq e.symm
    rw [heap_set_ne _ _ _ hq', heap_set_ne _ _ _ hq', heap_set_ne _ _ _ hq', heap_set_ne _ _ _ hq', heap_set_ne _ _ _ hq', heap_set_ne _ _ _ hq']
  have hB3 := (hfar B (by omega)).trans hB2
  have hD3 := (hfar (B + 1 + 1) (by omega)).trans hD2
  generalize (((((w2.setCell ⟨g2, who * 6, none⟩ (.int .i64 p.next)).setCell ⟨g2, who * 6 + 1, none⟩ (.int .i64 p.at_)).setCell ⟨g2, who * 6 + 2, none⟩ (.int .i64 p.who)).setCell ⟨g2, who * 6 + 3, none⟩ (.int .i64 p.seq)).setCell ⟨g2, who * 6 + 4, none⟩ (.string p.body)).setCell ⟨g2, who * 6 + 5, none⟩ (.string p.offer) = W3 at *
  have hown : Own W3.heap 62 6 (.slice (some ⟨g2, 0, none⟩) Pn cap2) Pn ((X.P.set who p).flatMap RP.cells) := by
    refine ⟨by rw [flat_len]; simp [hPl], .inr ⟨g2, cap2, _, rfl, Nat.zero_le _, h3, hn2, hc2, by simp [hcs2], ?_⟩⟩
    simp only [Array.set!_eq_setIfInBounds, Array.toList_setIfInBounds, List.take_set, htk2]
    exact flat_set _ _ _ hw'
  clear e0 e1 e2 e3 e4 e5 c0 c1 c2 c3 c4 c5 ff hfar h3
  have b0 := cellAt hB3 0
  have b1 := cellAt hB3 1
  have b2 := cellAt hB3 2
  have d0 := cellAt hD3 0
  have d1 := cellAt hD3 1
  have d2 := cellAt hD3 2
  have bf := freeAt hB3
  have df := freeAt hD3
  simp at b0 b1 b2 d0 d1 d2
  go_wp2
  have hE4 : Ext [] w ((((W3.setCell ⟨B, 2, none⟩ (.slice (some ⟨g2, 0, none⟩) Pn cap2)).setCell ⟨B + 1 + 1, 0, none⟩ (.slice sao S scap)).setCell ⟨B + 1 + 1, 1, none⟩ (.slice wao Pn wcap)).setCell ⟨B + 1 + 1, 2, none⟩ (.slice (some ⟨g2, 0, none⟩) Pn cap2)) := by
    repeat (refine Ext.setN (by omega) ?_ _ _)
    exact hE3
  refine bodyPost_ret (v := .agg #[.slice sao S scap, .slice wao Pn wcap, .slice (some ⟨g2, 0, none⟩) Pn cap2]) (by simp [results, Try.results49, go_sem, b0, b1, b2, d0, d1, d2]) rfl ⟨g2, cap2, rfl, ?_, ?_, ?_⟩
  · refine ⟨own_ext hR.s hE4 (by simp), own_ext hR.w hE4 (by simp), ?_⟩
    refine hown.same fun q hq => ?_
    have hq' : q = g2 := by simpa [Value.ownBlock] using hq.symm
    subst hq'
    rw [heap_set_ne _ _ _ (by show B + 1 + 1 ≠ q; omega), heap_set_ne _ _ _ (by show B + 1 + 1 ≠ q; omega), heap_set_ne _ _ _ (by show B + 1 + 1 ≠ q; omega), heap_set_ne _ _ _ (by show B ≠ q; omega)]
  · exact hE4
  · omega
end Go.Proofs.Ytkhihpmadmmeaaa
set_option linter.unusedSimpArgs false
set_option linter.unusedVariables false
set_option maxHeartbeats 2000000
set_option maxRecDepth 100000
namespace Go.Proofs.Ytkhihpmadmmeaaa
open Go.RowKit Go.Hs

section
variable {S Pn : Nat} {sao : Option Addr} {scap : Nat} {wao : Option Addr} {wcap pg pcap : Nat} {X : RW}
theorem RefV.at {w : World} (r : RefV w.heap S Pn sao scap wao wcap pg pcap X) {k : Nat} {p : RP} (hp : X.P[k]? = some p) :
    w.cell? ⟨pg, k * 6, none⟩ = some (.int .i64 p.next) ∧ w.cell? ⟨pg, k * 6 + 1, none⟩ = some (.int .i64 p.at_) ∧ w.cell? ⟨pg, k * 6 + 2, none⟩ = some (.int .i64 p.who) ∧
    w.cell? ⟨pg, k * 6 + 3, none⟩ = some (.int .i64 p.seq) ∧ w.cell? ⟨pg, k * 6 + 4, none⟩ = some (.string p.body) ∧ w.cell? ⟨pg, k * 6 + 5, none⟩ = some (.string p.offer) := by
  obtain ⟨hk, rfl⟩ := List.getElem?_eq_some_iff.1 hp
  have hat : ∀ i, i < 6 → ∀ u, (X.P[k].cells)[i]? = some u → w.cell? ⟨pg, k * 6 + i, none⟩ = some u := by
    intro i hi6 u hu
    have := Own.cells (w := w) rfl r.p (g := pg) rfl (k * 6 + i) u (by rw [flat_get _ _ hk _ hi6]; exact hu)
    rw [add_off'] at this
    exact this
  exact ⟨hat 0 (by omega) _ rfl, hat 1 (by omega) _ rfl, hat 2 (by omega) _ rfl, hat 3 (by omega) _ rfl, hat 4 (by omega) _ rfl, hat 5 (by omega) _ rfl⟩
theorem RefV.lt {w : World} (r : RefV w.heap S Pn sao scap wao wcap pg pcap X) {k : Nat} {p : RP} (hp : X.P[k]? = some p) : k < Pn := by
  obtain ⟨hk, rfl⟩ := List.getElem?_eq_some_iff.1 hp
  have := r.P_eq
  omega
end
theorem str_at {w : World} {ao : Option Addr} {n cap : Nat} {L : List ByteArray} (o : Own w.heap 9 1 (.slice ao n cap) n (L.map Value.string)) {k : Nat} {t : ByteArray} (hk : L[k]? = some t) :
    ∃ g, ao = some ⟨g, 0, none⟩ ∧ w.cell? ⟨g, k, none⟩ = some (.string t) ∧ k < n := by
  have hl : L.length = n := by have := o.1; simpa using this
  have hkl : k < L.length := (List.getElem?_eq_some_iff.1 hk).1
  obtain ⟨g, cap', cur, hv, _⟩ := own_some o (by omega)
  simp only [Value.slice.injEq] at hv
  obtain ⟨rfl, _, _⟩ := hv
  have := Own.cells (w := w) rfl o (g := g) rfl k (.string t) (by rw [List.getElem?_map, hk]; rfl)
  rw [add_off'] at this
  exact ⟨g, rfl, this, by omega⟩

-- GENERATED (gen_ref2.py)

theorem refHead_any (S Pn : Nat) (sao : Option Addr) (scap : Nat) (wao : Option Addr) (wcap pg pcap : Nat) (X : RW) (who : Nat) (p : RP) (w : World) (hR : RefV w.heap S Pn sao scap wao wcap pg pcap X) (hp : X.P[who]? = some p) (hl : Pn ≤ 1000) :
    Calls Try.prog 34 #[.agg #[.slice sao S scap, .slice wao Pn wcap, .slice (some ⟨pg, 0, none⟩) Pn pcap], .int .i64 who] w fun e w' =>
      ∃ g2 cap2, e = .returned (.agg #[.slice sao S scap, .slice wao Pn wcap, .slice (some ⟨g2, 0, none⟩) Pn cap2]) ∧ RefV w'.heap S Pn sao scap wao wcap g2 cap2 { X with P := X.P.set who { p with next := 5 } } ∧ Ext [] w w' ∧ w.heap.size ≤ g2 := by
  have hw := hR.lt hp
  have hw0 : (0 : Int) ≤ who := by omega
  have hwi : (who : Int) < Pn := by omega
  obtain ⟨hB, hD, hC, hE, hsz⟩ := alloc_three w (.cells #[.slice sao S scap, .slice wao Pn wcap, .slice (some ⟨pg, 0, none⟩) Pn pcap] 37) (.cells #[.slice none 0 0, .slice none 0 0, .slice none 0 0] 37) (.cells #[.int .i64 p.next, .int .i64 p.at_, .int .i64 p.who, .int .i64 p.seq, .string p.body, .string p.offer] 62)
  have hE1 : Ext [] w ((w.alloc (.cells #[.slice sao S scap, .slice wao Pn wcap, .slice (some ⟨pg, 0, none⟩) Pn pcap] 37)).alloc (.cells #[.slice none 0 0, .slice none 0 0, .slice none 0 0] 37)) := ((Ext.refl _ _).alloc _).alloc _
  obtain ⟨e0, e1, e2, e3, e4, e5⟩ := (hR.ext0 hE1).at hp
  go_enter Try.func34, Try.ntmps34
  go_upto_region 2 with fail
  have hRW := hR.ext0 hE
  generalize ((w.alloc (.cells #[.slice sao S scap, .slice wao Pn wcap, .slice (some ⟨pg, 0, none⟩) Pn pcap] 37)).alloc (.cells #[.slice none 0 0, .slice none 0 0, .slice none 0 0] 37)).alloc (.cells #[.int .i64 p.next, .int .i64 p.at_, .int .i64 p.who, .int .i64 p.seq, .string p.body, .string p.offer] 62) = W at *
  generalize hBB : w.heap.size = B at *
  clear e0 e1 e2 e3 e4 e5 hE1
  have c0 := cellAt hC 0
  have c1 := cellAt hC 1
  have c2 := cellAt hC 2
  have c3 := cellAt hC 3
  have c4 := cellAt hC 4
  have c5 := cellAt hC 5
  have cf := freeAt hC
  simp at c0 c1 c2 c3 c4 c5
  go_upto_region 3 with fail
  have hC3 := heap_set (hC) 0 (.int .i64 5)
  simp at hC3
  have hE3 : Ext [] w ((W).setCell ⟨B + 1 + 1, 0, none⟩ (.int .i64 5)) := by
    repeat (refine Ext.setN (by omega) ?_ _ _)
    exact hE
  have hfar : ∀ q, q ≠ B + 1 + 1 → ((W).setCell ⟨B + 1 + 1, 0, none⟩ (.int .i64 5)).heap[q]? = W.heap[q]? := by
    intro q hq
    have hq' : B + 1 + 1 ≠ q := fun e => hq e.symm
    rw [heap_set_ne _ _ _ hq']
  have hB3 := (hfar B (by omega)).trans hB
  have hD3 := (hfar (B + 1) (by omega)).trans hD
  have hR3 := hR.ext0 hE3
  generalize (W).setCell ⟨B + 1 + 1, 0, none⟩ (.int .i64 5) = W3 at *
  clear c0 c1 c2 c3 c4 c5 cf hfar hRW
  have b0 := cellAt hB3 0
  have b1 := cellAt hB3 1
  have b2 := cellAt hB3 2
  have c0 := cellAt hC3 0
  have c1 := cellAt hC3 1
  have c2 := cellAt hC3 2
  have c3 := cellAt hC3 3
  have c4 := cellAt hC3 4
  have c5 := cellAt hC3 5
  simp at b0 b1 b2 c0 c1 c2 c3 c4 c5
  have hs3 := hE3.size
  go_wp2_with (go_at_call 49; (refine (set_any S Pn sao scap wao wcap pg pcap X who { p with next := 5 } _ hR3 hw hl).mono ?_); rintro e w5 ⟨g2, cap2, rfl, hR5, hx5, hg5⟩; have hD5 := hx5.same hD3 (by simp); have d0 := cellAt hD5 0; have d1 := cellAt hD5 1; have d2 := cellAt hD5 2; have df := freeAt hD5; simp at d0 d1 d2)
  refine bodyPost_ret (v := .agg #[.slice sao S scap, .slice wao Pn wcap, .slice (some ⟨g2, 0, none⟩) Pn cap2]) (by simp [results, Try.results34, go_sem, d0, d1, d2]) rfl ⟨g2, cap2, rfl, ?_, ?_, by omega⟩
  · refine hR5.ext (F := [B + 1]) (by repeat (first | exact Ext.refl _ _ | refine Ext.set' (by simp) ?_ _ _)) ?_
    intro q hq
    have hlt : ∀ q, (Value.slice sao S scap).ownBlock = some q ∨ (Value.slice wao Pn wcap).ownBlock = some q → q < B := by
      intro q hq
      rcases hq with h | h
      · have := hR.s.lt h; omega
      · have := hR.w.lt h; omega
    rcases hq with h | h | h
    · have := hlt q (.inl h); simp; omega
    · have := hlt q (.inr h); simp; omega
    · have := lt_of_heap hD3; simp; omega
  · repeat (refine Ext.setN (by omega) ?_ _ _)
    exact hE3.trans0 hx5

theorem refBegin_any (S Pn : Nat) (sao : Option Addr) (scap : Nat) (wao : Option Addr) (wcap pg pcap : Nat) (X : RW) (who : Nat) (body : ByteArray) (p : RP) (w : World) (hR : RefV w.heap S Pn sao scap wao wcap pg pcap X) (hp : X.P[who]? = some p) (hl : Pn ≤ 1000) (hsq : (p.seq : Int) < 1000000000) :
    Calls Try.prog 33 #[.agg #[.slice sao S scap, .slice wao Pn wcap, .slice (some ⟨pg, 0, none⟩) Pn pcap], .int .i64 who, .string body] w fun e w' =>
      ∃ g2 cap2, e = .returned (.agg #[.slice sao S scap, .slice wao Pn wcap, .slice (some ⟨g2, 0, none⟩) Pn cap2]) ∧ RefV w'.heap S Pn sao scap wao wcap g2 cap2 { X with P := X.P.set who { p with who := who, seq := p.seq + 1, body := body, next := 1 } } ∧ Ext [] w w' ∧ w.heap.size ≤ g2 := by
  have hw := hR.lt hp
  have hw0 : (0 : Int) ≤ who := by omega
  have hwi : (who : Int) < Pn := by omega
  obtain ⟨hB, hD, hC, hE, hsz⟩ := alloc_three w (.cells #[.slice sao S scap, .slice wao Pn wcap, .slice (some ⟨pg, 0, none⟩) Pn pcap] 37) (.cells #[.slice none 0 0, .slice none 0 0, .slice none 0 0] 37) (.cells #[.int .i64 p.next, .int .i64 p.at_, .int .i64 p.who, .int .i64 p.seq, .string p.body, .string p.offer] 62)
  have hE1 : Ext [] w ((w.alloc (.cells #[.slice sao S scap, .slice wao Pn wcap, .slice (some ⟨pg, 0, none⟩) Pn pcap] 37)).alloc (.cells #[.slice none 0 0, .slice none 0 0, .slice none 0 0] 37)) := ((Ext.refl _ _).alloc _).alloc _
  obtain ⟨e0, e1, e2, e3, e4, e5⟩ := (hR.ext0 hE1).at hp
  go_enter Try.func33, Try.ntmps33
  go_upto_region 2 with fail
  have hRW := hR.ext0 hE
  generalize ((w.alloc (.cells #[.slice sao S scap, .slice wao Pn wcap, .slice (some ⟨pg, 0, none⟩) Pn pcap] 37)).alloc (.cells #[.slice none 0 0, .slice none 0 0, .slice none 0 0] 37)).alloc (.cells #[.int .i64 p.next, .int .i64 p.at_, .int .i64 p.who, .int .i64 p.seq, .string p.body, .string p.offer] 62) = W at *
  generalize hBB : w.heap.size = B at *
  clear e0 e1 e2 e3 e4 e5 hE1
  have c0 := cellAt hC 0
  have c1 := cellAt hC 1
  have c2 := cellAt hC 2
  have c3 := cellAt hC 3
  have c4 := cellAt hC 4
  have c5 := cellAt hC 5
  have cf := freeAt hC
  simp at c0 c1 c2 c3 c4 c5
  go_upto_region 4 with fail
  have hC3 := heap_set (heap_set (heap_set (heap_set (hC) 2 (.int .i64 who)) 3 (.int .i64 (↑p.seq + 1))) 4 (.string body)) 0 (.int .i64 1)
  simp at hC3
  have hE3 : Ext [] w (((((W).setCell ⟨B + 1 + 1, 2, none⟩ (.int .i64 who)).setCell ⟨B + 1 + 1, 3, none⟩ (.int .i64 (↑p.seq + 1))).setCell ⟨B + 1 + 1, 4, none⟩ (.string body)).setCell ⟨B + 1 + 1, 0, none⟩ (.int .i64 1)) := by
    repeat (refine Ext.setN (by omega) ?_ _ _)
    exact hE
  have hfar : ∀ q, q ≠ B + 1 + 1 → (((((W).setCell ⟨B + 1 + 1, 2, none⟩ (.int .i64 who)).setCell ⟨B + 1 + 1, 3, none⟩ (.int .i64 (↑p.seq + 1))).setCell ⟨B + 1 + 1, 4, none⟩ (.string body)).setCell ⟨B + 1 + 1, 0, none⟩ (.int .i64 1)).heap[q]? = W.heap[q]? := by
    intro q hq
    have hq' : B + 1 + 1 ≠ q := fun e => hq e.symm
    rw [heap_set_ne _ _ _ hq', heap_set_ne _ _ _ hq', heap_set_ne _ _ _ hq', heap_set_ne _ _ _ hq']
  have hB3 := (hfar B (by omega)).trans hB
  have hD3 := (hfar (B + 1) (by omega)).trans hD
  have hR3 := hR.ext0 hE3
  generalize ((((W).setCell ⟨B + 1 + 1, 2, none⟩ (.int .i64 who)).setCell ⟨B + 1 + 1, 3, none⟩ (.int .i64 (↑p.seq + 1))).setCell ⟨B + 1 + 1, 4, none⟩ (.string body)).setCell ⟨B + 1 + 1, 0, none⟩ (.int .i64 1) = W3 at *
  clear c0 c1 c2 c3 c4 c5 cf hfar hRW
  have b0 := cellAt hB3 0
  have b1 := cellAt hB3 1
  have b2 := cellAt hB3 2
  have c0 := cellAt hC3 0
  have c1 := cellAt hC3 1
  have c2 := cellAt hC3 2
  have c3 := cellAt hC3 3
  have c4 := cellAt hC3 4
  have c5 := cellAt hC3 5
  simp at b0 b1 b2 c0 c1 c2 c3 c4 c5
  have hs3 := hE3.size
  go_wp2_with (go_at_call 49; (refine (set_any S Pn sao scap wao wcap pg pcap X who { p with who := who, seq := p.seq + 1, body := body, next := 1 } _ hR3 hw hl).mono ?_); rintro e w5 ⟨g2, cap2, rfl, hR5, hx5, hg5⟩; have hD5 := hx5.same hD3 (by simp); have d0 := cellAt hD5 0; have d1 := cellAt hD5 1; have d2 := cellAt hD5 2; have df := freeAt hD5; simp at d0 d1 d2)
  refine bodyPost_ret (v := .agg #[.slice sao S scap, .slice wao Pn wcap, .slice (some ⟨g2, 0, none⟩) Pn cap2]) (by simp [results, Try.results33, go_sem, d0, d1, d2]) rfl ⟨g2, cap2, rfl, ?_, ?_, by omega⟩
  · refine hR5.ext (F := [B + 1]) (by repeat (first | exact Ext.refl _ _ | refine Ext.set' (by simp) ?_ _ _)) ?_
    intro q hq
    have hlt : ∀ q, (Value.slice sao S scap).ownBlock = some q ∨ (Value.slice wao Pn wcap).ownBlock = some q → q < B := by
      intro q hq
      rcases hq with h | h
      · have := hR.s.lt h; omega
      · have := hR.w.lt h; omega
    rcases hq with h | h | h
    · have := hlt q (.inl h); simp; omega
    · have := hlt q (.inr h); simp; omega
    · have := lt_of_heap hD3; simp; omega
  · repeat (refine Ext.setN (by omega) ?_ _ _)
    exact hE3.trans0 hx5
end Go.Proofs.Ytkhihpmadmmeaaa
set_option linter.unusedSimpArgs false
set_option linter.unusedVariables false
set_option maxHeartbeats 1000000
set_option maxRecDepth 100000
namespace Go.Proofs.Ytkhihpmadmmeaaa
open Go.RowKit Go.Hs

structure Acc where
  kind : Int
  cell : Int
  old : ByteArray
  new : ByteArray
def Acc.cells (a : Acc) : List Value := [.int .i64 a.kind, .int .i64 a.cell, .string a.old, .string a.new]
structure MSt where
  cells : List ByteArray
  log : List Acc
def MSt.at (M : MSt) (c : Int) : ByteArray := M.cells.getD c.toNat ByteArray.empty
def MSt.done (M : MSt) (a : Acc) : Bool := a.kind != 3 || (M.at a.cell).toList == a.old.toList
def MSt.act (M : MSt) (a : Acc) : MSt :=
  { cells := if M.done a && a.kind != 1 then M.cells.set a.cell.toNat a.new else M.cells, log := M.log ++ [a] }

structure IsMem (h : Array Obj) (b c m : Nat) (lv : Value) (M : MSt) : Prop where
  hb : h[b]? = some (.cells #[.slice (some ⟨c, 0, none⟩) M.cells.length M.cells.length, .map (some m), lv] 73 (0, 0))
  hc : h[c]? = some (.cells (M.cells.map Value.string).toArray 9 (0, 0))
  hm : ∃ cnt : List (Int × Int), MapAt (Value.int .i64) (Value.int .i64) h m cnt
  hl : Own h 85 4 lv M.log.length (M.log.flatMap Acc.cells)
  hg : ∀ g, lv.ownBlock = some g → c ≤ g

theorem keyInt : KeyOK Try.prog 3 (Value.int .i64) := keyOK_int Try.underlying3

theorem zeroInt (w : World) : (zeroValue 3).run Try.prog w = .ok (.int .i64 0) w := by kernel_rfl

theorem infoAcc : (Try.prog.info? 85).map (fun i => (i.zero, i.size, i.bytes)) = some (some (.agg #[.int .i64 0, .int .i64 0, .string ByteArray.empty, .string ByteArray.empty]), 4, 48) := by kernel_rfl

/-- Behind the append: the log is longer by one; the cells are as they were. -/
structure DoMid (w : World) (b c m A : Nat) (F : List Nat) (M : MSt) (x : Acc) (wx : World) : Prop where
  mem : ∃ lv', IsMem wx.heap b c m lv' { M with log := M.log ++ [x] } ∧ (∀ g, lv'.ownBlock = some g → g ∈ F ∨ w.heap.size ≤ g)
  arg : wx.heap[A]? = some (.cells x.cells.toArray 85 (0, 0))
  ext : Ext F w wx
  lt : w.heap.size ≤ A

theorem doMid_of {w w1 w2 : World} {b c m A : Nat} {F : List Nat} {M : MSt} {x : Acc} {lv : Value} {ao : Option Addr} {cap : Nat} {cnt : List (Int × Int)} {X : Obj}
    (hb1 : w1.heap[b]? = some (.cells #[.slice (some ⟨c, 0, none⟩) M.cells.length M.cells.length, .map (some m), lv] 73 (0, 0)))
    (hc1 : w1.heap[c]? = some (.cells (M.cells.map Value.string).toArray 9 (0, 0)))
    (hm1 : MapAt (Value.int .i64) (Value.int .i64) w1.heap m cnt) (ha1 : w1.heap[A]? = some (.cells x.cells.toArray 85 (0, 0)))
    (hl2 : Own w2.heap 85 4 (.slice ao (M.log.length + 1) cap) (M.log.length + 1) (M.log.flatMap Acc.cells ++ x.cells))
    (hx2 : Ext lv.ownBlock.toList (w1.alloc X).drew w2) (hf2 : ∀ g, (Value.slice ao (M.log.length + 1) cap).ownBlock = some g → lv.ownBlock = some g ∨ w1.heap.size ≤ g) (E1 : Ext F w w1) (hbF : b ∈ F) (hlF : ∀ g ∈ lv.ownBlock.toList, g ∈ F)
    (hbl : b ∉ lv.ownBlock.toList) (hcl : c ∉ lv.ownBlock.toList) (hml : m ∉ lv.ownBlock.toList) (hAl : A ∉ lv.ownBlock.toList) (hA : w.heap.size ≤ A) (hAb : A ≠ b) (hlg : ∀ g, lv.ownBlock = some g → c ≤ g) :
    DoMid w b c m A F M x (w2.setCell ⟨b, 2, none⟩ (.slice ao (M.log.length + 1) cap)) := by
  have hb2 := hx2.same (heap_old' _ _ hb1) hbl
  have hc2 := hx2.same (heap_old' _ _ hc1) hcl
  have ha2 := hx2.same (heap_old' _ _ ha1) hAl
  have hm2 : MapAt (Value.int .i64) (Value.int .i64) w2.heap m cnt := MapAt.ext (w := (w1.alloc X).drew) (hm1.same (heap_old _ _ hm1.lt)) hx2 hml
  have hcb : b ≠ c := ne_block hb2 hc2 (by simp)
  have E2 : Ext F w w2 := (E1.alloc X).drew.trans hx2 fun g hg => .inl (hlF g hg)
  refine ⟨⟨.slice ao (M.log.length + 1) cap, ⟨?_, ?_, ⟨cnt, ?_⟩, ?_, ?_⟩, ?_⟩, ?_, E2.setCell (.inl hbF) _, hA⟩
  · rw [heap_set hb2]; simp
  · rw [heap_set_ne _ _ _ hcb]; exact hc2
  · exact hm2.same (heap_set_ne _ _ _ (hm2.ne hb2))
  · have : Own w2.heap 85 4 (.slice ao (M.log.length + 1) cap) (M.log ++ [x]).length ((M.log ++ [x]).flatMap Acc.cells) := by
      simpa using hl2
    exact this.same fun g hg => heap_set_ne _ _ _ (by
      obtain ⟨cur, hcur⟩ := this.block hg
      exact ne_block hb2 hcur (by simp))
  · intro g hg
    rcases hf2 g hg with h | h
    · exact hlg g h
    · have := lt_of_heap hc1; omega
  · intro g hg
    rcases hf2 g hg with h | h
    · exact .inl (hlF g (by simp [h]))
    · right; have := E1.size; omega
  · rw [heap_set_ne _ _ _ (fun e => hAb e.symm)]; exact ha2

theorem do_fin {wx : World} {b c m : Nat} {lv : Value} {M : MSt} {x : Acc} (hM : IsMem wx.heap b c m lv { M with log := M.log ++ [x] }) (h0 : 0 ≤ x.cell) (h1 : x.cell < M.cells.length) :
    (M.done x && x.kind != 1) = false → IsMem wx.heap b c m lv (M.act x) := by
  intro h
  have : M.act x = { M with log := M.log ++ [x] } := by simp [MSt.act, h]
  rw [this]; exact hM
theorem do_set {wx : World} {b c m : Nat} {lv : Value} {M : MSt} {x : Acc} (hM : IsMem wx.heap b c m lv { M with log := M.log ++ [x] }) (h0 : 0 ≤ x.cell) (h1 : x.cell < M.cells.length)
    (h : (M.done x && x.kind != 1) = true) : IsMem (wx.setCell ⟨c, x.cell.toNat, none⟩ (.string x.new)).heap b c m lv (M.act x) := by
  have : M.act x = { cells := M.cells.set x.cell.toNat x.new, log := M.log ++ [x] } := by simp [MSt.act, h]
  rw [this]
  refine ⟨?_, ?_, ?_, ?_, hM.hg⟩
  · rw [heap_set_ne _ _ _ (ne_block hM.hc hM.hb (by simp))]; simpa using hM.hb
  · have := heap_set hM.hc x.cell.toNat (.string x.new)
    rw [this]
    simp [List.map_set]
  · obtain ⟨cnt, hc⟩ := hM.hm
    exact ⟨cnt, hc.same (heap_set_ne _ _ _ (hc.ne hM.hc))⟩
  · exact hM.hl.same fun g hg => heap_set_ne _ _ _ (by
      obtain ⟨cur, hcur⟩ := hM.hl.block hg
      exact ne_block hM.hc hcur (by simp))

theorem do_any (b c m : Nat) (lv : Value) (M : MSt) (who kind cell : Int) (old new : ByteArray) (w : World) (hI : IsMem w.heap b c m lv M) (hk : 1 ≤ kind) (hk' : kind ≤ 3)
    (h0 : 0 ≤ cell) (h1 : cell < M.cells.length) (hn : M.log.length < 1000000) (hN : M.cells.length < 1000000) :
    Calls Try.prog 38 #[.pointer (some ⟨b, 0, none⟩), .int .i64 who, .agg #[.int .i64 kind, .int .i64 cell, .string old, .string new]] w fun e w' =>
      ∃ lv', e = .returned (.tuple #[.string (M.at cell), .bool (M.done ⟨kind, cell, old, new⟩), .int .i64 0]) ∧ IsMem w'.heap b c m lv' (M.act ⟨kind, cell, old, new⟩) ∧ Ext ([b, c, m] ++ lv.ownBlock.toList) w w' := by
  have c0 := cellAt hI.hb 0
  have c1 := cellAt hI.hb 1
  have c2 := cellAt hI.hb 2
  simp at c0 c1 c2
  have hlt := lt_of_heap hI.hb
  obtain ⟨cnt, hcnt⟩ := hI.hm
  have HLG := Hs.hid hI.hg
  have d0 : decide (cell < 0) = false := by simp; omega
  have d1 : decide (kind < 1) = false := by simp; omega
  go_enter Try.func38, Try.ntmps38
  go_wp2_with fail
  go_quiet (fail)
  go_upto_region 6 with (first
    | (at_lookup; refine wpList_lookup (l := cnt) rfl _ _ _ rfl keyInt Try.underlying27 (d := (0 : Int)) (zeroInt _) rfl (hcnt.same (heap_old _ _ hcnt.lt)) who rfl ?_)
    | (at_mapUpdate; refine wpList_mapUpdate (l := cnt) rfl rfl _ _ _ rfl keyInt Try.underlying27 rfl (hcnt.same (heap_old _ _ hcnt.lt)) who rfl _ rfl ?_; intro w1 hm1 hx1))
  have hbm : b ≠ m := hcnt.ne hI.hb
  have hb1 := hx1.same (heap_old' _ _ hI.hb) (by simpa using hbm)
  have hc1 := hx1.same (heap_old' _ _ hI.hc) (by simpa using hcnt.ne hI.hc)
  have hl1 : Own w1.heap 85 4 lv M.log.length (M.log.flatMap Acc.cells) := hI.hl.same fun g hg => by
    obtain ⟨cur, hcur⟩ := hI.hl.block hg
    exact (hx1.same (heap_old' _ _ hcur) (by simpa using hcnt.ne hcur)).trans hcur.symm
  have ha1 := hx1.same (heap_new w _) (by simp; have := hcnt.lt; omega)
  have E1 : Ext ([b, c, m] ++ lv.ownBlock.toList) w w1 := (((Ext.refl _ w).alloc _).drewN nq).trans hx1 (by simp)
  have sz1 : w.heap.size < w1.heap.size := by have := hx1.size; simp at this; omega
  have hclt := lt_of_heap hI.hc
  have hbA : b < w.heap.size := hlt
  have hgl : ∀ g, lv.ownBlock = some g → g < w.heap.size := fun g hg => hI.hl.lt hg
  generalize hA : w.heap.size = A at ha1 hbA sz1 hclt hgl
  have HA := Hs.hid hA; clear hA
  clear c0 c1 c2 hx1
  have c0 := cellAt hb1 0
  have c1 := cellAt hb1 1
  have c2 := cellAt hb1 2
  simp at c0 c1 c2
  have a0 := cellAt ha1 0
  have a1 := cellAt ha1 1
  have a2 := cellAt ha1 2
  have a3 := cellAt ha1 3
  simp at a0 a1 a2 a3
  have f2 := freeAt hb1 2
  have hbl : b ∉ lv.ownBlock.toList := fun hm => by
    obtain ⟨cur, hcur⟩ := hl1.block (by simpa using hm)
    exact absurd rfl (ne_block hb1 hcur (by simp))
  have hcl : c ∉ lv.ownBlock.toList := fun hm => by
    obtain ⟨cur, hcur⟩ := hl1.block (by simpa using hm)
    exact absurd rfl (ne_block hc1 hcur (by simp))
  have hml : m ∉ lv.ownBlock.toList := fun hm => by
    obtain ⟨cur, hcur⟩ := hl1.block (by simpa using hm)
    exact absurd rfl (hm1.ne hcur)
  have hAl : A ∉ lv.ownBlock.toList := fun hm => by
    have := hgl A (by simpa using hm); omega
  have hcs : ∀ u ∈ [Value.int .i64 kind, Value.int .i64 cell, Value.string old, Value.string new], u.oneCell' = true := by simp [Value.oneCell']
  have hmx : M.log.length + 1 ≤ maxLen := by unfold maxLen; omega
  have hb1lt := lt_of_heap hb1
  have hb1ne : b ≠ w1.heap.size := by omega
  go_cut [] (fun wx => DoMid w b c m A ([b, c, m] ++ lv.ownBlock.toList) M ⟨kind, cell, old, new⟩ wx)
  case first =>
    obtain ⟨i0, hi, hz0, hz1, hz2⟩ := info_parts infoAcc
    go_region_law (refine step_append_own rfl (.tmp 45) (.tmp 47) 71 rfl 85 i0 _ 4 48 Try.underlying71 hi hz0 hz1 hz2 rfl (by decide) lv M.log.length _ (by simp [Act.eval, Act.put]) (hl1.alloc _) ⟨w1.heap.size, 0, none⟩ 1 1 [.int .i64 kind, .int .i64 cell, .string old, .string new] (by simp [Act.eval, Act.put]) rfl (news_new w1 _ _) hcs hmx (by omega) ?_; intro ao2 cap2 w2 hl2 hx2 hf2; have hb2 := hx2.same (heap_old' _ _ hb1) hbl; have e2 := cellAt hb2 2; have f2' := freeAt hb2 2; simp at e2)
    all_goals
      go_wp2_with fail
      go_meet
    all_goals exact doMid_of (x := ⟨kind, cell, old, new⟩) hb1 hc1 hm1 ha1 hl2 hx2 (fun g hg => (hf2 g hg).imp id (fun h => by simp at h; omega)) E1 (by simp) (fun g hg => by simp at hg ⊢; exact .inr (.inr (.inr hg))) hbl hcl hml hAl (Nat.le_of_eq HA.out) (by omega) HLG.out
  case rest =>
    clear hb1 hc1 hm1 hl1 ha1 c0 c1 c2 a0 a1 a2 a3 f2 hcs hmx hb1lt hb1ne E1
    obtain ⟨⟨lv2, hM, hF⟩, hA2, hE, _⟩ := hcut
    have c0 := cellAt hM.hb 0
    simp at c0
    have a0 := cellAt hA2 0
    have a1 := cellAt hA2 1
    have a2 := cellAt hA2 2
    have a3 := cellAt hA2 3
    simp [Acc.cells] at a0 a1 a2 a3
    have f2 := freeAt hM.hc cell.toNat
    have hcc : wc.cell? ⟨c, cell.toNat, none⟩ = some (.string (M.at cell)) := by
      rw [cellAt hM.hc]
      have : cell.toNat < M.cells.length := by omega
      simp [MSt.at, List.getD, this]
    have hfin := do_fin hM (x := ⟨kind, cell, old, new⟩) (by omega) h1
    have hcF : c ∈ ([b, c, m] ++ lv.ownBlock.toList) := by simp
    rcases (by omega : kind = 1 ∨ kind = 2 ∨ kind = 3) with rfl | rfl | rfl
    · have hd : M.done ⟨1, cell, old, new⟩ = true := by simp [MSt.done]
      have Hfin := Hs.hid (hfin (by simp)); clear hfin
      have Hd := Hs.hid hd; clear hd
      go_wp2_with fail
      go_quiet (fail)
      go_wp2_with fail
      go_ret3
      exact ⟨lv2, by rw [Hd.out]; rfl, Hfin.out, hE.drewN _⟩
    · have hd : M.done ⟨2, cell, old, new⟩ = true := by simp [MSt.done]
      have Hset := Hs.hid (do_set hM (x := ⟨2, cell, old, new⟩) (by omega) h1 (by simp [hd])); clear hfin
      have Hd := Hs.hid hd; clear hd
      go_wp2_with fail
      go_quiet (fail)
      go_wp2_with fail
      go_region
      all_goals
        go_wp2_with fail
        go_ret3
        exact ⟨lv2, by rw [Hd.out]; rfl, Hset.out, ((hE.drewN _).setCell (.inl hcF) _)⟩
    · by_cases heq : ((M.at cell).toList == old.toList) = true
      · have hd : M.done ⟨3, cell, old, new⟩ = true := by simp [MSt.done]; simpa using heq
        have Hset := Hs.hid (do_set hM (x := ⟨3, cell, old, new⟩) (by omega) h1 (by simp [hd])); clear hfin
        have Hd := Hs.hid hd; clear hd
        go_wp2_with fail
        go_quiet (fail)
        go_wp2_with fail
        go_region
        all_goals
          go_wp2_with fail
          go_ret3
          exact ⟨lv2, by rw [Hd.out]; rfl, Hset.out, ((hE.drewN _).setCell (.inl hcF) _)⟩
      · have heq : ((M.at cell).toList == old.toList) = false := by simpa using heq
        have hd : M.done ⟨3, cell, old, new⟩ = false := by simp [MSt.done]; simpa using heq
        have Hfin := Hs.hid (hfin (by simp [hd])); clear hfin
        have Hd := Hs.hid hd; clear hd
        go_wp2_with fail
        go_quiet (fail)
        go_wp2_with fail
        go_ret3
        exact ⟨lv2, by rw [Hd.out]; rfl, Hfin.out, hE.drewN _⟩
end Go.Proofs.Ytkhihpmadmmeaaa
