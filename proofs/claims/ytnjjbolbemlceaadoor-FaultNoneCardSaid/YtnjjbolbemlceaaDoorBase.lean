/-
  Words on worlds that all texts of this seat use: what a call may have turned (Ext), blocks of cells, maps as lists of keys and values.
-/
import Derived.WalkKit
import Derived.Deep.Draws
import Derived.MapKept
import Derived.Lib.AppendStr
import Derived.Laws.BytesArg
set_option linter.unusedSimpArgs false
set_option linter.unusedVariables false
namespace Go.Hs
open Go Go.RowKit

theorem hid {p : Prop} (h : p) : Hid p := h

/-! ### What has turned: only blocks of F, and new ones -/
structure Ext (F : List Nat) (w w' : World) : Prop where
  os : w'.os = w.os
  tape : w'.tape = w.tape
  output : w'.output = w.output
  size : w.heap.size ≤ w'.heap.size
  block : ∀ k, k < w.heap.size → k ∉ F → w'.heap[k]? = w.heap[k]?

theorem Ext.refl (F : List Nat) (w : World) : Ext F w w := ⟨rfl, rfl, rfl, Nat.le_refl _, fun _ _ _ => rfl⟩
theorem Ext.trans {F F' : List Nat} {a b c : World} (h : Ext F a b) (k : Ext F' b c) (hF : ∀ x ∈ F', x ∈ F ∨ a.heap.size ≤ x) : Ext F a c :=
  ⟨k.os.trans h.os, k.tape.trans h.tape, k.output.trans h.output, Nat.le_trans h.size k.size, fun i hi hn =>
    (k.block i (Nat.lt_of_lt_of_le hi h.size) (fun hm => by rcases hF i hm with h1 | h1; exact hn h1; omega)).trans (h.block i hi hn)⟩
theorem Ext.trans' {F : List Nat} {a b c : World} (h : Ext F a b) (k : Ext F b c) : Ext F a c := h.trans k fun _ hx => .inl hx
theorem Ext.trans0 {F : List Nat} {a b c : World} (h : Ext F a b) (k : Ext [] b c) : Ext F a c := h.trans k fun _ hx => by cases hx
theorem Ext.mono {F F' : List Nat} {a b : World} (h : Ext F a b) (hF : ∀ x ∈ F, x ∈ F' ∨ a.heap.size ≤ x) : Ext F' a b := (Ext.refl F' a).trans h hF
theorem Ext.drew {F : List Nat} {a w : World} (h : Ext F a w) : Ext F a w.drew := ⟨h.os, h.tape, h.output, h.size, h.block⟩
theorem Ext.drewN {F : List Nat} {a w : World} (h : Ext F a w) (n : Nat) : Ext F a (w.drewN n) := ⟨h.os, h.tape, h.output, h.size, h.block⟩
theorem Ext.alloc {F : List Nat} {a w : World} (h : Ext F a w) (o : Obj) : Ext F a (w.alloc o) :=
  h.trans0 ⟨rfl, rfl, rfl, by simp, fun k hk _ => Below.heap_alloc _ _ _ hk⟩
theorem Ext.setCell {F : List Nat} {a w : World} (h : Ext F a w) {p : Addr} (hp : p.block ∈ F ∨ a.heap.size ≤ p.block) (u : Value) : Ext F a (w.setCell p u) :=
  h.trans (F' := [p.block]) ⟨rfl, rfl, rfl, by simp [World.setCell], fun k _ hn => Below.heap_setCell _ _ _ _ (by simpa using hn)⟩ (by simpa using hp)
theorem Ext.set' {F : List Nat} {a w : World} {b : Nat} (hb : b ∈ F) (h : Ext F a w) (o : Nat) (u : Value) : Ext F a (w.setCell ⟨b, o, none⟩ u) := h.setCell (.inl hb) u
theorem Ext.setN {F : List Nat} {a w : World} {b : Nat} (hb : a.heap.size ≤ b) (h : Ext F a w) (o : Nat) (u : Value) : Ext F a (w.setCell ⟨b, o, none⟩ u) := h.setCell (.inr hb) u
theorem Ext.grown {F : List Nat} {a w w' : World} {row : Option Nat} (h : Ext F a w) (hg : w.grownBy w' row) (hr : ∀ k, row = some k → k ∈ F ∨ a.heap.size ≤ k) : Ext F a w' :=
  h.trans (F' := row.toList) ⟨hg.os, hg.tape, hg.output, hg.size, fun k hk hn => hg.block k hk (by cases row <;> simp_all <;> exact fun e => hn e.symm)⟩ (by intro x hx; exact hr x (by simpa using hx))
theorem Ext.below {w w' : World} (h : Ext [] w w') : Below w.heap.size w w' := ⟨h.os, h.tape, h.output, h.size, fun k hk => h.block k hk (by simp)⟩
theorem Ext.ofBelow {w w' : World} (h : Below w.heap.size w w') : Ext [] w w' := ⟨h.os, h.tape, h.output, h.size, fun k hk _ => h.block k hk⟩
theorem Ext.same {F : List Nat} {w w' : World} (h : Ext F w w') {b : Nat} {o : Obj} (hb : w.heap[b]? = some o) (hn : b ∉ F) : w'.heap[b]? = some o :=
  (h.block b (Array.getElem?_eq_some_iff.1 hb).1 hn).trans hb

/-! ### Blocks -/
theorem cellAt {w : World} {b : Nat} {cs : Array Value} {t : TypeId} {fr : Nat × Nat} (h : w.heap[b]? = some (.cells cs t fr)) (o : Nat) : w.cell? ⟨b, o, none⟩ = cs[o]? := cell_of_row w b o cs t fr h
theorem freeAt {w : World} {b : Nat} {cs : Array Value} {t : TypeId} (h : w.heap[b]? = some (.cells cs t (0, 0))) (o : Nat) : w.frozen? ⟨b, o, none⟩ = false := by simp [World.frozen?, h]
theorem heap_set {w : World} {b : Nat} {cs : Array Value} {t : TypeId} {fr : Nat × Nat} (h : w.heap[b]? = some (.cells cs t fr)) (o : Nat) (v : Value) :
    (w.setCell ⟨b, o, none⟩ v).heap[b]? = some (.cells (cs.setIfInBounds o v) t fr) := by
  simp [World.setCell, Array.getElem?_modify, h]
theorem heap_set_ne (w : World) (a : Addr) (v : Value) {b : Nat} (h : a.block ≠ b) : (w.setCell a v).heap[b]? = w.heap[b]? := Below.heap_setCell w a v b (fun e => h e.symm)
theorem heap_new (w : World) (o : Obj) : (w.alloc o).heap[w.heap.size]? = some o := heap_alloc_new w o
theorem heap_old (w : World) (o : Obj) {b : Nat} (h : b < w.heap.size) : (w.alloc o).heap[b]? = w.heap[b]? := heap_alloc_old w o h
theorem heap_old' (w : World) (o : Obj) {b : Nat} {x : Obj} (h : w.heap[b]? = some x) : (w.alloc o).heap[b]? = some x := (heap_alloc_old w o (Array.getElem?_eq_some_iff.1 h).1).trans h
theorem lt_of_heap {h : Array Obj} {b : Nat} {x : Obj} (e : h[b]? = some x) : b < h.size := (Array.getElem?_eq_some_iff.1 e).1

/-! ### Maps, as lists of keys and values -/
section
variable {κ ν : Type} [DecidableEq κ]
def mlook (l : List (κ × ν)) (k : κ) : Option ν := (l.find? fun p => decide (k = p.1)).map (·.2)
def mput (l : List (κ × ν)) (k : κ) (v : ν) : List (κ × ν) := if k ∈ l.map (·.1) then l.map (fun p => if k = p.1 then (k, v) else p) else l ++ [(k, v)]
def mdel (l : List (κ × ν)) (k : κ) : List (κ × ν) := l.filter fun p => decide (k ≠ p.1)
def mfind : List (κ × ν) → κ → Nat → Option (Nat × ν)
  | [], _, _ => none
  | p :: l, k, i => if k = p.1 then some (i, p.2) else mfind l k (i + 1)

@[simp] theorem mlook_nil (k : κ) : mlook ([] : List (κ × ν)) k = none := rfl
theorem mlook_cons (p : κ × ν) (l : List (κ × ν)) (k : κ) : mlook (p :: l) k = if k = p.1 then some p.2 else mlook l k := by
  unfold mlook; rw [List.find?_cons]; by_cases h : k = p.1 <;> simp [h]
theorem mfind_eq : ∀ (l : List (κ × ν)) (k : κ) (i : Nat), (mfind l k i).map (·.2) = mlook l k
  | [], _, _ => rfl
  | p :: l, k, i => by rw [mlook_cons]; unfold mfind; split <;> simp [mfind_eq l]
theorem mlook_none {l : List (κ × ν)} {k : κ} : mlook l k = none ↔ k ∉ l.map (·.1) := by
  induction l with
  | nil => simp
  | cons p l ih => rw [mlook_cons]; by_cases h : k = p.1 <;> simp_all
theorem mlook_append (l l' : List (κ × ν)) (k : κ) : mlook (l ++ l') k = (mlook l k).or (mlook l' k) := by
  induction l with
  | nil => simp
  | cons p l ih => rw [List.cons_append, mlook_cons, mlook_cons, ih]; split <;> simp
theorem mlook_put (l : List (κ × ν)) (k : κ) (v : ν) (q : κ) : mlook (mput l k v) q = if q = k then some v else mlook l q := by
  unfold mput
  split
  · rename_i hk
    have key : ∀ (l : List (κ × ν)), mlook (l.map fun p => if k = p.1 then (k, v) else p) q = if q = k then (if k ∈ l.map (·.1) then some v else none) else mlook l q := by
      intro l
      induction l with
      | nil => simp
      | cons p l ih =>
        rw [List.map_cons, mlook_cons, mlook_cons, ih]
        by_cases h1 : k = p.1
        · by_cases h2 : q = k
          · simp [h1, h2]
          · have h3 : ¬ q = p.1 := fun e => h2 (e.trans h1.symm)
            simp [← h1, h2]
        · by_cases h2 : q = k
          · have h3 : ¬ q = p.1 := fun e => h1 (h2.symm.trans e)
            rw [if_neg h1]
            simp only [h2, h1, if_false, if_true, List.map_cons, List.mem_cons, false_or]
          · rw [if_neg h1]
            simp [h2]
    rw [key, if_pos hk]
  · rename_i hk
    rw [mlook_append, mlook_cons]
    by_cases h : q = k
    · subst h; rw [mlook_none.2 hk]; simp
    · simp [h]
theorem mput_nodup {l : List (κ × ν)} (h : (l.map (·.1)).Nodup) (k : κ) (v : ν) : ((mput l k v).map (·.1)).Nodup := by
  unfold mput
  split
  · have : (l.map fun p => if k = p.1 then (k, v) else p).map (·.1) = l.map (·.1) := by
      rw [List.map_map]; apply List.map_congr_left; intro p _; simp only [Function.comp]; split <;> simp_all
    rw [this]; exact h
  · rename_i hk
    rw [List.map_append, List.nodup_append]
    exact ⟨h, by simp, fun a ha b hb e => by simp at hb; subst hb; subst e; exact hk ha⟩
theorem mlook_del (l : List (κ × ν)) (k q : κ) : mlook (mdel l k) q = if q = k then none else mlook l q := by
  unfold mdel
  induction l with
  | nil => simp
  | cons p l ih =>
    rw [List.filter_cons]
    by_cases h1 : k = p.1
    · simp only [h1, ne_eq, not_true_eq_false, decide_false, Bool.false_eq_true, if_false] at ih ⊢
      rw [ih, mlook_cons]
      by_cases h2 : q = p.1 <;> simp [h2]
    · simp only [h1, ne_eq, not_false_eq_true, decide_true, if_true]
      rw [mlook_cons, mlook_cons, ih]
      by_cases h2 : q = p.1
      · have h3 : ¬ q = k := fun e => h1 (e.symm.trans h2)
        simp [h2, Ne.symm h1]
      · simp [h2]
theorem mdel_nodup {l : List (κ × ν)} (h : (l.map (·.1)).Nodup) (k : κ) : ((mdel l k).map (·.1)).Nodup :=
  h.sublist (List.Sublist.map _ (List.filter_sublist ..))
end

/-- The key's type, as this seat's maps use it: 'enc k' is what stands in an entry. -/
structure KeyOK (P : Program) (kt : TypeId) {κ : Type} [DecidableEq κ] (enc : κ → Value) : Prop where
  check : ∀ em k (w : World), (Instr.checkKey em 10000 kt (enc k)).run P w = .ok () w
  find : ∀ {ν : Type} (venc : ν → Value) k (es : List MapEntry) (l : List (κ × ν)) (w : World), es.map (fun e => (e.key, e.val)) = l.map (fun p => (enc p.1, venc p.2)) → (l.map (·.1)).Nodup →
    (Instr.findKey kt (enc k) es).run P w = .ok ((mfind l k 0).map fun x => (x.1, venc x.2)) w
  stays : ∀ k (w : World), (Instr.keyThatStays (enc k) (enc k)).run P w = .ok (enc k) w

theorem checkKey_plain {P : Program} {kt : TypeId} {d : TypeDesc} (h : P.underlying kt = some d) (hd : ∀ (x : Nat) (_ : Nat), d = .string ∨ d = .bool ∨ ∃ q, d = .int q) (em : Bool) (n : Nat) (v : Value) (w : World) :
    (Instr.checkKey em (n + 1) kt v).run P w = .ok () w := by
  unfold Instr.checkKey
  simp only [Sem.run_bind, run_underlying h, Result.andThen_ok]
  rcases hd 0 0 with rfl | rfl | ⟨q, rfl⟩ <;> rfl

theorem keyOK_int {P : Program} {kt : TypeId} {q : IntKind} (h : P.underlying kt = some (.int q)) : KeyOK P kt (fun k : Int => Value.int q k) where
  check em k w := checkKey_plain h (fun _ _ => by simp) em 9999 _ w
  find venc k es l w he _ := by
    have key : ∀ (es : List MapEntry) (l : List (Int × _)) (i : Nat), es.map (fun e => (e.key, e.val)) = l.map (fun p => (Value.int q p.1, venc p.2)) →
        Instr.findNow (.int q) (.int q k) es i = some ((mfind l k i).map fun x => (x.1, venc x.2)) := by
      intro es
      induction es with
      | nil => intro l i he; cases l <;> simp_all [Instr.findNow, mfind]
      | cons e es ih =>
        intro l i he
        cases l with
        | nil => simp at he
        | cons p l =>
          simp only [List.map_cons, List.cons.injEq, Prod.mk.injEq] at he
          obtain ⟨⟨h1, h2⟩, h3⟩ := he
          simp only [Instr.findNow, h1, Instr.sameNow, if_true, mfind]
          by_cases hk : k = p.1
          · simp [hk, h2]
          · rw [show (k == p.1) = false by simpa using hk]; simp [hk, ih l (i + 1) h3]
    simp only [Instr.findKey, Sem.run_bind, run_underlying h, Result.andThen_ok, key es l 0 he]; rfl
  stays k w := by
    have : Instr.sameBits 10000 (.int q k) (.int q k) = true := by simp [Instr.sameBits]
    simp [Instr.keyThatStays, this]

theorem keyOK_string {P : Program} {kt : TypeId} (h : P.underlying kt = some .string) : KeyOK P kt (fun k : ByteArray => Value.string k) where
  check em k w := checkKey_plain h (fun _ _ => by simp) em 9999 _ w
  find venc k es l w he _ := by
    have key : ∀ (es : List MapEntry) (l : List (ByteArray × _)) (i : Nat), es.map (fun e => (e.key, e.val)) = l.map (fun p => (Value.string p.1, venc p.2)) →
        Instr.findNow .string (.string k) es i = some ((mfind l k i).map fun x => (x.1, venc x.2)) := by
      intro es
      induction es with
      | nil => intro l i he; cases l <;> simp_all [Instr.findNow, mfind]
      | cons e es ih =>
        intro l i he
        cases l with
        | nil => simp at he
        | cons p l =>
          simp only [List.map_cons, List.cons.injEq, Prod.mk.injEq] at he
          obtain ⟨⟨h1, h2⟩, h3⟩ := he
          simp only [Instr.findNow, h1, Instr.sameNow, mfind]
          by_cases hk : k = p.1
          · rw [(MapKept.bytes_beq k p.1).2 hk]; simp [hk, h2]
          · rw [show (k == p.1) = false from Bool.eq_false_iff.2 fun e => hk ((MapKept.bytes_beq k p.1).1 e)]; simp [hk, ih l (i + 1) h3]
    simp only [Instr.findKey, Sem.run_bind, run_underlying h, Result.andThen_ok, key es l 0 he]; rfl
  stays k w := by
    have : Instr.sameBits 10000 (.string k) (.string k) = true := by simp [Instr.sameBits, (MapKept.bytes_beq k k).2 rfl]
    simp [Instr.keyThatStays, this]

structure Ents {κ ν : Type} [DecidableEq κ] (enc : κ → Value) (venc : ν → Value) (es : Array MapEntry) (clock : Nat) (l : List (κ × ν)) : Prop where
  ents : es.toList.map (fun e => (e.key, e.val)) = l.map (fun p => (enc p.1, venc p.2))
  nodup : (l.map (·.1)).Nodup
  born : (es.toList.map (·.born)).Pairwise (· < ·)
  clk : ∀ e ∈ es.toList, e.born < clock

/-- Block b is a map that holds l. -/
def MapAt {κ ν : Type} [DecidableEq κ] (enc : κ → Value) (venc : ν → Value) (h : Array Obj) (b : Nat) (l : List (κ × ν)) : Prop :=
  ∃ es clock, h[b]? = some (.map es clock) ∧ Ents enc venc es clock l

section
variable {κ ν : Type} [DecidableEq κ] {enc : κ → Value} {venc : ν → Value} {l : List (κ × ν)} {b : Nat} {w : World} {P : Program} {kt et t : TypeId}

theorem MapAt.lt {h : Array Obj} (m : MapAt enc venc h b l) : b < h.size := by obtain ⟨es, c, hb, _⟩ := m; exact lt_of_heap hb
theorem MapAt.same {h h' : Array Obj} (m : MapAt enc venc h b l) (e : h'[b]? = h[b]?) : MapAt enc venc h' b l := by
  obtain ⟨es, c, hb, r⟩ := m; exact ⟨es, c, e.trans hb, r⟩
theorem MapAt.ext {F : List Nat} {w' : World} (m : MapAt enc venc w.heap b l) (h : Ext F w w') (hn : b ∉ F) : MapAt enc venc w'.heap b l := m.same (h.block b m.lt hn)
theorem mapAt_new (enc : κ → Value) (venc : ν → Value) (w : World) : MapAt enc venc (w.alloc (.map #[] 0)).heap w.heap.size ([] : List (κ × ν)) :=
  ⟨#[], 0, heap_new w _, by simp, by simp, by simp, by simp⟩

theorem run_lookup (K : KeyOK P kt enc) (ht : P.underlying t = some (.map kt et)) {d : ν} (hz : (zeroValue et).run P w = .ok (venc d) w) (m : MapAt enc venc w.heap b l) (k : κ) (ok : Bool) :
    (Instr.lookup t (.map (some b)) (enc k) ok).run P w = .ok (if ok then .tuple #[venc ((mlook l k).getD d), .bool (mlook l k).isSome] else venc ((mlook l k).getD d)) w := by
  obtain ⟨es, c, hb, E⟩ := m
  have hg : (getObj b).run P w = .ok (.map es c) w := by simp [getObj, Sem.run, hb]
  have hf := K.find venc k es.toList l w E.ents E.nodup
  simp only [Instr.lookup, Sem.run_bind, run_underlying ht, Result.andThen_ok, hg, K.check, Sem.run_pure]
  rw [hf]
  have hm := mfind_eq l k 0
  cases hx : mfind l k 0 with
  | none => rw [hx] at hm; rw [← hm]; cases ok <;> simp [hz]
  | some x => rw [hx] at hm; rw [← hm]; cases ok <;> simp

theorem run_lookup_nil (K : KeyOK P kt enc) (ht : P.underlying t = some (.map kt et)) {d : ν} (hz : (zeroValue et).run P w = .ok (venc d) w) (k : κ) (ok : Bool) :
    (Instr.lookup t (.map none) (enc k) ok).run P w = .ok (if ok then .tuple #[venc d, .bool false] else venc d) w := by
  have hf := K.find venc k [] [] w rfl List.nodup_nil
  simp only [Instr.lookup, Sem.run_bind, run_underlying ht, Result.andThen_ok, K.check, Sem.run_pure]
  rw [hf]
  cases ok <;> simp [mfind, hz]

theorem mfind_get : ∀ (l : List (κ × ν)) (k : κ) (i : Nat), (mfind l k i = none ∧ k ∉ l.map (·.1)) ∨ ∃ j v, mfind l k i = some (i + j, v) ∧ l[j]? = some (k, v)
  | [], k, i => by simp [mfind]
  | p :: l, k, i => by
    by_cases h : k = p.1
    · exact .inr ⟨0, p.2, by simp [mfind, h], by simp [h]⟩
    · rcases mfind_get l k (i + 1) with ⟨h1, h2⟩ | ⟨j, v, h1, h2⟩
      · exact .inl ⟨by simp [mfind, h, h1], by simp at h2; simp [h, h2]⟩
      · exact .inr ⟨j + 1, v, by rw [mfind, if_neg h, h1, Nat.add_assoc, Nat.add_comm 1 j], by simpa using h2⟩

theorem mput_at {l : List (κ × ν)} (hn : (l.map (·.1)).Nodup) {j : Nat} {k : κ} {v0 v : ν} (h : l[j]? = some (k, v0)) : mput l k v = l.set j (k, v) := by
  have hk : k ∈ l.map (·.1) := List.mem_map.2 ⟨(k, v0), List.mem_of_getElem? h, rfl⟩
  unfold mput
  rw [if_pos hk]
  have hj := (List.getElem?_eq_some_iff.1 h).1
  apply List.ext_getElem
  · simp
  · intro i h1 h2
    simp only [List.getElem_map, List.getElem_set]
    simp only [List.length_map] at h1
    by_cases e : j = i
    · subst e
      have : l[j] = (k, v0) := by simpa [List.getElem?_eq_getElem hj] using h
      simp [this]
    · rw [if_neg e]
      have : ¬ k = l[i].1 := by
        intro hk2
        have hj2 : l[j] = (k, v0) := by simpa [List.getElem?_eq_getElem hj] using h
        have hp := List.pairwise_iff_getElem.1 hn
        rcases Nat.lt_or_gt_of_ne e with hlt | hlt
        · exact hp j i (by simpa using hj) (by simpa using h1) hlt (by simp [hj2, ← hk2])
        · exact hp i j (by simpa using h1) (by simpa using hj) hlt (by simp [hj2, ← hk2])
      rw [if_neg this]

theorem run_mapUpdate (K : KeyOK P kt enc) (ht : P.underlying t = some (.map kt et)) (m : MapAt enc venc w.heap b l) (k : κ) (v : ν) :
    ∃ w', (Instr.mapUpdate t (.map (some b)) (enc k) (venc v)).run P w = .ok () w' ∧ MapAt enc venc w'.heap b (mput l k v) ∧ Ext [b] w w' := by
  obtain ⟨es, c, hb, E⟩ := m
  have hg : (getObj b).run P w = .ok (.map es c) w := by simp [getObj, Sem.run, hb]
  have hs : ∀ o, (setObj b o).run P w = .ok () { w with heap := w.heap.setIfInBounds b o } := by intro o; simp [setObj, Sem.run, hb]
  have hf := K.find venc k es.toList l w E.ents E.nodup
  have hblt := lt_of_heap hb
  have hext : ∀ o, Ext [b] w { w with heap := w.heap.setIfInBounds b o } := fun o =>
    ⟨rfl, rfl, rfl, by simp, fun i hi hn => by simp at hn; simp [Array.getElem?_setIfInBounds, show ¬ b = i from fun e => hn e.symm]⟩
  have hlen : es.size = l.length := by have := congrArg List.length E.ents; simpa using this
  rcases mfind_get l k 0 with ⟨h1, h2⟩ | ⟨j, v0, h1, h2⟩
  · refine ⟨{ w with heap := w.heap.setIfInBounds b (.map (es.push { key := enc k, val := venc v, born := c }) (c + 1)) }, ?_, ⟨es.push { key := enc k, val := venc v, born := c }, c + 1, by simp [hblt], ?_⟩, hext _⟩
    · simp only [Instr.mapUpdate, Sem.run_bind, run_underlying ht, Result.andThen_ok, hg, K.check]
      rw [hf, h1]
      simp [hs]
    · refine ⟨?_, mput_nodup E.nodup k v, ?_, ?_⟩
      · simp [mput, h2, E.ents]
      · simp only [Array.toList_push, List.map_append, List.map_cons, List.map_nil]
        refine List.pairwise_append.2 ⟨E.born, by simp, ?_⟩
        intro x hx y hy
        obtain ⟨e, he, rfl⟩ := List.mem_map.1 hx
        simp at hy; subst hy
        exact E.clk e he
      · intro e he
        simp only [Array.toList_push, List.mem_append, List.mem_singleton] at he
        rcases he with he | rfl
        · have := E.clk e he; omega
        · simp
  · simp only [Nat.zero_add] at h1
    have hj := (List.getElem?_eq_some_iff.1 h2).1
    have hje : j < es.size := by omega
    have hent : (es.toList.map (fun e => (e.key, e.val)))[j]? = some (enc k, venc v0) := by rw [E.ents]; simp [h2]
    have hent' : es[j].key = enc k := by
      simp [hje] at hent
      exact hent.1
    have hmod : es.modify j (fun e => { e with key := enc k, val := venc v }) = es.set j { es[j] with key := enc k, val := venc v } := by
      apply Array.ext
      · simp
      · intro i h3 h4; simp [Array.getElem_modify, Array.getElem_set]; split <;> simp_all
    refine ⟨{ w with heap := w.heap.setIfInBounds b (.map (es.modify j fun e => { e with key := enc k, val := venc v }) c) }, ?_, ⟨es.modify j fun e => { e with key := enc k, val := venc v }, c, by simp [hblt], ?_⟩, hext _⟩
    · simp only [Instr.mapUpdate, Sem.run_bind, run_underlying ht, Result.andThen_ok, hg, K.check]
      rw [hf, h1]
      simp [hs, hje, hent', K.stays]
    · have hb2 : (es.modify j fun e => { e with key := enc k, val := venc v }).toList.map (·.born) = es.toList.map (·.born) := by
        rw [hmod]
        simp only [Array.toList_set, List.map_set]
        apply List.ext_getElem (by simp)
        intro i h3 h4
        simp only [List.getElem_set]
        split
        · rename_i e; subst e; simp
        · rfl
      refine ⟨?_, mput_nodup E.nodup k v, by rw [hb2]; exact E.born, ?_⟩
      · rw [mput_at E.nodup h2, hmod]
        simp only [Array.toList_set, List.map_set, E.ents]
      · intro e he
        have : e.born ∈ es.toList.map (·.born) := by rw [← hb2]; exact List.mem_map.2 ⟨e, he, rfl⟩
        obtain ⟨e', he', h3⟩ := List.mem_map.1 this
        rw [← h3]; exact E.clk e' he'

/-! ### at the operation, for the walk -/
theorem wpList_lookup {ops : Array Oper} {rest : List Oper} {o : Oper} {a : Act} {Q : Exit → Act → World → Prop}
    (hg : o.guard = none) (mo x : Operand) (ok : Bool) (hop : o.op = Op.lookup t mo x ok) (K : KeyOK P kt enc) (ht : P.underlying t = some (.map kt et)) {d : ν} (hz : (zeroValue et).run P w = .ok (venc d) w)
    (hm : a.eval mo = .map (some b)) (m : MapAt enc venc w.heap b l) (k : κ) (hx : a.eval x = enc k)
    (hK : wpList P ops Q rest (a.put o.dst (if ok then .tuple #[venc ((mlook l k).getD d), .bool (mlook l k).isSome] else venc ((mlook l k).getD d))) w) :
    wpList P ops Q (o :: rest) a w := by
  refine wpList_plain hg fun K' hK' => ?_
  have hrun := run_lookup K ht hz m k ok
  unfold Oper.wp
  simp only [execOp, hop, hm, hx, Sem.run_bind, hrun, Result.andThen_ok, Sem.run_pure, Oper.upon_value]
  exact hK' _ _ hK
theorem wpList_mapUpdate {ops : Array Oper} {rest : List Oper} {o : Oper} {a : Act} {Q : Exit → Act → World → Prop}
    (hg : o.guard = none) (hd : o.dst = none) (mo x y : Operand) (hop : o.op = Op.mapUpdate t mo x y) (K : KeyOK P kt enc) (ht : P.underlying t = some (.map kt et))
    (hm : a.eval mo = .map (some b)) (m : MapAt enc venc w.heap b l) (k : κ) (hx : a.eval x = enc k) (v : ν) (hy : a.eval y = venc v)
    (hK : ∀ w', MapAt enc venc w'.heap b (mput l k v) → Ext [b] w w' → wpList P ops Q rest a w') :
    wpList P ops Q (o :: rest) a w := by
  refine wpList_plain hg fun K' hK' => ?_
  obtain ⟨w', hrun, r1, r2⟩ := run_mapUpdate (venc := venc) K ht m k v
  unfold Oper.wp
  simp only [execOp, hop, hm, hx, hy, Sem.run_bind, hrun, Result.andThen_ok, Sem.run_pure, Oper.upon_skip, hd, Act.put]
  exact hK' _ _ (hK w' r1 r2)
end

/-- A row of cells that the call owns: nil, or the head of a block. -/
def Own (h : Array Obj) (e : TypeId) (size : Nat) (v : Value) (n : Nat) (xs : List Value) : Prop :=
  xs.length = n * size ∧
  ((v = .slice none 0 0 ∧ n = 0) ∨
   ∃ g cap cur, v = .slice (some ⟨g, 0, none⟩) n cap ∧ 0 ≤ g ∧ h[g]? = some (.cells cur e (0, 0)) ∧ n ≤ cap ∧ cap ≤ maxLen ∧ cur.size = cap * size ∧ cur.toList.take (n * size) = xs)
theorem own_row {w : World} {e : TypeId} {size n : Nat} {v : Value} {xs : List Value} : Own w.heap e size v n xs ↔ w.ownsRow 0 e size v n xs := Iff.rfl
theorem Own.same {h h' : Array Obj} {e : TypeId} {size n : Nat} {v : Value} {xs : List Value} (o : Own h e size v n xs) (hb : ∀ g, v.ownBlock = some g → h'[g]? = h[g]?) : Own h' e size v n xs := by
  refine ⟨o.1, ?_⟩
  rcases o.2 with h1 | ⟨g, cap, cur, rfl, h2, h3, r⟩
  · exact .inl h1
  · exact .inr ⟨g, cap, cur, rfl, h2, (hb g rfl).trans h3, r⟩
theorem Own.block {h : Array Obj} {e : TypeId} {size n : Nat} {v : Value} {xs : List Value} (o : Own h e size v n xs) {g : Nat} (hg : v.ownBlock = some g) : ∃ cur, h[g]? = some (.cells cur e (0, 0)) := by
  rcases o.2 with ⟨rfl, _⟩ | ⟨g', cap, cur, rfl, _, h3, _⟩
  · cases hg
  · cases hg; exact ⟨cur, h3⟩
theorem Own.lt {h : Array Obj} {e : TypeId} {size n : Nat} {v : Value} {xs : List Value} (o : Own h e size v n xs) {g : Nat} (hg : v.ownBlock = some g) : g < h.size := by
  obtain ⟨_, hc⟩ := o.block hg; exact lt_of_heap hc
theorem Own.form {w : World} {e : TypeId} {size n : Nat} {v : Value} {xs : List Value} (o : Own w.heap e size v n xs) : ∃ ao cap, v = .slice ao n cap := by
  rcases o.2 with ⟨rfl, rfl⟩ | ⟨g, cap, cur, rfl, _⟩
  · exact ⟨none, 0, rfl⟩
  · exact ⟨_, _, rfl⟩
theorem run_append {P : Program} {w : World} (t ty e : TypeId) (i : TypeInfo) (z : Value) (size bytes : Nat) (ht : P.underlying t = some (.slice e)) (hi : P.info? e = some i) (hz : i.zero = some z)
    (hsize : i.size = size) (hby : i.bytes = bytes) (hzs : z.cells.size = size) (hsz : 0 < size)
    (v : Value) (n : Nat) (xs : List Value) (hown : Own w.heap e size v n xs)
    (a : Addr) (m c : Nat) (news : List Value) (hl : news.length = m * size) (hnews : ∀ j u, news[j]? = some u → w.cell? (a.add j) = some u) (h1 : ∀ u ∈ news, u.oneCell' = true)
    (h63 : n + m ≤ maxLen) (hbytes : (n + m) * bytes ≤ 140737488355328) :
    ∃ ao cap w', (Builtin.append_ #[t, t] ty #[v, .slice (some a) m c]).run P w = .ok (.slice ao (n + m) cap) w' ∧ Own w'.heap e size (.slice ao (n + m) cap) (n + m) (xs ++ news) ∧ Ext v.ownBlock.toList w w' ∧
      (∀ g, (Value.slice ao (n + m) cap).ownBlock = some g → v.ownBlock = some g ∨ w.heap.size ≤ g) := by
  obtain ⟨v', w', hrun, ho, hg, _⟩ := run_append_own (P := P) w 0 t ty e i z size bytes ht hi hz hsize hby hzs hsz v n xs hown a m c news hl hnews h1 h63 hbytes (Nat.zero_le _)
  obtain ⟨ao, cap, rfl⟩ := Own.form (w := w') (own_row.2 ho)
  refine ⟨ao, cap, w', hrun, ho, (Ext.refl _ _).grown hg fun k hk => .inl (by simp [hk]), ?_⟩
  intro g hgg
  have hsmall : n + m ≤ 9223372036854775807 := by simp only [maxLen] at h63; omega
  subst hsize; subst hby
  rcases hown.2 with ⟨rfl, rfl⟩ | ⟨g0, cap0, cur, rfl, _, hg0, hnc, hcm, hcs, htake⟩
  · right
    by_cases hm : m = 0
    · subst hm
      have hn : news = [] := List.eq_nil_of_length_eq_zero (by simpa using hl)
      rcases ho.2 with ⟨h2, _⟩ | ⟨g1, cap1, cur1, h2, _, h3, _⟩
      · cases h2; cases hgg
      · exfalso
        subst hn
        have hr2 : (Builtin.append_ #[t, t] ty #[.slice none 0 0, .slice (some a) 0 c]).run P w = .ok (.slice none 0 0) w := by
          simp [Builtin.append_, run_underlying ht, sizeOf, typeInfo, hi, Builtin.lenOf, Builtin.firstCells, loadCells, loadCellsFrom]
        rw [hr2] at hrun
        simp only [Result.ok.injEq] at hrun
        rw [← hrun.1] at h2
        cases h2
    · have hr := run_append_nil (P := P) w t ty e i z ht hi hz a m c news hl hnews (by omega) (by omega) (by have hb := hbytes; simp only [Nat.zero_add] at hb; omega)
      rw [hr] at hrun
      simp only [Result.ok.injEq] at hrun
      rw [← hrun.1] at hgg
      simp only [Value.ownBlock, Option.some.injEq] at hgg
      omega
  · by_cases hroom : n + m ≤ cap0
    · left
      have hfit : n * i.size + news.length ≤ cur.size := by rw [hl, hcs, ← Nat.add_mul]; exact Nat.mul_le_mul_right _ hroom
      have hr := run_append_room (P := P) w t ty e i ht hi g0 n cap0 cur hg0 a m c news hl hnews h1 hroom hfit
      rw [hr] at hrun
      simp only [Result.ok.injEq] at hrun
      rw [← hrun.1] at hgg
      exact hgg
    · right
      have holds : ∀ j u, xs[j]? = some u → w.cell? ((⟨g0, 0, none⟩ : Addr).add j) = some u := World.ownsRow.cells (own_row.1 hown) (g := g0) rfl
      have hr := run_append_grow (P := P) w t ty e i z ht hi hz ⟨g0, 0, none⟩ n cap0 xs hown.1 holds a m c news hl hnews (by omega) (by omega) (growslice_fits (by omega) hbytes)
      rw [hr] at hrun
      simp only [Result.ok.injEq] at hrun
      rw [← hrun.1] at hgg
      simp only [Value.ownBlock, Option.some.injEq] at hgg
      omega

theorem add_off' (b j : Nat) : (⟨b, 0, none⟩ : Addr).add j = ⟨b, j, none⟩ := by unfold Addr.add; split <;> simp_all
/-- 'append' to a row of the call's own, as a step of a region that draws its order. -/
theorem step_append_own {P : Program} {ops : Array Oper} {o : Oper} {a : Act} {w : World} {K : Act → World → Prop} {Q : Exit → Act → World → Prop} {E : Prop}
    (hg : o.guard = none) (s x : Operand) (t : TypeId) (hop : o.op = Op.call { callee := Callee.builtin Builtin.append, args := #[s, x], argTypes := #[t, t] })
    (e : TypeId) (i : TypeInfo) (z : Value) (size bytes : Nat) (ht : P.underlying t = some (.slice e)) (hi : P.info? e = some i) (hz : i.zero = some z)
    (hsize : i.size = size) (hby : i.bytes = bytes) (hzs : z.cells.size = size) (hsz : 0 < size)
    (v : Value) (n : Nat) (xs : List Value) (hs : a.eval s = v) (hown : Own w.heap e size v n xs)
    (ad : Addr) (m c : Nat) (news : List Value) (hx : a.eval x = .slice (some ad) m c) (hl : news.length = m * size) (hnews : ∀ j u, news[j]? = some u → w.cell? (ad.add j) = some u) (h1 : ∀ u ∈ news, u.oneCell' = true)
    (h63 : n + m ≤ maxLen) (hbytes : (n + m) * bytes ≤ 140737488355328)
    (hK : ∀ ao cap w', Own w'.heap e size (.slice ao (n + m) cap) (n + m) (xs ++ news) → Ext v.ownBlock.toList w w' → (∀ g, (Value.slice ao (n + m) cap).ownBlock = some g → v.ownBlock = some g ∨ w.heap.size ≤ g) →
      K (a.put o.dst (.slice ao (n + m) cap)) w') :
    if Region.wanted o (yielded ops a.tmps) = true then Oper.wp P o a w K Q else E := by
  have hw : Region.wanted o (yielded ops a.tmps) = true := by simp [Region.wanted, hg]
  rw [if_pos hw]
  obtain ⟨ao, cap, w', hr, h2, h3, h4⟩ := run_append (P := P) (w := w) t o.type e i z size bytes ht hi hz hsize hby hzs hsz v n xs hown ad m c news hl hnews h1 h63 hbytes
  unfold Oper.wp execOp
  simp only [hop, resolve, invoke, builtin, Sem.run_bind, Sem.run_pure, Result.andThen_ok, List.map_toArray, List.map_cons, List.map_nil, hs, hx, hr]
  exact hK ao cap w' h2 h3 h4
/-- .. in a region that doesn't. -/
theorem wpList_append {P : Program} {ops : Array Oper} {rest : List Oper} {o : Oper} {a : Act} {w : World} {Q : Exit → Act → World → Prop}
    (hg : o.guard = none) (s x : Operand) (t : TypeId) (hop : o.op = Op.call { callee := Callee.builtin Builtin.append, args := #[s, x], argTypes := #[t, t] })
    (e : TypeId) (i : TypeInfo) (z : Value) (size bytes : Nat) (ht : P.underlying t = some (.slice e)) (hi : P.info? e = some i) (hz : i.zero = some z)
    (hsize : i.size = size) (hby : i.bytes = bytes) (hzs : z.cells.size = size) (hsz : 0 < size)
    (v : Value) (n : Nat) (xs : List Value) (hs : a.eval s = v) (hown : Own w.heap e size v n xs)
    (ad : Addr) (m c : Nat) (news : List Value) (hx : a.eval x = .slice (some ad) m c) (hl : news.length = m * size) (hnews : ∀ j u, news[j]? = some u → w.cell? (ad.add j) = some u) (h1 : ∀ u ∈ news, u.oneCell' = true)
    (h63 : n + m ≤ maxLen) (hbytes : (n + m) * bytes ≤ 140737488355328)
    (hK : ∀ ao cap w', Own w'.heap e size (.slice ao (n + m) cap) (n + m) (xs ++ news) → Ext v.ownBlock.toList w w' → (∀ g, (Value.slice ao (n + m) cap).ownBlock = some g → v.ownBlock = some g ∨ w.heap.size ≤ g) →
      wpList P ops Q rest (a.put o.dst (.slice ao (n + m) cap)) w') : wpList P ops Q (o :: rest) a w := by
  refine wpList_plain hg fun K' hK' => ?_
  obtain ⟨ao, cap, w', hr, h2, h3, h4⟩ := run_append (P := P) (w := w) t o.type e i z size bytes ht hi hz hsize hby hzs hsz v n xs hown ad m c news hl hnews h1 h63 hbytes
  unfold Oper.wp execOp
  simp only [hop, resolve, invoke, builtin, Sem.run_bind, Sem.run_pure, Result.andThen_ok, List.map_toArray, List.map_cons, List.map_nil, hs, hx, hr]
  exact hK' _ _ (hK ao cap w' h2 h3 h4)
theorem run_append_str {P : Program} {w : World} (t u ty e : TypeId) (i : TypeInfo) (ht : P.underlying t = some (.slice e)) (hu : P.underlying u = some .string) (hi : P.info? e = some i) (hz : i.zero = some (.int .u8 0))
    (hsize : i.size = 1) (hby : i.bytes = 1) (v : Value) (n : Nat) (xs : List Value) (hown : Own w.heap e 1 v n xs) (s : ByteArray) (h63 : n + s.size ≤ maxLen) (hbytes : n + s.size ≤ 140737488355328) :
    ∃ ao cap w', (Builtin.append_ #[t, u] ty #[v, .string s]).run P w = .ok (.slice ao (n + s.size) cap) w' ∧ Own w'.heap e 1 (.slice ao (n + s.size) cap) (n + s.size) (xs ++ Lib.strCells s) ∧ Ext v.ownBlock.toList w w' ∧
      (∀ g, (Value.slice ao (n + s.size) cap).ownBlock = some g → v.ownBlock = some g ∨ w.heap.size ≤ g) := by
  obtain ⟨v', w', hrun, ho, hg, _⟩ := Lib.run_append_own_string (P := P) w 0 t u ty e i ht hu hi hz hsize hby v n xs hown s h63 hbytes (Nat.zero_le _)
  obtain ⟨ao, cap, rfl⟩ := Own.form (w := w') (own_row.2 ho)
  refine ⟨ao, cap, w', hrun, ho, (Ext.refl _ _).grown hg fun k hk => .inl (by simp [hk]), ?_⟩
  intro g hgg
  have hsmall : n + s.size ≤ 9223372036854775807 := by simp only [maxLen] at h63; omega
  rcases hown.2 with ⟨rfl, rfl⟩ | ⟨g0, cap0, cur, rfl, _, hg0, hnc, hcm, hcs, htake⟩
  · right
    by_cases hm : s.size = 0
    · rcases ho.2 with ⟨h2, _⟩ | ⟨g1, cap1, cur1, h2, _, h3, _⟩
      · simp only [Value.slice.injEq] at h2
        rw [h2.1] at hgg; cases hgg
      · exfalso
        have hr2 : (Builtin.append_ #[t, u] ty #[.slice none 0 0, .string s]).run P w = .ok (.slice none 0 0) w := by
          have hf := Lib.run_firstCells_string (P := P) w 1 s
          rw [hm] at hf
          simp [Builtin.append_, run_underlying ht, run_underlying hu, sizeOf, typeInfo, hi, Builtin.lenOf, hm, hsize, hf]
        rw [hr2] at hrun
        simp only [Result.ok.injEq] at hrun
        rw [← hrun.1] at h2
        cases h2
    · have hr := run_append_nil_string (P := P) w t u ty e i _ ht hu hi hz s (by omega) (by omega) (by rw [hby]; omega)
      rw [hr] at hrun
      simp only [Result.ok.injEq] at hrun
      rw [← hrun.1] at hgg
      simp only [Value.ownBlock, Option.some.injEq] at hgg
      omega
  · by_cases hroom : n + s.size ≤ cap0
    · left
      have hr := Lib.run_append_room_string (P := P) w t u ty e i ht hu hi hsize g0 n cap0 cur hg0 s hroom (by omega)
      rw [hr] at hrun
      simp only [Result.ok.injEq] at hrun
      rw [← hrun.1] at hgg
      exact hgg
    · right
      have holds : ∀ j u, xs[j]? = some u → w.cell? ((⟨g0, 0, none⟩ : Addr).add j) = some u := World.ownsRow.cells (own_row.1 hown) (g := g0) rfl
      have hr := Lib.run_append_grow_string (P := P) w t u ty e i _ ht hu hi hz ⟨g0, 0, none⟩ n cap0 xs (by rw [hsize]; exact hown.1) holds s (by omega) (by omega) (growslice_fits (by omega) (by rw [hby]; omega))
      rw [hr] at hrun
      simp only [Result.ok.injEq] at hrun
      rw [← hrun.1] at hgg
      simp only [Value.ownBlock, Option.some.injEq] at hgg
      omega
theorem wpList_append_str {P : Program} {ops : Array Oper} {rest : List Oper} {o : Oper} {a : Act} {w : World} {Q : Exit → Act → World → Prop}
    (hg : o.guard = none) (sl x : Operand) (t u : TypeId) (hop : o.op = Op.call { callee := Callee.builtin Builtin.append, args := #[sl, x], argTypes := #[t, u] })
    (e : TypeId) (i : TypeInfo) (ht : P.underlying t = some (.slice e)) (hu : P.underlying u = some .string) (hi : P.info? e = some i) (hz : i.zero = some (.int .u8 0)) (hsize : i.size = 1) (hby : i.bytes = 1)
    (v : Value) (n : Nat) (xs : List Value) (hs : a.eval sl = v) (hown : Own w.heap e 1 v n xs) (s : ByteArray) (hx : a.eval x = .string s) (h63 : n + s.size ≤ maxLen) (hbytes : n + s.size ≤ 140737488355328)
    (hK : ∀ ao cap w', Own w'.heap e 1 (.slice ao (n + s.size) cap) (n + s.size) (xs ++ Lib.strCells s) → Ext v.ownBlock.toList w w' → (∀ g, (Value.slice ao (n + s.size) cap).ownBlock = some g → v.ownBlock = some g ∨ w.heap.size ≤ g) →
      wpList P ops Q rest (a.put o.dst (.slice ao (n + s.size) cap)) w') : wpList P ops Q (o :: rest) a w := by
  refine wpList_plain hg fun K' hK' => ?_
  obtain ⟨ao, cap, w', hr, h2, h3, h4⟩ := run_append_str (P := P) (w := w) t u o.type e i ht hu hi hz hsize hby v n xs hown s h63 hbytes
  unfold Oper.wp execOp
  simp only [hop, resolve, invoke, builtin, Sem.run_bind, Sem.run_pure, Result.andThen_ok, List.map_toArray, List.map_cons, List.map_nil, hs, hx, hr]
  exact hK' _ _ (hK ao cap w' h2 h3 h4)
theorem Own.cells {h : Array Obj} {w : World} (hw : w.heap = h) {e : TypeId} {size n : Nat} {v : Value} {xs : List Value} (o : Own h e size v n xs) {g : Nat} (hg : v.ownBlock = some g) : ∀ j u, xs[j]? = some u → w.cell? ((⟨g, 0, none⟩ : Addr).add j) = some u := by
  subst hw; exact World.ownsRow.cells (own_row.1 o) hg
/-- Bytes, as numbers, as a string. -/
def strN (l : List Nat) : ByteArray := ⟨(l.map UInt8.ofNat).toArray⟩
theorem run_bytes_text {P : Program} {w : World} (src dst e : TypeId) (hs : P.underlying src = some (.slice e)) (he : P.underlying e = some (.int .u8)) (hd : P.underlying dst = some .string)
    (v : Value) (l : List Nat) (hown : Own w.heap e 1 v l.length (l.map fun (c : Nat) => Value.int .u8 c)) : (convert src dst v).run P w = .ok (.string (strN l)) w := by
  rcases hown.2 with ⟨rfl, h0⟩ | ⟨g, cap, cur, rfl, _, hg, hnc, hcm, hcs, htake⟩
  · have : l = [] := List.eq_nil_of_length_eq_zero h0
    subst this
    rw [run_convert_bytes_nil w src e hs he 0 0 dst hd]; rfl
  · rw [run_convert_bytes_arg w src e hs he g 0 l.length cap (l.map fun (c : Nat) => (c : Int)) (by simp) (fun i hi => by
      have := Own.cells (w := w) rfl hown (g := g) rfl i (.int .u8 ((l.getD i 0 : Nat) : Int)) (by simp [List.getElem?_map, hi])
      rw [add_off'] at this
      rw [Nat.zero_add, this]
      simp [List.getD, hi]) dst hd]
    congr 2
    simp [strOfNums, strN]

theorem Own.alloc {w : World} {e : TypeId} {size n : Nat} {v : Value} {xs : List Value} (o : Own w.heap e size v n xs) (x : Obj) : Own (w.alloc x).heap e size v n xs :=
  o.same fun g hg => heap_old w x (o.lt hg)
theorem add_off (b j : Nat) : (⟨b, 0, none⟩ : Addr).add j = ⟨b, j, none⟩ := by unfold Addr.add; split <;> simp_all
theorem news_new (w : World) (cs : List Value) (t : TypeId) : ∀ j u, cs[j]? = some u → (w.alloc (.cells cs.toArray t)).cell? ((⟨w.heap.size, 0, none⟩ : Addr).add j) = some u := by
  intro j u h
  rw [add_off, World.cell?_alloc_new]
  simpa using h
theorem ne_block {h : Array Obj} {a b : Nat} {x y : Obj} (ha : h[a]? = some x) (hb : h[b]? = some y) (hne : x ≠ y) : a ≠ b := fun e => hne (by subst e; rw [ha] at hb; exact Option.some.inj hb)
theorem MapAt.ne {κ ν : Type} [DecidableEq κ] {enc : κ → Value} {venc : ν → Value} {l : List (κ × ν)} {h : Array Obj} {b m : Nat} (hm : MapAt enc venc h m l) {cs : Array Value} {t : TypeId} {f : Nat × Nat} (hb : h[b]? = some (.cells cs t f)) : b ≠ m := by
  obtain ⟨es, c, h1, _⟩ := hm
  exact ne_block hb h1 (by simp)

end Go.Hs
