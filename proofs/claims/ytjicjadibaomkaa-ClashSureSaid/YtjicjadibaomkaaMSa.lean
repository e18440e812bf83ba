/-
  Texts of this claim, put together: Base, LeafAt, DigP, Dig, Dig2, Dig3, DigQ, Dig4, Dig5, DigEq, Dig6, S32, Half, ProofW, Yield, Eq32, StillS, Node32, InclN, FoldAt, StrA, SumA, SumsV, SumsO, OpenS.
-/
import Derived.WalkKit
import Derived.Deep.Draws
import Derived.MapKept
import Derived.Lib.AppendStr
import Derived.Laws.BytesArg
import Derived.Test.YtjicjadibaomkaaProg
import Derived.Below
import Derived.Deep.AppendLies
import Derived.Maps.AppendAt
import Derived.OwnWalk
import Derived.Laws.MakeOwn
import Derived.Laws.OwnMore
import Derived.Deep.OwnRows
import Derived.Tactics
import Derived.Lib.ConvBytes
import Derived.Laws.Slices
import Derived.KernelRfl
import Derived.RowKit3
import Derived.Deep.LoopGhost
import Derived.Deep.QuietTactic
import Derived.BigQuiet
import Derived.WideLaws
import Derived.Deep.DeepCutAuto
import Derived.Deep.CutBlock
import Derived.Deep.RegionHeld3
import Derived.Laws.Rows
import Derived.ArgAppend
import Derived.Laws.IdiomCopy
import Derived.OrdersHeld
import Derived.Laws.BitsLemmas
import Derived.RowKit
import Derived.Deep.RegionLaw
import Derived.Deep.RegionWith
import Derived.IntWalk
import Derived.Test.YtjicjadibaomkaaShelf
import Derived.ChangeKeysEq
import Derived.Great.BuildSlice
import Derived.StillTailTactics
import Derived.Deep.MidRow
import Derived.Test.YtjicjadibaomkaaChecked
import Derived.SliceStrings
import Derived.ChangeSlices
import Derived.Deep.Slices
import Derived.Deep.Fields
import Derived.ChangeSame
import Derived.Carry
import Derived.ProofKit
import Derived.OpenShut
set_option linter.unusedSimpArgs false
set_option linter.unusedVariables false
namespace Go.Hs
open Go Go.RowKit

theorem hid {p : Prop} (h : p) : Hid p := h

/-! ### What has turned: only blocks of F, and new ones -/
structure Ext (F : List Nat) (w w' : World) : Prop where
  os : w'.os = w.os
  tape : w'.tape = w.tape
  output : w'.output = w.output
  size : w.heap.size ≤ w'.heap.size
  block : ∀ k, k < w.heap.size → k ∉ F → w'.heap[k]? = w.heap[k]?

theorem Ext.refl (F : List Nat) (w : World) : Ext F w w := ⟨rfl, rfl, rfl, Nat.le_refl _, fun _ _ _ => rfl⟩
theorem Ext.trans {F F' : List Nat} {a b c : World} (h : Ext F a b) (k : Ext F' b c) (hF : ∀ x ∈ F', x ∈ F ∨ a.heap.size ≤ x) : Ext F a c :=
  ⟨k.os.trans h.os, k.tape.trans h.tape, k.output.trans h.output, Nat.le_trans h.size k.size, fun i hi hn =>
    (k.block i (Nat.lt_of_lt_of_le hi h.size) (fun hm => by rcases hF i hm with h1 | h1; exact hn h1; omega)).trans (h.block i hi hn)⟩
theorem Ext.trans' {F : List Nat} {a b c : World} (h : Ext F a b) (k : Ext F b c) : Ext F a c := h.trans k fun _ hx => .inl hx
theorem Ext.trans0 {F : List Nat} {a b c : World} (h : Ext F a b) (k : Ext [] b c) : Ext F a c := h.trans k fun _ hx => by cases hx
theorem Ext.mono {F F' : List Nat} {a b : World} (h : Ext F a b) (hF : ∀ x ∈ F, x ∈ F' ∨ a.heap.size ≤ x) : Ext F' a b := (Ext.refl F' a).trans h hF
theorem Ext.drew {F : List Nat} {a w : World} (h : Ext F a w) : Ext F a w.drew := ⟨h.os, h.tape, h.output, h.size, h.block⟩
theorem Ext.drewN {F : List Nat} {a w : World} (h : Ext F a w) (n : Nat) : Ext F a (w.drewN n) := ⟨h.os, h.tape, h.output, h.size, h.block⟩
theorem Ext.alloc {F : List Nat} {a w : World} (h : Ext F a w) (o : Obj) : Ext F a (w.alloc o) :=
  h.trans0 ⟨rfl, rfl, rfl, by simp, fun k hk _ => Below.heap_alloc _ _ _ hk⟩
theorem Ext.setCell {F : List Nat} {a w : World} (h : Ext F a w) {p : Addr} (hp : p.block ∈ F ∨ a.heap.size ≤ p.block) (u : Value) : Ext F a (w.setCell p u) :=
  h.trans (F' := [p.block]) ⟨rfl, rfl, rfl, by simp [World.setCell], fun k _ hn => Below.heap_setCell _ _ _ _ (by simpa using hn)⟩ (by simpa using hp)
theorem Ext.set' {F : List Nat} {a w : World} {b : Nat} (hb : b ∈ F) (h : Ext F a w) (o : Nat) (u : Value) : Ext F a (w.setCell ⟨b, o, none⟩ u) := h.setCell (.inl hb) u
theorem Ext.setN {F : List Nat} {a w : World} {b : Nat} (hb : a.heap.size ≤ b) (h : Ext F a w) (o : Nat) (u : Value) : Ext F a (w.setCell ⟨b, o, none⟩ u) := h.setCell (.inr hb) u
theorem Ext.grown {F : List Nat} {a w w' : World} {row : Option Nat} (h : Ext F a w) (hg : w.grownBy w' row) (hr : ∀ k, row = some k → k ∈ F ∨ a.heap.size ≤ k) : Ext F a w' :=
  h.trans (F' := row.toList) ⟨hg.os, hg.tape, hg.output, hg.size, fun k hk hn => hg.block k hk (by cases row <;> simp_all <;> exact fun e => hn e.symm)⟩ (by intro x hx; exact hr x (by simpa using hx))
theorem Ext.below {w w' : World} (h : Ext [] w w') : Below w.heap.size w w' := ⟨h.os, h.tape, h.output, h.size, fun k hk => h.block k hk (by simp)⟩
theorem Ext.ofBelow {w w' : World} (h : Below w.heap.size w w') : Ext [] w w' := ⟨h.os, h.tape, h.output, h.size, fun k hk _ => h.block k hk⟩
theorem Ext.same {F : List Nat} {w w' : World} (h : Ext F w w') {b : Nat} {o : Obj} (hb : w.heap[b]? = some o) (hn : b ∉ F) : w'.heap[b]? = some o :=
  (h.block b (Array.getElem?_eq_some_iff.1 hb).1 hn).trans hb

/-! ### Blocks -/
theorem cellAt {w : World} {b : Nat} {cs : Array Value} {t : TypeId} {fr : Nat × Nat} (h : w.heap[b]? = some (.cells cs t fr)) (o : Nat) : w.cell? ⟨b, o, none⟩ = cs[o]? := cell_of_row w b o cs t fr h
theorem freeAt {w : World} {b : Nat} {cs : Array Value} {t : TypeId} (h : w.heap[b]? = some (.cells cs t (0, 0))) (o : Nat) : w.frozen? ⟨b, o, none⟩ = false := by simp [World.frozen?, h]
theorem heap_set {w : World} {b : Nat} {cs : Array Value} {t : TypeId} {fr : Nat × Nat} (h : w.heap[b]? = some (.cells cs t fr)) (o : Nat) (v : Value) :
    (w.setCell ⟨b, o, none⟩ v).heap[b]? = some (.cells (cs.setIfInBounds o v) t fr) := by
  simp [World.setCell, Array.getElem?_modify, h]
theorem heap_set_ne (w : World) (a : Addr) (v : Value) {b : Nat} (h : a.block ≠ b) : (w.setCell a v).heap[b]? = w.heap[b]? := Below.heap_setCell w a v b (fun e => h e.symm)
theorem heap_new (w : World) (o : Obj) : (w.alloc o).heap[w.heap.size]? = some o := heap_alloc_new w o
theorem heap_old (w : World) (o : Obj) {b : Nat} (h : b < w.heap.size) : (w.alloc o).heap[b]? = w.heap[b]? := heap_alloc_old w o h
theorem heap_old' (w : World) (o : Obj) {b : Nat} {x : Obj} (h : w.heap[b]? = some x) : (w.alloc o).heap[b]? = some x := (heap_alloc_old w o (Array.getElem?_eq_some_iff.1 h).1).trans h
theorem lt_of_heap {h : Array Obj} {b : Nat} {x : Obj} (e : h[b]? = some x) : b < h.size := (Array.getElem?_eq_some_iff.1 e).1

/-! ### Maps, as lists of keys and values -/
section
variable {κ ν : Type} [DecidableEq κ]
def mlook (l : List (κ × ν)) (k : κ) : Option ν := (l.find? fun p => decide (k = p.1)).map (·.2)
def mput (l : List (κ × ν)) (k : κ) (v : ν) : List (κ × ν) := if k ∈ l.map (·.1) then l.map (fun p => if k = p.1 then (k, v) else p) else l ++ [(k, v)]
def mdel (l : List (κ × ν)) (k : κ) : List (κ × ν) := l.filter fun p => decide (k ≠ p.1)
def mfind : List (κ × ν) → κ → Nat → Option (Nat × ν)
  | [], _, _ => none
  | p :: l, k, i => if k = p.1 then some (i, p.2) else mfind l k (i + 1)

@[simp] theorem mlook_nil (k : κ) : mlook ([] : List (κ × ν)) k = none := rfl
theorem mlook_cons (p : κ × ν) (l : List (κ × ν)) (k : κ) : mlook (p :: l) k = if k = p.1 then some p.2 else mlook l k := by
  unfold mlook; rw [List.find?_cons]; by_cases h : k = p.1 <;> simp [h]
theorem mfind_eq : ∀ (l : List (κ × ν)) (k : κ) (i : Nat), (mfind l k i).map (·.2) = mlook l k
  | [], _, _ => rfl
  | p :: l, k, i => by rw [mlook_cons]; unfold mfind; split <;> simp [mfind_eq l]
theorem mlook_none {l : List (κ × ν)} {k : κ} : mlook l k = none ↔ k ∉ l.map (·.1) := by
  induction l with
  | nil => simp
  | cons p l ih => rw [mlook_cons]; by_cases h : k = p.1 <;> simp_all
theorem mlook_append (l l' : List (κ × ν)) (k : κ) : mlook (l ++ l') k = (mlook l k).or (mlook l' k) := by
  induction l with
  | nil => simp
  | cons p l ih => rw [List.cons_append, mlook_cons, mlook_cons, ih]; split <;> simp
theorem mlook_put (l : List (κ × ν)) (k : κ) (v : ν) (q : κ) : mlook (mput l k v) q = if q = k then some v else mlook l q := by
  unfold mput
  split
  · rename_i hk
    have key : ∀ (l : List (κ × ν)), mlook (l.map fun p => if k = p.1 then (k, v) else p) q = if q = k then (if k ∈ l.map (·.1) then some v else none) else mlook l q := by
      intro l
      induction l with
      | nil => simp
      | cons p l ih =>
        rw [List.map_cons, mlook_cons, mlook_cons, ih]
        by_cases h1 : k = p.1
        · by_cases h2 : q = k
          · simp [h1, h2]
          · have h3 : ¬ q = p.1 := fun e => h2 (e.trans h1.symm)
            simp [← h1, h2]
        · by_cases h2 : q = k
          · have h3 : ¬ q = p.1 := fun e => h1 (h2.symm.trans e)
            rw [if_neg h1]
            simp only [h2, h1, if_false, if_true, List.map_cons, List.mem_cons, false_or]
          · rw [if_neg h1]
            simp [h2]
    rw [key, if_pos hk]
  · rename_i hk
    rw [mlook_append, mlook_cons]
    by_cases h : q = k
    · subst h; rw [mlook_none.2 hk]; simp
    · simp [h]
theorem mput_nodup {l : List (κ × ν)} (h : (l.map (·.1)).Nodup) (k : κ) (v : ν) : ((mput l k v).map (·.1)).Nodup := by
  unfold mput
  split
  · have : (l.map fun p => if k = p.1 then (k, v) else p).map (·.1) = l.map (·.1) := by
      rw [List.map_map]; apply List.map_congr_left; intro p _; simp only [Function.comp]; split <;> simp_all
    rw [this]; exact h
  · rename_i hk
    rw [List.map_append, List.nodup_append]
    exact ⟨h, by simp, fun a ha b hb e => by simp at hb; subst hb; subst e; exact hk ha⟩
theorem mlook_del (l : List (κ × ν)) (k q : κ) : mlook (mdel l k) q = if q = k then none else mlook l q := by
  unfold mdel
  induction l with
  | nil => simp
  | cons p l ih =>
    rw [List.filter_cons]
    by_cases h1 : k = p.1
    · simp only [h1, ne_eq, not_true_eq_false, decide_false, Bool.false_eq_true, if_false] at ih ⊢
      rw [ih, mlook_cons]
      by_cases h2 : q = p.1 <;> simp [h2]
    · simp only [h1, ne_eq, not_false_eq_true, decide_true, if_true]
      rw [mlook_cons, mlook_cons, ih]
      by_cases h2 : q = p.1
      · have h3 : ¬ q = k := fun e => h1 (e.symm.trans h2)
        simp [h2, Ne.symm h1]
      · simp [h2]
theorem mdel_nodup {l : List (κ × ν)} (h : (l.map (·.1)).Nodup) (k : κ) : ((mdel l k).map (·.1)).Nodup :=
  h.sublist (List.Sublist.map _ (List.filter_sublist ..))
end

/-- The key's type, as this seat's maps use it: 'enc k' is what stands in an entry. -/
structure KeyOK (P : Program) (kt : TypeId) {κ : Type} [DecidableEq κ] (enc : κ → Value) : Prop where
  check : ∀ em k (w : World), (Instr.checkKey em 10000 kt (enc k)).run P w = .ok () w
  find : ∀ {ν : Type} (venc : ν → Value) k (es : List MapEntry) (l : List (κ × ν)) (w : World), es.map (fun e => (e.key, e.val)) = l.map (fun p => (enc p.1, venc p.2)) → (l.map (·.1)).Nodup →
    (Instr.findKey kt (enc k) es).run P w = .ok ((mfind l k 0).map fun x => (x.1, venc x.2)) w
  stays : ∀ k (w : World), (Instr.keyThatStays (enc k) (enc k)).run P w = .ok (enc k) w

theorem checkKey_plain {P : Program} {kt : TypeId} {d : TypeDesc} (h : P.underlying kt = some d) (hd : ∀ (x : Nat) (_ : Nat), d = .string ∨ d = .bool ∨ ∃ q, d = .int q) (em : Bool) (n : Nat) (v : Value) (w : World) :
    (Instr.checkKey em (n + 1) kt v).run P w = .ok () w := by
  unfold Instr.checkKey
  simp only [Sem.run_bind, run_underlying h, Result.andThen_ok]
  rcases hd 0 0 with rfl | rfl | ⟨q, rfl⟩ <;> rfl

theorem keyOK_int {P : Program} {kt : TypeId} {q : IntKind} (h : P.underlying kt = some (.int q)) : KeyOK P kt (fun k : Int => Value.int q k) where
  check em k w := checkKey_plain h (fun _ _ => by simp) em 9999 _ w
  find venc k es l w he _ := by
    have key : ∀ (es : List MapEntry) (l : List (Int × _)) (i : Nat), es.map (fun e => (e.key, e.val)) = l.map (fun p => (Value.int q p.1, venc p.2)) →
        Instr.findNow (.int q) (.int q k) es i = some ((mfind l k i).map fun x => (x.1, venc x.2)) := by
      intro es
      induction es with
      | nil => intro l i he; cases l <;> simp_all [Instr.findNow, mfind]
      | cons e es ih =>
        intro l i he
        cases l with
        | nil => simp at he
        | cons p l =>
          simp only [List.map_cons, List.cons.injEq, Prod.mk.injEq] at he
          obtain ⟨⟨h1, h2⟩, h3⟩ := he
          simp only [Instr.findNow, h1, Instr.sameNow, if_true, mfind]
          by_cases hk : k = p.1
          · simp [hk, h2]
          · rw [show (k == p.1) = false by simpa using hk]; simp [hk, ih l (i + 1) h3]
    simp only [Instr.findKey, Sem.run_bind, run_underlying h, Result.andThen_ok, key es l 0 he]; rfl
  stays k w := by
    have : Instr.sameBits 10000 (.int q k) (.int q k) = true := by simp [Instr.sameBits]
    simp [Instr.keyThatStays, this]

theorem keyOK_string {P : Program} {kt : TypeId} (h : P.underlying kt = some .string) : KeyOK P kt (fun k : ByteArray => Value.string k) where
  check em k w := checkKey_plain h (fun _ _ => by simp) em 9999 _ w
  find venc k es l w he _ := by
    have key : ∀ (es : List MapEntry) (l : List (ByteArray × _)) (i : Nat), es.map (fun e => (e.key, e.val)) = l.map (fun p => (Value.string p.1, venc p.2)) →
        Instr.findNow .string (.string k) es i = some ((mfind l k i).map fun x => (x.1, venc x.2)) := by
      intro es
      induction es with
      | nil => intro l i he; cases l <;> simp_all [Instr.findNow, mfind]
      | cons e es ih =>
        intro l i he
        cases l with
        | nil => simp at he
        | cons p l =>
          simp only [List.map_cons, List.cons.injEq, Prod.mk.injEq] at he
          obtain ⟨⟨h1, h2⟩, h3⟩ := he
          simp only [Instr.findNow, h1, Instr.sameNow, mfind]
          by_cases hk : k = p.1
          · rw [(MapKept.bytes_beq k p.1).2 hk]; simp [hk, h2]
          · rw [show (k == p.1) = false from Bool.eq_false_iff.2 fun e => hk ((MapKept.bytes_beq k p.1).1 e)]; simp [hk, ih l (i + 1) h3]
    simp only [Instr.findKey, Sem.run_bind, run_underlying h, Result.andThen_ok, key es l 0 he]; rfl
  stays k w := by
    have : Instr.sameBits 10000 (.string k) (.string k) = true := by simp [Instr.sameBits, (MapKept.bytes_beq k k).2 rfl]
    simp [Instr.keyThatStays, this]

structure Ents {κ ν : Type} [DecidableEq κ] (enc : κ → Value) (venc : ν → Value) (es : Array MapEntry) (clock : Nat) (l : List (κ × ν)) : Prop where
  ents : es.toList.map (fun e => (e.key, e.val)) = l.map (fun p => (enc p.1, venc p.2))
  nodup : (l.map (·.1)).Nodup
  born : (es.toList.map (·.born)).Pairwise (· < ·)
  clk : ∀ e ∈ es.toList, e.born < clock

/-- Block b is a map that holds l. -/
def MapAt {κ ν : Type} [DecidableEq κ] (enc : κ → Value) (venc : ν → Value) (h : Array Obj) (b : Nat) (l : List (κ × ν)) : Prop :=
  ∃ es clock, h[b]? = some (.map es clock) ∧ Ents enc venc es clock l

section
variable {κ ν : Type} [DecidableEq κ] {enc : κ → Value} {venc : ν → Value} {l : List (κ × ν)} {b : Nat} {w : World} {P : Program} {kt et t : TypeId}

theorem MapAt.lt {h : Array Obj} (m : MapAt enc venc h b l) : b < h.size := by obtain ⟨es, c, hb, _⟩ := m; exact lt_of_heap hb
theorem MapAt.same {h h' : Array Obj} (m : MapAt enc venc h b l) (e : h'[b]? = h[b]?) : MapAt enc venc h' b l := by
  obtain ⟨es, c, hb, r⟩ := m; exact ⟨es, c, e.trans hb, r⟩
theorem MapAt.ext {F : List Nat} {w' : World} (m : MapAt enc venc w.heap b l) (h : Ext F w w') (hn : b ∉ F) : MapAt enc venc w'.heap b l := m.same (h.block b m.lt hn)
theorem mapAt_new (enc : κ → Value) (venc : ν → Value) (w : World) : MapAt enc venc (w.alloc (.map #[] 0)).heap w.heap.size ([] : List (κ × ν)) :=
  ⟨#[], 0, heap_new w _, by simp, by simp, by simp, by simp⟩

theorem run_lookup (K : KeyOK P kt enc) (ht : P.underlying t = some (.map kt et)) {d : ν} (hz : (zeroValue et).run P w = .ok (venc d) w) (m : MapAt enc venc w.heap b l) (k : κ) (ok : Bool) :
    (Instr.lookup t (.map (some b)) (enc k) ok).run P w = .ok (if ok then .tuple #[venc ((mlook l k).getD d), .bool (mlook l k).isSome] else venc ((mlook l k).getD d)) w := by
  obtain ⟨es, c, hb, E⟩ := m
  have hg : (getObj b).run P w = .ok (.map es c) w := by simp [getObj, Sem.run, hb]
  have hf := K.find venc k es.toList l w E.ents E.nodup
  simp only [Instr.lookup, Sem.run_bind, run_underlying ht, Result.andThen_ok, hg, K.check, Sem.run_pure]
  rw [hf]
  have hm := mfind_eq l k 0
  cases hx : mfind l k 0 with
  | none => rw [hx] at hm; rw [← hm]; cases ok <;> simp [hz]
  | some x => rw [hx] at hm; rw [← hm]; cases ok <;> simp

theorem run_lookup_nil (K : KeyOK P kt enc) (ht : P.underlying t = some (.map kt et)) {d : ν} (hz : (zeroValue et).run P w = .ok (venc d) w) (k : κ) (ok : Bool) :
    (Instr.lookup t (.map none) (enc k) ok).run P w = .ok (if ok then .tuple #[venc d, .bool false] else venc d) w := by
  have hf := K.find venc k [] [] w rfl List.nodup_nil
  simp only [Instr.lookup, Sem.run_bind, run_underlying ht, Result.andThen_ok, K.check, Sem.run_pure]
  rw [hf]
  cases ok <;> simp [mfind, hz]

theorem mfind_get : ∀ (l : List (κ × ν)) (k : κ) (i : Nat), (mfind l k i = none ∧ k ∉ l.map (·.1)) ∨ ∃ j v, mfind l k i = some (i + j, v) ∧ l[j]? = some (k, v)
  | [], k, i => by simp [mfind]
  | p :: l, k, i => by
    by_cases h : k = p.1
    · exact .inr ⟨0, p.2, by simp [mfind, h], by simp [h]⟩
    · rcases mfind_get l k (i + 1) with ⟨h1, h2⟩ | ⟨j, v, h1, h2⟩
      · exact .inl ⟨by simp [mfind, h, h1], by simp at h2; simp [h, h2]⟩
      · exact .inr ⟨j + 1, v, by rw [mfind, if_neg h, h1, Nat.add_assoc, Nat.add_comm 1 j], by simpa using h2⟩

theorem mput_at {l : List (κ × ν)} (hn : (l.map (·.1)).Nodup) {j : Nat} {k : κ} {v0 v : ν} (h : l[j]? = some (k, v0)) : mput l k v = l.set j (k, v) := by
  have hk : k ∈ l.map (·.1) := List.mem_map.2 ⟨(k, v0), List.mem_of_getElem? h, rfl⟩
  unfold mput
  rw [if_pos hk]
  have hj := (List.getElem?_eq_some_iff.1 h).1
  apply List.ext_getElem
  · simp
  · intro i h1 h2
    simp only [List.getElem_map, List.getElem_set]
    simp only [List.length_map] at h1
    by_cases e : j = i
    · subst e
      have : l[j] = (k, v0) := by simpa [List.getElem?_eq_getElem hj] using h
      simp [this]
    · rw [if_neg e]
      have : ¬ k = l[i].1 := by
        intro hk2
        have hj2 : l[j] = (k, v0) := by simpa [List.getElem?_eq_getElem hj] using h
        have hp := List.pairwise_iff_getElem.1 hn
        rcases Nat.lt_or_gt_of_ne e with hlt | hlt
        · exact hp j i (by simpa using hj) (by simpa using h1) hlt (by simp [hj2, ← hk2])
        · exact hp i j (by simpa using h1) (by simpa using hj) hlt (by simp [hj2, ← hk2])
      rw [if_neg this]

theorem run_mapUpdate (K : KeyOK P kt enc) (ht : P.underlying t = some (.map kt et)) (m : MapAt enc venc w.heap b l) (k : κ) (v : ν) :
    ∃ w', (Instr.mapUpdate t (.map (some b)) (enc k) (venc v)).run P w = .ok () w' ∧ MapAt enc venc w'.heap b (mput l k v) ∧ Ext [b] w w' := by
  obtain ⟨es, c, hb, E⟩ := m
  have hg : (getObj b).run P w = .ok (.map es c) w := by simp [getObj, Sem.run, hb]
  have hs : ∀ o, (setObj b o).run P w = .ok () { w with heap := w.heap.setIfInBounds b o } := by intro o; simp [setObj, Sem.run, hb]
  have hf := K.find venc k es.toList l w E.ents E.nodup
  have hblt := lt_of_heap hb
  have hext : ∀ o, Ext [b] w { w with heap := w.heap.setIfInBounds b o } := fun o =>
    ⟨rfl, rfl, rfl, by simp, fun i hi hn => by simp at hn; simp [Array.getElem?_setIfInBounds, show ¬ b = i from fun e => hn e.symm]⟩
  have hlen : es.size = l.length := by have := congrArg List.length E.ents; simpa using this
  rcases mfind_get l k 0 with ⟨h1, h2⟩ | ⟨j, v0, h1, h2⟩
  · refine ⟨{ w with heap := w.heap.setIfInBounds b (.map (es.push { key := enc k, val := venc v, born := c }) (c + 1)) }, ?_, ⟨es.push { key := enc k, val := venc v, born := c }, c + 1, by simp [hblt], ?_⟩, hext _⟩
    · simp only [Instr.mapUpdate, Sem.run_bind, run_underlying ht, Result.andThen_ok, hg, K.check]
      rw [hf, h1]
      simp [hs]
    · refine ⟨?_, mput_nodup E.nodup k v, ?_, ?_⟩
      · simp [mput, h2, E.ents]
      · simp only [Array.toList_push, List.map_append, List.map_cons, List.map_nil]
        refine List.pairwise_append.2 ⟨E.born, by simp, ?_⟩
        intro x hx y hy
        obtain ⟨e, he, rfl⟩ := List.mem_map.1 hx
        simp at hy; subst hy
        exact E.clk e he
      · intro e he
        simp only [Array.toList_push, List.mem_append, List.mem_singleton] at he
        rcases he with he | rfl
        · have := E.clk e he; omega
        · simp
  · simp only [Nat.zero_add] at h1
    have hj := (List.getElem?_eq_some_iff.1 h2).1
    have hje : j < es.size := by omega
    have hent : (es.toList.map (fun e => (e.key, e.val)))[j]? = some (enc k, venc v0) := by rw [E.ents]; simp [h2]
    have hent' : es[j].key = enc k := by
      simp [hje] at hent
      exact hent.1
    have hmod : es.modify j (fun e => { e with key := enc k, val := venc v }) = es.set j { es[j] with key := enc k, val := venc v } := by
      apply Array.ext
      · simp
      · intro i h3 h4; simp [Array.getElem_modify, Array.getElem_set]; split <;> simp_all
    refine ⟨{ w with heap := w.heap.setIfInBounds b (.map (es.modify j fun e => { e with key := enc k, val := venc v }) c) }, ?_, ⟨es.modify j fun e => { e with key := enc k, val := venc v }, c, by simp [hblt], ?_⟩, hext _⟩
    · simp only [Instr.mapUpdate, Sem.run_bind, run_underlying ht, Result.andThen_ok, hg, K.check]
      rw [hf, h1]
      simp [hs, hje, hent', K.stays]
    · have hb2 : (es.modify j fun e => { e with key := enc k, val := venc v }).toList.map (·.born) = es.toList.map (·.born) := by
        rw [hmod]
        simp only [Array.toList_set, List.map_set]
        apply List.ext_getElem (by simp)
        intro i h3 h4
        simp only [List.getElem_set]
        split
        · rename_i e; subst e; simp
        · rfl
      refine ⟨?_, mput_nodup E.nodup k v, by rw [hb2]; exact E.born, ?_⟩
      · rw [mput_at E.nodup h2, hmod]
        simp only [Array.toList_set, List.map_set, E.ents]
      · intro e he
        have : e.born ∈ es.toList.map (·.born) := by rw [← hb2]; exact List.mem_map.2 ⟨e, he, rfl⟩
        obtain ⟨e', he', h3⟩ := List.mem_map.1 this
        rw [← h3]; exact E.clk e' he'

/-! ### at the operation, for the walk -/
theorem wpList_lookup {ops : Array Oper} {rest : List Oper} {o : Oper} {a : Act} {Q : Exit → Act → World → Prop}
    (hg : o.guard = none) (mo x : Operand) (ok : Bool) (hop : o.op = Op.lookup t mo x ok) (K : KeyOK P kt enc) (ht : P.underlying t = some (.map kt et)) {d : ν} (hz : (zeroValue et).run P w = .ok (venc d) w)
    (hm : a.eval mo = .map (some b)) (m : MapAt enc venc w.heap b l) (k : κ) (hx : a.eval x = enc k)
    (hK : wpList P ops Q rest (a.put o.dst (if ok then .tuple #[venc ((mlook l k).getD d), .bool (mlook l k).isSome] else venc ((mlook l k).getD d))) w) :
    wpList P ops Q (o :: rest) a w := by
  refine wpList_plain hg fun K' hK' => ?_
  have hrun := run_lookup K ht hz m k ok
  unfold Oper.wp
  simp only [execOp, hop, hm, hx, Sem.run_bind, hrun, Result.andThen_ok, Sem.run_pure, Oper.upon_value]
  exact hK' _ _ hK
theorem wpList_mapUpdate {ops : Array Oper} {rest : List Oper} {o : Oper} {a : Act} {Q : Exit → Act → World → Prop}
    (hg : o.guard = none) (hd : o.dst = none) (mo x y : Operand) (hop : o.op = Op.mapUpdate t mo x y) (K : KeyOK P kt enc) (ht : P.underlying t = some (.map kt et))
    (hm : a.eval mo = .map (some b)) (m : MapAt enc venc w.heap b l) (k : κ) (hx : a.eval x = enc k) (v : ν) (hy : a.eval y = venc v)
    (hK : ∀ w', MapAt enc venc w'.heap b (mput l k v) → Ext [b] w w' → wpList P ops Q rest a w') :
    wpList P ops Q (o :: rest) a w := by
  refine wpList_plain hg fun K' hK' => ?_
  obtain ⟨w', hrun, r1, r2⟩ := run_mapUpdate (venc := venc) K ht m k v
  unfold Oper.wp
  simp only [execOp, hop, hm, hx, hy, Sem.run_bind, hrun, Result.andThen_ok, Sem.run_pure, Oper.upon_skip, hd, Act.put]
  exact hK' _ _ (hK w' r1 r2)
end

/-- A row of cells that the call owns: nil, or the head of a block. -/
def Own (h : Array Obj) (e : TypeId) (size : Nat) (v : Value) (n : Nat) (xs : List Value) : Prop :=
  xs.length = n * size ∧
  ((v = .slice none 0 0 ∧ n = 0) ∨
   ∃ g cap cur, v = .slice (some ⟨g, 0, none⟩) n cap ∧ 0 ≤ g ∧ h[g]? = some (.cells cur e (0, 0)) ∧ n ≤ cap ∧ cap ≤ maxLen ∧ cur.size = cap * size ∧ cur.toList.take (n * size) = xs)
theorem own_row {w : World} {e : TypeId} {size n : Nat} {v : Value} {xs : List Value} : Own w.heap e size v n xs ↔ w.ownsRow 0 e size v n xs := Iff.rfl
theorem Own.same {h h' : Array Obj} {e : TypeId} {size n : Nat} {v : Value} {xs : List Value} (o : Own h e size v n xs) (hb : ∀ g, v.ownBlock = some g → h'[g]? = h[g]?) : Own h' e size v n xs := by
  refine ⟨o.1, ?_⟩
  rcases o.2 with h1 | ⟨g, cap, cur, rfl, h2, h3, r⟩
  · exact .inl h1
  · exact .inr ⟨g, cap, cur, rfl, h2, (hb g rfl).trans h3, r⟩
theorem Own.block {h : Array Obj} {e : TypeId} {size n : Nat} {v : Value} {xs : List Value} (o : Own h e size v n xs) {g : Nat} (hg : v.ownBlock = some g) : ∃ cur, h[g]? = some (.cells cur e (0, 0)) := by
  rcases o.2 with ⟨rfl, _⟩ | ⟨g', cap, cur, rfl, _, h3, _⟩
  · cases hg
  · cases hg; exact ⟨cur, h3⟩
theorem Own.lt {h : Array Obj} {e : TypeId} {size n : Nat} {v : Value} {xs : List Value} (o : Own h e size v n xs) {g : Nat} (hg : v.ownBlock = some g) : g < h.size := by
  obtain ⟨_, hc⟩ := o.block hg; exact lt_of_heap hc
theorem Own.form {w : World} {e : TypeId} {size n : Nat} {v : Value} {xs : List Value} (o : Own w.heap e size v n xs) : ∃ ao cap, v = .slice ao n cap := by
  rcases o.2 with ⟨rfl, rfl⟩ | ⟨g, cap, cur, rfl, _⟩
  · exact ⟨none, 0, rfl⟩
  · exact ⟨_, _, rfl⟩
theorem run_append {P : Program} {w : World} (t ty e : TypeId) (i : TypeInfo) (z : Value) (size bytes : Nat) (ht : P.underlying t = some (.slice e)) (hi : P.info? e = some i) (hz : i.zero = some z)
    (hsize : i.size = size) (hby : i.bytes = bytes) (hzs : z.cells.size = size) (hsz : 0 < size)
    (v : Value) (n : Nat) (xs : List Value) (hown : Own w.heap e size v n xs)
    (a : Addr) (m c : Nat) (news : List Value) (hl : news.length = m * size) (hnews : ∀ j u, news[j]? = some u → w.cell? (a.add j) = some u) (h1 : ∀ u ∈ news, u.oneCell' = true)
    (h63 : n + m ≤ maxLen) (hbytes : (n + m) * bytes ≤ 140737488355328) :
    ∃ ao cap w', (Builtin.append_ #[t, t] ty #[v, .slice (some a) m c]).run P w = .ok (.slice ao (n + m) cap) w' ∧ Own w'.heap e size (.slice ao (n + m) cap) (n + m) (xs ++ news) ∧ Ext v.ownBlock.toList w w' ∧
      (∀ g, (Value.slice ao (n + m) cap).ownBlock = some g → v.ownBlock = some g ∨ w.heap.size ≤ g) := by
  obtain ⟨v', w', hrun, ho, hg, _⟩ := run_append_own (P := P) w 0 t ty e i z size bytes ht hi hz hsize hby hzs hsz v n xs hown a m c news hl hnews h1 h63 hbytes (Nat.zero_le _)
  obtain ⟨ao, cap, rfl⟩ := Own.form (w := w') (own_row.2 ho)
  refine ⟨ao, cap, w', hrun, ho, (Ext.refl _ _).grown hg fun k hk => .inl (by simp [hk]), ?_⟩
  intro g hgg
  have hsmall : n + m ≤ 9223372036854775807 := by simp only [maxLen] at h63; omega
  subst hsize; subst hby
  rcases hown.2 with ⟨rfl, rfl⟩ | ⟨g0, cap0, cur, rfl, _, hg0, hnc, hcm, hcs, htake⟩
  · right
    by_cases hm : m = 0
    · subst hm
      have hn : news = [] := List.eq_nil_of_length_eq_zero (by simpa using hl)
      rcases ho.2 with ⟨h2, _⟩ | ⟨g1, cap1, cur1, h2, _, h3, _⟩
      · cases h2; cases hgg
      · exfalso
        subst hn
        have hr2 : (Builtin.append_ #[t, t] ty #[.slice none 0 0, .slice (some a) 0 c]).run P w = .ok (.slice none 0 0) w := by
          simp [Builtin.append_, run_underlying ht, sizeOf, typeInfo, hi, Builtin.lenOf, Builtin.firstCells, loadCells, loadCellsFrom]
        rw [hr2] at hrun
        simp only [Result.ok.injEq] at hrun
        rw [← hrun.1] at h2
        cases h2
    · have hr := run_append_nil (P := P) w t ty e i z ht hi hz a m c news hl hnews (by omega) (by omega) (by have hb := hbytes; simp only [Nat.zero_add] at hb; omega)
      rw [hr] at hrun
      simp only [Result.ok.injEq] at hrun
      rw [← hrun.1] at hgg
      simp only [Value.ownBlock, Option.some.injEq] at hgg
      omega
  · by_cases hroom : n + m ≤ cap0
    · left
      have hfit : n * i.size + news.length ≤ cur.size := by rw [hl, hcs, ← Nat.add_mul]; exact Nat.mul_le_mul_right _ hroom
      have hr := run_append_room (P := P) w t ty e i ht hi g0 n cap0 cur hg0 a m c news hl hnews h1 hroom hfit
      rw [hr] at hrun
      simp only [Result.ok.injEq] at hrun
      rw [← hrun.1] at hgg
      exact hgg
    · right
      have holds : ∀ j u, xs[j]? = some u → w.cell? ((⟨g0, 0, none⟩ : Addr).add j) = some u := World.ownsRow.cells (own_row.1 hown) (g := g0) rfl
      have hr := run_append_grow (P := P) w t ty e i z ht hi hz ⟨g0, 0, none⟩ n cap0 xs hown.1 holds a m c news hl hnews (by omega) (by omega) (growslice_fits (by omega) hbytes)
      rw [hr] at hrun
      simp only [Result.ok.injEq] at hrun
      rw [← hrun.1] at hgg
      simp only [Value.ownBlock, Option.some.injEq] at hgg
      omega

theorem add_off' (b j : Nat) : (⟨b, 0, none⟩ : Addr).add j = ⟨b, j, none⟩ := by unfold Addr.add; split <;> simp_all
/-- 'append' to a row of the call's own, as a step of a region that draws its order. -/
theorem step_append_own {P : Program} {ops : Array Oper} {o : Oper} {a : Act} {w : World} {K : Act → World → Prop} {Q : Exit → Act → World → Prop} {E : Prop}
    (hg : o.guard = none) (s x : Operand) (t : TypeId) (hop : o.op = Op.call { callee := Callee.builtin Builtin.append, args := #[s, x], argTypes := #[t, t] })
    (e : TypeId) (i : TypeInfo) (z : Value) (size bytes : Nat) (ht : P.underlying t = some (.slice e)) (hi : P.info? e = some i) (hz : i.zero = some z)
    (hsize : i.size = size) (hby : i.bytes = bytes) (hzs : z.cells.size = size) (hsz : 0 < size)
    (v : Value) (n : Nat) (xs : List Value) (hs : a.eval s = v) (hown : Own w.heap e size v n xs)
    (ad : Addr) (m c : Nat) (news : List Value) (hx : a.eval x = .slice (some ad) m c) (hl : news.length = m * size) (hnews : ∀ j u, news[j]? = some u → w.cell? (ad.add j) = some u) (h1 : ∀ u ∈ news, u.oneCell' = true)
    (h63 : n + m ≤ maxLen) (hbytes : (n + m) * bytes ≤ 140737488355328)
    (hK : ∀ ao cap w', Own w'.heap e size (.slice ao (n + m) cap) (n + m) (xs ++ news) → Ext v.ownBlock.toList w w' → (∀ g, (Value.slice ao (n + m) cap).ownBlock = some g → v.ownBlock = some g ∨ w.heap.size ≤ g) →
      K (a.put o.dst (.slice ao (n + m) cap)) w') :
    if Region.wanted o (yielded ops a.tmps) = true then Oper.wp P o a w K Q else E := by
  have hw : Region.wanted o (yielded ops a.tmps) = true := by simp [Region.wanted, hg]
  rw [if_pos hw]
  obtain ⟨ao, cap, w', hr, h2, h3, h4⟩ := run_append (P := P) (w := w) t o.type e i z size bytes ht hi hz hsize hby hzs hsz v n xs hown ad m c news hl hnews h1 h63 hbytes
  unfold Oper.wp execOp
  simp only [hop, resolve, invoke, builtin, Sem.run_bind, Sem.run_pure, Result.andThen_ok, List.map_toArray, List.map_cons, List.map_nil, hs, hx, hr]
  exact hK ao cap w' h2 h3 h4
/-- .. in a region that doesn't. -/
theorem wpList_append {P : Program} {ops : Array Oper} {rest : List Oper} {o : Oper} {a : Act} {w : World} {Q : Exit → Act → World → Prop}
    (hg : o.guard = none) (s x : Operand) (t : TypeId) (hop : o.op = Op.call { callee := Callee.builtin Builtin.append, args := #[s, x], argTypes := #[t, t] })
    (e : TypeId) (i : TypeInfo) (z : Value) (size bytes : Nat) (ht : P.underlying t = some (.slice e)) (hi : P.info? e = some i) (hz : i.zero = some z)
    (hsize : i.size = size) (hby : i.bytes = bytes) (hzs : z.cells.size = size) (hsz : 0 < size)
    (v : Value) (n : Nat) (xs : List Value) (hs : a.eval s = v) (hown : Own w.heap e size v n xs)
    (ad : Addr) (m c : Nat) (news : List Value) (hx : a.eval x = .slice (some ad) m c) (hl : news.length = m * size) (hnews : ∀ j u, news[j]? = some u → w.cell? (ad.add j) = some u) (h1 : ∀ u ∈ news, u.oneCell' = true)
    (h63 : n + m ≤ maxLen) (hbytes : (n + m) * bytes ≤ 140737488355328)
    (hK : ∀ ao cap w', Own w'.heap e size (.slice ao (n + m) cap) (n + m) (xs ++ news) → Ext v.ownBlock.toList w w' → (∀ g, (Value.slice ao (n + m) cap).ownBlock = some g → v.ownBlock = some g ∨ w.heap.size ≤ g) →
      wpList P ops Q rest (a.put o.dst (.slice ao (n + m) cap)) w') : wpList P ops Q (o :: rest) a w := by
  refine wpList_plain hg fun K' hK' => ?_
  obtain ⟨ao, cap, w', hr, h2, h3, h4⟩ := run_append (P := P) (w := w) t o.type e i z size bytes ht hi hz hsize hby hzs hsz v n xs hown ad m c news hl hnews h1 h63 hbytes
  unfold Oper.wp execOp
  simp only [hop, resolve, invoke, builtin, Sem.run_bind, Sem.run_pure, Result.andThen_ok, List.map_toArray, List.map_cons, List.map_nil, hs, hx, hr]
  exact hK' _ _ (hK ao cap w' h2 h3 h4)
theorem run_append_str {P : Program} {w : World} (t u ty e : TypeId) (i : TypeInfo) (ht : P.underlying t = some (.slice e)) (hu : P.underlying u = some .string) (hi : P.info? e = some i) (hz : i.zero = some (.int .u8 0))
    (hsize : i.size = 1) (hby : i.bytes = 1) (v : Value) (n : Nat) (xs : List Value) (hown : Own w.heap e 1 v n xs) (s : ByteArray) (h63 : n + s.size ≤ maxLen) (hbytes : n + s.size ≤ 140737488355328) :
    ∃ ao cap w', (Builtin.append_ #[t, u] ty #[v, .string s]).run P w = .ok (.slice ao (n + s.size) cap) w' ∧ Own w'.heap e 1 (.slice ao (n + s.size) cap) (n + s.size) (xs ++ Lib.strCells s) ∧ Ext v.ownBlock.toList w w' ∧
      (∀ g, (Value.slice ao (n + s.size) cap).ownBlock = some g → v.ownBlock = some g ∨ w.heap.size ≤ g) := by
  obtain ⟨v', w', hrun, ho, hg, _⟩ := Lib.run_append_own_string (P := P) w 0 t u ty e i ht hu hi hz hsize hby v n xs hown s h63 hbytes (Nat.zero_le _)
  obtain ⟨ao, cap, rfl⟩ := Own.form (w := w') (own_row.2 ho)
  refine ⟨ao, cap, w', hrun, ho, (Ext.refl _ _).grown hg fun k hk => .inl (by simp [hk]), ?_⟩
  intro g hgg
  have hsmall : n + s.size ≤ 9223372036854775807 := by simp only [maxLen] at h63; omega
  rcases hown.2 with ⟨rfl, rfl⟩ | ⟨g0, cap0, cur, rfl, _, hg0, hnc, hcm, hcs, htake⟩
  · right
    by_cases hm : s.size = 0
    · rcases ho.2 with ⟨h2, _⟩ | ⟨g1, cap1, cur1, h2, _, h3, _⟩
      · simp only [Value.slice.injEq] at h2
        rw [h2.1] at hgg; cases hgg
      · exfalso
        have hr2 : (Builtin.append_ #[t, u] ty #[.slice none 0 0, .string s]).run P w = .ok (.slice none 0 0) w := by
          have hf := Lib.run_firstCells_string (P := P) w 1 s
          rw [hm] at hf
          simp [Builtin.append_, run_underlying ht, run_underlying hu, sizeOf, typeInfo, hi, Builtin.lenOf, hm, hsize, hf]
        rw [hr2] at hrun
        simp only [Result.ok.injEq] at hrun
        rw [← hrun.1] at h2
        cases h2
    · have hr := run_append_nil_string (P := P) w t u ty e i _ ht hu hi hz s (by omega) (by omega) (by rw [hby]; omega)
      rw [hr] at hrun
      simp only [Result.ok.injEq] at hrun
      rw [← hrun.1] at hgg
      simp only [Value.ownBlock, Option.some.injEq] at hgg
      omega
  · by_cases hroom : n + s.size ≤ cap0
    · left
      have hr := Lib.run_append_room_string (P := P) w t u ty e i ht hu hi hsize g0 n cap0 cur hg0 s hroom (by omega)
      rw [hr] at hrun
      simp only [Result.ok.injEq] at hrun
      rw [← hrun.1] at hgg
      exact hgg
    · right
      have holds : ∀ j u, xs[j]? = some u → w.cell? ((⟨g0, 0, none⟩ : Addr).add j) = some u := World.ownsRow.cells (own_row.1 hown) (g := g0) rfl
      have hr := Lib.run_append_grow_string (P := P) w t u ty e i _ ht hu hi hz ⟨g0, 0, none⟩ n cap0 xs (by rw [hsize]; exact hown.1) holds s (by omega) (by omega) (growslice_fits (by omega) (by rw [hby]; omega))
      rw [hr] at hrun
      simp only [Result.ok.injEq] at hrun
      rw [← hrun.1] at hgg
      simp only [Value.ownBlock, Option.some.injEq] at hgg
      omega
theorem wpList_append_str {P : Program} {ops : Array Oper} {rest : List Oper} {o : Oper} {a : Act} {w : World} {Q : Exit → Act → World → Prop}
    (hg : o.guard = none) (sl x : Operand) (t u : TypeId) (hop : o.op = Op.call { callee := Callee.builtin Builtin.append, args := #[sl, x], argTypes := #[t, u] })
    (e : TypeId) (i : TypeInfo) (ht : P.underlying t = some (.slice e)) (hu : P.underlying u = some .string) (hi : P.info? e = some i) (hz : i.zero = some (.int .u8 0)) (hsize : i.size = 1) (hby : i.bytes = 1)
    (v : Value) (n : Nat) (xs : List Value) (hs : a.eval sl = v) (hown : Own w.heap e 1 v n xs) (s : ByteArray) (hx : a.eval x = .string s) (h63 : n + s.size ≤ maxLen) (hbytes : n + s.size ≤ 140737488355328)
    (hK : ∀ ao cap w', Own w'.heap e 1 (.slice ao (n + s.size) cap) (n + s.size) (xs ++ Lib.strCells s) → Ext v.ownBlock.toList w w' → (∀ g, (Value.slice ao (n + s.size) cap).ownBlock = some g → v.ownBlock = some g ∨ w.heap.size ≤ g) →
      wpList P ops Q rest (a.put o.dst (.slice ao (n + s.size) cap)) w') : wpList P ops Q (o :: rest) a w := by
  refine wpList_plain hg fun K' hK' => ?_
  obtain ⟨ao, cap, w', hr, h2, h3, h4⟩ := run_append_str (P := P) (w := w) t u o.type e i ht hu hi hz hsize hby v n xs hown s h63 hbytes
  unfold Oper.wp execOp
  simp only [hop, resolve, invoke, builtin, Sem.run_bind, Sem.run_pure, Result.andThen_ok, List.map_toArray, List.map_cons, List.map_nil, hs, hx, hr]
  exact hK' _ _ (hK ao cap w' h2 h3 h4)
theorem Own.cells {h : Array Obj} {w : World} (hw : w.heap = h) {e : TypeId} {size n : Nat} {v : Value} {xs : List Value} (o : Own h e size v n xs) {g : Nat} (hg : v.ownBlock = some g) : ∀ j u, xs[j]? = some u → w.cell? ((⟨g, 0, none⟩ : Addr).add j) = some u := by
  subst hw; exact World.ownsRow.cells (own_row.1 o) hg
/-- Bytes, as numbers, as a string. -/
def strN (l : List Nat) : ByteArray := ⟨(l.map UInt8.ofNat).toArray⟩
theorem run_bytes_text {P : Program} {w : World} (src dst e : TypeId) (hs : P.underlying src = some (.slice e)) (he : P.underlying e = some (.int .u8)) (hd : P.underlying dst = some .string)
    (v : Value) (l : List Nat) (hown : Own w.heap e 1 v l.length (l.map fun (c : Nat) => Value.int .u8 c)) : (convert src dst v).run P w = .ok (.string (strN l)) w := by
  rcases hown.2 with ⟨rfl, h0⟩ | ⟨g, cap, cur, rfl, _, hg, hnc, hcm, hcs, htake⟩
  · have : l = [] := List.eq_nil_of_length_eq_zero h0
    subst this
    rw [run_convert_bytes_nil w src e hs he 0 0 dst hd]; rfl
  · rw [run_convert_bytes_arg w src e hs he g 0 l.length cap (l.map fun (c : Nat) => (c : Int)) (by simp) (fun i hi => by
      have := Own.cells (w := w) rfl hown (g := g) rfl i (.int .u8 ((l.getD i 0 : Nat) : Int)) (by simp [List.getElem?_map, hi])
      rw [add_off'] at this
      rw [Nat.zero_add, this]
      simp [List.getD, hi]) dst hd]
    congr 2
    simp [strOfNums, strN]

theorem Own.alloc {w : World} {e : TypeId} {size n : Nat} {v : Value} {xs : List Value} (o : Own w.heap e size v n xs) (x : Obj) : Own (w.alloc x).heap e size v n xs :=
  o.same fun g hg => heap_old w x (o.lt hg)
theorem add_off (b j : Nat) : (⟨b, 0, none⟩ : Addr).add j = ⟨b, j, none⟩ := by unfold Addr.add; split <;> simp_all
theorem news_new (w : World) (cs : List Value) (t : TypeId) : ∀ j u, cs[j]? = some u → (w.alloc (.cells cs.toArray t)).cell? ((⟨w.heap.size, 0, none⟩ : Addr).add j) = some u := by
  intro j u h
  rw [add_off, World.cell?_alloc_new]
  simpa using h
theorem ne_block {h : Array Obj} {a b : Nat} {x y : Obj} (ha : h[a]? = some x) (hb : h[b]? = some y) (hne : x ≠ y) : a ≠ b := fun e => hne (by subst e; rw [ha] at hb; exact Option.some.inj hb)
theorem MapAt.ne {κ ν : Type} [DecidableEq κ] {enc : κ → Value} {venc : ν → Value} {l : List (κ × ν)} {h : Array Obj} {b m : Nat} (hm : MapAt enc venc h m l) {cs : Array Value} {t : TypeId} {f : Nat × Nat} (hb : h[b]? = some (.cells cs t f)) : b ≠ m := by
  obtain ⟨es, c, h1, _⟩ := hm
  exact ne_block hb h1 (by simp)

end Go.Hs
set_option linter.unusedSimpArgs false
set_option linter.unusedVariables false
namespace Go.Proofs.Ytjicjadibaomkaa
open Go.RowKit Go.Hs

/-- A block that holds the leaves, from o on. -/
def LeafAt (h : Array Obj) (b o : Nat) (L : List ByteArray) : Prop := ∃ cs t fr, h[b]? = some (.cells cs t fr) ∧ ∀ (k : Nat) s, L[k]? = some s → cs[o + k]? = some (.string s)
theorem LeafAt.ext0 {w w' : World} {b o : Nat} {L : List ByteArray} (h : LeafAt w.heap b o L) (x : Ext [] w w') : LeafAt w'.heap b o L := by
  obtain ⟨cs, t, fr, h1, h2⟩ := h; exact ⟨cs, t, fr, x.same h1 (by simp), h2⟩
theorem LeafAt.cell {w : World} {b o : Nat} {L : List ByteArray} (h : LeafAt w.heap b o L) {k : Nat} {s : ByteArray} (hk : L[k]? = some s) : w.cell? ⟨b, o + k, none⟩ = some (.string s) := by
  obtain ⟨cs, t, fr, h1, h2⟩ := h; rw [cellAt h1]; exact h2 k s hk
end Go.Proofs.Ytjicjadibaomkaa
set_option linter.unusedSimpArgs false
set_option linter.unusedVariables false
namespace Go.Dg
open Go Go.RowKit

abbrev u32 (x : Int) : Int := x % 4294967296
/-- RotateLeft32. -/
def rotl (x : Int) (k : Nat) : Int := Go.bits .or .u32 (u32 (x * 2 ^ k)) (x / 2 ^ (32 - k))
/-- The i-th byte. -/
def byteAt (s : ByteArray) (i : Nat) : Int := ((s.data.toList.getD i 0).toNat : Int)
def word0 (s : ByteArray) (i : Nat) : Nat → Int
  | 0 => 0
  | k + 1 => Go.bits .or .u32 (u32 (word0 s i k * 256)) (byteAt s (4 * i + k))
def firstW (s : ByteArray) : Nat → List Int
  | 0 => []
  | n + 1 => firstW s n ++ [word0 s n 4]
def smallS (p : Int) : Int := Go.bits .xor .u32 (Go.bits .xor .u32 (rotl p 25) (rotl p 14)) (p / 8)
def greatS (q : Int) : Int := Go.bits .xor .u32 (Go.bits .xor .u32 (rotl q 15) (rotl q 13)) (q / 1024)
def nextW (l : List Int) : Int :=
  u32 (u32 (u32 (l.getD (l.length - 16) 0 + smallS (l.getD (l.length - 15) 0)) + l.getD (l.length - 7) 0) + greatS (l.getD (l.length - 2) 0))
def wordsN (s : ByteArray) : Nat → List Int
  | 0 => firstW s 16
  | n + 1 => wordsN s n ++ [nextW (wordsN s n)]
theorem firstW_len (s : ByteArray) : ∀ n, (firstW s n).length = n
  | 0 => rfl
  | n + 1 => by simp [firstW, firstW_len s n]
theorem wordsN_len (s : ByteArray) : ∀ n, (wordsN s n).length = 16 + n
  | 0 => firstW_len s 16
  | n + 1 => by simp [wordsN, wordsN_len s n]; omega
structure St where
  a : Int
  b : Int
  c : Int
  d : Int
  e : Int
  f : Int
  g : Int
  h : Int
def St.val (t : St) : Value := .agg #[.int .u32 t.a, .int .u32 t.b, .int .u32 t.c, .int .u32 t.d, .int .u32 t.e, .int .u32 t.f, .int .u32 t.g, .int .u32 t.h]
theorem byte_eq (s : ByteArray) (i : Nat) (h : i < s.size) : ((s[i]'h).toNat : Int) % 4294967296 = byteAt s i := by
  unfold byteAt
  have h1 : s.data.toList.getD i 0 = s[i]'h := by
    have h2 : i < s.data.toList.length := by simpa using h
    rw [List.getD_eq_getElem?_getD, List.getElem?_eq_getElem h2]
    rfl
  rw [h1]
  have := (s[i]'h).toNat_lt
  omega
def notU (x : Int) : Int := Go.bits .xor .u32 (if IntKind.u32.signed = true then -1 else IntKind.u32.max) x
def chF (t : St) : Int := Go.bits .xor .u32 (Go.bits .and .u32 t.e t.f) (Go.bits .and .u32 (notU t.e) t.g)
def majF (t : St) : Int := Go.bits .xor .u32 (Go.bits .xor .u32 (Go.bits .and .u32 t.a t.b) (Go.bits .and .u32 t.a t.c)) (Go.bits .and .u32 t.b t.c)
def sig1 (e : Int) : Int := Go.bits .xor .u32 (Go.bits .xor .u32 (rotl e 26) (rotl e 21)) (rotl e 7)
def sig0 (a : Int) : Int := Go.bits .xor .u32 (Go.bits .xor .u32 (rotl a 30) (rotl a 19)) (rotl a 10)
def xF (t : St) (k w : Int) : Int := t.h + chF t + k + w + sig1 t.e
def stepR (t : St) (k w : Int) : St := ⟨(xF t k w + (majF t + sig0 t.a)) % 4294967296, t.a, t.b, t.c, (t.d + xF t k w) % 4294967296, t.e, t.f, t.g⟩
def keysL : List Int := [1116352408, 1899447441, 3049323471, 3921009573, 961987163, 1508970993, 2453635748, 2870763221, 3624381080, 310598401, 607225278, 1426881987, 1925078388, 2162078206, 2614888103, 3248222580, 3835390401, 4022224774, 264347078, 604807628, 770255983, 1249150122, 1555081692, 1996064986, 2554220882, 2821834349, 2952996808, 3210313671, 3336571891, 3584528711, 113926993, 338241895, 666307205, 773529912, 1294757372, 1396182291, 1695183700, 1986661051, 2177026350, 2456956037, 2730485921, 2820302411, 3259730800, 3345764771, 3516065817, 3600352804, 4094571909, 275423344, 430227734, 506948616, 659060556, 883997877, 958139571, 1322822218, 1537002063, 1747873779, 1955562222, 2024104815, 2227730452, 2361852424, 2428436474, 2756734187, 3204031479, 3329325298]
def mixTo (t : St) (ws : List Int) : Nat → St
  | 0 => t
  | n + 1 => stepR (mixTo t ws n) (keysL.getD n 0) (ws.getD n 0)
def St.add (s t : St) : St := ⟨(s.a + t.a) % 4294967296, (s.b + t.b) % 4294967296, (s.c + t.c) % 4294967296, (s.d + t.d) % 4294967296, (s.e + t.e) % 4294967296, (s.f + t.f) % 4294967296, (s.g + t.g) % 4294967296, (s.h + t.h) % 4294967296⟩
/-- A state behind the first 64 bytes. -/
def mixF (t : St) (s : ByteArray) : St := t.add (mixTo t (wordsN s 48) 64)
def begin0 : St := ⟨1779033703, 3144134277, 1013904242, 2773480762, 1359893119, 2600822924, 528734635, 1541459225⟩
/-- All whole blocks of bytes, eaten. -/
def eatN : Nat → St → ByteArray → St × ByteArray
  | 0, t, s => (t, s)
  | n + 1, t, s => if 64 ≤ s.size then eatN n (mixF t s) (s.extract 64 s.size) else (t, s)
def eat (t : St) (s : ByteArray) : St × ByteArray := eatN s.size t s
theorem eatN_enough : ∀ (n m : Nat) (t : St) (s : ByteArray), s.size ≤ n → s.size ≤ m → eatN n t s = eatN m t s := by
  intro n
  induction n with
  | zero =>
    intro m t s h1 h2
    cases m with
    | zero => rfl
    | succ m => simp only [eatN]; rw [if_neg (by omega)]
  | succ n ih =>
    intro m t s h1 h2
    cases m with
    | zero => simp only [eatN]; rw [if_neg (by omega)]
    | succ m =>
      simp only [eatN]
      split
      · rename_i h
        exact ih m _ _ (by rw [ByteArray.size_extract]; omega) (by rw [ByteArray.size_extract]; omega)
      · rfl
theorem eat_more {t : St} {s : ByteArray} (h : 64 ≤ s.size) : eat t s = eat (mixF t s) (s.extract 64 s.size) := by
  unfold eat
  obtain ⟨n, hn⟩ : ∃ n, s.size = n + 1 := ⟨s.size - 1, by omega⟩
  rw [hn]
  simp only [eatN]
  rw [if_pos h, ← hn]
  exact eatN_enough _ _ _ _ (by rw [ByteArray.size_extract]; omega) (Nat.le_refl _)
theorem eat_end {t : St} {s : ByteArray} (h : ¬ 64 ≤ s.size) : eat t s = (t, s) := by
  unfold eat
  cases hs : s.size with
  | zero => rfl
  | succ n => simp only [eatN]; rw [if_neg h]
/-- The length's eight bytes, behind. -/
def lenTo (pre : ByteArray) (n : Nat) : Nat → ByteArray
  | 0 => pre
  | j + 1 => lenTo pre n j ++ Go.Hs.strN [n * 8 / 2 ^ (8 * (7 - j)) % 256]
theorem lenTo_size (pre : ByteArray) (n : Nat) : ∀ j, (lenTo pre n j).size = pre.size + j
  | 0 => rfl
  | j + 1 => by
    rw [lenTo, ByteArray.size_append, lenTo_size pre n j]
    show _ + 1 = _
    omega
def padB (left : ByteArray) (n : Nat) : ByteArray := lenTo (left ++ ⟨#[128]⟩ ++ ⟨(List.replicate ((119 - left.size) % 64) 0).toArray⟩) n 8
theorem padB_size {left : ByteArray} (h : left.size < 64) (n : Nat) : (padB left n).size = 64 ∨ (padB left n).size = 128 := by
  unfold padB
  rw [lenTo_size, ByteArray.size_append, ByteArray.size_append]
  have h1 : (⟨#[128]⟩ : ByteArray).size = 1 := rfl
  have h2 : (⟨(List.replicate ((119 - left.size) % 64) 0).toArray⟩ : ByteArray).size = (119 - left.size) % 64 := by
    show (List.replicate ((119 - left.size) % 64) (0 : UInt8)).toArray.size = _
    simp
  rw [h1, h2]
  omega
end Go.Dg
set_option linter.unusedSimpArgs false
set_option linter.unusedVariables false
set_option maxHeartbeats 1000000
set_option maxRecDepth 100000
namespace Go.Proofs.Ytjicjadibaomkaa
open Go.RowKit Go.Hs Go.Dg

theorem infoU32 : (Try.prog.info? 89).map (fun i => (i.zero, i.size, i.bytes)) = some (some (.int .u32 0), 1, 4) := by kernel_rfl
theorem rot_any (x : Int) (k : Nat) (hk1 : 1 ≤ k) (hk2 : k ≤ 31) (hb : Go.bits .and .u64 (k : Int) 31 = k) (w : World) :
    Calls Try.prog 55 #[.int .u32 x, .int .i64 k] w fun e w' => e = .returned (.int .u32 (rotl x k)) ∧ w' = w := by
  have h1 : (1 : Int) ≤ k := by omega
  have h2 : (k : Int) ≤ 31 := by omega
  have h3 : ((32 : Int) - k).toNat = 32 - k := by omega
  go_enter Try.func55, Try.ntmps55
  go_wp2
  go_ret
  exact ⟨rfl, rfl⟩
theorem rot25 (x : Int) (w : World) : Calls Try.prog 55 #[.int .u32 x, .int .i64 25] w fun e w' => e = .returned (.int .u32 (rotl x 25)) ∧ w' = w := rot_any x 25 (by decide) (by decide) (by decide +kernel) w
theorem rot14 (x : Int) (w : World) : Calls Try.prog 55 #[.int .u32 x, .int .i64 14] w fun e w' => e = .returned (.int .u32 (rotl x 14)) ∧ w' = w := rot_any x 14 (by decide) (by decide) (by decide +kernel) w
theorem rot15 (x : Int) (w : World) : Calls Try.prog 55 #[.int .u32 x, .int .i64 15] w fun e w' => e = .returned (.int .u32 (rotl x 15)) ∧ w' = w := rot_any x 15 (by decide) (by decide) (by decide +kernel) w
theorem rot13 (x : Int) (w : World) : Calls Try.prog 55 #[.int .u32 x, .int .i64 13] w fun e w' => e = .returned (.int .u32 (rotl x 13)) ∧ w' = w := rot_any x 13 (by decide) (by decide) (by decide +kernel) w
theorem rot26 (x : Int) (w : World) : Calls Try.prog 55 #[.int .u32 x, .int .i64 26] w fun e w' => e = .returned (.int .u32 (rotl x 26)) ∧ w' = w := rot_any x 26 (by decide) (by decide) (by decide +kernel) w
theorem rot21 (x : Int) (w : World) : Calls Try.prog 55 #[.int .u32 x, .int .i64 21] w fun e w' => e = .returned (.int .u32 (rotl x 21)) ∧ w' = w := rot_any x 21 (by decide) (by decide) (by decide +kernel) w
theorem rot7 (x : Int) (w : World) : Calls Try.prog 55 #[.int .u32 x, .int .i64 7] w fun e w' => e = .returned (.int .u32 (rotl x 7)) ∧ w' = w := rot_any x 7 (by decide) (by decide) (by decide +kernel) w
theorem rot30 (x : Int) (w : World) : Calls Try.prog 55 #[.int .u32 x, .int .i64 30] w fun e w' => e = .returned (.int .u32 (rotl x 30)) ∧ w' = w := rot_any x 30 (by decide) (by decide) (by decide +kernel) w
theorem rot19 (x : Int) (w : World) : Calls Try.prog 55 #[.int .u32 x, .int .i64 19] w fun e w' => e = .returned (.int .u32 (rotl x 19)) ∧ w' = w := rot_any x 19 (by decide) (by decide) (by decide +kernel) w
theorem rot10 (x : Int) (w : World) : Calls Try.prog 55 #[.int .u32 x, .int .i64 10] w fun e w' => e = .returned (.int .u32 (rotl x 10)) ∧ w' = w := rot_any x 10 (by decide) (by decide) (by decide +kernel) w
theorem rotI (x K : Int) (w : World) (h : 1 ≤ K ∧ K ≤ 31) (hb : Go.bits .and .u64 K 31 = K) : Calls Try.prog 55 #[.int .u32 x, .int .i64 K] w fun e w' => e = .returned (.int .u32 (rotl x K.toNat)) ∧ w' = w := by
  obtain ⟨k, rfl⟩ := Int.eq_ofNat_of_zero_le (show 0 ≤ K by omega)
  exact rot_any x k (by omega) (by omega) hb w
theorem own_made {w : World} {z : Value} {e : TypeId} {c : Nat} (hc : c ≤ maxLen) : Own (w.alloc (.cells (Array.replicate c z) e)).heap e 1 (.slice (some ⟨w.heap.size, 0, none⟩) 0 c) 0 [] :=
  ⟨rfl, .inr ⟨_, c, _, rfl, Nat.zero_le _, heap_new _ _, Nat.zero_le _, hc, by simp, by simp⟩⟩
/-- A row of words of the call's own. -/
structure WsAt (w wr : World) (ao : Option Addr) (n cap : Nat) (l : List Int) : Prop where
  own : Own wr.heap 89 1 (.slice ao n cap) n (l.map (Value.int .u32))
  ext : Ext [] w wr
  lo : ∀ g, (Value.slice ao n cap).ownBlock = some g → w.heap.size ≤ g
theorem WsAt.ext0 {w wr w' : World} {ao : Option Addr} {n cap : Nat} {l : List Int} (h : WsAt w wr ao n cap l) (hx : Ext [] wr w') : WsAt w w' ao n cap l :=
  ⟨h.own.same fun g hg => hx.block g (h.own.lt hg) (by simp), h.ext.trans0 hx, h.lo⟩
theorem WsAt.grow {w wr w' : World} {ao ao2 : Option Addr} {n cap cap2 : Nat} {l : List Int} {x : Int} (h : WsAt w wr ao n cap l) (o : Own w'.heap 89 1 (.slice ao2 (n + 1) cap2) (n + 1) (l.map (Value.int .u32) ++ [.int .u32 x]))
    (hx : Ext (Value.slice ao n cap).ownBlock.toList wr w') (hf : ∀ g, (Value.slice ao2 (n + 1) cap2).ownBlock = some g → (Value.slice ao n cap).ownBlock = some g ∨ wr.heap.size ≤ g) : WsAt w w' ao2 (n + 1) cap2 (l ++ [x]) := by
  refine ⟨by simpa using o, h.ext.trans hx (fun g hg => .inr (h.lo g (by simpa using hg))), fun g hg => ?_⟩
  rcases hf g hg with q | q
  · exact h.lo g q
  · have := h.ext.size; omega
theorem WsAt.cell {w wr : World} {ao : Option Addr} {n cap : Nat} {l : List Int} (h : WsAt w wr ao n cap l) {k : Nat} (hk : k < n) : ∃ g, ao = some ⟨g, 0, none⟩ ∧ wr.cell? ⟨g, k, none⟩ = some (.int .u32 (l.getD k 0)) := by
  have hl : l.length = n := by have := h.own.1; simpa using this
  rcases h.own.2 with ⟨h1, h2⟩ | ⟨g, c, cur, h1, _⟩
  · omega
  · cases h1
    refine ⟨g, rfl, ?_⟩
    have := Own.cells (w := wr) rfl h.own (g := g) rfl k (.int .u32 (l.getD k 0)) (by simp [List.getElem?_map, List.getD, show k < l.length by omega])
    rwa [add_off'] at this
theorem words_any (s : ByteArray) (hs : 64 ≤ s.size) (hm : s.size ≤ maxLen) (w : World) :
    Calls Try.prog 54 #[.string s] w fun e w' => ∃ ao cap, e = .returned (.slice ao 64 cap) ∧ WsAt w w' ao 64 cap (wordsN s 48) := by
  unfold maxLen at hm
  have hsi : (64 : Int) ≤ s.size := by omega
  have hmi : (s.size : Int) ≤ 9223372036854775807 := by omega
  have hmk : ∀ w : World, (Instr.makeSlice 98 (.int .i64 0) (.int .i64 64)).run Try.prog w = .ok (.slice (some ⟨w.heap.size, 0, none⟩) 0 64) (w.alloc (.cells (Array.replicate 64 (.int .u32 0)) 89)) := fun _ => by kernel_rfl
  obtain ⟨i0, hi, hz0, hz1, hz2⟩ := info_parts infoU32
  have h0 : WsAt w (w.alloc (.cells (Array.replicate 64 (.int .u32 0)) 89)) (some ⟨w.heap.size, 0, none⟩) 0 64 [] :=
    ⟨own_made (by decide), (Ext.refl _ _).alloc _, fun g hg => by simp [Value.ownBlock] at hg; omega⟩
  have HI := Hs.hid hi
  have HZ := Hs.hid (And.intro hz0 (And.intro hz1 hz2))
  clear hi hz0 hz1 hz2
  go_enter Try.func54, Try.ntmps54
  go_wp2
  clear hmk
  go_loopw [13, 3] (fun ii v wr => ∃ n ao cap, n ≤ 16 ∧ ii = .int .i64 (n : Nat) ∧ v = .slice ao n cap ∧ WsAt w wr ao n cap (firstW s n)) (fun ii _ _ => 16 - (intOf ii).toNat)
  case atStart => exact ⟨0, _, _, Nat.zero_le _, rfl, rfl, h0⟩
  case round =>
    clear h0
    obtain ⟨n, ao, cap, hn, rfl, rfl, hW⟩ := hrel
    have hn0 : (0 : Int) ≤ n := by omega
    by_cases hlt : n < 16
    · have hni : (n : Int) < 16 := by omega
      have HN := Hs.hid (And.intro hn hlt)
      clear hn hlt
      go_wp2
      go_loop [16, 5] (fun kk x => ∃ k : Nat, k ≤ 4 ∧ kk = .int .i64 k ∧ x = .int .u32 (word0 s n k)) (fun kk _ => 4 - (intOf kk).toNat)
      case atStart => exact ⟨0, Nat.zero_le _, rfl, rfl⟩
      case round =>
        obtain ⟨k, hk, rfl, rfl⟩ := hrel
        have hk0 : (0 : Int) ≤ k := by omega
        by_cases hkl : k < 4
        · have hki : (k : Int) < 4 := by omega
          have HK := Hs.hid hkl
          clear hk hkl
          have hb := byte_eq s (4 * n + k) (by have := HN.out; have := HK.out; omega)
          have HB := Hs.hid hb
          clear hb
          go_wp2
          go_round
          case rel => exact ⟨k + 1, HK.out, by go_num, by rw [HB.out]; rfl⟩
          case measure => have := HK.out; simp [intOf]; omega
        · obtain rfl : k = 4 := by omega
          have hm1 : n + 1 ≤ maxLen := by have := HN.out; simp [maxLen]; omega
          have hm2 : (n + 1) * 4 ≤ 140737488355328 := by have := HN.out; omega
          have hi := HI.out
          obtain ⟨hz0, hz1, hz2⟩ := HZ.out
          clear hk hk0
          go_wp2_with (at_builtin; refine wpList_append rfl (.tmp 30) (.tmp 32) 98 rfl 89 i0 _ 1 4 Try.underlying98 hi hz0 hz1 hz2 rfl (by decide) (.slice ao n cap) n _ rfl (hW.own.alloc _) ⟨wr.heap.size, 0, none⟩ 1 1 [.int .u32 (word0 s n 4)] rfl rfl (news_new wr _ _) (by simp [Value.oneCell']) hm1 hm2 ?_; intro ao2 cap2 w2 hl2 hx2 hf2)
          have hW2 := (hW.ext0 ((Ext.refl [] wr).alloc (.cells #[.int .u32 (word0 s n 4)] 89))).grow hl2 hx2 hf2
          clear hi hz0 hz1 hz2 hm1 hm2 hl2 hx2 hf2
          go_roundw
          case rel => exact ⟨n + 1, ao2, cap2, HN.out.2, by go_num, rfl, hW2⟩
          case measure => have := HN.out; simp [intOf]; omega
    · obtain rfl : n = 16 := by omega
      clear hn hlt hn0
      go_wp2
      rw [show ((16 : Nat) : Int) = 16 from rfl]
      have hW0 : WsAt w wr ao (16 + 0) cap (wordsN s 0) := hW
      clear hW
      go_loopw [7, 3] (fun ii v wr => ∃ n ao cap, n ≤ 48 ∧ ii = .int .i64 ((16 + n : Nat) : Int) ∧ v = .slice ao (16 + n) cap ∧ WsAt w wr ao (16 + n) cap (wordsN s n)) (fun ii _ _ => 64 - (intOf ii).toNat)
      case atStart => exact ⟨0, ao, cap, Nat.zero_le _, rfl, rfl, hW0⟩
      case round =>
        clear hW0
        obtain ⟨n, ao, cap, hn, rfl, rfl, hW⟩ := hrel
        have hlen := wordsN_len s n
        obtain ⟨l, hl⟩ : ∃ l, wordsN s n = l := ⟨_, rfl⟩
        have hnx : wordsN s (n + 1) = l ++ [nextW l] := by simp only [wordsN, hl]
        rw [hl] at hW hlen
        have HNX := Hs.hid hnx
        have HL := Hs.hid hl
        clear hnx hl
        by_cases hlt : n < 48
        · obtain ⟨m, hm⟩ : ∃ m, 16 + n = m := ⟨_, rfl⟩
          rw [hm] at hW hlen ⊢
          have hm16 : (16 : Int) ≤ m := by omega
          have hm64 : (m : Int) < 64 := by omega
          obtain ⟨g, rfl, c15⟩ := hW.cell (k := m - 15) (by omega)
          obtain ⟨_, e2, c2⟩ := hW.cell (k := m - 2) (by omega); cases e2
          obtain ⟨_, e7, c7⟩ := hW.cell (k := m - 7) (by omega); cases e7
          obtain ⟨_, e16, c16⟩ := hW.cell (k := m - 16) (by omega); cases e16
          have t15 : ((m : Int) - 15).toNat = m - 15 := by omega
          have t2 : ((m : Int) - 2).toNat = m - 2 := by omega
          have t7 : ((m : Int) - 7).toNat = m - 7 := by omega
          have t16 : ((m : Int) - 16).toNat = m - 16 := by omega
          have b15 : (0 : Int) ≤ (m : Int) - 15 ∧ (m : Int) - 15 < m := by omega
          have b2 : (0 : Int) ≤ (m : Int) - 2 ∧ (m : Int) - 2 < m := by omega
          have b7 : (0 : Int) ≤ (m : Int) - 7 ∧ (m : Int) - 7 < m := by omega
          have b16 : (0 : Int) ≤ (m : Int) - 16 ∧ (m : Int) - 16 < m := by omega
          obtain ⟨b15, d15⟩ := b15
          obtain ⟨b2, d2⟩ := b2
          obtain ⟨b7, d7⟩ := b7
          obtain ⟨b16, d16⟩ := b16
          have HM := Hs.hid hm
          have HN := Hs.hid (And.intro hn hlt)
          have HLEN := Hs.hid hlen
          obtain ⟨x15, hx15⟩ : ∃ x, l.getD (m - 15) 0 = x := ⟨_, rfl⟩
          obtain ⟨x2, hx2⟩ : ∃ x, l.getD (m - 2) 0 = x := ⟨_, rfl⟩
          obtain ⟨x7, hx7⟩ : ∃ x, l.getD (m - 7) 0 = x := ⟨_, rfl⟩
          obtain ⟨x16, hx16⟩ : ∃ x, l.getD (m - 16) 0 = x := ⟨_, rfl⟩
          rw [hx15] at c15
          rw [hx2] at c2
          rw [hx7] at c7
          rw [hx16] at c16
          have HX := Hs.hid (And.intro hx16 (And.intro hx15 (And.intro hx7 hx2)))
          clear hm hn hlt hlen hx15 hx2 hx7 hx16
          go_upto_region 16 with fail
          go_quiet (fail)
          have hW := hW.ext0 ((Ext.refl [] wr).drewN nq)
          clear c15 c2 t15 t2 b15 d15 b2 d2
          go_upto_region 19 with (first
            | (go_at_call 55; with_reducible refine (rot25 _ _).mono ?_; rintro e w4 ⟨rfl, rfl⟩)
            | (go_at_call 55; with_reducible refine (rot14 _ _).mono ?_; rintro e w4 ⟨rfl, rfl⟩)
            | (go_at_call 55; with_reducible refine (rot15 _ _).mono ?_; rintro e w4 ⟨rfl, rfl⟩)
            | (go_at_call 55; with_reducible refine (rot13 _ _).mono ?_; rintro e w4 ⟨rfl, rfl⟩))
          have hm1 : m + 1 ≤ maxLen := by have := HN.out; have := HM.out; simp [maxLen]; omega
          have hm2 : (m + 1) * 4 ≤ 140737488355328 := by have := HN.out; have := HM.out; omega
          have hi := HI.out
          obtain ⟨hz0, hz1, hz2⟩ := HZ.out
          have c16 : (wr.drewN nq).cell? ⟨g, m - 16, none⟩ = some (.int .u32 x16) := c16
          have c7 : (wr.drewN nq).cell? ⟨g, m - 7, none⟩ = some (.int .u32 x7) := c7
          generalize wr.drewN nq = wr at *
          have w16 : IntKind.i64.wrap ((m : Int) - 16) = (m : Int) - 16 := IntWalk.i64_in _ (by omega)
          have w7 : IntKind.i64.wrap ((m : Int) - 7) = (m : Int) - 7 := IntWalk.i64_in _ (by omega)
          have hm7 : (7 : Int) ≤ m := by omega
          have hnw : nextW l = IntKind.u32.wrap (IntKind.u32.wrap (IntKind.u32.wrap (x16 + smallS x15) + x7) + greatS x2) := by
            unfold nextW
            rw [HLEN.out, HX.out.1, HX.out.2.1, HX.out.2.2.1, HX.out.2.2.2]
            simp only [IntKind.wrap_u32]
          have HNW := Hs.hid hnw
          clear hnw
          go_region_law (refine step_append_own rfl (.tmp 65) (.tmp 81) 98 rfl 89 i0 _ 1 4 Try.underlying98 hi hz0 hz1 hz2 rfl (by decide) (.slice (some ⟨g, 0, none⟩) m cap) m _ (by simp [Act.eval, Act.put]) ((hW.ext0 (Ext.drew (Ext.refl [] _))).own.alloc _) ⟨wr.heap.size, 0, none⟩ 1 1 [.int .u32 _] (by simp [Act.eval, Act.put]) rfl (news_new wr.drew _ _) (by simp [Value.oneCell']) hm1 hm2 ?_; intro ao2 cap2 w2 hl2 hx2 hf2)
          all_goals
            have hW2 := (hW.ext0 (by first | exact ((Ext.refl [] wr).alloc _).drew | exact ((Ext.refl [] wr).drew).alloc _)).grow hl2 hx2 hf2
            have hW3 : WsAt w w2 ao2 (16 + (n + 1)) cap2 (wordsN s (n + 1)) := by
              rw [HNX.out, HNW.out, show 16 + (n + 1) = m + 1 by have := HM.out; omega]
              exact hW2
            clear hi hz0 hz1 hz2 hm1 hm2 hl2 hx2 hf2 hW2 c16 c7 w16 w7 hW t7 t16 b7 d7 b16 d16
            go_wp2
            go_roundw
            case rel => exact ⟨n + 1, ao2, cap2, HN.out.2, by have := HM.out; exact congrArg (Value.int .i64) (by omega), by rw [show 16 + (n + 1) = m + 1 by have := HM.out; omega], hW3⟩
            case measure => have := HM.out; have := HN.out; simp [intOf]; omega
        · obtain rfl : n = 48 := by omega
          go_wp2
          go_ret
          exact ⟨ao, cap, rfl, by rw [HL.out]; exact hW⟩
end Go.Proofs.Ytjicjadibaomkaa
set_option linter.unusedSimpArgs false
set_option linter.unusedVariables false
set_option maxHeartbeats 1000000
set_option maxRecDepth 100000
namespace Go.Proofs.Ytjicjadibaomkaa
open Go.RowKit Go.Hs Go.Dg

theorem round_any (w : World) : Calls Try.prog 53 #[] w fun e w' => e = .returned (.slice (some ⟨w.heap.size, 0, none⟩) 64 64) ∧ w' = w.alloc (.cells (keysL.map (Value.int .u32)).toArray 89) := by
  go_enter Try.func53, Try.ntmps53
  go_wp2
  go_ret
  exact ⟨rfl, rfl⟩
abbrev stCell (t : St) : Obj := .cells #[.int .u32 t.a, .int .u32 t.b, .int .u32 t.c, .int .u32 t.d, .int .u32 t.e, .int .u32 t.f, .int .u32 t.g, .int .u32 t.h] 91 (0, 0)
abbrev zSt : St := ⟨0, 0, 0, 0, 0, 0, 0, 0⟩
structure MxAt (w wr : World) (A R T Kb : Nat) (ao : Option Addr) (cap : Nat) (t0 tn : St) (ws : List Int) : Prop where
  a : wr.heap[A]? = some (stCell t0)
  r : wr.heap[R]? = some (stCell zSt)
  t : wr.heap[T]? = some (stCell tn)
  k : wr.heap[Kb]? = some (.cells (keysL.map (Value.int .u32)).toArray 89 (0, 0))
  ws : WsAt w wr ao 64 cap ws
  ne : T ≠ A ∧ T ≠ R ∧ w.heap.size ≤ T ∧ w.heap.size ≤ R
theorem MxAt.ext0 {w wr w' : World} {A R T Kb : Nat} {ao : Option Addr} {cap : Nat} {t0 tn : St} {ws : List Int} (h : MxAt w wr A R T Kb ao cap t0 tn ws) (hx : Ext [] wr w') : MxAt w w' A R T Kb ao cap t0 tn ws :=
  ⟨hx.same h.a (by simp), hx.same h.r (by simp), hx.same h.t (by simp), hx.same h.k (by simp), h.ws.ext0 hx, h.ne⟩
theorem st_cells {w : World} {T : Nat} {t : St} (h : w.heap[T]? = some (stCell t)) : w.cell? ⟨T, 0, none⟩ = some (.int .u32 t.a) ∧ w.cell? ⟨T, 1, none⟩ = some (.int .u32 t.b) ∧ w.cell? ⟨T, 2, none⟩ = some (.int .u32 t.c) ∧ w.cell? ⟨T, 3, none⟩ = some (.int .u32 t.d) ∧
    w.cell? ⟨T, 4, none⟩ = some (.int .u32 t.e) ∧ w.cell? ⟨T, 5, none⟩ = some (.int .u32 t.f) ∧ w.cell? ⟨T, 6, none⟩ = some (.int .u32 t.g) ∧ w.cell? ⟨T, 7, none⟩ = some (.int .u32 t.h) := ⟨cellAt h 0, cellAt h 1, cellAt h 2, cellAt h 3, cellAt h 4, cellAt h 5, cellAt h 6, cellAt h 7⟩
theorem keys_cell {w : World} {Kb : Nat} (h : w.heap[Kb]? = some (.cells (keysL.map (Value.int .u32)).toArray 89 (0, 0))) {k : Nat} (hk : k < 64) : w.cell? ⟨Kb, k, none⟩ = some (.int .u32 (keysL.getD k 0)) := by
  rw [cellAt h k]
  have hl : k < keysL.length := by simpa [keysL] using hk
  simp [List.getElem?_map, List.getD, hl]
theorem MxAt.put {w wr : World} {A R T Kb : Nat} {ao : Option Addr} {cap : Nat} {t0 tn : St} {ws : List Int} (h : MxAt w wr A R T Kb ao cap t0 tn ws) (hws : ∀ g, ao = some ⟨g, 0, none⟩ → g ≠ T) (hk : T ≠ Kb) (v0 v1 v2 v3 v4 v5 v6 v7 : Int) :
    MxAt w ((((((((wr.setCell ⟨T, 0, none⟩ (.int .u32 v0)).setCell ⟨T, 1, none⟩ (.int .u32 v1)).setCell ⟨T, 2, none⟩ (.int .u32 v2)).setCell ⟨T, 3, none⟩ (.int .u32 v3)).setCell ⟨T, 4, none⟩ (.int .u32 v4)).setCell ⟨T, 5, none⟩ (.int .u32 v5)).setCell ⟨T, 6, none⟩ (.int .u32 v6)).setCell ⟨T, 7, none⟩ (.int .u32 v7)) A R T Kb ao cap t0 ⟨v0, v1, v2, v3, v4, v5, v6, v7⟩ ws := by
  have hx : Ext [T] wr ((((((((wr.setCell ⟨T, 0, none⟩ (.int .u32 v0)).setCell ⟨T, 1, none⟩ (.int .u32 v1)).setCell ⟨T, 2, none⟩ (.int .u32 v2)).setCell ⟨T, 3, none⟩ (.int .u32 v3)).setCell ⟨T, 4, none⟩ (.int .u32 v4)).setCell ⟨T, 5, none⟩ (.int .u32 v5)).setCell ⟨T, 6, none⟩ (.int .u32 v6)).setCell ⟨T, 7, none⟩ (.int .u32 v7)) := by
    repeat (first | (with_reducible exact Ext.refl _ _) | (with_reducible refine Ext.set' (List.mem_singleton.2 rfl) ?_ _ _))
  obtain ⟨n1, n2, n3, n4⟩ := h.ne
  refine ⟨hx.same h.a (by simp; exact Ne.symm n1), hx.same h.r (by simp; exact Ne.symm n2), ?_, hx.same h.k (by simp; exact Ne.symm hk), ⟨h.ws.own.same fun g hg => hx.block g (h.ws.own.lt hg) ?_, h.ws.ext.trans hx (fun g hg => .inr (by simp at hg; omega)), h.ws.lo⟩, h.ne⟩
  · refine Eq.trans (heap_set (heap_set (heap_set (heap_set (heap_set (heap_set (heap_set (heap_set h.t 0 _) 1 _) 2 _) 3 _) 4 _) 5 _) 6 _) 7 _) ?_
    simp
  · rcases h.ws.own.2 with ⟨_, q⟩ | ⟨g', c', cur, e1, _⟩
    · omega
    · cases e1
      cases hg
      simpa using hws _ rfl
theorem mix_any (t : St) (s : ByteArray) (hs : 64 ≤ s.size) (hm : s.size ≤ maxLen) (w : World) :
    Calls Try.prog 47 #[t.val, .string s] w fun e w' => e = .returned (mixF t s).val ∧ Ext [] w w' := by
  unfold St.val
  have h0 : ∀ (w5 : World) (ao : Option Addr) (cap : Nat), WsAt ((((w.alloc (stCell t)).alloc (stCell zSt)).alloc (stCell t)).alloc (.cells (keysL.map (Value.int .u32)).toArray 89)) w5 ao 64 cap (wordsN s 48) →
      MxAt w w5 w.heap.size (w.heap.size + 1) (w.heap.size + 1 + 1) (w.heap.size + 1 + 1 + 1) ao cap t t (wordsN s 48) := by
    intro w5 ao cap hW
    have h1 : (w.alloc (stCell t)).heap.size = w.heap.size + 1 := by simp
    have h2 : ((w.alloc (stCell t)).alloc (stCell zSt)).heap.size = w.heap.size + 1 + 1 := by simp
    have h3 : (((w.alloc (stCell t)).alloc (stCell zSt)).alloc (stCell t)).heap.size = w.heap.size + 1 + 1 + 1 := by simp
    have hx := hW.ext
    refine ⟨hx.same (heap_old' _ _ (heap_old' _ _ (heap_old' _ _ (heap_new _ _)))) (by simp), hx.same (heap_old' _ _ (heap_old' _ _ (by rw [← h1]; exact heap_new _ _))) (by simp), hx.same (heap_old' _ _ (by rw [← h2]; exact heap_new _ _)) (by simp), hx.same (by rw [← h3]; exact heap_new _ _) (by simp), ?_, by omega⟩
    refine ⟨hW.own, ((((Ext.refl [] w).alloc _).alloc _).alloc _).alloc _ |>.trans0 hx, fun g hg => ?_⟩
    have := hW.lo g hg
    simp only [World.alloc] at this
    simp at this
    omega
  go_enter Try.func47, Try.ntmps47
  go_wp2_with (first
    | (go_at_call 53; refine (round_any _).mono ?_; rintro e w4 ⟨rfl, rfl⟩)
    | (go_at_call 54; refine (words_any s hs hm _).mono ?_; rintro e w5 ⟨ao, cap, rfl, hW⟩))
  have hM := h0 _ _ _ hW
  have hA := Hs.hid (show w.heap.size = w.heap.size from rfl)
  clear h0 hW
  obtain ⟨A, hA⟩ : ∃ A, w.heap.size = A := ⟨_, rfl⟩
  have HA := Hs.hid hA
  rw [hA] at hM ⊢
  clear hA
  go_loopw [18] (fun ii wr => ∃ n tn, n ≤ 64 ∧ ii = .int .i64 (n : Nat) ∧ MxAt w wr A (A + 1) (A + 1 + 1) (A + 1 + 1 + 1) ao cap t tn (wordsN s 48) ∧ Hid (tn = mixTo t (wordsN s 48) n)) (fun ii _ => 64 - (intOf ii).toNat)
  case atStart => exact ⟨0, t, Nat.zero_le _, rfl, hM, Hs.hid rfl⟩
  case round =>
    clear hM
    obtain ⟨n, tn, hn, rfl, hM, HT⟩ := hrel
    have hn0 : (0 : Int) ≤ n := by omega
    by_cases hlt : n < 64
    · have hni : (n : Int) < 64 := by omega
      obtain ⟨g, rfl, cw⟩ := hM.ws.cell hlt
      have ck := keys_cell hM.k hlt
      have HG : Hid (g ≠ A + 1 + 1) := Hs.hid (by
        have hb := hM.ws.own.block (g := g) rfl
        obtain ⟨cur, hc⟩ := hb
        exact ne_block hc hM.t (by simp))
      obtain ⟨c0, c1, c2, c3, c4, c5, c6, c7⟩ := st_cells hM.t
      have cf := freeAt hM.t
      obtain ⟨wv, hwv⟩ : ∃ v, (wordsN s 48).getD n 0 = v := ⟨_, rfl⟩
      obtain ⟨kv, hkv⟩ : ∃ v, keysL.getD n 0 = v := ⟨_, rfl⟩
      rw [hwv] at cw
      rw [hkv] at ck
      have HV := Hs.hid (And.intro hwv hkv)
      have HN := Hs.hid (And.intro hn hlt)
      clear hwv hkv hn hlt
      go_upto_region 8 with fail
      go_quiet (fail)
      have hM := hM.ext0 ((Ext.refl [] wr).drewN nq)
      clear c0 c1 c2 c3 c4 c5 c6 c7 cf cw ck
      generalize wr.drewN nq = wa at *
      obtain ⟨c0, c1, c2, c3, c4, c5, c6, c7⟩ := st_cells hM.t
      have cf := freeAt hM.t
      go_upto_region 9 with fail
      go_quiet ((go_at_call 55; exact Calls.quiet_of_same (rotI _ _ _ (by decide) (by decide +kernel))))
      have hM := hM.ext0 ((Ext.refl [] wa).drewN nq)
      clear c0 c1 c2 c3 c4 c5 c6 c7 cf
      generalize wa.drewN nq = wb at *
      obtain ⟨c0, c1, c2, c3, c4, c5, c6, c7⟩ := st_cells hM.t
      have cf := freeAt hM.t
      go_upto_region 11 with fail
      go_quiet ((go_at_call 55; exact Calls.quiet_of_same (rotI _ _ _ (by decide) (by decide +kernel))))
      have hM := hM.ext0 ((Ext.refl [] wb).drewN nq)
      clear c0 c1 c2 c3 c4 c5 c6 c7 cf
      generalize wb.drewN nq = wd at *
      obtain ⟨c0, c1, c2, c3, c4, c5, c6, c7⟩ := st_cells hM.t
      have cf := freeAt hM.t
      go_wp2
      go_round
      case rel =>
        refine ⟨n + 1, ⟨_, _, _, _, _, _, _, _⟩, HN.out.2, by go_num, hM.put (fun g' e => ?_) (by omega) _ _ _ _ _ _ _ _, Hs.hid ?_⟩
        · cases e; exact HG.out
        · rw [mixTo, ← HT.out, HV.out.1, HV.out.2]
          unfold stepR xF chF majF sig1 sig0 notU
          rfl
      case measure => have := HN.out; simp [intOf]; omega
    · obtain rfl : n = 64 := by omega
      obtain ⟨c0, c1, c2, c3, c4, c5, c6, c7⟩ := st_cells hM.t
      obtain ⟨a0, a1, a2, a3, a4, a5, a6, a7⟩ := st_cells hM.a
      have rf := freeAt hM.r
      obtain ⟨r0, r1, r2, r3, r4, r5, r6, r7⟩ := st_cells hM.r
      have hsum : mixF t s = t.add tn := by unfold mixF; rw [HT.out]
      have HS := Hs.hid hsum
      clear hn hlt hn0 hsum
      go_wp2
      refine bodyPost_ret (v := (t.add tn).val) (by simp [results, Try.results47, go_sem, St.val, St.add, r0, r1, r2, r3, r4, r5, r6, r7]) rfl ⟨by rw [HS.out]; rfl, ?_⟩
      have hz := HA.out
      have hx := hM.ws.ext
      have hl : w.heap.size ≤ A + 1 := by omega
      repeat (first | (with_reducible exact hx) | (with_reducible refine Ext.setN hl ?_ _ _) | (with_reducible refine Ext.drew ?_))
end Go.Proofs.Ytjicjadibaomkaa
set_option linter.unusedSimpArgs false
set_option linter.unusedVariables false
set_option maxHeartbeats 1000000
set_option maxRecDepth 100000
namespace Go.Proofs.Ytjicjadibaomkaa
open Go.RowKit Go.Hs Go.Dg

/-- A Hash. -/
abbrev hashCell (t : St) (left : ByteArray) (n : Nat) : Obj := .cells #[.int .u32 t.a, .int .u32 t.b, .int .u32 t.c, .int .u32 t.d, .int .u32 t.e, .int .u32 t.f, .int .u32 t.g, .int .u32 t.h, .string left, .int .i64 n] 94 (0, 0)
theorem digBegin_any (w : World) : Calls Try.prog 46 #[] w fun e w' => e = .returned (.agg #[.int .u32 (begin0).a, .int .u32 (begin0).b, .int .u32 (begin0).c, .int .u32 (begin0).d, .int .u32 (begin0).e, .int .u32 (begin0).f, .int .u32 (begin0).g, .int .u32 (begin0).h]) ∧ Ext [] w w' :=
  by
  have hR := heap_new w (.cells #[.int .u32 1779033703, .int .u32 3144134277, .int .u32 1013904242, .int .u32 2773480762, .int .u32 1359893119, .int .u32 2600822924, .int .u32 528734635, .int .u32 1541459225] 91)
  go_enter Try.func46, Try.ntmps46
  go_wp2
  refine bodyPost_ret (v := .agg #[.int .u32 1779033703, .int .u32 3144134277, .int .u32 1013904242, .int .u32 2773480762, .int .u32 1359893119, .int .u32 2600822924, .int .u32 528734635, .int .u32 1541459225]) (results_cell_row (P := Try.prog) Try.results46 _ _ w.heap.size _ _ _ _ rfl hR Try.underlying91 rfl (show (Try.prog.info? 91).map (·.size) = some 8 by kernel_rfl)) rfl ⟨rfl, (Ext.refl _ _).alloc _⟩
theorem mix_lit (t : St) (s : ByteArray) (hs : 64 ≤ s.size) (hm : s.size ≤ maxLen) (w : World) :
    Calls Try.prog 47 #[.agg #[.int .u32 (t).a, .int .u32 (t).b, .int .u32 (t).c, .int .u32 (t).d, .int .u32 (t).e, .int .u32 (t).f, .int .u32 (t).g, .int .u32 (t).h], .string s] w fun e w' => e = .returned (.agg #[.int .u32 (mixF t s).a, .int .u32 (mixF t s).b, .int .u32 (mixF t s).c, .int .u32 (mixF t s).d, .int .u32 (mixF t s).e, .int .u32 (mixF t s).f, .int .u32 (mixF t s).g, .int .u32 (mixF t s).h]) ∧ Ext [] w w' := mix_any t s hs hm w
theorem digNew_any (w : World) : Calls Try.prog 30 #[] w fun e w' => ∃ b, e = .returned (.pointer (some ⟨b, 0, none⟩)) ∧ w'.heap[b]? = some (hashCell begin0 ⟨#[]⟩ 0) ∧ Ext [] w w' ∧ w.heap.size ≤ b := by
  go_enter Try.func30, Try.ntmps30
  go_wp2_with (go_at_call 46; refine (digBegin_any _).mono ?_; rintro e w4 ⟨rfl, hx⟩)
  go_ret
  exact ⟨_, rfl, heap_new _ _, hx.alloc _, hx.size⟩
theorem clone_any (s : ByteArray) (w : World) (hlim : s.size ≤ 281474976710656) : Calls Try.prog 48 #[.string s] w fun e w' => e = .returned (.string s) ∧ Ext [] w w' := by
  go_enter Try.func48, Try.ntmps48
  go_wp2_with (go_at_call 56; refine (Try.stringslite_Clone s _ hlim).mono ?_; rintro e w4 ⟨rfl, hx⟩)
  go_ret
  exact ⟨rfl, Ext.ofBelow hx⟩
theorem hcells {w : World} {b : Nat} {t : St} {left : ByteArray} {n : Nat} (h : w.heap[b]? = some (hashCell t left n)) : w.cell? ⟨b, 0, none⟩ = some (.int .u32 t.a) ∧ w.cell? ⟨b, 1, none⟩ = some (.int .u32 t.b) ∧ w.cell? ⟨b, 2, none⟩ = some (.int .u32 t.c) ∧ w.cell? ⟨b, 3, none⟩ = some (.int .u32 t.d) ∧
    w.cell? ⟨b, 4, none⟩ = some (.int .u32 t.e) ∧ w.cell? ⟨b, 5, none⟩ = some (.int .u32 t.f) ∧ w.cell? ⟨b, 6, none⟩ = some (.int .u32 t.g) ∧ w.cell? ⟨b, 7, none⟩ = some (.int .u32 t.h) ∧ w.cell? ⟨b, 8, none⟩ = some (.string left) ∧ w.cell? ⟨b, 9, none⟩ = some (.int .i64 n) :=
  ⟨cellAt h 0, cellAt h 1, cellAt h 2, cellAt h 3, cellAt h 4, cellAt h 5, cellAt h 6, cellAt h 7, cellAt h 8, cellAt h 9⟩
theorem hash_put {w : World} {b : Nat} {t : St} {left : ByteArray} {n : Nat} (hb : w.heap[b]? = some (hashCell t left n)) (u : St) :
    ((((((((w.setCell ⟨b, 0, none⟩ (.int .u32 u.a)).setCell ⟨b, 1, none⟩ (.int .u32 u.b)).setCell ⟨b, 2, none⟩ (.int .u32 u.c)).setCell ⟨b, 3, none⟩ (.int .u32 u.d)).setCell ⟨b, 4, none⟩ (.int .u32 u.e)).setCell ⟨b, 5, none⟩ (.int .u32 u.f)).setCell ⟨b, 6, none⟩ (.int .u32 u.g)).setCell ⟨b, 7, none⟩ (.int .u32 u.h)).heap[b]? = some (hashCell u left n) ∧ Ext [b] w ((((((((w.setCell ⟨b, 0, none⟩ (.int .u32 u.a)).setCell ⟨b, 1, none⟩ (.int .u32 u.b)).setCell ⟨b, 2, none⟩ (.int .u32 u.c)).setCell ⟨b, 3, none⟩ (.int .u32 u.d)).setCell ⟨b, 4, none⟩ (.int .u32 u.e)).setCell ⟨b, 5, none⟩ (.int .u32 u.f)).setCell ⟨b, 6, none⟩ (.int .u32 u.g)).setCell ⟨b, 7, none⟩ (.int .u32 u.h)) := by
  refine ⟨?_, ?_⟩
  · refine Eq.trans (heap_set (heap_set (heap_set (heap_set (heap_set (heap_set (heap_set (heap_set hb 0 _) 1 _) 2 _) 3 _) 4 _) 5 _) 6 _) 7 _) ?_
    simp
  · repeat (first | (with_reducible exact Ext.refl _ _) | (with_reducible refine Ext.set' (List.mem_singleton.2 rfl) ?_ _ _))
theorem digAdd_any (b : Nat) (t : St) (left : ByteArray) (n : Nat) (s : ByteArray) (w : World) (hb : w.heap[b]? = some (hashCell t left n)) (hl : left.size < 64) (hs : s.size ≤ 100000000) (hn : n ≤ 1000000000) :
    Calls Try.prog 31 #[.pointer (some ⟨b, 0, none⟩), .string s] w fun e w' => e = .returned (.tuple #[]) ∧ w'.heap[b]? = some (hashCell (eat t (left ++ s)).1 (eat t (left ++ s)).2 (n + s.size)) ∧ Ext [b] w w' := by
  obtain ⟨h0, h1, h2, h3, h4, h5, h6, h7, h8, h9⟩ := hcells hb
  have hf := freeAt hb
  have hsi : (s.size : Int) ≤ 100000000 := by omega
  have hni : (n : Int) ≤ 1000000000 := by omega
  have hn0 : (0 : Int) ≤ n := by omega
  have hsz : (left ++ s).size = left.size + s.size := ByteArray.size_append
  have hx0 : Ext [b] w (w.setCell ⟨b, 9, none⟩ (.int .i64 ((n : Int) + s.size))) := Ext.set' (by simp) (Ext.refl _ _) _ _
  have hb0 : (w.setCell ⟨b, 9, none⟩ (.int .i64 ((n : Int) + s.size))).heap[b]? = some (hashCell t left (n + s.size)) := by
    refine Eq.trans (heap_set hb 9 _) ?_
    simp
  have HE : Hid (eat t (left ++ s) = eat t (left ++ s)) := Hs.hid rfl
  have HZ := Hs.hid (show (left ++ s).size ≤ 200000000 by omega)
  obtain ⟨r1, hr1⟩ : ∃ r, eat t (left ++ s) = r := ⟨_, rfl⟩
  have HR := Hs.hid hr1
  rw [hr1]
  go_enter Try.func31, Try.ntmps31
  go_wp2
  clear h0 h1 h2 h3 h4 h5 h6 h7 h8 h9 hf hsz HE hr1
  obtain ⟨s1, hs1⟩ : ∃ s1, left ++ s = s1 := ⟨_, rfl⟩
  have hE : Hid (eat t s1 = r1) := Hs.hid (by rw [← hs1]; exact HR.out)
  have hZ : Hid (s1.size ≤ 200000000) := Hs.hid (by rw [← hs1]; exact HZ.out)
  rw [hs1]
  clear HR HZ hs1
  go_loopw [1] (fun v wr => ∃ s1 t1, v = .string s1 ∧ wr.heap[b]? = some (hashCell t1 left (n + s.size)) ∧ Ext [b] w wr ∧ Hid (eat t1 s1 = r1) ∧ Hid (s1.size ≤ 200000000)) (fun v _ => match v with | .string s1 => s1.size | _ => 0)
  case atStart => exact ⟨s1, t, rfl, hb0, hx0, hE, hZ⟩
  case round =>
    clear hb0 hx0 hE hZ hb
    obtain ⟨s1, t1, rfl, hb, hx, hE, hZ⟩ := hrel
    obtain ⟨h0, h1, h2, h3, h4, h5, h6, h7, h8, h9⟩ := hcells hb
    have hf := freeAt hb
    have hz := hZ.out
    have hzi : (s1.size : Int) ≤ 200000000 := by omega
    by_cases h64 : 64 ≤ s1.size
    · have hzi2 : (64 : Int) ≤ s1.size := by omega
      have hml : s1.size ≤ maxLen := by simp [maxLen]; omega
      have HL := Hs.hid (And.intro h64 hml)
      clear h64 hml hz
      go_wp2_with (go_at_call 47; refine (mix_lit t1 s1 HL.out.1 HL.out.2 _).mono ?_; rintro e w4 ⟨rfl, hx4⟩; have hb4 := hx4.same hb (by simp); obtain ⟨k0, k1, k2, k3, k4, k5, k6, k7, k8, k9⟩ := hcells hb4; have kf := freeAt hb4)
      obtain ⟨q1, q2⟩ := hash_put hb4 (mixF t1 s1)
      go_round
      case rel => exact ⟨_, _, rfl, q1, (hx.trans0 hx4).trans' q2, Hs.hid (by rw [← hE.out, eat_more HL.out.1]), Hs.hid (by have := hZ.out; rw [ByteArray.size_extract]; omega)⟩
      case measure => have := HL.out.1; simp [ByteArray.size_extract]; omega
    · have HE := Hs.hid (hE.out.symm.trans (eat_end h64))
      have hl : s1.size ≤ 281474976710656 := by omega
      have h64d : decide ((64 : Int) ≤ s1.size) = false := by simp; omega
      clear h64 hz
      go_wp2_with (go_at_call 48; refine (clone_any s1 _ hl).mono ?_; rintro e w4 ⟨rfl, hx4⟩; have hb4 := hx4.same hb (by simp); obtain ⟨k0, k1, k2, k3, k4, k5, k6, k7, k8, k9⟩ := hcells hb4; have kf := freeAt hb4)
      go_end0
      refine ⟨rfl, ?_, Ext.set' (by simp) (hx.trans0 hx4) _ _⟩
      rw [HE.out]
      refine Eq.trans (heap_set hb4 8 _) ?_
      simp
end Go.Proofs.Ytjicjadibaomkaa
set_option linter.unusedSimpArgs false
set_option linter.unusedVariables false
namespace Go.Dg
open Go Go.RowKit

def wordOf (t : St) (i : Nat) : Int := [t.a, t.b, t.c, t.d, t.e, t.f, t.g, t.h].getD i 0
/-- The j-th of a state's 32 bytes. -/
def sumByte (t : St) (j : Nat) : Int := wordOf t (j / 4) / 2 ^ (24 - 8 * (j % 4)) % 256
def upTo (t : St) (c j : Nat) : Int := if j < c then sumByte t j else 0
def bytesL (f : Nat → Int) : Array Value := ((List.range 32).map fun j => Value.int .u8 (f j)).toArray
theorem bytesL_size (f : Nat → Int) : (bytesL f).size = 32 := by simp [bytesL]
theorem bytesL_get (f : Nat → Int) {j : Nat} (h : j < 32) : (bytesL f)[j]? = some (.int .u8 (f j)) := by
  simp [bytesL, h]
theorem bytesL_set (f : Nat → Int) {j : Nat} (h : j < 32) (v : Int) : (bytesL f).setIfInBounds j (.int .u8 v) = bytesL (fun q => if q = j then v else f q) := by
  apply Array.ext_getElem?
  intro q
  rw [Array.getElem?_setIfInBounds]
  by_cases hq : q < 32
  · by_cases e : j = q
    · subst e
      rw [if_pos rfl, if_pos (by rw [bytesL_size]; exact h), bytesL_get _ h, if_pos rfl]
    · rw [if_neg e, bytesL_get f hq, bytesL_get _ hq, if_neg (fun h => e h.symm)]
  · rw [if_neg (by omega), Array.getElem?_eq_none (by rw [bytesL_size]; omega), Array.getElem?_eq_none (by rw [bytesL_size]; omega)]
theorem bytesL_congr {f g : Nat → Int} (h : ∀ j, j < 32 → f j = g j) : bytesL f = bytesL g := by
  apply Array.ext_getElem?
  intro q
  by_cases hq : q < 32
  · rw [bytesL_get _ hq, bytesL_get _ hq, h q hq]
  · rw [Array.getElem?_eq_none (by rw [bytesL_size]; omega), Array.getElem?_eq_none (by rw [bytesL_size]; omega)]
theorem upTo_step (t : St) {c : Nat} (h : c < 32) : bytesL (fun q => if q = c then sumByte t c else upTo t c q) = bytesL (upTo t (c + 1)) := by
  refine bytesL_congr fun j _ => ?_
  unfold upTo
  by_cases e : j = c
  · subst e; simp
  · rw [if_neg e]
    by_cases h1 : j < c
    · rw [if_pos h1, if_pos (by omega)]
    · rw [if_neg h1, if_neg (by omega)]
theorem bytesL_one (f : Nat → Int) : (bytesL f).all (·.oneCell') = true := by
  rw [Array.all_eq_true_iff_forall_mem]
  intro v hv
  simp only [bytesL, List.mem_toArray, List.mem_map] at hv
  obtain ⟨j, _, rfl⟩ := hv
  rfl
/-- The digest. -/
def sumF (s : ByteArray) : St := (eat (eat begin0 s).1 (padB (eat begin0 s).2 s.size)).1
def sumV (t : St) (left : ByteArray) (n : Nat) : Array Value := bytesL (sumByte (eat t (padB left n)).1)
theorem sumV_size (t : St) (left : ByteArray) (n : Nat) : (sumV t left n).size = 32 := bytesL_size _
theorem sumV_one (t : St) (left : ByteArray) (n : Nat) : (sumV t left n).all (·.oneCell') = true := bytesL_one _
def digV (s : ByteArray) : Array Value := bytesL (sumByte (sumF s))
theorem digV_size (s : ByteArray) : (digV s).size = 32 := bytesL_size _
theorem digV_one (s : ByteArray) : (digV s).all (·.oneCell') = true := bytesL_one _
theorem eatN_left : ∀ (n : Nat) (t : St) (s : ByteArray), s.size ≤ n → (eatN n t s).2.size < 64
  | 0, t, s, h => by show s.size < 64; omega
  | n + 1, t, s, h => by
    simp only [eatN]
    split
    · exact eatN_left n _ _ (by rw [ByteArray.size_extract]; omega)
    · show s.size < 64; omega
theorem eat_left (t : St) (s : ByteArray) : (eat t s).2.size < 64 := eatN_left _ _ _ (Nat.le_refl _)
theorem empty_cat (s : ByteArray) : (⟨#[]⟩ : ByteArray) ++ s = s := by
  apply ByteArray.ext
  simp
/-- The digest's bytes, as numbers. -/
def digN (s : ByteArray) : List Nat := (List.range 32).map fun j => (sumByte (sumF s) j).toNat
theorem digN_len (s : ByteArray) : (digN s).length = 32 := by simp [digN]
theorem digN_V (s : ByteArray) : digV s = ((digN s).map fun (c : Nat) => Value.int .u8 c).toArray := by
  unfold digV digN bytesL
  rw [List.map_map]
  congr 1
  apply List.map_congr_left
  intro j _
  simp only [Function.comp]
  congr 1
  exact (Int.toNat_of_nonneg (Int.emod_nonneg _ (by decide))).symm
theorem digN_inj {a b : ByteArray} (h : digV a = digV b) : digN a = digN b := by
  rw [digN_V, digN_V] at h
  have h2 := List.toArray_inj h
  exact (List.map_inj_right (fun (x y : Nat) (e : Value.int IntKind.u8 (x : Int) = Value.int IntKind.u8 (y : Int)) => by
    injection e with _ e2
    omega)).1 h2
theorem digN_eq {a b : ByteArray} : digV a = digV b ↔ digN a = digN b := ⟨digN_inj, fun h => by rw [digN_V, digN_V, h]⟩
end Go.Dg
set_option linter.unusedSimpArgs false
set_option linter.unusedVariables false
set_option maxHeartbeats 1000000
set_option maxRecDepth 100000
namespace Go.Proofs.Ytjicjadibaomkaa
open Go.RowKit Go.Hs Go.Dg

theorem repeatL_len (l : List UInt8) : ∀ c, (Lib.repeatL l c).length = l.length * c
  | 0 => rfl
  | c + 1 => by
    unfold Lib.repeatL
    rw [List.length_append, repeatL_len l c, Nat.mul_succ]; omega
theorem repeat_any (c : Int) (h0 : 0 ≤ c) (h1 : c ≤ 1000) (w : World) : Calls Try.prog 49 #[.string ⟨#[0]⟩, .int .i64 c] w fun e w' => ∃ z : ByteArray, e = .returned (.string z) ∧ Hid (z = ⟨(Lib.repeatL [0] c.toNat).toArray⟩) ∧ z.size ≤ 1000 ∧ Ext [] w w' := by
  obtain ⟨k, rfl⟩ := Int.eq_ofNat_of_zero_le h0
  refine (Try.strings_Repeat ⟨#[0]⟩ k w (by omega) (by show 1 * k ≤ _; omega)).mono fun e w' ⟨g1, g2⟩ => ⟨_, g1, Hs.hid rfl, ?_, Ext.ofBelow g2⟩
  show (Lib.repeatL [0] k).toArray.size ≤ 1000
  rw [List.size_toArray, repeatL_len]
  simp; omega
theorem repeatL_zero : ∀ c, Lib.repeatL [0] c = List.replicate c 0
  | 0 => rfl
  | c + 1 => by unfold Lib.repeatL; rw [repeatL_zero c]; rfl
theorem one_conv (w : World) (x : Nat) : (convert 58 9 (.slice (some ⟨w.heap.size, 0, none⟩) 1 1)).run Try.prog (w.alloc (.cells #[.int .u8 (x : Int)] 5)) = .ok (.string (strN [x])) (w.alloc (.cells #[.int .u8 (x : Int)] 5)) := by
  have hown : Own (w.alloc (.cells #[.int .u8 (x : Int)] 5)).heap 5 1 (.slice (some ⟨w.heap.size, 0, none⟩) [x].length 1) [x].length ([x].map fun (c : Nat) => Value.int .u8 c) :=
    ⟨rfl, .inr ⟨_, 1, _, rfl, Nat.zero_le _, heap_new _ _, Nat.le_refl _, by decide, rfl, rfl⟩⟩
  exact run_bytes_text (P := Try.prog) 58 9 5 Try.underlying58 Try.underlying5 Try.underlying9 _ _ hown
abbrev sumCell (f : Nat → Int) : Obj := .cells (bytesL f) 35 (0, 0)
structure SmAt (w wr : World) (R T : Nat) (t1 : St) : Prop where
  r : wr.heap[R]? = some (sumCell fun _ => 0)
  t : wr.heap[T]? = some (stCell t1)
  ext : Ext [] w wr
  lo : w.heap.size ≤ T ∧ w.heap.size ≤ R ∧ R ≠ T
theorem SmAt.ext0 {w wr w' : World} {R T : Nat} {t1 : St} (h : SmAt w wr R T t1) (hx : Ext [] wr w') : SmAt w w' R T t1 := ⟨hx.same h.r (by simp), hx.same h.t (by simp), h.ext.trans0 hx, h.lo⟩
theorem SmAt.put {w wr : World} {R T : Nat} {t1 : St} (h : SmAt w wr R T t1) (u : St) :
    SmAt w ((((((((wr.setCell ⟨T, 0, none⟩ (.int .u32 u.a)).setCell ⟨T, 1, none⟩ (.int .u32 u.b)).setCell ⟨T, 2, none⟩ (.int .u32 u.c)).setCell ⟨T, 3, none⟩ (.int .u32 u.d)).setCell ⟨T, 4, none⟩ (.int .u32 u.e)).setCell ⟨T, 5, none⟩ (.int .u32 u.f)).setCell ⟨T, 6, none⟩ (.int .u32 u.g)).setCell ⟨T, 7, none⟩ (.int .u32 u.h)) R T u := by
  have hx : Ext [T] wr ((((((((wr.setCell ⟨T, 0, none⟩ (.int .u32 u.a)).setCell ⟨T, 1, none⟩ (.int .u32 u.b)).setCell ⟨T, 2, none⟩ (.int .u32 u.c)).setCell ⟨T, 3, none⟩ (.int .u32 u.d)).setCell ⟨T, 4, none⟩ (.int .u32 u.e)).setCell ⟨T, 5, none⟩ (.int .u32 u.f)).setCell ⟨T, 6, none⟩ (.int .u32 u.g)).setCell ⟨T, 7, none⟩ (.int .u32 u.h)) := by
    repeat (first | (with_reducible exact Ext.refl _ _) | (with_reducible refine Ext.set' (List.mem_singleton.2 rfl) ?_ _ _))
  refine ⟨hx.same h.r (by simpa using h.lo.2.2), ?_, h.ext.trans hx (fun g hg => .inr (by simp at hg; have := h.lo; omega)), h.lo⟩
  refine Eq.trans (heap_set (heap_set (heap_set (heap_set (heap_set (heap_set (heap_set (heap_set h.t 0 _) 1 _) 2 _) 3 _) 4 _) 5 _) 6 _) 7 _) ?_
  simp
abbrev wordsA (t : St) : Array Value := #[.int .u32 t.a, .int .u32 t.b, .int .u32 t.c, .int .u32 t.d, .int .u32 t.e, .int .u32 t.f, .int .u32 t.g, .int .u32 t.h]
structure OutAt (w wr : World) (R T O W : Nat) (t1 : St) (c : Nat) : Prop where
  sm : SmAt w wr R T t1
  o : wr.heap[O]? = some (sumCell (upTo t1 c))
  v : wr.heap[W]? = some (.cells (wordsA t1) 89 (0, 0))
  ne : O ≠ R ∧ O ≠ T ∧ O ≠ W ∧ w.heap.size ≤ O
theorem OutAt.put {w wr : World} {R T O W : Nat} {t1 : St} {c : Nat} (h : OutAt w wr R T O W t1 c) (hc : c < 32) : OutAt w (wr.setCell ⟨O, c, none⟩ (.int .u8 (sumByte t1 c))) R T O W t1 (c + 1) := by
  obtain ⟨n1, n2, n3, n4⟩ := h.ne
  have hx : Ext [O] wr (wr.setCell ⟨O, c, none⟩ (.int .u8 (sumByte t1 c))) := Ext.set' (by simp) (Ext.refl _ _) _ _
  refine ⟨⟨hx.same h.sm.r (by simp; exact Ne.symm n1), hx.same h.sm.t (by simp; exact Ne.symm n2), h.sm.ext.trans hx (fun g hg => .inr (by simp at hg; omega)), h.sm.lo⟩, ?_, hx.same h.v (by simp; exact Ne.symm n3), h.ne⟩
  rw [heap_set h.o, bytesL_set _ hc, upTo_step _ hc]
theorem wordsA_get (t : St) {i : Nat} (h : i < 8) : (wordsA t)[i]? = some (.int .u32 (wordOf t i)) := by
  unfold wordOf
  match i, h with
  | 0, _ => rfl
  | 1, _ => rfl
  | 2, _ => rfl
  | 3, _ => rfl
  | 4, _ => rfl
  | 5, _ => rfl
  | 6, _ => rfl
  | 7, _ => rfl
theorem digSum_any (b : Nat) (t : St) (left : ByteArray) (n : Nat) (w : World) (hb : w.heap[b]? = some (hashCell t left n)) (hl : left.size < 64) (hn : n ≤ 2000000000) :
    Calls Try.prog 32 #[.pointer (some ⟨b, 0, none⟩)] w fun e w' => e = .returned (.agg (sumV t left n)) ∧ Ext [] w w' := by
  obtain ⟨h0, h1, h2, h3, h4, h5, h6, h7, h8, h9⟩ := hcells hb
  have hli : (left.size : Int) < 64 := by omega
  have hli0 : (0 : Int) ≤ left.size := by omega
  have hni : (n : Int) ≤ 2000000000 := by omega
  have hn0 : (0 : Int) ≤ n := by omega
  have hr0 : (0 : Int) ≤ (119 - (left.size : Int)) % 64 := by omega
  have hr1 : (119 - (left.size : Int)) % 64 ≤ 1000 := by omega
  have hw1 : IntKind.i64.wrap (119 - (left.size : Int)) = 119 - (left.size : Int) := IntWalk.i64_in _ (by omega)
  have hw2 : Int.tmod (119 - (left.size : Int)) 64 = (119 - (left.size : Int)) % 64 := Int.tmod_eq_emod_of_nonneg (by omega)
  have HRR := Hs.hid (And.intro hr0 hr1)
  clear hr0 hr1
  have hbl := lt_of_heap hb
  have hc1 : ¬ 9223372036854775807 < left.size + 1 := by omega
  have hl1 : (left ++ (⟨#[128]⟩ : ByteArray)).size ≤ 64 := by rw [ByteArray.size_append]; show left.size + 1 ≤ 64; omega
  go_enter Try.func32, Try.ntmps32
  go_upto_region 1 with fail
  go_region_held3 (fun w' => w'.cell? ⟨b, 8, none⟩ = some (.string left))
    (first
      | exact h8
      | exact g8
      | go_keep)
    ((go_at_call 49; (refine (repeat_any _ HRR.out.1 HRR.out.2 _).mono ?_); rintro e w4 ⟨z, rfl, hz, hzs, hx4⟩; have hc2 : ¬ 9223372036854775807 < left.size + 1 + z.size := (by omega); have hb4 := hx4.same (by first | exact hb | exact heap_old' _ _ hb) (by simp); obtain ⟨g0, g1, g2, g3, g4, g5, g6, g7, g8, g9⟩ := hcells hb4))
  go_wp2
  have hR4 : w4.heap[w.heap.size]? = some (sumCell fun _ => 0) := hx4.same (b := w.heap.size) (o := sumCell fun _ => 0) (heap_new w (sumCell fun _ => 0)) (by simp)
  have hxw : Ext [] w w4 := ((((Ext.refl [] w).alloc _).drew).trans0 hx4)
  have HZ := Hs.hid (And.intro hz.out (And.intro hzs hl))
  obtain ⟨pre, hpre⟩ : ∃ pre, left ++ (⟨#[128]⟩ : ByteArray) ++ z = pre := ⟨_, rfl⟩
  rw [hpre]
  have hps : pre.size ≤ 2000 := by rw [← hpre, ByteArray.size_append]; omega
  have HP := Hs.hid (And.intro hpre hps)
  clear hz hzs hc2 hl1 hc1 h0 h1 h2 h3 h4 h5 h6 h7 h8 h9 g0 g1 g2 g3 g4 g5 g6 g7 g8 g9 hli hli0 hw1 hw2 hpre hx4
  go_loopw [4, 3] (fun i v wr => ∃ m s3, m ≤ 8 ∧ i = .int .i64 ((m : Nat) - 1 : Int) ∧ v = .string s3 ∧ Hid (s3 = lenTo pre n (8 - m)) ∧ wr.heap[b]? = some (hashCell t left n) ∧ Ext [] w wr ∧ wr.heap[w.heap.size]? = some (sumCell fun _ => 0)) (fun i _ _ => (intOf i + 1).toNat)
  case atStart => exact ⟨8, pre, Nat.le_refl _, rfl, rfl, Hs.hid rfl, hb4, hxw, hR4⟩
  case round =>
    clear hb hb4 hxw hR4
    obtain ⟨m, s3, hm, rfl, rfl, hs3, hb, hx, hR⟩ := hrel
    cases m with
    | succ q =>
      have hq : ((q + 1 : Nat) : Int) - 1 = q := by omega
      rw [hq]
      have hq0 : (0 : Int) ≤ q := by omega
      have hq7 : (q : Int) ≤ 7 := by omega
      have hsz : ¬ 9223372036854775807 < s3.size + 1 := by rw [hs3.out, lenTo_size]; have := HP.out.2; omega
      have HM := Hs.hid hm
      obtain ⟨h0, h1, h2, h3, h4, h5, h6, h7, h8, h9⟩ := hcells hb
      have hX : ((n * 8 / 2 ^ (8 * q) % 256 : Nat) : Int) = (n : Int) * 8 / 2 ^ (8 * q) % 256 := by simp
      have hcv := one_conv wr (n * 8 / 2 ^ (8 * q) % 256)
      rw [hX] at hcv
      have hsc : (strN [n * 8 / 2 ^ (8 * q) % 256]).size = 1 := rfl
      have hs4 : Hid (s3 ++ strN [n * 8 / 2 ^ (8 * q) % 256] = lenTo pre n (8 - q)) := Hs.hid (by
        have h1 := hm
        rw [hs3.out, show 8 - q = (8 - (q + 1)) + 1 by omega, lenTo, show 7 - (8 - (q + 1)) = q by omega])
      clear hm hX
      go_wp2
      go_round
      case rel => exact ⟨q, _, by have := HM.out; omega, rfl, rfl, hs4, heap_old' _ _ hb, hx.alloc _, heap_old' _ _ hR⟩
      case measure => simp [intOf]
    | zero =>
      have h01 : ((0 : Nat) : Int) - 1 = -1 := rfl
      rw [h01]
      have hpad : s3 = padB left n := by
        rw [hs3.out]
        unfold padB
        rw [← HP.out.1, HZ.out.1, repeatL_zero, show ((119 - (left.size : Int)) % 64).toNat = (119 - left.size) % 64 by have := HZ.out.2.2; omega]
      have hsz := padB_size HZ.out.2.2 n
      rw [← hpad] at hsz
      have HPD := Hs.hid hpad
      have HSZ := Hs.hid hsz
      obtain ⟨h0, h1, h2, h3, h4, h5, h6, h7, h8, h9⟩ := hcells hb
      clear hpad hsz hs3 hm h01
      have hM0 : SmAt w (wr.alloc (stCell t)) w.heap.size wr.heap.size t :=
        ⟨heap_old' _ _ hR, heap_new _ _, hx.alloc _, hx.size, Nat.le_refl _, Nat.ne_of_lt (lt_of_heap hR)⟩
      have hE0 : Hid (eat t s3 = eat t (padB left n)) := Hs.hid (by rw [HPD.out])
      have hZ0 : Hid (s3.size ≤ 128 ∧ s3.size % 64 = 0) := Hs.hid (by rcases HSZ.out with h | h <;> omega)
      go_wp2
      clear h0 h1 h2 h3 h4 h5 h6 h7 h8 h9 hb hR hx
      obtain ⟨R, hRR⟩ : ∃ R, w.heap.size = R := ⟨_, rfl⟩
      obtain ⟨T, hTT⟩ : ∃ T, wr.heap.size = T := ⟨_, rfl⟩
      rw [hRR, hTT] at hM0
      rw [hRR, hTT]
      obtain ⟨tf, htf⟩ : ∃ tf, eat t (padB left n) = tf := ⟨_, rfl⟩
      have HTF := Hs.hid htf
      have HRR := Hs.hid hRR
      rw [htf] at hE0
      clear hRR hTT htf
      go_loopw [3] (fun v wr => ∃ s1 t1, v = .string s1 ∧ SmAt w wr R T t1 ∧ Hid (eat t1 s1 = tf) ∧ Hid (s1.size ≤ 128 ∧ s1.size % 64 = 0)) (fun v _ => match v with | .string s1 => s1.size | _ => 0)
      case atStart => exact ⟨s3, t, rfl, hM0, hE0, hZ0⟩
      case round =>
        clear hM0 hE0 hZ0
        obtain ⟨s1, t1, rfl, hM, hE, hZ⟩ := hrel
        obtain ⟨h0, h1, h2, h3, h4, h5, h6, h7⟩ := st_cells hM.t
        have hz := hZ.out
        by_cases h0s : s1.size = 0
        · have hlt : decide ((0 : Int) < s1.size) = false := decide_eq_false (by omega)
          have hlt2 : ¬ (0 : Int) < s1.size := by omega
          have hlt3 : ¬ 0 < s1.size := by omega
          have hn64 : ¬ 64 ≤ s1.size := by omega
          have HF := Hs.hid (show tf.1 = t1 by have := hE.out; rw [eat_end hn64] at this; rw [← this])
          have hTl := lt_of_heap hM.t
          clear hz h0s hn64
          go_wp2
          have hw1 : (wr.alloc (sumCell fun _ => 0)).heap.size = wr.heap.size + 1 := by simp
          have hO0 : OutAt w ((wr.alloc (sumCell fun _ => 0)).alloc (.cells (wordsA t1) 89)) R T wr.heap.size (wr.heap.size + 1) t1 0 := by
            have hx2 : Ext [] wr ((wr.alloc (sumCell fun _ => 0)).alloc (.cells (wordsA t1) 89)) := ((Ext.refl [] wr).alloc _).alloc _
            have hlo := hM.lo
            have hext := hM.ext.size
            have hRl := lt_of_heap hM.r
            refine ⟨hM.ext0 hx2, heap_old' _ _ ?_, by rw [← hw1]; exact heap_new _ _, by omega⟩
            exact heap_new _ _
          clear hTl hM h0 h1 h2 h3 h4 h5 h6 h7 hw1 hlt hlt2 hlt3
          obtain ⟨O, hOO⟩ : ∃ O, wr.heap.size = O := ⟨_, rfl⟩
          rw [hOO] at hO0 ⊢
          clear hOO
          go_loopw [72] (fun ii wr => ∃ i, i ≤ 8 ∧ ii = .int .i64 (i : Nat) ∧ OutAt w wr R T O (O + 1) t1 (4 * i)) (fun ii _ => 8 - (intOf ii).toNat)
          case atStart => exact ⟨0, Nat.zero_le _, rfl, hO0⟩
          case round =>
            clear hO0
            obtain ⟨i, hi, rfl, hO⟩ := hrel
            have hi0 : (0 : Int) ≤ i := by omega
            by_cases hlt : i < 8
            · have hii : (i : Int) < 8 := by omega
              have cw := cellAt hO.v i
              rw [wordsA_get t1 hlt] at cw
              have HI := Hs.hid (And.intro hi hlt)
              clear hi hlt
              go_wp2
              clear cw
              go_loopw [77] (fun kk wr => ∃ k, k ≤ 4 ∧ kk = .int .i64 (k : Nat) ∧ OutAt w wr R T O (O + 1) t1 (4 * i + k)) (fun kk _ => 4 - (intOf kk).toNat)
              case atStart => exact ⟨0, Nat.zero_le _, rfl, hO⟩
              case round =>
                clear hO
                obtain ⟨k, hk, rfl, hO⟩ := hrel
                have hk0 : (0 : Int) ≤ k := by omega
                by_cases hlt : k < 4
                · have hkk : (k : Int) < 4 := by omega
                  have hc : 4 * i + k < 32 := by have := HI.out; omega
                  have cO := cellAt hO.o (4 * i + k)
                  rw [bytesL_get _ hc] at cO
                  have fO := freeAt hO.o
                  have hO2 := hO.put hc
                  have hsh : ((24 : Int) - 8 * k).toNat = 24 - 8 * k := by omega
                  have hdv : sumByte t1 (4 * i + k) = wordOf t1 i / 2 ^ (24 - 8 * k) % 256 := by
                    unfold sumByte
                    rw [show (4 * i + k) / 4 = i by omega, show (4 * i + k) % 4 = k by omega]
                  rw [hdv] at hO2
                  have HO2 := Hs.hid hO2
                  have HK := Hs.hid hlt
                  clear hk hlt hO2 hdv hc
                  go_wp2
                  go_round
                  case rel => exact ⟨k + 1, HK.out, by go_num, HO2.out⟩
                  case measure => have := HK.out; simp [intOf]; omega
                · obtain rfl : k = 4 := by omega
                  clear hk hlt hk0
                  go_wp2
                  go_round
                  case rel => exact ⟨i + 1, HI.out.2, by go_num, hO⟩
                  case measure => have := HI.out; simp [intOf]; omega
            · obtain rfl : i = 8 := by omega
              clear hi hlt hi0
              have hiS : (Try.prog.info? 35).map (·.size) = some 32 := by kernel_rfl
              go_wp2_with (first
                | (refine wpList_load_row rfl 35 (.tmp 6) rfl O rfl _ (bytesL (upTo t1 (4 * 8))) (0, 0) _ hO.o Try.underlying35 rfl (by rw [bytesL_size]; exact hiS) ?_)
                | (refine wpList_store_row rfl 35 (.tmp 2) (.tmp 93) rfl R (bytesL (upTo t1 (4 * 8))) rfl rfl _ _ hO.sm.r (by rw [bytesL_size]; exact hiS) (by rw [bytesL_size, bytesL_size]) (bytesL_one _) ?_))
              have hfin : bytesL (upTo t1 (4 * 8)) = sumV t left n := by
                unfold sumV
                rw [HTF.out, HF.out]
                exact bytesL_congr fun j hj => by unfold upTo; rw [if_pos (by omega)]
              have hx : Ext [] w (wr.setRow R (bytesL (upTo t1 (4 * 8)))) := hO.sm.ext.trans (F' := [R]) ⟨rfl, rfl, rfl, by simp, fun q _ hq => setRow_other _ _ _ _ (by simpa using hq)⟩ (fun g hg => .inr (by simp at hg; have := hO.sm.lo; omega))
              refine bodyPost_ret (v := .agg (bytesL (upTo t1 (4 * 8)))) (results_cell_row (P := Try.prog) Try.results32 _ _ R _ _ _ _ rfl (setRow_heap _ _ _ _ _ _ hO.sm.r) Try.underlying35 rfl (by rw [bytesL_size]; exact hiS)) rfl ⟨by rw [hfin], hx⟩
        · have h64 : 64 ≤ s1.size := by omega
          have hlt : (0 : Int) < s1.size := by omega
          have hz64 : (64 : Int) ≤ s1.size := by omega
          have hz128 : (s1.size : Int) ≤ 128 := by omega
          have HL := Hs.hid (And.intro h64 (show s1.size ≤ maxLen by simp [maxLen]; omega))
          clear hz h0s h64
          go_wp2_with (go_at_call 47; refine (mix_lit t1 s1 HL.out.1 HL.out.2 _).mono ?_; rintro e w4 ⟨rfl, hx4⟩; have hM4 := hM.ext0 hx4; obtain ⟨k0, k1, k2, k3, k4, k5, k6, k7⟩ := st_cells hM4.t; have kf := freeAt hM4.t)
          have hM5 := hM4.put (mixF t1 s1)
          go_round
          case rel => exact ⟨_, _, rfl, hM5, Hs.hid (by rw [← hE.out, eat_more HL.out.1]), Hs.hid (by have := hZ.out; have := HL.out.1; rw [ByteArray.size_extract]; omega)⟩
          case measure => have := HL.out.1; simp [ByteArray.size_extract]; omega
end Go.Proofs.Ytjicjadibaomkaa
set_option linter.unusedSimpArgs false
set_option linter.unusedVariables false
set_option maxHeartbeats 1000000
set_option maxRecDepth 100000
namespace Go.Proofs.Ytjicjadibaomkaa
open Go.RowKit Go.Hs Go.Dg

theorem infoSum : (Try.prog.info? 35).map (·.size) = some 32 := by kernel_rfl
theorem zeroLit : (#[.int .u8 0, .int .u8 0, .int .u8 0, .int .u8 0, .int .u8 0, .int .u8 0, .int .u8 0, .int .u8 0, .int .u8 0, .int .u8 0, .int .u8 0, .int .u8 0, .int .u8 0, .int .u8 0, .int .u8 0, .int .u8 0, .int .u8 0, .int .u8 0, .int .u8 0, .int .u8 0, .int .u8 0, .int .u8 0, .int .u8 0, .int .u8 0, .int .u8 0, .int .u8 0, .int .u8 0, .int .u8 0, .int .u8 0, .int .u8 0, .int .u8 0, .int .u8 0] : Array Value) = bytesL fun _ => 0 := by kernel_rfl
theorem zeroSum (w : World) : (w.alloc (.cells #[.int .u8 0, .int .u8 0, .int .u8 0, .int .u8 0, .int .u8 0, .int .u8 0, .int .u8 0, .int .u8 0, .int .u8 0, .int .u8 0, .int .u8 0, .int .u8 0, .int .u8 0, .int .u8 0, .int .u8 0, .int .u8 0, .int .u8 0, .int .u8 0, .int .u8 0, .int .u8 0, .int .u8 0, .int .u8 0, .int .u8 0, .int .u8 0, .int .u8 0, .int .u8 0, .int .u8 0, .int .u8 0, .int .u8 0, .int .u8 0, .int .u8 0, .int .u8 0] 35)).heap[w.heap.size]? = some (.cells (bytesL fun _ => 0) 35 (0, 0)) := by
  rw [← zeroLit]; exact heap_new _ _
theorem setRow_ext {w : World} (R : Nat) (cs : Array Value) : Ext [R] w (w.setRow R cs) := ⟨rfl, rfl, rfl, by simp, fun q _ hq => setRow_other _ _ _ _ (by simpa using hq)⟩
def IsSum (cs : Array Value) : Prop := cs.size = 32 ∧ cs.all (·.oneCell') = true
theorem IsSum.info {cs : Array Value} (h : IsSum cs) : (Try.prog.info? 35).map (·.size) = some cs.size := by rw [h.1]; exact infoSum
theorem IsSum.zero {cs : Array Value} (h : IsSum cs) : (bytesL fun _ => 0).size = cs.size := by rw [h.1, bytesL_size]
theorem isSum_digV (s : ByteArray) : IsSum (digV s) := ⟨digV_size s, digV_one s⟩
theorem digSum_cs (b : Nat) (t : St) (left : ByteArray) (n : Nat) (w : World) (hb : w.heap[b]? = some (hashCell t left n)) (hl : left.size < 64) (hn : n ≤ 2000000000) :
    Calls Try.prog 32 #[.pointer (some ⟨b, 0, none⟩)] w fun e w' => ∃ cs, e = .returned (.agg cs) ∧ Hid (IsSum cs ∧ cs = sumV t left n) ∧ Ext [] w w' :=
  (digSum_any b t left n w hb hl hn).mono fun e w' ⟨h1, h2⟩ => ⟨_, h1, Hs.hid ⟨⟨sumV_size t left n, sumV_one t left n⟩, rfl⟩, h2⟩
theorem of_any (s : ByteArray) (hs : s.size ≤ 100000000) (w : World) : Calls Try.prog 12 #[.string s] w fun e w' => ∃ cs, e = .returned (.agg cs) ∧ Hid (cs = digV s) ∧ Ext [] w w' := by
  have hR := zeroSum w
  have hx0 : Ext [] w (w.alloc (.cells #[.int .u8 0, .int .u8 0, .int .u8 0, .int .u8 0, .int .u8 0, .int .u8 0, .int .u8 0, .int .u8 0, .int .u8 0, .int .u8 0, .int .u8 0, .int .u8 0, .int .u8 0, .int .u8 0, .int .u8 0, .int .u8 0, .int .u8 0, .int .u8 0, .int .u8 0, .int .u8 0, .int .u8 0, .int .u8 0, .int .u8 0, .int .u8 0, .int .u8 0, .int .u8 0, .int .u8 0, .int .u8 0, .int .u8 0, .int .u8 0, .int .u8 0, .int .u8 0] 35)) := (Ext.refl _ _).alloc _
  have hl := eat_left begin0 s
  have hn : 0 + s.size ≤ 2000000000 := by omega
  have HL := Hs.hid (And.intro hl (And.intro hn hs))
  have hdv : digV s = sumV (eat begin0 s).1 (eat begin0 s).2 (0 + s.size) := by unfold digV sumF sumV; rw [Nat.zero_add]
  have HD := Hs.hid hdv
  clear hl hn hs hdv
  go_enter Try.func12, Try.ntmps12
  go_upto_region 1 with fail
  generalize w.alloc (.cells #[.int .u8 0, .int .u8 0, .int .u8 0, .int .u8 0, .int .u8 0, .int .u8 0, .int .u8 0, .int .u8 0, .int .u8 0, .int .u8 0, .int .u8 0, .int .u8 0, .int .u8 0, .int .u8 0, .int .u8 0, .int .u8 0, .int .u8 0, .int .u8 0, .int .u8 0, .int .u8 0, .int .u8 0, .int .u8 0, .int .u8 0, .int .u8 0, .int .u8 0, .int .u8 0, .int .u8 0, .int .u8 0, .int .u8 0, .int .u8 0, .int .u8 0, .int .u8 0] 35) = W at *
  obtain ⟨R, hRR⟩ : ∃ R, w.heap.size = R := ⟨_, rfl⟩
  rw [hRR] at hR ⊢
  have HRR := Hs.hid (show w.heap.size ≤ R from Nat.le_of_eq hRR)
  clear hRR
  go_upto_region 2 with (go_at_call 30; refine (digNew_any _).mono ?_; rintro e w1 ⟨b, rfl, hb, hx1, hbl⟩)
  have hR1 := hx1.same hR (by simp)
  have hbR : R ≠ b := by have := lt_of_heap hR; omega
  clear hR
  go_upto_region 3 with (go_at_call 31; refine (digAdd_any b begin0 ⟨#[]⟩ 0 s _ hb (by decide) HL.out.2.2 (by decide)).mono ?_; rintro e w2 ⟨rfl, hb2, hx2⟩)
  rw [empty_cat] at hb2
  have hR2 := hx2.same hR1 (by simpa using hbR)
  have hxb : Ext [] W w2 := hx1.trans hx2 (fun g hg => .inr (by simp at hg; subst hg; exact hbl))
  clear hR1 hb hx1 hx2
  go_wp2_with (first
    | (go_at_call 32; refine (digSum_cs b (eat begin0 s).1 (eat begin0 s).2 (0 + s.size) _ hb2 HL.out.1 HL.out.2.1).mono ?_; rintro e w3 ⟨cs, rfl, hcs, hx3⟩; have hR3 := hx3.same hR2 (by simp))
    | (refine wpList_store_row rfl 35 (.tmp 2) (.tmp 9) rfl R cs rfl rfl _ _ hR3 hcs.out.1.info hcs.out.1.zero hcs.out.1.2 ?_))
  have hxf : Ext [] w (w3.setRow R cs) := ((hx0.trans0 (hxb.trans0 hx3)).trans (setRow_ext R _) (fun g hg => .inr (by simp at hg; subst hg; exact HRR.out)))
  refine bodyPost_ret (v := .agg cs) (results_cell_row (P := Try.prog) Try.results12 _ _ R _ _ _ _ rfl (setRow_heap _ _ _ _ _ _ hR3) Try.underlying35 rfl (by rw [hcs.out.1.1]; exact infoSum)) rfl ⟨_, rfl, Hs.hid (by rw [HD.out, hcs.out.2]), hxf⟩
theorem leaf_any (s : ByteArray) (hs : s.size ≤ 99999999) (w : World) : Calls Try.prog 23 #[.string s] w fun e w' => ∃ cs, e = .returned (.agg cs) ∧ Hid (cs = digV (⟨#[0]⟩ ++ s)) ∧ Ext [] w w' := by
  have hR := zeroSum w
  have hx0 : Ext [] w (w.alloc (.cells #[.int .u8 0, .int .u8 0, .int .u8 0, .int .u8 0, .int .u8 0, .int .u8 0, .int .u8 0, .int .u8 0, .int .u8 0, .int .u8 0, .int .u8 0, .int .u8 0, .int .u8 0, .int .u8 0, .int .u8 0, .int .u8 0, .int .u8 0, .int .u8 0, .int .u8 0, .int .u8 0, .int .u8 0, .int .u8 0, .int .u8 0, .int .u8 0, .int .u8 0, .int .u8 0, .int .u8 0, .int .u8 0, .int .u8 0, .int .u8 0, .int .u8 0, .int .u8 0] 35)) := (Ext.refl _ _).alloc _
  have hsz : ((⟨#[0]⟩ : ByteArray) ++ s).size ≤ 100000000 := by rw [ByteArray.size_append]; show 1 + s.size ≤ _; omega
  have hc : ¬ 9223372036854775807 < 1 + s.size := by omega
  have HZ := Hs.hid hsz
  clear hsz hs
  go_enter Try.func23, Try.ntmps23
  go_upto_region 1 with fail
  generalize w.alloc (.cells #[.int .u8 0, .int .u8 0, .int .u8 0, .int .u8 0, .int .u8 0, .int .u8 0, .int .u8 0, .int .u8 0, .int .u8 0, .int .u8 0, .int .u8 0, .int .u8 0, .int .u8 0, .int .u8 0, .int .u8 0, .int .u8 0, .int .u8 0, .int .u8 0, .int .u8 0, .int .u8 0, .int .u8 0, .int .u8 0, .int .u8 0, .int .u8 0, .int .u8 0, .int .u8 0, .int .u8 0, .int .u8 0, .int .u8 0, .int .u8 0, .int .u8 0, .int .u8 0] 35) = W at *
  obtain ⟨R, hRR⟩ : ∃ R, w.heap.size = R := ⟨_, rfl⟩
  rw [hRR] at hR ⊢
  have HRR := Hs.hid (show w.heap.size ≤ R from Nat.le_of_eq hRR)
  clear hRR
  go_wp2_with (first
    | (go_at_call 12; refine (of_any _ HZ.out _).mono ?_; rintro e w1 ⟨cs, rfl, hcs, hx1⟩; have hR3 := hx1.same hR (by simp); have his : Hid (IsSum cs) := Hs.hid (by rw [hcs.out]; exact isSum_digV _))
    | (refine wpList_store_row rfl 35 (.tmp 2) (.tmp 5) rfl R cs rfl rfl _ _ hR3 his.out.info his.out.zero his.out.2 ?_))
  have hxf : Ext [] w (w1.setRow R cs) := ((hx0.trans0 hx1).trans (setRow_ext R _) (fun g hg => .inr (by simp at hg; subst hg; exact HRR.out)))
  refine bodyPost_ret (v := .agg cs) (results_cell_row (P := Try.prog) Try.results23 _ _ R _ _ _ _ rfl (setRow_heap _ _ _ _ _ _ hR3) Try.underlying35 rfl (by rw [his.out.1]; exact infoSum)) rfl ⟨_, rfl, hcs, hxf⟩
end Go.Proofs.Ytjicjadibaomkaa
set_option linter.unusedSimpArgs false
set_option linter.unusedVariables false
set_option maxHeartbeats 2000000
set_option maxRecDepth 100000
namespace Go.Proofs.Ytjicjadibaomkaa
open Go.RowKit Go.Hs Go.Dg

theorem run_eq_u8 (d : Nat) (a b : Int) (w : World) : (Op.equalIn (d + 1) 5 (.int .u8 a) (.int .u8 b)).run Try.prog w = .ok (a == b) w := by
  simp [Op.equalIn, run_underlying Try.underlying5]
theorem run_part_u8 {xs : Array Value} {i : Nat} {v : Value} (h : xs[i]? = some v) (w : World) : (part 5 xs i).run Try.prog w = .ok v w := by
  simp [part, isAgg, run_underlying Try.underlying5, h]
theorem run_eqItems_sum (d : Nat) (f g : Nat → Int) (w : World) : ∀ is : List Nat, (∀ i ∈ is, i < 32) → (Op.eqItems (d + 1) 5 1 (bytesL f) (bytesL g) is).run Try.prog w = .ok (is.all fun i => f i == g i) w
  | [], _ => by simp [Op.eqItems]
  | i :: is, h => by
    have hi := h i (List.mem_cons_self)
    have h1 := run_part_u8 (xs := bytesL f) (i := i * 1) (v := .int .u8 (f i)) (by rw [Nat.mul_one]; exact bytesL_get f hi) w
    have h2 := run_part_u8 (xs := bytesL g) (i := i * 1) (v := .int .u8 (g i)) (by rw [Nat.mul_one]; exact bytesL_get g hi) w
    simp only [Op.eqItems, Sem.run_bind, h1, h2, Result.andThen_ok, run_eq_u8, List.all_cons]
    cases hfg : (f i == g i)
    · simp
    · simp only [Bool.not_true, Bool.false_eq_true, if_false, Bool.true_and]
      exact run_eqItems_sum d f g w is fun j hj => h j (List.mem_cons_of_mem _ hj)
theorem infoU8 : (Try.prog.info? 5).map (fun i => (i.zero, i.size, i.bytes)) = some (some (.int .u8 0), 1, 1) := by kernel_rfl
theorem cellsU8 : Try.prog.cellsOf 5 = 1 := by kernel_rfl
theorem run_eq_sum (f g : Nat → Int) (w : World) : (Op.equal 35 (.agg (bytesL f)) (.agg (bytesL g))).run Try.prog w = .ok ((List.range 32).all fun i => f i == g i) w := by
  obtain ⟨i, hi, _⟩ := info_parts infoU8
  unfold Op.equal Op.maxDepth
  rw [show (10000 : Nat) = 9998 + 1 + 1 from rfl, run_equalIn_array (P := Try.prog) (w := w) (9998 + 1) (bytesL f) (bytesL g) Try.underlying35 hi, cellsU8, run_eqItems_sum 9998 f g w (List.range 32) (fun i hi => by simpa using hi)]
theorem run_eq_dig (a b : ByteArray) (w : World) : (Op.equal 35 (.agg (digV a)) (.agg (digV b))).run Try.prog w = .ok (decide (digN a = digN b)) w := by
  unfold digV
  rw [run_eq_sum]
  congr 1
  rw [Bool.eq_iff_iff, List.all_eq_true, decide_eq_true_iff]
  constructor
  · intro h
    unfold digN
    apply List.map_congr_left
    intro j hj
    have := h j hj
    simp at this
    rw [this]
  · intro h j hj
    have h2 := digN_eq.2 h
    have hj' : j < 32 := by simpa using hj
    unfold digV at h2
    have h1 := bytesL_get (sumByte (sumF a)) hj'
    rw [h2, bytesL_get _ hj'] at h1
    simp at h1
    simpa using h1.symm
theorem alloc_two' (w : World) (A B : Obj) : ((w.alloc A).alloc B).heap[w.heap.size]? = some A ∧ ((w.alloc A).alloc B).heap[w.heap.size + 1]? = some B ∧ Ext [] w ((w.alloc A).alloc B) ∧ ((w.alloc A).alloc B).heap.size = w.heap.size + 2 := by
  have h1 : (w.alloc A).heap.size = w.heap.size + 1 := by simp
  exact ⟨heap_old' _ _ (heap_new _ _), by rw [← h1]; exact heap_new _ _, ((Ext.refl _ _).alloc _).alloc _, by simp⟩
/-- A sum as bytes. -/
theorem conv_dig {w : World} {A : Nat} {a : ByteArray} {fr : Nat × Nat} (h : w.heap[A]? = some (.cells (digV a) 35 fr)) : (convert 58 9 (.slice (some ⟨A, 0, none⟩) 32 32)).run Try.prog w = .ok (.string (strN (digN a))) w := by
  have hc := run_convert_bytes_arg (P := Try.prog) w 58 5 Try.underlying58 Try.underlying5 A 0 32 32 ((digN a).map fun (c : Nat) => (c : Int)) (by simp [digN_len]) (fun i hi => by
    have hi' : i < (digN a).length := by rw [digN_len]; exact hi
    rw [Nat.zero_add, cellAt h i, digN_V]
    simp [List.getD, hi']) 9 Try.underlying9
  rw [hc]
  congr 2
theorem strN_digN (a : ByteArray) : (strN (digN a)).size = 32 := by
  show ((digN a).map UInt8.ofNat).toArray.size = 32
  simp [digN_len]
end Go.Proofs.Ytjicjadibaomkaa
set_option linter.unusedSimpArgs false
set_option linter.unusedVariables false
set_option maxHeartbeats 2000000
set_option maxRecDepth 100000
namespace Go.Proofs.Ytjicjadibaomkaa
open Go.RowKit Go.Hs Go.Dg

theorem grow64_any (w : World) : Calls Try.prog 50 #[.slice none 0 0, .int .i64 64] w fun e w' => ∃ g cap, e = .returned (.slice (some ⟨g, 0, none⟩) 0 cap) ∧ 64 ≤ cap ∧ Own w'.heap 5 1 (.slice (some ⟨g, 0, none⟩) 0 cap) 0 [] ∧ Ext [] w w' ∧ w.heap.size ≤ g := by
  go_enter Try.func50, Try.ntmps50
  go_wp2
  go_ret
  have hc : 64 ≤ (Question.appendCap 64 0 5).cut (w.tape w.drawn (Question.appendCap 64 0 5)) ∧ (Question.appendCap 64 0 5).cut (w.tape w.drawn (Question.appendCap 64 0 5)) ≤ maxLen := by
    simp only [Question.cut, maxLen]
    have hmod := Nat.mod_lt (w.tape w.drawn (Question.appendCap 64 0 5)) (y := 2 ^ 63 - 64) (by decide)
    omega
  refine ⟨_, _, rfl, hc.1, ⟨by simp, .inr ⟨_, _, _, rfl, Nat.zero_le _, heap_new _ _, Nat.zero_le _, hc.2, ?_, by simp⟩⟩, ((Ext.refl _ _).alloc _).drew, Nat.le_refl _⟩
  have hs : (#[Value.int IntKind.u8 0] : Array Value).size = 1 := rfl
  simp only [Array.size_append, size_zeroCells, hs]
  omega
theorem concat_any (a b : ByteArray) (A B R : Nat) (fa fb fr : Nat × Nat) (w : World) (hA : w.heap[A]? = some (.cells (digV a) 35 fa)) (hB : w.heap[B]? = some (.cells (digV b) 35 fb))
    (hR : w.heap[R]? = some (.cells #[.slice (some ⟨A, 0, none⟩) 32 32, .slice (some ⟨B, 0, none⟩) 32 32] 58 fr)) : Calls Try.prog 41 #[.slice (some ⟨R, 0, none⟩) 2 2] w fun e w' =>
    ∃ ao cap, e = .returned (.slice ao 64 cap) ∧ Own w'.heap 5 1 (.slice ao 64 cap) 64 ((digN a ++ digN b).map fun (c : Nat) => Value.int .u8 c) ∧ Ext [] w w' := by
  have hBw := hB
  have hRw := hR
  have r0 : w.cell? ⟨R, 0, none⟩ = some (.slice (some ⟨A, 0, none⟩) 32 32) := by rw [cellAt hR]; rfl
  have r1 : w.cell? ⟨R, 1, none⟩ = some (.slice (some ⟨B, 0, none⟩) 32 32) := by rw [cellAt hR]; rfl
  go_enter Try.func41, Try.ntmps41
  go_wp2
  refine wp_loop_rounds 3 ?_
  rw [rounds_succ]
  go_wp2
  rw [rounds_succ]
  go_wp2
  rw [rounds_succ]
  have h64 : (64 : Int).toNat = 64 := rfl
  go_wp2_with (go_at_call 50; refine (grow64_any w).mono ?_; rintro e w1 ⟨g, cap, rfl, hc, hO, hx, hg⟩; replace hA := hx.same hA List.not_mem_nil; replace hB := hx.same hB List.not_mem_nil; replace hR := hx.same hR List.not_mem_nil; replace r0 : w1.cell? ⟨R, 0, none⟩ = some (.slice (some ⟨A, 0, none⟩) 32 32) := (by rw [cellAt hR]; rfl); replace r1 : w1.cell? ⟨R, 1, none⟩ = some (.slice (some ⟨B, 0, none⟩) 32 32) := (by rw [cellAt hR]; rfl))
  obtain ⟨i0, hi, hz0, hz1, hz2⟩ := info_parts infoU8
  have hnA : ∀ j u, (digV a).toList[j]? = some u → w1.cell? ((⟨A, 0, none⟩ : Addr).add j) = some u := by
    intro j u hj
    rw [add_off', cellAt hA j]
    simpa using hj
  have hne : ∀ x ∈ (Value.slice (some ⟨g, 0, none⟩) 0 cap).ownBlock.toList, x ∈ ([] : List Nat) ∨ w.heap.size ≤ x := by
    intro k hk
    have hk' : k = g := by simpa [Value.ownBlock] using hk
    exact .inr (hk' ▸ hg)
  have hlA : (digV a).toList.length = 32 * 1 := by rw [Array.length_toList, digV_size]
  have hlB : (digV b).toList.length = 32 * 1 := by rw [Array.length_toList, digV_size]
  have hoA : ∀ u ∈ (digV a).toList, u.oneCell' = true := fun u hu => (Array.all_eq_true'.1 (digV_one a)) u (Array.mem_toList_iff.1 hu)
  have hoB : ∀ u ∈ (digV b).toList, u.oneCell' = true := fun u hu => (Array.all_eq_true'.1 (digV_one b)) u (Array.mem_toList_iff.1 hu)
  have hBlt : B < w.heap.size := lt_of_heap hBw
  have hRlt : R < w.heap.size := lt_of_heap hRw
  refine wp_loop_rounds 3 ?_
  rw [rounds_succ]
  go_wp2_with (at_builtin; refine wpList_append rfl (.tmp 31) (.tmp 32) 58 rfl 5 i0 _ 1 1 Try.underlying58 hi hz0 hz1 hz2 rfl (by decide) (.slice (some ⟨g, 0, none⟩) 0 cap) 0 [] rfl hO ⟨A, 0, none⟩ 32 32 (digV a).toList rfl hlA hnA hoA (by decide) (by decide) ?_; intro ao2 cap2 w2 hO2 hx2 hf2; replace hx2 := hx.trans hx2 hne; replace hB := hx2.same hBw List.not_mem_nil; replace hR := hx2.same hRw List.not_mem_nil; clear r0 r1; have r1 : w2.cell? ⟨R, 1, none⟩ = some (.slice (some ⟨B, 0, none⟩) 32 32) := (by rw [cellAt hR]; rfl))
  have hnB : ∀ j u, (digV b).toList[j]? = some u → w2.cell? ((⟨B, 0, none⟩ : Addr).add j) = some u := by
    intro j u hj
    rw [add_off', cellAt hB j]
    simpa using hj
  have hne2 : ∀ x ∈ (Value.slice ao2 (0 + 32) cap2).ownBlock.toList, x ∈ ([] : List Nat) ∨ w.heap.size ≤ x := by
    intro k hk
    right
    rcases hf2 k (by simpa using hk) with h | h
    · exact (hne k (by simp [h])).resolve_left List.not_mem_nil
    · have := hx.size; omega
  rw [rounds_succ]
  go_wp2_with (at_builtin; refine wpList_append rfl (.tmp 31) (.tmp 32) 58 rfl 5 i0 _ 1 1 Try.underlying58 hi hz0 hz1 hz2 rfl (by decide) (.slice ao2 (0 + 32) cap2) (0 + 32) _ rfl hO2 ⟨B, 0, none⟩ 32 32 (digV b).toList rfl hlB hnB hoB (by decide) (by decide) ?_; intro ao3 cap3 w3 hO3 hx3 hf3; replace hx3 := hx2.trans hx3 hne2; clear hf3)
  rw [rounds_succ]
  go_wp2
  go_ret
  refine ⟨_, _, rfl, ?_, hx3⟩
  have he : ((digN a ++ digN b).map fun (c : Nat) => Value.int .u8 c) = [] ++ (digV a).toList ++ (digV b).toList := by
    rw [digN_V, digN_V, List.map_append, List.nil_append]
  rw [he]
  exact hO3
/-- NODE -/
theorem heap_drew' {w : World} {b : Nat} {x : Obj} (h : w.heap[b]? = some x) : w.drew.heap[b]? = some x := h
theorem infoSl : (Try.prog.info? 58).map (fun i => (i.zero, i.size, i.bytes)) = some (some (.slice none 0 0), 1, 24) := by kernel_rfl
theorem conv_two {w : World} {ao : Option Addr} {cap : Nat} {a b : ByteArray} (h : Own w.heap 5 1 (.slice ao 64 cap) 64 ((digN a ++ digN b).map fun (c : Nat) => Value.int .u8 c)) : (convert 58 9 (.slice ao 64 cap)).run Try.prog w = .ok (.string (strN (digN a ++ digN b))) w := by
  have hl : (digN a ++ digN b).length = 64 := by rw [List.length_append, digN_len, digN_len]
  exact run_bytes_text 58 9 5 Try.underlying58 Try.underlying5 Try.underlying9 _ (digN a ++ digN b) (by rw [hl]; exact h)
def nodeT (a b : ByteArray) : ByteArray := ⟨#[1]⟩ ++ strN (digN a ++ digN b)
theorem strN_app (a b : ByteArray) : (strN (digN a ++ digN b)).size = 64 := by
  show ((digN a ++ digN b).map UInt8.ofNat).toArray.size = 64
  simp [digN_len]
theorem nodeT_size (a b : ByteArray) : (nodeT a b).size = 65 := by
  unfold nodeT
  rw [ByteArray.size_append, strN_app]; rfl
theorem dignode_any (a b : ByteArray) (w : World) : Calls Try.prog 24 #[.agg (digV a), .agg (digV b)] w fun e w' => ∃ cs, e = .returned (.agg cs) ∧ Hid (cs = digV (nodeT a b)) ∧ Ext [] w w' := by
  obtain ⟨hA, hB, hx0, hz2⟩ := alloc_two' w (.cells (digV a) 35) (.cells (digV b) 35)
  have hR := zeroSum ((w.alloc (.cells (digV a) 35)).alloc (.cells (digV b) 35))
  rw [hz2] at hR
  replace hA := heap_old' _ (.cells #[.int .u8 0, .int .u8 0, .int .u8 0, .int .u8 0, .int .u8 0, .int .u8 0, .int .u8 0, .int .u8 0, .int .u8 0, .int .u8 0, .int .u8 0, .int .u8 0, .int .u8 0, .int .u8 0, .int .u8 0, .int .u8 0, .int .u8 0, .int .u8 0, .int .u8 0, .int .u8 0, .int .u8 0, .int .u8 0, .int .u8 0, .int .u8 0, .int .u8 0, .int .u8 0, .int .u8 0, .int .u8 0, .int .u8 0, .int .u8 0, .int .u8 0, .int .u8 0] 35) hA
  replace hB := heap_old' _ (.cells #[.int .u8 0, .int .u8 0, .int .u8 0, .int .u8 0, .int .u8 0, .int .u8 0, .int .u8 0, .int .u8 0, .int .u8 0, .int .u8 0, .int .u8 0, .int .u8 0, .int .u8 0, .int .u8 0, .int .u8 0, .int .u8 0, .int .u8 0, .int .u8 0, .int .u8 0, .int .u8 0, .int .u8 0, .int .u8 0, .int .u8 0, .int .u8 0, .int .u8 0, .int .u8 0, .int .u8 0, .int .u8 0, .int .u8 0, .int .u8 0, .int .u8 0, .int .u8 0] 35) hB
  replace hx0 := hx0.alloc (.cells #[.int .u8 0, .int .u8 0, .int .u8 0, .int .u8 0, .int .u8 0, .int .u8 0, .int .u8 0, .int .u8 0, .int .u8 0, .int .u8 0, .int .u8 0, .int .u8 0, .int .u8 0, .int .u8 0, .int .u8 0, .int .u8 0, .int .u8 0, .int .u8 0, .int .u8 0, .int .u8 0, .int .u8 0, .int .u8 0, .int .u8 0, .int .u8 0, .int .u8 0, .int .u8 0, .int .u8 0, .int .u8 0, .int .u8 0, .int .u8 0, .int .u8 0, .int .u8 0] 35)
  clear hz2
  have hc1 : ¬ 9223372036854775807 < 1 + 64 := by decide
  have hs1 := strN_app a b
  have HZ := Hs.hid (show (nodeT a b).size ≤ 100000000 by rw [nodeT_size]; decide)
  obtain ⟨i0, hi, hz0, hz1, _⟩ := info_parts infoSl
  go_enter Try.func24, Try.ntmps24
  go_upto_region 1 with fail
  generalize ((w.alloc (.cells (digV a) 35)).alloc (.cells (digV b) 35)).alloc (.cells #[.int .u8 0, .int .u8 0, .int .u8 0, .int .u8 0, .int .u8 0, .int .u8 0, .int .u8 0, .int .u8 0, .int .u8 0, .int .u8 0, .int .u8 0, .int .u8 0, .int .u8 0, .int .u8 0, .int .u8 0, .int .u8 0, .int .u8 0, .int .u8 0, .int .u8 0, .int .u8 0, .int .u8 0, .int .u8 0, .int .u8 0, .int .u8 0, .int .u8 0, .int .u8 0, .int .u8 0, .int .u8 0, .int .u8 0, .int .u8 0, .int .u8 0, .int .u8 0] 35) = W at hA hB hR hx0 ⊢
  obtain ⟨A, hAA⟩ : ∃ A, w.heap.size = A := ⟨_, rfl⟩
  rw [hAA] at hA hB hR ⊢
  have HAA := Hs.hid (show w.heap.size ≤ A from Nat.le_of_eq hAA)
  clear hAA
  refine wp_region_noPanic ?_
  refine wp_region_held_drew (S := (fun w' => w'.heap[A]? = some (.cells (digV a) 35 (0, 0)) ∧ w'.heap[A + 1]? = some (.cells (digV b) 35 (0, 0)))) (by kernel_rfl) ?_ (fun hHeld => ?_)
  · ((try dsimp only); exact ⟨hA, hB⟩)
  refine wpAnyH_take (i := 0) (v := ?_) rfl (by kernel_rfl) (by kernel_rfl) (by kernel_rfl) (fun _ _ _ h => h) (Or.inl ⟨by rfl, ?_⟩) (by assumption) ?_
  rotate_left
  · (intro w hSw; (try dsimp only at hSw); first | (go_simp; done) | (go_simp; with_reducible rfl))
  try simp only [Act.put, List.getElem_toArray, List.getElem_cons_succ, List.getElem_cons_zero, List.setIfInBounds_toArray, List.set_cons_zero, List.set_cons_succ]
  refine wpAnyH_take (i := 1) (v := ?_) rfl (by kernel_rfl) (by kernel_rfl) (by kernel_rfl) (fun _ _ _ h => h) (Or.inl ⟨by rfl, ?_⟩) (by assumption) ?_
  rotate_left
  · (intro w hSw; (try dsimp only at hSw); first | (go_simp; done) | (go_simp; with_reducible rfl))
  try simp only [Act.put, List.getElem_toArray, List.getElem_cons_succ, List.getElem_cons_zero, List.setIfInBounds_toArray, List.set_cons_zero, List.set_cons_succ]
  refine wpAnyH_ready (rs := [2]) (by kernel_rfl) (by simp) ?_
  refine AllReadyH.cons rfl (fun K hK => ?_) AllReadyH.nil
  rw [if_pos (by rfl)]
  (have hSx := hHeld; refine wp_buildSlice 103 58 2 _ rfl #[.slice (some ⟨A, 0, none⟩) 32 32, .slice (some ⟨A + 1, 0, none⟩) 32 32] i0 _ Try.underlying103 hi hz0 (by rw [hz1]; decide) (by rw [hz1]; decide) (by rw [hz1]; first | rfl | kernel_rfl | (simp [Instr.fill, Value.cells, Act.eval, Act.put, Array.range]; done) | (simp [Instr.fill, Value.cells, Act.eval, Act.put]; rfl) | trace_state) ?_)
  refine hK.out _ _ ?_ (fun hHeld => ?_)
  · ((try dsimp only); exact ⟨heap_old' _ _ hHeld.1, heap_old' _ _ hHeld.2⟩)
  clear hK K
  try simp only [Act.put, List.getElem_toArray, List.getElem_cons_succ, List.getElem_cons_zero, List.setIfInBounds_toArray, List.set_cons_zero, List.set_cons_succ]
  refine wpAnyH_ready (rs := [3]) (by kernel_rfl) (by simp) ?_
  refine AllReadyH.cons rfl (fun K hK => ?_) AllReadyH.nil
  go_simp
  (go_at_call 41; refine (concat_any a b A (A + 1) W.heap.size (0, 0) (0, 0) (0, 0) _ hHeld.1 hHeld.2 (heap_new _ _)).mono ?_; rintro e w1 ⟨ao, cap, rfl, hO, hx1⟩; have hC1 := hx1.same (heap_old' _ _ (heap_drew' hR)) List.not_mem_nil)
  go_wp2_with fail
  refine hK.out _ _ ?_ (fun hHeld => ?_)
  · ((try dsimp only); exact ⟨hx1.same hHeld.1 List.not_mem_nil, hx1.same hHeld.2 List.not_mem_nil⟩)
  clear hK K
  try simp only [Act.put, List.getElem_toArray, List.getElem_cons_succ, List.getElem_cons_zero, List.setIfInBounds_toArray, List.set_cons_zero, List.set_cons_succ]
  refine wpAnyH_ready (rs := [4]) (by kernel_rfl) (by simp) ?_
  refine AllReadyH.cons rfl (fun K hK => ?_) AllReadyH.nil
  rw [if_pos (by rfl)]
  (have hq := conv_two hO; go_simp)
  refine hK.out _ _ ?_ (fun hHeld => ?_)
  · ((try dsimp only); exact hHeld)
  clear hK K
  try simp only [Act.put, List.getElem_toArray, List.getElem_cons_succ, List.getElem_cons_zero, List.setIfInBounds_toArray, List.set_cons_zero, List.set_cons_succ]
  refine wpAnyH_take (i := 5) (v := ?_) rfl (by kernel_rfl) (by kernel_rfl) (by kernel_rfl) (fun _ _ _ h => h) (Or.inl ⟨by rfl, ?_⟩) (by assumption) ?_
  rotate_left
  · (intro w hSw; (try dsimp only at hSw); first | (go_simp; done) | (go_simp; with_reducible rfl))
  try simp only [Act.put, List.getElem_toArray, List.getElem_cons_succ, List.getElem_cons_zero, List.setIfInBounds_toArray, List.set_cons_zero, List.set_cons_succ]
  refine wpAnyH_ready (rs := [6]) (by kernel_rfl) (by simp) ?_
  refine AllReadyH.cons rfl (fun K hK => ?_) AllReadyH.nil
  go_simp
  (go_at_call 12; refine (of_any _ HZ.out _).mono ?_; rintro e w2 ⟨cs, rfl, hcs, hx2⟩; have hC2 := hx2.same hC1 List.not_mem_nil; have his : Hid (IsSum cs) := Hs.hid (by rw [hcs.out]; exact isSum_digV _))
  go_wp2_with fail
  refine hK.out _ _ ?_ (fun hHeld => ?_)
  · ((try dsimp only); exact ⟨hx2.same hHeld.1 List.not_mem_nil, hx2.same hHeld.2 List.not_mem_nil⟩)
  clear hK K
  try simp only [Act.put, List.getElem_toArray, List.getElem_cons_succ, List.getElem_cons_zero, List.setIfInBounds_toArray, List.set_cons_zero, List.set_cons_succ]
  refine wpAnyH_ready (rs := [7]) (by kernel_rfl) (by simp) ?_
  refine AllReadyH.cons rfl (fun K hK => ?_) AllReadyH.nil
  rw [if_pos (by rfl)]
  (refine wp_store_row 35 _ _ rfl _ cs rfl rfl _ _ hC2 his.out.info his.out.zero his.out.2 ?_)
  refine hK.out _ _ ?_ (fun hHeld => ?_)
  · ((try dsimp only); (rw [setRow_other _ _ _ _ (by omega), setRow_other _ _ _ _ (by omega)]; exact hHeld))
  clear hK K
  try simp only [Act.put, List.getElem_toArray, List.getElem_cons_succ, List.getElem_cons_zero, List.setIfInBounds_toArray, List.set_cons_zero, List.set_cons_succ]
  refine wpAnyH_done (by kernel_rfl) ?_ _
  refine NoPanic.normal ?_
  go_wp2
  have hxf : Ext [] w (w2.setRow (A + 1 + 1) cs) := (((hx0.drew.alloc _).trans0 hx1).trans0 hx2).trans (setRow_ext (A + 1 + 1) _) (fun g hg => .inr (by simp at hg; subst hg; have := HAA.out; omega))
  refine bodyPost_ret (v := .agg cs) (results_cell_row (P := Try.prog) Try.results24 _ _ (A + 1 + 1) _ _ _ _ rfl (setRow_heap _ _ _ _ _ _ hC2) Try.underlying35 rfl (by rw [his.out.1]; exact infoSum)) rfl ⟨_, rfl, hcs, hxf⟩
end Go.Proofs.Ytjicjadibaomkaa
set_option linter.unusedSimpArgs false
set_option linter.unusedVariables false
set_option maxHeartbeats 2000000
set_option maxRecDepth 100000
namespace Go.Proofs.Ytjicjadibaomkaa
open Go.RowKit Go.Hs Go.Dg

/-- Any sum: 32 bytes. -/
structure S32 where
  l : List Nat
  len : l.length = 32
  lt : ∀ c ∈ l, c < 256
theorem S32.ext' {x y : S32} (h : x.l = y.l) : x = y := by cases x; cases y; cases h; rfl
instance : DecidableEq S32 := fun x y => if h : x.l = y.l then isTrue (S32.ext' h) else isFalse fun e => h (by rw [e])
def S32.V (x : S32) : Array Value := (x.l.map fun (c : Nat) => Value.int .u8 c).toArray
/-- As a text. -/
def S32.s (x : S32) : ByteArray := strN x.l
theorem S32.size (x : S32) : x.V.size = 32 := by simp [S32.V, x.len]
theorem S32.ssize (x : S32) : x.s.size = 32 := by
  show (x.l.map UInt8.ofNat).toArray.size = 32
  simp [x.len]
theorem S32.one (x : S32) : x.V.all (·.oneCell') = true := by
  rw [Array.all_eq_true']
  intro u hu
  simp only [S32.V, List.mem_toArray, List.mem_map] at hu
  obtain ⟨c, _, rfl⟩ := hu
  rfl
theorem S32.s_inj {x y : S32} (h : x.s = y.s) : x = y := by
  apply S32.ext'
  have h1 : x.l.map UInt8.ofNat = y.l.map UInt8.ofNat := by
    have := congrArg (fun b : ByteArray => b.data.toList) h
    simpa [S32.s, strN] using this
  apply List.ext_getElem?
  intro i
  have h2 := congrArg (·[i]?) h1
  simp only [List.getElem?_map] at h2
  cases hx : x.l[i]? with
  | none => rw [hx] at h2; cases hy : y.l[i]? with
    | none => rfl
    | some b => rw [hy] at h2; simp at h2
  | some a => rw [hx] at h2; cases hy : y.l[i]? with
    | none => rw [hy] at h2; simp at h2
    | some b =>
      rw [hy] at h2
      have ha := x.lt a (List.mem_of_getElem? hx)
      have hb := y.lt b (List.mem_of_getElem? hy)
      have h3 := congrArg UInt8.toNat (Option.some.inj h2)
      simp [UInt8.toNat_ofNat'] at h3
      rw [Nat.mod_eq_of_lt ha, Nat.mod_eq_of_lt hb] at h3
      rw [h3]
theorem digN_lt (t : ByteArray) : ∀ c ∈ digN t, c < 256 := by
  intro c hc
  simp only [digN, List.mem_map] at hc
  obtain ⟨j, _, rfl⟩ := hc
  have h1 : sumByte (sumF t) j < 256 := by unfold sumByte; exact Int.emod_lt_of_pos _ (by decide)
  have h2 : 0 ≤ sumByte (sumF t) j := by unfold sumByte; exact Int.emod_nonneg _ (by decide)
  omega
/-- The sum of a text. -/
def dig (t : ByteArray) : S32 := ⟨digN t, digN_len t, digN_lt t⟩
theorem dig_V (t : ByteArray) : digV t = (dig t).V := digN_V t
theorem dig_s (t : ByteArray) : (dig t).s = strN (digN t) := rfl
theorem S32.bytes (x : S32) : x.V = bytesL (fun j => ((x.l.getD j 0 : Nat) : Int)) := by
  apply Array.ext_getElem?
  intro i
  by_cases h : i < 32
  · rw [bytesL_get _ h]
    have hl : i < x.l.length := by rw [x.len]; exact h
    simp [S32.V, List.getD, hl]
  · rw [Array.getElem?_eq_none (by rw [x.size]; omega), Array.getElem?_eq_none (by rw [bytesL_size]; omega)]
theorem run_eq_V (x y : S32) (w : World) : (Op.equal 35 (.agg x.V) (.agg y.V)).run Try.prog w = .ok (decide (x = y)) w := by
  rw [x.bytes, y.bytes, run_eq_sum]
  congr 1
  rw [Bool.eq_iff_iff, List.all_eq_true, decide_eq_true_iff]
  constructor
  · intro h
    apply S32.ext'
    apply List.ext_getElem?
    intro i
    by_cases hi : i < 32
    · have := h i (by simpa using hi)
      have h1 : i < x.l.length := by rw [x.len]; exact hi
      have h2 : i < y.l.length := by rw [y.len]; exact hi
      simp [List.getD, h1, h2] at this
      rw [List.getElem?_eq_getElem h1, List.getElem?_eq_getElem h2]
      congr 1; omega
    · rw [List.getElem?_eq_none (by rw [x.len]; omega), List.getElem?_eq_none (by rw [y.len]; omega)]
  · rintro rfl j _
    simp
/-- A sum as bytes. -/
theorem conv_V {w : World} {A : Nat} {x : S32} {fr : Nat × Nat} (h : w.heap[A]? = some (.cells x.V 35 fr)) : (convert 58 9 (.slice (some ⟨A, 0, none⟩) 32 32)).run Try.prog w = .ok (.string x.s) w := by
  have hc := run_convert_bytes_arg (P := Try.prog) w 58 5 Try.underlying58 Try.underlying5 A 0 32 32 (x.l.map fun (c : Nat) => (c : Int)) (by simp [x.len]) (fun i hi => by
    have hi' : i < x.l.length := by rw [x.len]; exact hi
    rw [Nat.zero_add, cellAt h i, S32.V]
    simp [List.getD, hi']) 9 Try.underlying9
  rw [hc]
  congr 2
  unfold S32.s strN strOfNums
  rw [List.map_map]
  rfl
/-- The node of two sums. -/
def node2 (a b : ByteArray) : ByteArray := ⟨#[1]⟩ ++ a ++ b
theorem node2_def (a b : ByteArray) : node2 a b = ⟨#[1]⟩ ++ a ++ b := rfl
theorem node2_size (a b : ByteArray) : (node2 a b).size = 1 + a.size + b.size := by rw [node2_def, ByteArray.size_append, ByteArray.size_append]; rfl
def leaf2 (a : ByteArray) : ByteArray := ⟨#[0]⟩ ++ a
theorem leaf2_def (a : ByteArray) : leaf2 a = ⟨#[0]⟩ ++ a := rfl
theorem leaf2_size (a : ByteArray) : (leaf2 a).size = 1 + a.size := by rw [leaf2_def, ByteArray.size_append]; rfl
def nodeS (x y : S32) : S32 := dig (node2 x.s y.s)
def zeroS : S32 := ⟨List.replicate 32 0, by simp, by simp⟩
end Go.Proofs.Ytjicjadibaomkaa
set_option linter.unusedSimpArgs false
set_option linter.unusedVariables false
set_option maxHeartbeats 2000000
set_option maxRecDepth 100000
namespace Go.Proofs.Ytjicjadibaomkaa
open Go.RowKit Go.Hs

theorem bitLenAux_log : ∀ (f x : Nat), x ≠ 0 → x < 2 ^ f → Lib.bitLenAux f x = x.log2 + 1
  | 0, x, h0, h => by simp at h; omega
  | f + 1, x, h0, h => by
    simp only [Lib.bitLenAux, h0, if_false]
    by_cases h1 : x < 2
    · have : x = 1 := by omega
      subst this
      have hl : Nat.log2 1 = 0 := by decide +kernel
      cases f <;> simp [Lib.bitLenAux, hl]
    · rw [bitLenAux_log f (x / 2) (by omega) (by rw [Nat.pow_succ] at h; omega), Nat.log2_def x, if_pos (by omega)]
      omega
/-- The greatest power of two below n. -/
def halfN (n : Nat) : Nat := 2 ^ (n - 1).log2
theorem bitLen_log {x : Nat} (h0 : x ≠ 0) (h : x < 2 ^ 64) : Lib.bitLen x = x.log2 + 1 := bitLenAux_log 64 x h0 h
theorem halfN_lt {n : Nat} (h : 2 ≤ n) : halfN n < n := by
  have := Nat.log2_self_le (n := n - 1) (by omega)
  unfold halfN; omega
theorem halfN_two {n : Nat} (h : 2 ≤ n) : n ≤ 2 * halfN n := by
  have := Nat.lt_log2_self (n := n - 1)
  unfold halfN
  rw [Nat.pow_succ] at this; omega
theorem halfN_pos (n : Nat) : 0 < halfN n := Nat.two_pow_pos _
end Go.Proofs.Ytjicjadibaomkaa
set_option linter.unusedSimpArgs false
set_option linter.unusedVariables false
set_option maxHeartbeats 2000000
set_option maxRecDepth 100000
namespace Go.Proofs.Ytjicjadibaomkaa

theorem halfN_le {n h : Nat} (h2 : 2 ^ h ≤ n - 1) (h3 : n - 1 < 2 ^ (h + 1)) : halfN n = 2 ^ h := by
  have h0 : n - 1 ≠ 0 := by have := Nat.two_pow_pos h; omega
  have : (n - 1).log2 = h := by
    apply Nat.le_antisymm
    · have := (Nat.log2_lt h0).2 h3; omega
    · exact (Nat.le_log2 h0).2 h2
  unfold halfN; rw [this]
theorem halfN_self (h : Nat) : halfN (2 ^ (h + 1)) = 2 ^ h := by
  have := Nat.two_pow_pos h
  apply halfN_le <;> (have : (2:Nat) ^ (h + 1) = 2 * 2 ^ h := by rw [Nat.pow_succ]; omega) <;> omega
/-- The sides of a leaf's sums, from within out: true where the sum stands on the left. -/
def dirs (i n : Nat) : List Bool :=
  if h : n ≤ 1 then [] else if i < halfN n then dirs i (halfN n) ++ [false] else dirs (i - halfN n) (n - halfN n) ++ [true]
termination_by n
decreasing_by
  · exact halfN_lt (by omega)
  · have := halfN_pos n; omega
/-- Those of the first m among n, behind the first sum. -/
def dirsB (m n : Nat) : List Bool :=
  if h : n ≤ 1 ∨ m = n then [] else if m ≤ halfN n then dirsB m (halfN n) ++ [false] else dirsB (m - halfN n) (n - halfN n) ++ [true]
termination_by n
decreasing_by
  · exact halfN_lt (by omega)
  · have := halfN_pos n; omega
/-- Whether the elder root itself stands first. -/
def firstB (m n : Nat) : Bool :=
  if h : n ≤ 1 ∨ m = n then true else if m ≤ halfN n then firstB m (halfN n) else false
termination_by n
decreasing_by
  · exact halfN_lt (by omega)
def climbE (a e : Nat) : Nat × Nat := if h : a % 2 = 0 ∧ a ≠ 0 then climbE (a / 2) (e / 2) else (a, e)
termination_by a
decreasing_by omega
def climbO (a e : Nat) : Nat × Nat := if h : a % 2 = 1 then climbO (a / 2) (e / 2) else (a, e)
termination_by a
decreasing_by omega
def sideW (a e : Nat) : Bool := decide (a % 2 = 1 ∨ a = e)
def nextP (a e : Nat) : Nat × Nat := if sideW a e = true then climbE a e else (a, e)
theorem climbE_le (a e : Nat) : (climbE a e).2 ≤ e := by
  induction a using Nat.strongRecOn generalizing e with
  | _ a ih =>
    rw [climbE]; split
    · next h => have := ih (a / 2) (by omega) (e / 2); omega
    · exact Nat.le_refl _
theorem nextP_le (a e : Nat) : (nextP a e).2 ≤ e := by
  unfold nextP; split
  · exact climbE_le a e
  · exact Nat.le_refl _
def ways (a e : Nat) : List Bool :=
  if h : e = 0 then [] else sideW a e :: ways ((nextP a e).1 / 2) ((nextP a e).2 / 2)
termination_by e
decreasing_by have := nextP_le a e; omega
theorem ways_zero (a : Nat) : ways a 0 = [] := by rw [ways]; rfl
theorem ways_pos {a e : Nat} (h : e ≠ 0) : ways a e = sideW a e :: ways ((nextP a e).1 / 2) ((nextP a e).2 / 2) := by
  rw [ways, dif_neg h]
theorem climbE_odd {a e : Nat} (h : a % 2 = 1) : climbE a e = (a, e) := by
  rw [climbE, dif_neg (by omega)]
theorem ways_odd {a e : Nat} (h : e ≠ 0) (ho : a % 2 = 1) : ways a e = true :: ways (a / 2) (e / 2) := by
  have hs : sideW a e = true := by simp [sideW, ho]
  rw [ways_pos h]; unfold nextP; rw [if_pos hs, climbE_odd ho, hs]
theorem ways_lt {a e : Nat} (h : e ≠ 0) (ho : a % 2 = 0) (hne : a ≠ e) : ways a e = false :: ways (a / 2) (e / 2) := by
  have hs : sideW a e = false := by simp [sideW, ho, hne]
  rw [ways_pos h]; unfold nextP; rw [hs]; rfl
theorem ways_even {a : Nat} (h : a ≠ 0) (ho : a % 2 = 0) : ways a a = ways (a / 2) (a / 2) := by
  have hs : sideW a a = true := by simp [sideW]
  have hs' : sideW (a / 2) (a / 2) = true := by simp [sideW]
  rw [ways_pos h, ways_pos (a := a / 2) (by omega)]; unfold nextP; rw [if_pos hs, if_pos hs', hs, hs', climbE, dif_pos ⟨ho, h⟩]
theorem div_pow_succ (e h : Nat) : e / 2 / 2 ^ h = e / 2 ^ (h + 1) := by
  rw [Nat.div_div_eq_div_mul, Nat.pow_succ, Nat.mul_comm]
theorem ways_left : ∀ (h a e : Nat), a < 2 ^ h → e / 2 ^ h = 1 → ways a e = ways a (2 ^ h - 1) ++ [false]
  | 0, a, e, h1, h2 => by
    have ha : a = 0 := by simpa using h1
    have he : e = 1 := by simpa using h2
    subst ha; subst he
    rw [ways_lt (by omega) rfl (by omega)]
    show false :: ways 0 0 = ways 0 0 ++ [false]
    rw [ways_zero]; rfl
  | h + 1, a, e, h1, h2 => by
    have hp := Nat.two_pow_pos h
    have hs : (2 : Nat) ^ (h + 1) = 2 * 2 ^ h := by rw [Nat.pow_succ]; omega
    have he : 2 ^ (h + 1) ≤ e := by
      apply Nat.le_of_not_lt; intro hh; rw [Nat.div_eq_of_lt hh] at h2; omega
    have IH := ways_left h (a / 2) (e / 2) (by omega) (by rw [div_pow_succ]; exact h2)
    have hE : (2 ^ (h + 1) - 1) / 2 = 2 ^ h - 1 := by omega
    rcases Nat.mod_two_eq_zero_or_one a with ho | ho
    · rw [ways_lt (by omega) ho (by omega), ways_lt (e := 2 ^ (h + 1) - 1) (by omega) ho (by omega), IH, hE]; rfl
    · rw [ways_odd (by omega) ho, ways_odd (e := 2 ^ (h + 1) - 1) (by omega) ho, IH, hE]; rfl
theorem ways_pow : ∀ h : Nat, ways (2 ^ h) (2 ^ h) = [true]
  | 0 => by rw [show (2:Nat) ^ 0 = 1 from rfl, ways_odd (by omega) rfl, ways_zero]
  | h + 1 => by
    have hp := Nat.two_pow_pos h
    have hs : (2 : Nat) ^ (h + 1) = 2 * 2 ^ h := by rw [Nat.pow_succ]; omega
    rw [ways_even (by omega) (by omega), show 2 ^ (h + 1) / 2 = 2 ^ h by omega, ways_pow h]
theorem ways_right : ∀ (h a e : Nat), a ≤ e → e < 2 ^ h → ways (2 ^ h + a) (2 ^ h + e) = ways a e ++ [true]
  | 0, a, e, h1, h2 => by
    have he : e = 0 := by simpa using h2
    have ha : a = 0 := by omega
    subst ha; subst he
    rw [ways_zero]; exact ways_pow 0
  | h + 1, a, e, h1, h2 => by
    have hp := Nat.two_pow_pos h
    have hs : (2 : Nat) ^ (h + 1) = 2 * 2 ^ h := by rw [Nat.pow_succ]; omega
    rcases Nat.eq_zero_or_pos e with he | he
    · have ha : a = 0 := by omega
      subst ha; subst he
      rw [ways_zero]; exact ways_pow (h + 1)
    have IH := ways_right h (a / 2) (e / 2) (by omega) (by omega)
    have e1 : (2 ^ (h + 1) + a) / 2 = 2 ^ h + a / 2 := by omega
    have e2 : (2 ^ (h + 1) + e) / 2 = 2 ^ h + e / 2 := by omega
    rcases Nat.mod_two_eq_zero_or_one a with ho | ho
    · by_cases hae : a = e
      · subst hae
        rw [ways_even (a := 2 ^ (h + 1) + a) (by omega) (by omega), ways_even (a := a) (by omega) ho, e1, IH]
      · rw [ways_lt (a := 2 ^ (h + 1) + a) (by omega) (by omega) (by omega), ways_lt (a := a) (by omega) ho hae, e1, e2, IH]; rfl
    · rw [ways_odd (a := 2 ^ (h + 1) + a) (by omega) (by omega), ways_odd (a := a) (by omega) ho, e1, e2, IH]; rfl
/-- n's half, as a power. -/
theorem half_pow {n : Nat} (h2 : 2 ≤ n) : ∃ h, halfN n = 2 ^ h ∧ 2 ^ h ≤ n - 1 ∧ n - 1 < 2 ^ (h + 1) :=
  ⟨(n - 1).log2, rfl, Nat.log2_self_le (by omega), Nat.lt_log2_self⟩
theorem div_one {e h : Nat} (h2 : 2 ^ h ≤ e) (h3 : e < 2 ^ (h + 1)) : e / 2 ^ h = 1 := by
  have hs : (2 : Nat) ^ (h + 1) = 2 * 2 ^ h := by rw [Nat.pow_succ]; omega
  have hp := Nat.two_pow_pos h
  exact Nat.div_eq_of_lt_le (by omega) (by omega)
theorem ways_dirs (n i : Nat) (hi : i < n) : ways i (n - 1) = dirs i n := by
  induction n using Nat.strongRecOn generalizing i with
  | _ n ih =>
    by_cases h1 : n ≤ 1
    · rw [dirs, dif_pos h1, show n - 1 = 0 by omega, ways_zero]
    · obtain ⟨h, e1, e2, e3⟩ := half_pow (n := n) (by omega)
      have hs : (2 : Nat) ^ (h + 1) = 2 * 2 ^ h := by rw [Nat.pow_succ]; omega
      have hp := Nat.two_pow_pos h
      rw [dirs, dif_neg h1, e1]
      split
      · next hlt => rw [ways_left h i (n - 1) hlt (div_one e2 e3), ih (2 ^ h) (by omega) i hlt]
      · next hlt =>
        have := ways_right h (i - 2 ^ h) (n - 1 - 2 ^ h) (by omega) (by omega)
        rw [show 2 ^ h + (i - 2 ^ h) = i by omega, show 2 ^ h + (n - 1 - 2 ^ h) = n - 1 by omega] at this
        rw [this, ← ih (n - 2 ^ h) (by omega) (i - 2 ^ h) (by omega), show n - 2 ^ h - 1 = n - 1 - 2 ^ h by omega]
/-- How many ones a number ends in. -/
def ones (a : Nat) : Nat := if h : a % 2 = 1 then ones (a / 2) + 1 else 0
termination_by a
decreasing_by omega
theorem climbO_ones (a e : Nat) : climbO a e = (a / 2 ^ ones a, e / 2 ^ ones a) := by
  induction a using Nat.strongRecOn generalizing e with
  | _ a ih =>
    by_cases h : a % 2 = 1
    · have e1 : ones a = ones (a / 2) + 1 := by rw [ones, dif_pos h]
      rw [climbO, dif_pos h, ih (a / 2) (by omega), e1, div_pow_succ, div_pow_succ]
    · rw [climbO, dif_neg h, ones, dif_neg h]; simp
theorem ones_all : ∀ h : Nat, ones (2 ^ h - 1) = h
  | 0 => by rw [ones]; simp
  | h + 1 => by
    have hs : (2 : Nat) ^ (h + 1) = 2 * 2 ^ h := by rw [Nat.pow_succ]; omega
    have hp := Nat.two_pow_pos h
    rw [ones, dif_pos (by omega), show (2 ^ (h + 1) - 1) / 2 = 2 ^ h - 1 by omega, ones_all h]
theorem ones_lt : ∀ (h a : Nat), a < 2 ^ h - 1 → ones a < h
  | 0, a, h1 => by simp at h1
  | h + 1, a, h1 => by
    have hs : (2 : Nat) ^ (h + 1) = 2 * 2 ^ h := by rw [Nat.pow_succ]; omega
    rw [ones]; split
    · next ho => have := ones_lt h (a / 2) (by omega); omega
    · omega
theorem ones_add : ∀ (h a : Nat), ones a < h → ones (2 ^ h + a) = ones a
  | 0, a, h1 => absurd h1 (by omega)
  | h + 1, a, h1 => by
    have hs : (2 : Nat) ^ (h + 1) = 2 * 2 ^ h := by rw [Nat.pow_succ]; omega
    by_cases ho : a % 2 = 1
    · have e1 : ones a = ones (a / 2) + 1 := by rw [ones, dif_pos ho]
      have e2 : ones (2 ^ (h + 1) + a) = ones ((2 ^ (h + 1) + a) / 2) + 1 := by rw [ones, dif_pos (by omega)]
      rw [e1, e2, show (2 ^ (h + 1) + a) / 2 = 2 ^ h + a / 2 by omega, ones_add h (a / 2) (by omega)]
    · have e1 : ones a = 0 := by rw [ones, dif_neg ho]
      have e2 : ones (2 ^ (h + 1) + a) = 0 := by rw [ones, dif_neg (by omega)]
      rw [e1, e2]
theorem div_pow_sub {h t : Nat} (ht : t ≤ h) : 2 ^ h / 2 ^ t = 2 ^ (h - t) := Nat.pow_div ht (by omega)
theorem pow_split {h t : Nat} (ht : t ≤ h) : (2 : Nat) ^ h = 2 ^ (h - t) * 2 ^ t := by rw [← Nat.pow_add]; congr 1; omega
theorem add_div_pow {h t a : Nat} (ht : t ≤ h) : (2 ^ h + a) / 2 ^ t = 2 ^ (h - t) + a / 2 ^ t := by
  rw [pow_split ht, Nat.add_comm, Nat.add_mul_div_right _ _ (Nat.two_pow_pos t), Nat.add_comm]
theorem ones_div {h t : Nat} (ht : t ≤ h) : (2 ^ h - 1) / 2 ^ t = 2 ^ (h - t) - 1 := by
  have hp := Nat.two_pow_pos t
  have hq := Nat.two_pow_pos (h - t)
  have e := pow_split ht
  apply Nat.div_eq_of_lt_le
  · rw [e, Nat.sub_mul]; omega
  · rw [show (2 ^ (h - t) - 1 + 1 : Nat) = 2 ^ (h - t) by omega, ← e]
    have := Nat.two_pow_pos h; omega
theorem climbO_dirsB (n m : Nat) (h1 : 1 ≤ m) (hm : m < n) :
    ways (climbO (m - 1) (n - 1)).1 (climbO (m - 1) (n - 1)).2 = dirsB m n ∧ (decide ((climbO (m - 1) (n - 1)).1 = 0)) = firstB m n ∧ (climbO (m - 1) (n - 1)).1 ≤ (climbO (m - 1) (n - 1)).2 ∧ (climbO (m - 1) (n - 1)).2 ≤ n := by
  induction n using Nat.strongRecOn generalizing m with
  | _ n ih =>
    obtain ⟨h, e1, e2, e3⟩ := half_pow (n := n) (by omega)
    have hs : (2 : Nat) ^ (h + 1) = 2 * 2 ^ h := by rw [Nat.pow_succ]; omega
    have hp := Nat.two_pow_pos h
    rw [dirsB, dif_neg (by omega), firstB, dif_neg (by omega), e1]
    rw [climbO_ones]
    refine ⟨?_, ?_, ?_, ?_⟩
    · split
      · next hle =>
        by_cases heq : m = 2 ^ h
        · have hB : dirsB m (2 ^ h) = [] := by rw [dirsB, dif_pos (.inr heq)]
          rw [hB, heq, ones_all h, div_one e2 e3, Nat.div_eq_of_lt (by omega : 2 ^ h - 1 < 2 ^ h), show ways (0, 1).1 (0, 1).2 = ways 0 1 from rfl, ways_lt (by omega) rfl (by omega), show 1 / 2 = 0 from rfl, ways_zero]; rfl
        · have IH := (ih (2 ^ h) (by omega) m h1 (by omega)).1
          have ho := ones_lt h (m - 1) (by omega)
          rw [climbO_ones] at IH
          rw [← IH, ones_div (Nat.le_of_lt ho)]
          refine ways_left (h - ones (m - 1)) _ _ ?_ ?_
          · rw [Nat.div_lt_iff_lt_mul (Nat.two_pow_pos _), ← pow_split (Nat.le_of_lt ho)]; omega
          · rw [Nat.div_div_eq_div_mul, Nat.mul_comm, ← pow_split (Nat.le_of_lt ho)]; exact div_one e2 e3
      · next hle =>
        have IH := (ih (n - 2 ^ h) (by omega) (m - 2 ^ h) (by omega) (by omega)).1
        have ho := ones_lt h (m - 2 ^ h - 1) (by omega)
        have e4 : ones (m - 1) = ones (m - 2 ^ h - 1) := by
          have := ones_add h (m - 2 ^ h - 1) ho
          rwa [show 2 ^ h + (m - 2 ^ h - 1) = m - 1 by omega] at this
        rw [climbO_ones] at IH
        rw [← IH, e4]
        have a1 : (m - 1) / 2 ^ ones (m - 2 ^ h - 1) = 2 ^ (h - ones (m - 2 ^ h - 1)) + (m - 2 ^ h - 1) / 2 ^ ones (m - 2 ^ h - 1) := by
          rw [← add_div_pow (Nat.le_of_lt ho)]; congr 1; omega
        have a2 : (n - 1) / 2 ^ ones (m - 2 ^ h - 1) = 2 ^ (h - ones (m - 2 ^ h - 1)) + (n - 2 ^ h - 1) / 2 ^ ones (m - 2 ^ h - 1) := by
          rw [← add_div_pow (Nat.le_of_lt ho)]; congr 1; omega
        show ways ((m - 1) / 2 ^ ones (m - 2 ^ h - 1)) ((n - 1) / 2 ^ ones (m - 2 ^ h - 1)) = _
        rw [a1, a2]
        refine ways_right _ _ _ (Nat.div_le_div_right (by omega)) ?_
        rw [Nat.div_lt_iff_lt_mul (Nat.two_pow_pos _), ← pow_split (Nat.le_of_lt ho)]; omega
    · split
      · next hle =>
        by_cases heq : m = 2 ^ h
        · have hB : firstB m (2 ^ h) = true := by rw [firstB, dif_pos (.inr heq)]
          rw [hB, heq, ones_all h, Nat.div_eq_of_lt (by omega : 2 ^ h - 1 < 2 ^ h)]; rfl
        · have IH := (ih (2 ^ h) (by omega) m h1 (by omega)).2.1
          rw [climbO_ones] at IH
          rw [← IH]
      · next hle =>
        have ho := ones_lt h (m - 2 ^ h - 1) (by omega)
        have e4 : ones (m - 1) = ones (m - 2 ^ h - 1) := by
          have := ones_add h (m - 2 ^ h - 1) ho
          rwa [show 2 ^ h + (m - 2 ^ h - 1) = m - 1 by omega] at this
        rw [e4]
        have a1 : (m - 1) / 2 ^ ones (m - 2 ^ h - 1) = 2 ^ (h - ones (m - 2 ^ h - 1)) + (m - 2 ^ h - 1) / 2 ^ ones (m - 2 ^ h - 1) := by
          rw [← add_div_pow (Nat.le_of_lt ho)]; congr 1; omega
        have := Nat.two_pow_pos (h - ones (m - 2 ^ h - 1))
        simp only [decide_eq_false_iff_not]
        show ¬ (m - 1) / 2 ^ ones (m - 2 ^ h - 1) = 0
        rw [a1]
        exact Nat.ne_of_gt (Nat.lt_of_lt_of_le this (Nat.le_add_right _ _))
    · exact Nat.div_le_div_right (by omega)
    · exact Nat.le_trans (Nat.div_le_self _ _) (by omega)

section
variable {B : Type} (N : B → B → B)
def nodeD (d : Bool) (s x : B) : B := if d then N s x else N x s
def foldU : List Bool → B → List B → B
  | d :: ds, x, s :: ss => foldU ds (nodeD N d s x) ss
  | _, x, _ => x
/-- Of the elder root: only what stands on the left counts. -/
def foldO : List Bool → B → List B → B
  | d :: ds, x, s :: ss => foldO ds (if d then N s x else x) ss
  | _, x, _ => x
theorem foldU_snoc : ∀ (ds : List Bool) (x : B) (ss : List B) (d : Bool) (s : B), ds.length = ss.length → foldU N (ds ++ [d]) x (ss ++ [s]) = nodeD N d s (foldU N ds x ss)
  | [], x, [], d, s, _ => rfl
  | [], x, t :: ss, d, s, h => by simp at h
  | c :: ds, x, [], d, s, h => by simp at h
  | c :: ds, x, t :: ss, d, s, h => by
    show foldU N (ds ++ [d]) _ (ss ++ [s]) = nodeD N d s (foldU N ds _ ss)
    exact foldU_snoc ds _ ss d s (by simpa using h)
theorem foldO_snoc : ∀ (ds : List Bool) (x : B) (ss : List B) (d : Bool) (s : B), ds.length = ss.length → foldO N (ds ++ [d]) x (ss ++ [s]) = if d then N s (foldO N ds x ss) else foldO N ds x ss
  | [], x, [], d, s, _ => by cases d <;> rfl
  | [], x, t :: ss, d, s, h => by simp at h
  | c :: ds, x, [], d, s, h => by simp at h
  | c :: ds, x, t :: ss, d, s, h => by
    show foldO N (ds ++ [d]) _ (ss ++ [s]) = if d then N s (foldO N ds _ ss) else foldO N ds _ ss
    exact foldO_snoc ds _ ss d s (by simpa using h)
structure WSt (B : Type) where
  a : Nat
  e : Nat
  o : B
  l : B
  st : Bool
def WSt.take (w : WSt B) (x : B) : WSt B :=
  if w.e = 0 then { w with st := true }
  else ⟨(nextP w.a w.e).1 / 2, (nextP w.a w.e).2 / 2, if sideW w.a w.e then N x w.o else w.o, nodeD N (sideW w.a w.e) x w.l, w.st⟩
theorem take_stop (xs : List B) : ∀ w : WSt B, w.st = true → (xs.foldl (WSt.take N) w).st = true := by
  induction xs with
  | nil => intro w h; exact h
  | cons x xs ih =>
    intro w h
    refine ih _ ?_
    unfold WSt.take; split
    · rfl
    · exact h
theorem take_all (xs : List B) : ∀ w : WSt B, w.st = false →
    ((¬ (xs.foldl (WSt.take N) w).st = true ∧ (xs.foldl (WSt.take N) w).e = 0) ↔ xs.length = (ways w.a w.e).length) ∧
    (xs.length = (ways w.a w.e).length → (xs.foldl (WSt.take N) w).l = foldU N (ways w.a w.e) w.l xs ∧ (xs.foldl (WSt.take N) w).o = foldO N (ways w.a w.e) w.o xs) := by
  induction xs with
  | nil =>
    intro w h
    refine ⟨⟨fun q => ?_, fun q => ⟨by simp [h], ?_⟩⟩, fun q => ?_⟩
    · rw [show w.e = 0 from q.2, ways_zero]; rfl
    · by_cases he : w.e = 0
      · exact he
      · rw [ways_pos he] at q; simp at q
    · cases hw : ways w.a w.e <;> exact ⟨rfl, rfl⟩
  | cons x xs ih =>
    intro w h
    by_cases he : w.e = 0
    · have hs : (WSt.take N w x).st = true := by unfold WSt.take; rw [if_pos he]
      have := take_stop N xs _ hs
      rw [he, ways_zero]
      refine ⟨⟨fun q => absurd this q.1, fun q => by simp at q⟩, fun q => by simp at q⟩
    · have hw : WSt.take N w x = ⟨(nextP w.a w.e).1 / 2, (nextP w.a w.e).2 / 2, if sideW w.a w.e then N x w.o else w.o, nodeD N (sideW w.a w.e) x w.l, w.st⟩ := by
        unfold WSt.take; rw [if_neg he]
      have IH := ih (WSt.take N w x) (by rw [hw]; exact h)
      rw [List.foldl_cons, ways_pos he, List.length_cons, List.length_cons]
      rw [hw] at IH ⊢
      refine ⟨IH.1.trans ⟨fun q => congrArg (· + 1) q, fun q => Nat.succ.inj q⟩, fun q => ?_⟩
      exact IH.2 (Nat.succ.inj q)
end
end Go.Proofs.Ytjicjadibaomkaa
set_option linter.unusedSimpArgs false
set_option linter.unusedVariables false
set_option maxHeartbeats 1000000
set_option maxRecDepth 100000
namespace Go.Proofs.Ytjicjadibaomkaa
open Go.RowKit Go.Hs Go.Dg

theorem guardT : Try.prog.eqGuardType Try.prog.depth 35 = false := by kernel_rfl
theorem run_guard_sum (op : BinOp) (x y : Operand) (a b : Array Value) (w : World) (h : op = .eql ∨ op = .neq) : (eqGuard op 35 x y (.agg a) (.agg b)).run Try.prog w = .ok () w := by
  rcases h with rfl | rfl <;> simp [eqGuard, Sem.run_bind, guardT, Sem.run]
section
variable {ops : Array Oper} {rest : List Oper} {o : Oper} {a : Act} {w : World} {Q : Exit → Act → World → Prop} {S : World → Prop}
/-- An operation that yields its value, whatever it is. -/
theorem wpList_yield {P : Program} (v : Value) (hg : Region.wanted o (yielded ops a.tmps) = true) (h : (execOp a.eval o).run P w = .ok (.value v) w) (hK : wpList P ops Q rest (a.put o.dst v) w) : wpList P ops Q (o :: rest) a w := by
  refine wpList_step fun K' hK' => ?_
  rw [if_pos hg]
  unfold Oper.wp
  rw [h, Oper.upon_value]
  exact hK' _ _ hK
theorem wpStill_yield {P : Program} {Q : Act → Prop} (v : Value) (hg : Region.wanted o (yielded ops a.tmps) = true) (h : (execOp a.eval o).run P w = .ok (.value v) w) (hK : wpStill P ops w Q rest (a.put o.dst v)) : wpStill P ops w Q (o :: rest) a := by
  refine wpStill_step fun K' hK' => ?_
  rw [if_pos hg]
  unfold Oper.still
  rw [h, Oper.stillUpon_value]
  exact hK' _ hK
theorem yieldsIf_of {P : Program} (v : Value) (hg : Region.wanted o (yielded ops a.tmps) = true) (h : ∀ w, S w → (execOp a.eval o).run P w = .ok (.value v) w) : YieldsIf P ops S o v a := .inl ⟨hg, h⟩
end
theorem load_sum {w : World} {g : Nat} {cs : Array Value} {fr : Nat × Nat} (hg : w.heap[g]? = some (.cells cs 35 fr)) (h : cs.size = 32) : (loadVar 35 ⟨g, 0, none⟩).run Try.prog w = .ok (.agg cs) w :=
  run_loadVar_row w g _ _ cs fr _ hg Try.underlying35 rfl (by rw [h]; exact infoSum)
end Go.Proofs.Ytjicjadibaomkaa
set_option linter.unusedSimpArgs false
set_option linter.unusedVariables false
set_option maxHeartbeats 1000000
set_option maxRecDepth 100000
namespace Go.Proofs.Ytjicjadibaomkaa
open Go.RowKit Go.Hs Go.Dg

theorem exec_eq_V {a : Act} {o : Oper} (x y : Operand) (t : TypeId) (ho : o.op = Op.binOp .eql 35 x y t) (p q : S32) (hx : a.eval x = .agg p.V) (hy : a.eval y = .agg q.V) (w : World) :
    (execOp a.eval o).run Try.prog w = .ok (.value (.bool (decide (p = q)))) w := by
  unfold execOp
  simp only [ho, hx, hy, Sem.run_bind, run_guard_sum _ _ _ _ _ _ (.inl rfl), Result.andThen_ok, binOp, run_eq_V, Sem.run_pure]
theorem exec_load_midV {a : Act} {o : Oper} (y : Operand) (ho : o.op = Op.load 35 y) (b off : Nat) (hy : a.eval y = .pointer (some ⟨b, off, none⟩)) (x : S32) (w : World) (h : w.rangeAt b off x.V.toList) :
    (execOp a.eval o).run Try.prog w = .ok (.value (.agg x.V)) w := by
  unfold execOp
  have := run_loadVar_mid (P := Try.prog) w b off 35 x.V.toList _ h Try.underlying35 rfl (by rw [Array.length_toList, x.size]; exact infoSum)
  simp only [ho, hy, Instr.loadAt, Instr.sureAddr, Sem.run_bind, Sem.run_pure, Result.andThen_ok, this]
theorem exec_load_rowV {a : Act} {o : Oper} (y : Operand) (ho : o.op = Op.load 35 y) (g : Nat) (hy : a.eval y = .pointer (some ⟨g, 0, none⟩)) (x : S32) (w : World) (h : ∃ fr, w.heap[g]? = some (.cells x.V 35 fr)) :
    (execOp a.eval o).run Try.prog w = .ok (.value (.agg x.V)) w := by
  obtain ⟨fr, h⟩ := h
  unfold execOp
  simp only [ho, hy, Instr.loadAt, Instr.sureAddr, Sem.run_bind, Sem.run_pure, Result.andThen_ok, load_sum h x.size]
end Go.Proofs.Ytjicjadibaomkaa
namespace Go.Hs
open Go Go.RowKit
structure Stl (P : Program) (ops : Array Oper) (w : World) (Q : Act → Prop) (l : List Oper) (a : Act) : Prop where
  out : wpStill P ops w Q l a
theorem still_val {P : Program} {ops : Array Oper} {w : World} {Q : Act → Prop} {a : Act} {o : Oper} {rest : List Oper} {v : Value} (hw : Region.wanted o (yielded ops a.tmps) = true)
    (hr : (execOp a.eval o).run P w = .ok (.value v) w) (h : Stl P ops w Q rest (a.put o.dst v)) : Stl P ops w Q (o :: rest) a := by
  refine ⟨wpStill_step fun K hK => ?_⟩
  rw [if_pos hw]
  unfold Oper.still
  rw [hr, Oper.stillUpon_value]
  exact hK _ h.out
theorem still_ok {P : Program} {ops : Array Oper} {w : World} {Q : Act → Prop} {a : Act} {o : Oper} {rest : List Oper} (hw : Region.wanted o (yielded ops a.tmps) = true)
    (hr : (execOp a.eval o).run P w = .ok .skip w) (h : Stl P ops w Q rest (a.put o.dst undef)) : Stl P ops w Q (o :: rest) a := by
  refine ⟨wpStill_step fun K hK => ?_⟩
  rw [if_pos hw]
  unfold Oper.still
  rw [hr, Oper.stillUpon_skip]
  exact hK _ h.out
theorem still_not {P : Program} {ops : Array Oper} {w : World} {Q : Act → Prop} {a : Act} {o : Oper} {rest : List Oper} (hw : Region.wanted o (yielded ops a.tmps) = false)
    (h : Stl P ops w Q rest (a.put o.dst undef)) : Stl P ops w Q (o :: rest) a := by
  refine ⟨wpStill_step fun K hK => ?_⟩
  rw [if_neg (by rw [hw]; simp)]
  exact hK _ h.out
theorem still_call {P : Program} {ops : Array Oper} {w : World} {Q : Act → Prop} {a : Act} {o : Oper} {rest : List Oper} {v : Value} {f : FuncId} {args : Array Value} (hw : Region.wanted o (yielded ops a.tmps) = true)
    (hr : (execOp a.eval o).run P w = .ok (.enter f args) w) (hc : Calls P f args w fun e w'' => e = .returned v ∧ w'' = w) (h : Stl P ops w Q rest (a.put o.dst v)) : Stl P ops w Q (o :: rest) a := by
  refine ⟨wpStill_step fun K hK => ?_⟩
  rw [if_pos hw]
  unfold Oper.still
  rw [hr]
  exact ⟨rfl, v, hc, hK _ h.out⟩
theorem still_end {P : Program} {ops : Array Oper} {w : World} {Q : Act → Prop} {a : Act} (h : Q a) : Stl P ops w Q [] a := ⟨wpStill_nil h⟩
theorem wp_region_stl {P : Program} {id : Nat} {Q : Exit → Act → World → Prop} {a : Act} {w : World} {l : List Oper} (hm : P.follows .mixedOrders = true) (hB : Region.lexB .any l.toArray = true)
    (h : Stl P l.toArray w.drew (fun a' => Q .normal a' w.drew) l a) : (Code.region id l.toArray true).wp P Q a w :=
  wp_region_still_lit hm hB h.out
theorem wp_region_stl_tail {P : Program} {id : Nat} {Q : Exit → Act → World → Prop} {a : Act} {w : World} {l : List Oper} (n : Nat) (hm : P.follows .mixedOrders = true) (hB : Region.lexTailB .any l.toArray n = true)
    (h : Stl P l.toArray w.drew (fun a' => wpList P l.toArray Q (l.drop n) a' w.drew) (l.take n) a) : (Code.region id l.toArray true).wp P Q a w :=
  wp_region_still_tail n hm hB h.out
end Go.Hs
set_option linter.unusedSimpArgs false
set_option linter.unusedVariables false
set_option maxHeartbeats 2000000
set_option maxRecDepth 100000
namespace Go.Proofs.Ytjicjadibaomkaa
open Go.RowKit Go.Hs Go.Dg

def nodeX (a b : S32) : ByteArray := ⟨#[1]⟩ ++ strN (a.l ++ b.l)
theorem strX_app (a b : S32) : (strN (a.l ++ b.l)).size = 64 := by
  show ((a.l ++ b.l).map UInt8.ofNat).toArray.size = 64
  simp [a.len, b.len]
theorem nodeX_size (a b : S32) : (nodeX a b).size = 65 := by
  unfold nodeX
  rw [ByteArray.size_append, strX_app]; rfl
theorem strX_append (x y : List Nat) : strN (x ++ y) = strN x ++ strN y := by
  apply ByteArray.ext
  rw [ByteArray.data_append]
  simp [strN]
theorem nodeX_eq (a b : S32) : nodeS a b = dig (nodeX a b) := by
  unfold nodeS node2 nodeX S32.s
  rw [strX_append, ByteArray.append_assoc]
theorem isSum_V (x : S32) : IsSum x.V := ⟨x.size, x.one⟩
theorem concatS_any (a b : S32) (A B R : Nat) (fa fb fr : Nat × Nat) (w : World) (hA : w.heap[A]? = some (.cells a.V 35 fa)) (hB : w.heap[B]? = some (.cells b.V 35 fb))
    (hR : w.heap[R]? = some (.cells #[.slice (some ⟨A, 0, none⟩) 32 32, .slice (some ⟨B, 0, none⟩) 32 32] 58 fr)) : Calls Try.prog 41 #[.slice (some ⟨R, 0, none⟩) 2 2] w fun e w' =>
    ∃ ao cap, e = .returned (.slice ao 64 cap) ∧ Own w'.heap 5 1 (.slice ao 64 cap) 64 ((a.l ++ b.l).map fun (c : Nat) => Value.int .u8 c) ∧ Ext [] w w' := by
  have hBw := hB
  have hRw := hR
  have r0 : w.cell? ⟨R, 0, none⟩ = some (.slice (some ⟨A, 0, none⟩) 32 32) := by rw [cellAt hR]; rfl
  have r1 : w.cell? ⟨R, 1, none⟩ = some (.slice (some ⟨B, 0, none⟩) 32 32) := by rw [cellAt hR]; rfl
  go_enter Try.func41, Try.ntmps41
  go_wp2
  refine wp_loop_rounds 3 ?_
  rw [rounds_succ]
  go_wp2
  rw [rounds_succ]
  go_wp2
  rw [rounds_succ]
  have h64 : (64 : Int).toNat = 64 := rfl
  go_wp2_with (go_at_call 50; refine (grow64_any w).mono ?_; rintro e w1 ⟨g, cap, rfl, hc, hO, hx, hg⟩; replace hA := hx.same hA List.not_mem_nil; replace hB := hx.same hB List.not_mem_nil; replace hR := hx.same hR List.not_mem_nil; replace r0 : w1.cell? ⟨R, 0, none⟩ = some (.slice (some ⟨A, 0, none⟩) 32 32) := (by rw [cellAt hR]; rfl); replace r1 : w1.cell? ⟨R, 1, none⟩ = some (.slice (some ⟨B, 0, none⟩) 32 32) := (by rw [cellAt hR]; rfl))
  obtain ⟨i0, hi, hz0, hz1, hz2⟩ := info_parts infoU8
  have hnA : ∀ j u, a.V.toList[j]? = some u → w1.cell? ((⟨A, 0, none⟩ : Addr).add j) = some u := by
    intro j u hj
    rw [add_off', cellAt hA j]
    simpa using hj
  have hne : ∀ x ∈ (Value.slice (some ⟨g, 0, none⟩) 0 cap).ownBlock.toList, x ∈ ([] : List Nat) ∨ w.heap.size ≤ x := by
    intro k hk
    have hk' : k = g := by simpa [Value.ownBlock] using hk
    exact .inr (hk' ▸ hg)
  have hlA : a.V.toList.length = 32 * 1 := by rw [Array.length_toList, a.size]
  have hlB : b.V.toList.length = 32 * 1 := by rw [Array.length_toList, b.size]
  have hoA : ∀ u ∈ a.V.toList, u.oneCell' = true := fun u hu => (Array.all_eq_true'.1 (a.one)) u (Array.mem_toList_iff.1 hu)
  have hoB : ∀ u ∈ b.V.toList, u.oneCell' = true := fun u hu => (Array.all_eq_true'.1 (b.one)) u (Array.mem_toList_iff.1 hu)
  have hBlt : B < w.heap.size := lt_of_heap hBw
  have hRlt : R < w.heap.size := lt_of_heap hRw
  refine wp_loop_rounds 3 ?_
  rw [rounds_succ]
  go_wp2_with (at_builtin; refine wpList_append rfl (.tmp 31) (.tmp 32) 58 rfl 5 i0 _ 1 1 Try.underlying58 hi hz0 hz1 hz2 rfl (by decide) (.slice (some ⟨g, 0, none⟩) 0 cap) 0 [] rfl hO ⟨A, 0, none⟩ 32 32 a.V.toList rfl hlA hnA hoA (by decide) (by decide) ?_; intro ao2 cap2 w2 hO2 hx2 hf2; replace hx2 := hx.trans hx2 hne; replace hB := hx2.same hBw List.not_mem_nil; replace hR := hx2.same hRw List.not_mem_nil; clear r0 r1; have r1 : w2.cell? ⟨R, 1, none⟩ = some (.slice (some ⟨B, 0, none⟩) 32 32) := (by rw [cellAt hR]; rfl))
  have hnB : ∀ j u, b.V.toList[j]? = some u → w2.cell? ((⟨B, 0, none⟩ : Addr).add j) = some u := by
    intro j u hj
    rw [add_off', cellAt hB j]
    simpa using hj
  have hne2 : ∀ x ∈ (Value.slice ao2 (0 + 32) cap2).ownBlock.toList, x ∈ ([] : List Nat) ∨ w.heap.size ≤ x := by
    intro k hk
    right
    rcases hf2 k (by simpa using hk) with h | h
    · exact (hne k (by simp [h])).resolve_left List.not_mem_nil
    · have := hx.size; omega
  rw [rounds_succ]
  go_wp2_with (at_builtin; refine wpList_append rfl (.tmp 31) (.tmp 32) 58 rfl 5 i0 _ 1 1 Try.underlying58 hi hz0 hz1 hz2 rfl (by decide) (.slice ao2 (0 + 32) cap2) (0 + 32) _ rfl hO2 ⟨B, 0, none⟩ 32 32 b.V.toList rfl hlB hnB hoB (by decide) (by decide) ?_; intro ao3 cap3 w3 hO3 hx3 hf3; replace hx3 := hx2.trans hx3 hne2; clear hf3)
  rw [rounds_succ]
  go_wp2
  go_ret
  refine ⟨_, _, rfl, ?_, hx3⟩
  have he : ((a.l ++ b.l).map fun (c : Nat) => Value.int .u8 c) = [] ++ a.V.toList ++ b.V.toList := by
    simp only [S32.V]; rw [List.map_append, List.nil_append]
  rw [he]
  exact hO3
theorem convS_two {w : World} {ao : Option Addr} {cap : Nat} {a b : S32} (h : Own w.heap 5 1 (.slice ao 64 cap) 64 ((a.l ++ b.l).map fun (c : Nat) => Value.int .u8 c)) : (convert 58 9 (.slice ao 64 cap)).run Try.prog w = .ok (.string (strN (a.l ++ b.l))) w := by
  have hl : (a.l ++ b.l).length = 64 := by rw [List.length_append, a.len, b.len]
  exact run_bytes_text 58 9 5 Try.underlying58 Try.underlying5 Try.underlying9 _ (a.l ++ b.l) (by rw [hl]; exact h)
theorem nodeX_any (a b : S32) (w : World) : Calls Try.prog 24 #[.agg a.V, .agg b.V] w fun e w' => ∃ cs, e = .returned (.agg cs) ∧ Hid (cs = digV (nodeX a b)) ∧ Ext [] w w' := by
  obtain ⟨hA, hB, hx0, hz2⟩ := alloc_two' w (.cells a.V 35) (.cells b.V 35)
  have hR := zeroSum ((w.alloc (.cells a.V 35)).alloc (.cells b.V 35))
  rw [hz2] at hR
  replace hA := heap_old' _ (.cells #[.int .u8 0, .int .u8 0, .int .u8 0, .int .u8 0, .int .u8 0, .int .u8 0, .int .u8 0, .int .u8 0, .int .u8 0, .int .u8 0, .int .u8 0, .int .u8 0, .int .u8 0, .int .u8 0, .int .u8 0, .int .u8 0, .int .u8 0, .int .u8 0, .int .u8 0, .int .u8 0, .int .u8 0, .int .u8 0, .int .u8 0, .int .u8 0, .int .u8 0, .int .u8 0, .int .u8 0, .int .u8 0, .int .u8 0, .int .u8 0, .int .u8 0, .int .u8 0] 35) hA
  replace hB := heap_old' _ (.cells #[.int .u8 0, .int .u8 0, .int .u8 0, .int .u8 0, .int .u8 0, .int .u8 0, .int .u8 0, .int .u8 0, .int .u8 0, .int .u8 0, .int .u8 0, .int .u8 0, .int .u8 0, .int .u8 0, .int .u8 0, .int .u8 0, .int .u8 0, .int .u8 0, .int .u8 0, .int .u8 0, .int .u8 0, .int .u8 0, .int .u8 0, .int .u8 0, .int .u8 0, .int .u8 0, .int .u8 0, .int .u8 0, .int .u8 0, .int .u8 0, .int .u8 0, .int .u8 0] 35) hB
  replace hx0 := hx0.alloc (.cells #[.int .u8 0, .int .u8 0, .int .u8 0, .int .u8 0, .int .u8 0, .int .u8 0, .int .u8 0, .int .u8 0, .int .u8 0, .int .u8 0, .int .u8 0, .int .u8 0, .int .u8 0, .int .u8 0, .int .u8 0, .int .u8 0, .int .u8 0, .int .u8 0, .int .u8 0, .int .u8 0, .int .u8 0, .int .u8 0, .int .u8 0, .int .u8 0, .int .u8 0, .int .u8 0, .int .u8 0, .int .u8 0, .int .u8 0, .int .u8 0, .int .u8 0, .int .u8 0] 35)
  clear hz2
  have hc1 : ¬ 9223372036854775807 < 1 + 64 := by decide
  have hs1 := strX_app a b
  have HZ := Hs.hid (show (nodeX a b).size ≤ 100000000 by rw [nodeX_size]; decide)
  obtain ⟨i0, hi, hz0, hz1, _⟩ := info_parts infoSl
  go_enter Try.func24, Try.ntmps24
  go_upto_region 1 with fail
  generalize ((w.alloc (.cells a.V 35)).alloc (.cells b.V 35)).alloc (.cells #[.int .u8 0, .int .u8 0, .int .u8 0, .int .u8 0, .int .u8 0, .int .u8 0, .int .u8 0, .int .u8 0, .int .u8 0, .int .u8 0, .int .u8 0, .int .u8 0, .int .u8 0, .int .u8 0, .int .u8 0, .int .u8 0, .int .u8 0, .int .u8 0, .int .u8 0, .int .u8 0, .int .u8 0, .int .u8 0, .int .u8 0, .int .u8 0, .int .u8 0, .int .u8 0, .int .u8 0, .int .u8 0, .int .u8 0, .int .u8 0, .int .u8 0, .int .u8 0] 35) = W at hA hB hR hx0 ⊢
  obtain ⟨A, hAA⟩ : ∃ A, w.heap.size = A := ⟨_, rfl⟩
  rw [hAA] at hA hB hR ⊢
  have HAA := Hs.hid (show w.heap.size ≤ A from Nat.le_of_eq hAA)
  clear hAA
  refine wp_region_noPanic ?_
  refine wp_region_held_drew (S := (fun w' => w'.heap[A]? = some (.cells a.V 35 (0, 0)) ∧ w'.heap[A + 1]? = some (.cells b.V 35 (0, 0)))) (by kernel_rfl) ?_ (fun hHeld => ?_)
  · ((try dsimp only); exact ⟨hA, hB⟩)
  refine wpAnyH_take (i := 0) (v := ?_) rfl (by kernel_rfl) (by kernel_rfl) (by kernel_rfl) (fun _ _ _ h => h) (Or.inl ⟨by rfl, ?_⟩) (by assumption) ?_
  rotate_left
  · (intro w hSw; (try dsimp only at hSw); first | (go_simp; done) | (go_simp; with_reducible rfl))
  try simp only [Act.put, List.getElem_toArray, List.getElem_cons_succ, List.getElem_cons_zero, List.setIfInBounds_toArray, List.set_cons_zero, List.set_cons_succ]
  refine wpAnyH_take (i := 1) (v := ?_) rfl (by kernel_rfl) (by kernel_rfl) (by kernel_rfl) (fun _ _ _ h => h) (Or.inl ⟨by rfl, ?_⟩) (by assumption) ?_
  rotate_left
  · (intro w hSw; (try dsimp only at hSw); first | (go_simp; done) | (go_simp; with_reducible rfl))
  try simp only [Act.put, List.getElem_toArray, List.getElem_cons_succ, List.getElem_cons_zero, List.setIfInBounds_toArray, List.set_cons_zero, List.set_cons_succ]
  refine wpAnyH_ready (rs := [2]) (by kernel_rfl) (by simp) ?_
  refine AllReadyH.cons rfl (fun K hK => ?_) AllReadyH.nil
  rw [if_pos (by rfl)]
  (have hSx := hHeld; refine wp_buildSlice 103 58 2 _ rfl #[.slice (some ⟨A, 0, none⟩) 32 32, .slice (some ⟨A + 1, 0, none⟩) 32 32] i0 _ Try.underlying103 hi hz0 (by rw [hz1]; decide) (by rw [hz1]; decide) (by rw [hz1]; first | rfl | kernel_rfl | (simp [Instr.fill, Value.cells, Act.eval, Act.put, Array.range]; done) | (simp [Instr.fill, Value.cells, Act.eval, Act.put]; rfl) | trace_state) ?_)
  refine hK.out _ _ ?_ (fun hHeld => ?_)
  · ((try dsimp only); exact ⟨heap_old' _ _ hHeld.1, heap_old' _ _ hHeld.2⟩)
  clear hK K
  try simp only [Act.put, List.getElem_toArray, List.getElem_cons_succ, List.getElem_cons_zero, List.setIfInBounds_toArray, List.set_cons_zero, List.set_cons_succ]
  refine wpAnyH_ready (rs := [3]) (by kernel_rfl) (by simp) ?_
  refine AllReadyH.cons rfl (fun K hK => ?_) AllReadyH.nil
  go_simp
  (go_at_call 41; refine (concatS_any a b A (A + 1) W.heap.size (0, 0) (0, 0) (0, 0) _ hHeld.1 hHeld.2 (heap_new _ _)).mono ?_; rintro e w1 ⟨ao, cap, rfl, hO, hx1⟩; have hC1 := hx1.same (heap_old' _ _ (heap_drew' hR)) List.not_mem_nil)
  go_wp2_with fail
  refine hK.out _ _ ?_ (fun hHeld => ?_)
  · ((try dsimp only); exact ⟨hx1.same hHeld.1 List.not_mem_nil, hx1.same hHeld.2 List.not_mem_nil⟩)
  clear hK K
  try simp only [Act.put, List.getElem_toArray, List.getElem_cons_succ, List.getElem_cons_zero, List.setIfInBounds_toArray, List.set_cons_zero, List.set_cons_succ]
  refine wpAnyH_ready (rs := [4]) (by kernel_rfl) (by simp) ?_
  refine AllReadyH.cons rfl (fun K hK => ?_) AllReadyH.nil
  rw [if_pos (by rfl)]
  (have hq := convS_two hO; go_simp)
  refine hK.out _ _ ?_ (fun hHeld => ?_)
  · ((try dsimp only); exact hHeld)
  clear hK K
  try simp only [Act.put, List.getElem_toArray, List.getElem_cons_succ, List.getElem_cons_zero, List.setIfInBounds_toArray, List.set_cons_zero, List.set_cons_succ]
  refine wpAnyH_take (i := 5) (v := ?_) rfl (by kernel_rfl) (by kernel_rfl) (by kernel_rfl) (fun _ _ _ h => h) (Or.inl ⟨by rfl, ?_⟩) (by assumption) ?_
  rotate_left
  · (intro w hSw; (try dsimp only at hSw); first | (go_simp; done) | (go_simp; with_reducible rfl))
  try simp only [Act.put, List.getElem_toArray, List.getElem_cons_succ, List.getElem_cons_zero, List.setIfInBounds_toArray, List.set_cons_zero, List.set_cons_succ]
  refine wpAnyH_ready (rs := [6]) (by kernel_rfl) (by simp) ?_
  refine AllReadyH.cons rfl (fun K hK => ?_) AllReadyH.nil
  go_simp
  (go_at_call 12; refine (of_any _ HZ.out _).mono ?_; rintro e w2 ⟨cs, rfl, hcs, hx2⟩; have hC2 := hx2.same hC1 List.not_mem_nil; have his : Hid (IsSum cs) := Hs.hid (by rw [hcs.out]; exact isSum_digV _))
  go_wp2_with fail
  refine hK.out _ _ ?_ (fun hHeld => ?_)
  · ((try dsimp only); exact ⟨hx2.same hHeld.1 List.not_mem_nil, hx2.same hHeld.2 List.not_mem_nil⟩)
  clear hK K
  try simp only [Act.put, List.getElem_toArray, List.getElem_cons_succ, List.getElem_cons_zero, List.setIfInBounds_toArray, List.set_cons_zero, List.set_cons_succ]
  refine wpAnyH_ready (rs := [7]) (by kernel_rfl) (by simp) ?_
  refine AllReadyH.cons rfl (fun K hK => ?_) AllReadyH.nil
  rw [if_pos (by rfl)]
  (refine wp_store_row 35 _ _ rfl _ cs rfl rfl _ _ hC2 his.out.info his.out.zero his.out.2 ?_)
  refine hK.out _ _ ?_ (fun hHeld => ?_)
  · ((try dsimp only); (rw [setRow_other _ _ _ _ (by omega), setRow_other _ _ _ _ (by omega)]; exact hHeld))
  clear hK K
  try simp only [Act.put, List.getElem_toArray, List.getElem_cons_succ, List.getElem_cons_zero, List.setIfInBounds_toArray, List.set_cons_zero, List.set_cons_succ]
  refine wpAnyH_done (by kernel_rfl) ?_ _
  refine NoPanic.normal ?_
  go_wp2
  have hxf : Ext [] w (w2.setRow (A + 1 + 1) cs) := (((hx0.drew.alloc _).trans0 hx1).trans0 hx2).trans (setRow_ext (A + 1 + 1) _) (fun g hg => .inr (by simp at hg; subst hg; have := HAA.out; omega))
  refine bodyPost_ret (v := .agg cs) (results_cell_row (P := Try.prog) Try.results24 _ _ (A + 1 + 1) _ _ _ _ rfl (setRow_heap _ _ _ _ _ _ hC2) Try.underlying35 rfl (by rw [his.out.1]; exact infoSum)) rfl ⟨_, rfl, hcs, hxf⟩
theorem nodeS_any (a b : S32) (w : World) : Calls Try.prog 24 #[.agg a.V, .agg b.V] w fun e w' => ∃ cs, e = .returned (.agg cs) ∧ Hid (cs = (nodeS a b).V) ∧ Ext [] w w' :=
  (nodeX_any a b w).mono fun e w' ⟨cs, h1, h2, h3⟩ => ⟨cs, h1, Hs.hid (by rw [h2.out, nodeX_eq, dig_V]), h3⟩
theorem nodeY_any (a b : S32) (w : World) : Calls Try.prog 24 #[.agg a.V, .agg b.V] w fun e w' => ∃ y : S32, e = .returned (.agg y.V) ∧ Hid (y = nodeS a b) ∧ Ext [] w w' :=
  (nodeS_any a b w).mono fun e w' ⟨cs, h1, h2, h3⟩ => ⟨nodeS a b, by rw [h1, h2.out], Hs.hid rfl, h3⟩
end Go.Proofs.Ytjicjadibaomkaa
set_option linter.unusedSimpArgs false
set_option linter.unusedVariables false
namespace Go.Proofs.Ytjicjadibaomkaa
open Go.RowKit Go.Hs Go.Dg

/-- The sums that a fold over the first m takes: the first one stands for itself. -/
def seedB (f : Bool) (old : S32) (xs : List S32) : List S32 := if f then old :: xs else xs
theorem seedB_snoc (f : Bool) (old y : S32) (ys : List S32) : seedB f old (ys ++ [y]) = seedB f old ys ++ [y] := by
  cases f <;> rfl
/-- Whether sums prove a leaf's sum: the error's number. -/
def inclN (leaf : S32) (i n : Int) (root : S32) (xs : List S32) : Int :=
  if i < 0 ∨ n ≤ i then 6 else if xs.length = (dirs i.toNat n.toNat).length ∧ foldU nodeS (dirs i.toNat n.toNat) leaf xs = root then 0 else 12
/-- Whether sums prove that the first m among n are those of an elder root: the error's number. -/
def consN (m n : Int) (old root : S32) (xs : List S32) : Int :=
  if m < 0 ∨ n < m then 6 else if m = n then (if xs = [] ∧ old = root then 0 else 12) else if m = 0 then (if xs = [] ∧ old = dig ⟨#[]⟩ then 0 else 12)
  else match seedB (firstB m.toNat n.toNat) old xs with
    | [] => 12
    | x :: zs => if zs.length = (dirsB m.toNat n.toNat).length ∧ foldO nodeS (dirsB m.toNat n.toNat) x zs = old ∧ foldU nodeS (dirsB m.toNat n.toNat) x zs = root then 0 else 12
end Go.Proofs.Ytjicjadibaomkaa
set_option linter.unusedSimpArgs false
set_option linter.unusedVariables false
namespace Go.Proofs.Ytjicjadibaomkaa
open Go.RowKit Go.Hs

theorem fold_at (off : Nat) : ∀ (l : List Value) (k : Nat) (b : Array Value), ((l.zipIdx k).foldl (fun a (p : Value × Nat) => a.setIfInBounds (off + p.2) p.1) b).size = b.size ∧
    ∀ i, ((l.zipIdx k).foldl (fun a (p : Value × Nat) => a.setIfInBounds (off + p.2) p.1) b)[i]? = if off + k ≤ i ∧ i < off + k + l.length ∧ i < b.size then l[i - (off + k)]? else b[i]?
  | [], k, b => ⟨rfl, fun i => by rw [if_neg (by simp; omega)]; rfl⟩
  | v :: l, k, b => by
    simp only [List.zipIdx_cons, List.foldl_cons]
    obtain ⟨h1, h2⟩ := fold_at off l (k + 1) (b.setIfInBounds (off + k) v)
    refine ⟨by rw [h1]; simp, fun i => ?_⟩
    rw [h2 i]
    simp only [Array.size_setIfInBounds, Array.getElem?_setIfInBounds, List.length_cons]
    by_cases hi : off + k = i
    · subst hi
      rw [if_neg (by omega)]
      by_cases hb : off + k < b.size
      · rw [if_pos rfl, if_pos hb, if_pos ⟨Nat.le_refl _, by omega, hb⟩]; simp
      · rw [if_pos rfl, if_neg hb, if_neg (by omega)]; simp; omega
    · by_cases hc : off + (k + 1) ≤ i ∧ i < off + (k + 1) + l.length ∧ i < b.size
      · rw [if_pos hc, if_pos ⟨by omega, by omega, hc.2.2⟩]
        rw [show i - (off + k) = (i - (off + (k + 1))) + 1 by omega, List.getElem?_cons_succ]
      · rw [if_neg hc, if_neg hi, if_neg (by omega)]
end Go.Proofs.Ytjicjadibaomkaa
set_option linter.unusedSimpArgs false
set_option linter.unusedVariables false
set_option maxHeartbeats 2000000
set_option maxRecDepth 100000
namespace Go.Proofs.Ytjicjadibaomkaa
open Go.RowKit Go.Hs

theorem addr_block (a : Addr) (k : Nat) : (a.add k).block = a.block := by unfold Addr.add; split <;> rfl
/-- An argument: a slice of texts. -/
def StrArg (w : World) (ao : Option Addr) (len : Nat) : Prop := (len : Int) ≤ 9223372036854775807 ∧ ∀ k, k < len → ∃ a s, ao = some a ∧ a.block < w.heap.size ∧ w.cell? (a.add k) = some (.string s) ∧ s.size ≤ maxLen
theorem StrArg.ext {w w' : World} {ao : Option Addr} {len : Nat} (h : StrArg w ao len) (x : Ext [] w w') : StrArg w' ao len := ⟨h.1, fun k hk => by
  obtain ⟨a, s, h1, h2, h3, h4⟩ := h.2 k hk
  exact ⟨a, s, h1, Nat.lt_of_lt_of_le h2 x.size, by rw [x.below.cell (p := a.add k) (by rw [addr_block]; exact h2)]; exact h3, h4⟩⟩
/-- A slice of texts that the call owns. -/
def OwnT (h : Array Obj) (v : Value) (ls : List ByteArray) : Prop := Own h 9 1 v ls.length (ls.map Value.string)
theorem OwnT.ext' {w w' : World} {F : List Nat} {v : Value} {ls : List ByteArray} (o : OwnT w.heap v ls) (x : Ext F w w') (hF : ∀ g, v.ownBlock = some g → g ∉ F) : OwnT w'.heap v ls :=
  Own.same o fun g hg => x.block g (Own.lt o hg) (hF g hg)
theorem OwnT.more {h : Array Obj} {k : Nat} {ls : List ByteArray} {s : ByteArray} {ao : Option Addr} {cap : Nat} (hl : ls.length = k) (o : Own h 9 1 (.slice ao (k + 1) cap) (k + 1) (ls.map Value.string ++ [.string s])) : OwnT h (.slice ao (k + 1) cap) (ls ++ [s]) := by
  unfold OwnT
  rw [List.length_append, hl, List.map_append]
  exact o
end Go.Proofs.Ytjicjadibaomkaa
set_option linter.unusedSimpArgs false
set_option linter.unusedVariables false
set_option maxHeartbeats 1000000
set_option maxRecDepth 100000
namespace Go.Proofs.Ytjicjadibaomkaa
open Go.RowKit Go.Hs Go.Dg

/-- A slice of sums. -/
def Sums32 (h : Array Obj) (ao : Option Addr) (cap : Nat) (xs : List S32) : Prop :=
  xs.length ≤ cap ∧ (cap : Int) ≤ 9223372036854775807 ∧ (xs = [] ∨ ∃ b o cs t fr, ao = some ⟨b, o, none⟩ ∧ h[b]? = some (.cells cs t fr) ∧ ∀ (k : Nat) x, xs[k]? = some x → ∀ j v, x.V.toList[j]? = some v → cs[o + k * 32 + j]? = some v)
theorem Sums32.ext {w w' : World} {F : List Nat} {ao : Option Addr} {cap : Nat} {xs : List S32} (h : Sums32 w.heap ao cap xs) (x : Ext F w w') (hF : ∀ b ∈ F, w.heap.size ≤ b) : Sums32 w'.heap ao cap xs := by
  obtain ⟨h1, h2, rfl | ⟨b, o, cs, t, fr, e, hb, hk⟩⟩ := h
  · exact ⟨h1, h2, .inl rfl⟩
  · exact ⟨h1, h2, .inr ⟨b, o, cs, t, fr, e, x.same hb (fun hm => by have := hF b hm; have := lt_of_heap hb; omega), hk⟩⟩
theorem Sums32.at {w : World} {ao : Option Addr} {cap : Nat} {xs : List S32} (h : Sums32 w.heap ao cap xs) {k : Nat} {x : S32} (hk : xs[k]? = some x) :
    ∃ b o, ao = some ⟨b, o, none⟩ ∧ b < w.heap.size ∧ w.rangeAt b (o + k * 32) x.V.toList := by
  obtain ⟨h1, h2, rfl | ⟨b, o, cs, t, fr, e, hb, hh⟩⟩ := h
  · simp at hk
  · exact ⟨b, o, e, lt_of_heap hb, fun j v hj => by rw [cellAt hb]; exact hh k x hk j v hj⟩
theorem Sums32.tail {h : Array Obj} {b o cap : Nat} {x : S32} {zs : List S32} (t : Sums32 h (some ⟨b, o, none⟩) cap (x :: zs)) : Sums32 h (some ⟨b, o + 32, none⟩) (cap - 1) zs := by
  obtain ⟨h1, h2, h3 | ⟨b', o', cs, ty, fr, e, hb, hh⟩⟩ := t
  · simp at h3
  · injection e with e; injection e with e1 e2
    subst e1; subst e2
    refine ⟨by simp at h1; omega, by omega, .inr ⟨b, o + 32, cs, ty, fr, rfl, hb, fun k y hy j v hj => ?_⟩⟩
    have := hh (k + 1) y (by simpa using hy) j v hj
    rwa [show o + (k + 1) * 32 + j = o + 32 + k * 32 + j by omega] at this
theorem Sums32.init {h : Array Obj} {ao : Option Addr} {cap : Nat} {xs : List S32} {x : S32} (t : Sums32 h ao cap (xs ++ [x])) : Sums32 h ao cap xs := by
  obtain ⟨h1, h2, h3 | ⟨b, o, cs, ty, fr, e, hb, hk⟩⟩ := t
  · simp at h3
  · refine ⟨by simp at h1; omega, h2, .inr ⟨b, o, cs, ty, fr, e, hb, fun k y hy => hk k y ?_⟩⟩
    rw [List.getElem?_append_left (List.getElem?_eq_some_iff.1 hy).1]; exact hy
end Go.Proofs.Ytjicjadibaomkaa
set_option linter.unusedSimpArgs false
set_option linter.unusedVariables false
set_option maxHeartbeats 1000000
set_option maxRecDepth 100000
namespace Go.Proofs.Ytjicjadibaomkaa
open Go.RowKit Go.Hs Go.Dg

/-- The cells of sums, by their texts. -/
def sumsV (xs : List S32) : List Value := xs.flatMap fun x => x.V.toList
theorem sumsV_len (xs : List S32) : (sumsV xs).length = xs.length * 32 := by
  unfold sumsV
  induction xs with
  | nil => rfl
  | cons x xs ih =>
    rw [List.flatMap_cons, List.length_append, ih, Array.length_toList, x.size, List.length_cons]; omega
theorem sumsV_app (xs ys : List S32) : sumsV (xs ++ ys) = sumsV xs ++ sumsV ys := by simp [sumsV]
theorem sumsV_one (xs : List S32) : ∀ u ∈ sumsV xs, u.oneCell' = true := by
  intro u hu
  simp only [sumsV, List.mem_flatMap] at hu
  obtain ⟨x, _, hx⟩ := hu
  exact (Array.all_eq_true'.1 (x.one)) u (Array.mem_toList_iff.1 hx)
theorem infoSumY : (Try.prog.info? 35).map (fun i => (i.zero, i.size, i.bytes)) = some (some (.agg #[.int .u8 0, .int .u8 0, .int .u8 0, .int .u8 0, .int .u8 0, .int .u8 0, .int .u8 0, .int .u8 0, .int .u8 0, .int .u8 0, .int .u8 0, .int .u8 0, .int .u8 0, .int .u8 0, .int .u8 0, .int .u8 0, .int .u8 0, .int .u8 0, .int .u8 0, .int .u8 0, .int .u8 0, .int .u8 0, .int .u8 0, .int .u8 0, .int .u8 0, .int .u8 0, .int .u8 0, .int .u8 0, .int .u8 0, .int .u8 0, .int .u8 0, .int .u8 0]), 32, 32) := by kernel_rfl
theorem fill_sumsV : ∀ (xs : List S32) (k : Nat) (pre : List Value) (b : Array Value), pre.length = k * 32 → b.size = (k + xs.length) * 32 → b.toList.take (k * 32) = pre →
    Instr.fill (fun i => some (i * 32, 32)) b ((xs.zipIdx k).map fun p => (p.2, Value.agg (p.1.V))) = some (pre ++ sumsV xs).toArray
  | [], k, pre, b, hp, hb, ht => by
    simp only [List.zipIdx_nil, List.map_nil, Instr.fill, sumsV, List.flatMap_nil, List.append_nil]
    have : b.toList = pre := by rw [← ht, List.take_of_length_le (by simp at hb ⊢; omega)]
    rw [← this]
  | x :: xs, k, pre, b, hp, hb, ht => by
    simp only [List.zipIdx_cons, List.map_cons, Instr.fill]
    have hc : (Value.agg x.V).cells = x.V := rfl
    simp only [List.length_cons] at hb
    rw [hc, if_neg (by simp [x.size]; omega)]
    have hf : x.V.zipIdx.foldl (fun cs (p : Value × Nat) => cs.setIfInBounds (k * 32 + p.2) p.1) b = (x.V.toList.zipIdx 0).foldl (fun a (p : Value × Nat) => a.setIfInBounds (k * 32 + p.2) p.1) b := by
      rw [← Array.foldl_toList, Array.toList_zipIdx]
    have hf' : x.V.zipIdx.foldl (fun cs (x : Value × Nat) => match x with | (c, j) => cs.setIfInBounds (k * 32 + j) c) b = (x.V.toList.zipIdx 0).foldl (fun a (p : Value × Nat) => a.setIfInBounds (k * 32 + p.2) p.1) b := hf
    rw [hf']
    obtain ⟨h1, h2⟩ := fold_at (k * 32) x.V.toList 0 b
    have hlen : x.V.toList.length = 32 := by rw [Array.length_toList, x.size]
    generalize (x.V.toList.zipIdx 0).foldl (fun a (p : Value × Nat) => a.setIfInBounds (k * 32 + p.2) p.1) b = b2 at h1 h2 ⊢
    have hb2 : b2.size = (k + 1 + xs.length) * 32 := by omega
    have hp2 : (pre ++ x.V.toList).length = (k + 1) * 32 := by rw [List.length_append, hp, hlen]; omega
    have ht2 : b2.toList.take ((k + 1) * 32) = pre ++ x.V.toList := by
      apply List.ext_getElem?
      intro i
      rw [List.getElem?_take]
      have h4 := h2 i
      rw [← Array.getElem?_toList] at h4
      by_cases hi : i < (k + 1) * 32
      · rw [if_pos hi, h4]
        by_cases hi2 : i < k * 32
        · rw [if_neg (by omega), List.getElem?_append_left (by omega), ← ht, List.getElem?_take, if_pos hi2, Array.getElem?_toList]
        · rw [if_pos ⟨by omega, by omega, by omega⟩, List.getElem?_append_right (by omega), hp]; congr 1
      · rw [if_neg hi, List.getElem?_eq_none]
        rw [List.length_append, hp, hlen]; omega
    have h3 := fill_sumsV xs (k + 1) (pre ++ x.V.toList) b2 hp2 hb2 ht2
    rw [h3]
    simp [sumsV]
theorem fill_sumV (x : S32) (b : Array Value) (hb : b.size = 32) : Instr.fill (fun i => some (i * 32, 32)) b [(0, Value.agg x.V)] = some x.V := by
  have := fill_sumsV [x] 0 [] b rfl (by simpa using hb) rfl
  simpa [sumsV] using this
/-- A slice of one sum, made where it is written. -/
theorem wpList_sumV {ops : Array Oper} {rest : List Oper} {o : Oper} {a : Act} {w : World} {Q : Exit → Act → World → Prop} (hg : o.guard = none) (y : Operand) (ho : o.op = .buildSlice 28 1 #[(0, y)])
    (x : S32) (hy : a.eval y = .agg x.V)
    (h : wpList Try.prog ops Q rest (a.put o.dst (.slice (some ⟨w.heap.size, 0, none⟩) 1 1)) (w.alloc (.cells x.V 35))) : wpList Try.prog ops Q (o :: rest) a w := by
  obtain ⟨i0, hi, hz0, hz1, hz2⟩ := info_parts infoSumY
  refine wpList_buildSlice hg 28 35 1 _ ho x.V i0 _ Try.underlying28 hi hz0 (by rw [hz1]; decide) (by rw [hz1]; decide) ?_ h
  rw [hz1]
  have : (#[(0, y)].map fun (p : Nat × Operand) => (p.1, a.eval p.2)).toList = [(0, Value.agg x.V)] := by simp [hy]
  show Instr.fill _ _ (#[(0, y)].map fun (p : Nat × Operand) => (p.1, a.eval p.2)).toList = _
  rw [this]
  exact fill_sumV x _ (by simp)
/-- A slice of sums that the call owns. -/
def OwnV (h : Array Obj) (v : Value) (xs : List S32) : Prop := Own h 35 32 v xs.length (sumsV xs)
theorem OwnV.nil (h : Array Obj) : OwnV h (.slice none 0 0) [] := ⟨rfl, .inl ⟨rfl, rfl⟩⟩
theorem OwnV.form {w : World} {v : Value} {xs : List S32} (o : OwnV w.heap v xs) : ∃ ao cap, v = .slice ao xs.length cap := Own.form o
theorem OwnV.ext {w w' : World} {F : List Nat} {v : Value} {xs : List S32} (o : OwnV w.heap v xs) (x : Ext F w w') (hF : ∀ g, v.ownBlock = some g → g ∉ F) : OwnV w'.heap v xs :=
  Own.same o fun g hg => x.block g (Own.lt o hg) (hF g hg)
/-- One more, behind: the one sum's slice lies in block B. -/
theorem wpList_append_sumV {ops : Array Oper} {rest : List Oper} {o : Oper} {a : Act} {w : World} {Q : Exit → Act → World → Prop}
    (hg : o.guard = none) (s y : Operand) (hop : o.op = Op.call { callee := Callee.builtin Builtin.append, args := #[s, y], argTypes := #[28, 28] })
    (v : Value) (xs : List S32) (hs : a.eval s = v) (hown : OwnV w.heap v xs) (B m : Nat) (ys : List S32) (fr : Nat × Nat) (hm : m = ys.length) (hy : a.eval y = .slice (some ⟨B, 0, none⟩) m m) (hB : w.heap[B]? = some (.cells (sumsV ys).toArray 35 fr))
    (hlen : xs.length + m ≤ 1000)
    (hK : ∀ ao cap w', OwnV w'.heap (.slice ao (xs.length + m) cap) (xs ++ ys) → Ext v.ownBlock.toList w w' → (∀ g, (Value.slice ao (xs.length + m) cap).ownBlock = some g → v.ownBlock = some g ∨ w.heap.size ≤ g) →
      wpList Try.prog ops Q rest (a.put o.dst (.slice ao (xs.length + m) cap)) w') : wpList Try.prog ops Q (o :: rest) a w := by
  obtain ⟨i0, hi, hz0, hz1, hz2⟩ := info_parts infoSumY
  subst hm
  refine wpList_append hg s y 28 hop 35 i0 _ 32 32 Try.underlying28 hi hz0 hz1 hz2 (by kernel_rfl) (by decide) v xs.length (sumsV xs) hs hown ⟨B, 0, none⟩ ys.length ys.length (sumsV ys) hy (sumsV_len ys) (fun j u hj => ?_) (sumsV_one ys) (by unfold maxLen; omega) (by omega) fun ao cap w' h1 h2 h3 => hK ao cap w' ?_ h2 h3
  · rw [add_off', cellAt hB j]; simpa using hj
  · unfold OwnV; rw [sumsV_app, List.length_append]; exact h1
end Go.Proofs.Ytjicjadibaomkaa
set_option linter.unusedSimpArgs false
set_option linter.unusedVariables false
set_option maxHeartbeats 1000000
set_option maxRecDepth 100000
namespace Go.Proofs.Ytjicjadibaomkaa
open Go.RowKit Go.Hs Go.Dg

/-- The call's own slice of sums, as an argument. -/
theorem sums_own {h : Array Obj} {ao : Option Addr} {cap : Nat} {xs : List S32} (o : OwnV h (.slice ao xs.length cap) xs) : Sums32 h ao cap xs := by
  rcases o.2 with ⟨h1, h0⟩ | ⟨g, cap', cur, h1, _, hg, hnc, hn, hs, ht⟩
  · simp at h1
    exact ⟨by omega, by omega, .inl (List.eq_nil_of_length_eq_zero h0)⟩
  · simp at h1
    obtain ⟨rfl, rfl⟩ := h1
    refine ⟨hnc, by unfold maxLen at hn; omega, .inr ⟨g, 0, cur, _, _, rfl, hg, fun k x hk j v hj => ?_⟩⟩
    have hjl := (List.getElem?_eq_some_iff.1 hj).1
    rw [Array.length_toList, x.size] at hjl
    have hkl := (List.getElem?_eq_some_iff.1 hk).1
    have hsv : ∀ (xs : List S32) (k : Nat), xs[k]? = some x → (sumsV xs)[k * 32 + j]? = some v := by
      intro xs
      induction xs with
      | nil => intro k h; simp at h
      | cons y ys ih =>
        intro k h
        have hl : y.V.toList.length = 32 := by rw [Array.length_toList, y.size]
        unfold sumsV
        rw [List.flatMap_cons]
        cases k with
        | zero =>
          simp at h; subst h
          rw [List.getElem?_append_left (by omega)]
          simpa using hj
        | succ k =>
          rw [List.getElem?_append_right (by omega), hl, show (k + 1) * 32 + j - 32 = k * 32 + j by omega]
          exact ih k (by simpa using h)
    have := hsv xs k hk
    rw [← ht, List.getElem?_take] at this
    split at this
    · rw [Nat.zero_add, ← Array.getElem?_toList]; exact this
    · cases this
end Go.Proofs.Ytjicjadibaomkaa
set_option linter.unusedSimpArgs false
set_option linter.unusedVariables false
namespace Go.Proofs.Ytjicjadibaomkaa
open Go.ChangeShapes Go.WideShapes Go.Deep Go.RowKit Go.Hs

theorem cell_lt' {w : World} {a : Addr} {v : Value} (h : w.cell? a = some v) : a.block < w.heap.size := by
  by_cases hb : a.block < w.heap.size
  · exact hb
  · have : w.heap[a.block]? = none := Array.getElem?_eq_none (by omega)
    unfold World.cell? at h
    simp [this] at h
theorem open_strs {H : Type} {enc : TypeId × Value → H} {w : World} {base : Nat} {spare : Nat → Bool} {held : Bool} {ao : Option Addr} {len cap : Nat} {d : DataW H} {p : List MemPlace}
    (h : DataW.Trod enc Try.prog w base spare held 22 (.slice ao len cap) d p) : StrArg w ao len := by
  obtain ⟨fuel, hf⟩ := h
  rcases open_strings Try.underlying22 Try.underlying9 (by kernel_rfl) hf with ⟨hcs, hx⟩ | ⟨a, len', cap', ss, hcs, hb, hl, hm, hss, hx, hi, hsz⟩
  · simp [Value.cells] at hcs
    obtain ⟨rfl, rfl, rfl⟩ := hcs
    exact ⟨by decide, fun k hk => by omega⟩
  · simp [Value.cells] at hcs
    obtain ⟨rfl, rfl, rfl⟩ := hcs
    have hle : len ≤ ss.length := by rw [hss]; split <;> omega
    refine ⟨by unfold maxLen at hm; omega, fun k hk => ⟨a, ss.getD k ByteArray.empty, rfl, ?_, hi k (by omega), ?_⟩⟩
    · have := cell_lt' (hi k (by omega))
      rwa [addr_block] at this
    · have hk' : k < ss.length := by omega
      rw [List.getD_eq_getElem?_getD, List.getElem?_eq_getElem hk']
      exact hsz _ (List.getElem_mem hk')
end Go.Proofs.Ytjicjadibaomkaa
