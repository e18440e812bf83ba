/-
  Package fault: Path.
-/
import Derived.Test.YtnjjbolbemlceaaDoorFault
import Derived.Test.YtnjjbolbemlceaaDoorShelf
import Derived.Test.YtnjjbolbemlceaaDoorPErx1
set_option linter.unusedSimpArgs false
set_option linter.unusedVariables false
set_option maxHeartbeats 4000000
set_option maxRecDepth 100000
namespace Go.Proofs.YtnjjbolbemlceaaDoor
open Go.RowKit Go.Extern.Stop Go.Stop Go.Extern Go.Hs

/-- A number's word. -/
def errWord (n : Nat) : ByteArray := (PEr.api_Errno_Error.f 100 n).getD ⟨#[]⟩
theorem errWord_some : ∀ n : Nat, n < 21 → PEr.api_Errno_Error.f 100 (n : Int) = some (errWord n) := by decide +kernel
theorem errWord_size : ∀ n : Nat, n < 21 → (errWord n).size ≤ 8 := by decide +kernel
theorem errno_any (n : Nat) (hn : n < 21) (w : World) : Calls Tryd.prog 14 #[.int .i64 n] w fun e w' => e = .returned (.string (errWord n)) ∧ Ext [] w w' :=
  (PEr.api_Errno_Error.calls 100 n _ w (errWord_some n hn)).mono fun e w' ⟨h1, h2⟩ => ⟨h1, Ext.ofBelow h2⟩
/-- The path: the steps and the word, with slashes between. -/
def pathB (L : List (ByteArray × Int)) (n : Nat) : ByteArray := ⟨(Lib.join ((namesE L ++ [errWord n]).map (·.data.toList)) [47]).toArray⟩
theorem joinTail_le (sep : List UInt8) (c : Nat) : ∀ r : List (List UInt8), (∀ x ∈ r, x.length ≤ c) → (Lib.joinTail sep r).length ≤ r.length * (sep.length + c)
  | [], _ => by simp [Lib.joinTail]
  | x :: r, h => by
    have ih := joinTail_le sep c r (fun y hy => h y (by simp [hy]))
    have hx := h x (by simp)
    simp only [Lib.joinTail, List.map_cons, List.flatten_cons, List.length_append, List.length_cons] at *
    rw [Nat.add_mul]
    omega
theorem join_le (sep : List UInt8) (c : Nat) (r : List (List UInt8)) (h : ∀ x ∈ r, x.length ≤ c) : (Lib.join r sep).length ≤ c + r.length * (sep.length + c) := by
  cases r with
  | nil => simp [Lib.join_nil]
  | cons x r =>
    rw [Lib.join_cons, List.length_append]
    have h1 := joinTail_le sep c r (fun y hy => h y (by simp [hy]))
    have h2 := h x (by simp)
    rw [List.length_cons, Nat.add_mul]
    omega
theorem Own.strings {w : World} {e : TypeId} {ao : Option Addr} {cap : Nat} {xs : List ByteArray} (h0 : 0 < xs.length) (h : Own w.heap e 1 (.slice ao xs.length cap) xs.length (xs.map Value.string)) :
    ∃ g, ao = some ⟨g, 0, none⟩ ∧ g < w.heap.size ∧ xs.length ≤ cap ∧ ∀ (j : Nat) x, xs[j]? = some x → w.cell? ⟨g, 0 + j, none⟩ = some (.string x) := by
  rcases h.2 with ⟨_, h1⟩ | ⟨g, cap', cur, h1, _, hg, hn, hm, hsz, ht⟩
  · omega
  · simp only [Value.slice.injEq] at h1
    obtain ⟨rfl, _, rfl⟩ := h1
    refine ⟨g, rfl, lt_of_heap hg, hn, fun j x hj => ?_⟩
    have hjl := (List.getElem?_eq_some_iff.1 hj).1
    rw [Nat.zero_add, cellAt hg]
    have : (cur.toList.take (xs.length * 1))[j]? = some (.string x) := by rw [ht, List.getElem?_map, hj]; rfl
    rw [List.getElem?_take, if_pos (by omega)] at this
    simpa using this
theorem path_any (n : Nat) (hn : n < 21) (L : List (ByteArray × Int)) (hL : L.length ≤ 100) (hs : ∀ p ∈ L, p.1.size ≤ 100) (v : Value) (w : World) (hg : Gd w) (hv : ErrV w.heap (errN n) L v) :
    Calls Tryd.prog 15 #[v] w fun ev w' => ev = .returned (.string (pathB L n)) ∧ Ext [] w w' := by
  obtain ⟨i0, hi, hz0, hz1, hz2⟩ := info_parts infoStrF
  have HI := Hs.hid (And.intro hi (And.intro hz0 (And.intro hz1 hz2)))
  have hlen : (namesE L ++ [errWord n]).length = L.length + 1 := by simp [namesE]
  have hjoin : (Lib.join ((namesE L ++ [errWord n]).map (·.data.toList)) [47]).length ≤ 140737488355328 := by
    have := join_le [47] 100 ((namesE L ++ [errWord n]).map (·.data.toList)) (by
      intro x hx
      obtain ⟨y, hy, rfl⟩ := List.mem_map.1 hx
      have : y.size ≤ 100 := by
        rcases List.mem_append.1 hy with h | h
        · obtain ⟨p, hp, rfl⟩ := List.mem_map.1 h; exact hs p hp
        · obtain rfl := List.mem_singleton.1 h; have := errWord_size n hn; omega
      show y.data.toList.length ≤ 100
      rw [Array.length_toList]; exact this)
    rw [List.length_map, hlen] at this
    have h1 : ([47] : List UInt8).length = 1 := rfl
    rw [h1] at this
    have h2 : (L.length + 1) * (1 + 100) ≤ 101 * 101 := Nat.mul_le_mul (by omega) (by omega)
    omega
  have HJ := Hs.hid hjoin
  have HS := Hs.hid hs
  clear hi hz0 hz1 hz2 hjoin hs
  go_enter Tryd.func15, Tryd.ntmps15
  go_upto_region 2 with (first
    | (go_at_call 18; refine (where_any n L (by omega) v _ hg hv).mono ?_; rintro e w1 ⟨s, rfl, hO, hx, hf⟩)
    | fail)
  obtain ⟨ao, cap, rfl⟩ := Own.form (w := w1) hO
  have hg1 := hg.ext hx (by simp)
  have hv1 := hv.ext0 hx
  go_wp2_with (first
    | (go_at_call 17; refine (faultOf_any n L v _ hg1 hv1).mono ?_; rintro e w2 ⟨rfl, hx2⟩)
    | (go_at_call 14; refine (errno_any n hn _).mono ?_; rintro e w3 ⟨rfl, hx3⟩)
    | (at_builtin; refine wpList_append rfl (.tmp 10) (.tmp 14) 34 rfl 9 i0 _ 1 16 Tryd.underlying34 HI.out.1 HI.out.2.1 HI.out.2.2.1 HI.out.2.2.2 rfl (by decide) (.slice ao L.length cap) L.length _ rfl (hO.same fun g hg => ((hx2.trans' hx3).alloc (.cells #[.string (errWord n)] 9)).block g (hO.lt hg) (by simp)) ⟨w3.heap.size, 0, none⟩ 1 1 [.string (errWord n)] rfl rfl (news_new w3 [.string (errWord n)] 9) (by simp [Value.oneCell']) (by unfold maxLen; omega) (by omega) ?_; intro ao3 cap3 w4 hO4 hx4 hg4)
    | (go_at_call 39
       have hmap : (namesE L).map Value.string ++ [Value.string (errWord n)] = (namesE L ++ [errWord n]).map Value.string := by simp
       rw [hmap, ← hlen] at hO4
       rw [← hlen]
       obtain ⟨g, rfl, hgl, hcap, hcells⟩ := Own.strings (by rw [hlen]; omega) hO4
       refine (Tryd.strings_Join g 0 cap3 (namesE L ++ [errWord n]) ⟨#[47]⟩ w4 hcells hgl (by rw [hlen]; omega) hcap HJ.out).mono ?_
       rintro e w5 ⟨rfl, hx5⟩))
  go_ret
  refine ⟨?_, ?_⟩
  · unfold pathB
    rw [List.map_append]
    rfl
  have e4 := ((hx.trans' (hx2.trans' hx3)).alloc (.cells #[.string (errWord n)] 9)).trans hx4 (fun g hg => .inr (hf g (by simpa using hg)))
  exact e4.trans' (Ext.ofBelow hx5)
end Go.Proofs.YtnjjbolbemlceaaDoor
