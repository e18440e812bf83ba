/-
  cells.Memory: what its blocks hold, and what each of its functions does.
-/
import Derived.Test.YtkhihpmadmmeaaaRows
import Derived.Test.YtkhihpmadmmeaaaBase
import Derived.Deep.QuietTactic
import Derived.BigQuiet
import Derived.Deep.RegionLaw
import Derived.Deep.DeepCutAuto
import Derived.Maps.OwnOps
set_option linter.unusedSimpArgs false
set_option linter.unusedVariables false
set_option maxHeartbeats 1000000
set_option maxRecDepth 100000
namespace Go.Proofs.Ytkhihpmadmmeaaa
open Go.RowKit Go.Hs

structure Acc where
  kind : Int
  cell : Int
  old : ByteArray
  new : ByteArray
def Acc.cells (a : Acc) : List Value := [.int .i64 a.kind, .int .i64 a.cell, .string a.old, .string a.new]
structure MSt where
  cells : List ByteArray
  log : List Acc
def MSt.at (M : MSt) (c : Int) : ByteArray := M.cells.getD c.toNat ByteArray.empty
def MSt.done (M : MSt) (a : Acc) : Bool := a.kind != 3 || (M.at a.cell).toList == a.old.toList
def MSt.act (M : MSt) (a : Acc) : MSt :=
  { cells := if M.done a && a.kind != 1 then M.cells.set a.cell.toNat a.new else M.cells, log := M.log ++ [a] }

structure IsMem (h : Array Obj) (b c m : Nat) (lv : Value) (M : MSt) : Prop where
  hb : h[b]? = some (.cells #[.slice (some ⟨c, 0, none⟩) M.cells.length M.cells.length, .map (some m), lv] 73 (0, 0))
  hc : h[c]? = some (.cells (M.cells.map Value.string).toArray 9 (0, 0))
  hm : ∃ cnt : List (Int × Int), MapAt (Value.int .i64) (Value.int .i64) h m cnt
  hl : Own h 85 4 lv M.log.length (M.log.flatMap Acc.cells)
  hg : ∀ g, lv.ownBlock = some g → c ≤ g

theorem keyInt : KeyOK Try.prog 3 (Value.int .i64) := keyOK_int Try.underlying3

theorem zeroInt (w : World) : (zeroValue 3).run Try.prog w = .ok (.int .i64 0) w := by kernel_rfl

theorem infoAcc : (Try.prog.info? 85).map (fun i => (i.zero, i.size, i.bytes)) = some (some (.agg #[.int .i64 0, .int .i64 0, .string ByteArray.empty, .string ByteArray.empty]), 4, 48) := by kernel_rfl

/-- Behind the append: the log is longer by one; the cells are as they were. -/
structure DoMid (w : World) (b c m A : Nat) (F : List Nat) (M : MSt) (x : Acc) (wx : World) : Prop where
  mem : ∃ lv', IsMem wx.heap b c m lv' { M with log := M.log ++ [x] } ∧ (∀ g, lv'.ownBlock = some g → g ∈ F ∨ w.heap.size ≤ g)
  arg : wx.heap[A]? = some (.cells x.cells.toArray 85 (0, 0))
  ext : Ext F w wx
  lt : w.heap.size ≤ A

theorem doMid_of {w w1 w2 : World} {b c m A : Nat} {F : List Nat} {M : MSt} {x : Acc} {lv : Value} {ao : Option Addr} {cap : Nat} {cnt : List (Int × Int)} {X : Obj}
    (hb1 : w1.heap[b]? = some (.cells #[.slice (some ⟨c, 0, none⟩) M.cells.length M.cells.length, .map (some m), lv] 73 (0, 0)))
    (hc1 : w1.heap[c]? = some (.cells (M.cells.map Value.string).toArray 9 (0, 0)))
    (hm1 : MapAt (Value.int .i64) (Value.int .i64) w1.heap m cnt) (ha1 : w1.heap[A]? = some (.cells x.cells.toArray 85 (0, 0)))
    (hl2 : Own w2.heap 85 4 (.slice ao (M.log.length + 1) cap) (M.log.length + 1) (M.log.flatMap Acc.cells ++ x.cells))
    (hx2 : Ext lv.ownBlock.toList (w1.alloc X).drew w2) (hf2 : ∀ g, (Value.slice ao (M.log.length + 1) cap).ownBlock = some g → lv.ownBlock = some g ∨ w1.heap.size ≤ g) (E1 : Ext F w w1) (hbF : b ∈ F) (hlF : ∀ g ∈ lv.ownBlock.toList, g ∈ F)
    (hbl : b ∉ lv.ownBlock.toList) (hcl : c ∉ lv.ownBlock.toList) (hml : m ∉ lv.ownBlock.toList) (hAl : A ∉ lv.ownBlock.toList) (hA : w.heap.size ≤ A) (hAb : A ≠ b) (hlg : ∀ g, lv.ownBlock = some g → c ≤ g) :
    DoMid w b c m A F M x (w2.setCell ⟨b, 2, none⟩ (.slice ao (M.log.length + 1) cap)) := by
  have hb2 := hx2.same (heap_old' _ _ hb1) hbl
  have hc2 := hx2.same (heap_old' _ _ hc1) hcl
  have ha2 := hx2.same (heap_old' _ _ ha1) hAl
  have hm2 : MapAt (Value.int .i64) (Value.int .i64) w2.heap m cnt := MapAt.ext (w := (w1.alloc X).drew) (hm1.same (heap_old _ _ hm1.lt)) hx2 hml
  have hcb : b ≠ c := ne_block hb2 hc2 (by simp)
  have E2 : Ext F w w2 := (E1.alloc X).drew.trans hx2 fun g hg => .inl (hlF g hg)
  refine ⟨⟨.slice ao (M.log.length + 1) cap, ⟨?_, ?_, ⟨cnt, ?_⟩, ?_, ?_⟩, ?_⟩, ?_, E2.setCell (.inl hbF) _, hA⟩
  · rw [heap_set hb2]; simp
  · rw [heap_set_ne _ _ _ hcb]; exact hc2
  · exact hm2.same (heap_set_ne _ _ _ (hm2.ne hb2))
  · have : Own w2.heap 85 4 (.slice ao (M.log.length + 1) cap) (M.log ++ [x]).length ((M.log ++ [x]).flatMap Acc.cells) := by
      simpa using hl2
    exact this.same fun g hg => heap_set_ne _ _ _ (by
      obtain ⟨cur, hcur⟩ := this.block hg
      exact ne_block hb2 hcur (by simp))
  · intro g hg
    rcases hf2 g hg with h | h
    · exact hlg g h
    · have := lt_of_heap hc1; omega
  · intro g hg
    rcases hf2 g hg with h | h
    · exact .inl (hlF g (by simp [h]))
    · right; have := E1.size; omega
  · rw [heap_set_ne _ _ _ (fun e => hAb e.symm)]; exact ha2

theorem do_fin {wx : World} {b c m : Nat} {lv : Value} {M : MSt} {x : Acc} (hM : IsMem wx.heap b c m lv { M with log := M.log ++ [x] }) (h0 : 0 ≤ x.cell) (h1 : x.cell < M.cells.length) :
    (M.done x && x.kind != 1) = false → IsMem wx.heap b c m lv (M.act x) := by
  intro h
  have : M.act x = { M with log := M.log ++ [x] } := by simp [MSt.act, h]
  rw [this]; exact hM
theorem do_set {wx : World} {b c m : Nat} {lv : Value} {M : MSt} {x : Acc} (hM : IsMem wx.heap b c m lv { M with log := M.log ++ [x] }) (h0 : 0 ≤ x.cell) (h1 : x.cell < M.cells.length)
    (h : (M.done x && x.kind != 1) = true) : IsMem (wx.setCell ⟨c, x.cell.toNat, none⟩ (.string x.new)).heap b c m lv (M.act x) := by
  have : M.act x = { cells := M.cells.set x.cell.toNat x.new, log := M.log ++ [x] } := by simp [MSt.act, h]
  rw [this]
  refine ⟨?_, ?_, ?_, ?_, hM.hg⟩
  · rw [heap_set_ne _ _ _ (ne_block hM.hc hM.hb (by simp))]; simpa using hM.hb
  · have := heap_set hM.hc x.cell.toNat (.string x.new)
    rw [this]
    simp [List.map_set]
  · obtain ⟨cnt, hc⟩ := hM.hm
    exact ⟨cnt, hc.same (heap_set_ne _ _ _ (hc.ne hM.hc))⟩
  · exact hM.hl.same fun g hg => heap_set_ne _ _ _ (by
      obtain ⟨cur, hcur⟩ := hM.hl.block hg
      exact ne_block hM.hc hcur (by simp))

theorem do_any (b c m : Nat) (lv : Value) (M : MSt) (who kind cell : Int) (old new : ByteArray) (w : World) (hI : IsMem w.heap b c m lv M) (hk : 1 ≤ kind) (hk' : kind ≤ 3)
    (h0 : 0 ≤ cell) (h1 : cell < M.cells.length) (hn : M.log.length < 1000000) (hN : M.cells.length < 1000000) :
    Calls Try.prog 38 #[.pointer (some ⟨b, 0, none⟩), .int .i64 who, .agg #[.int .i64 kind, .int .i64 cell, .string old, .string new]] w fun e w' =>
      ∃ lv', e = .returned (.tuple #[.string (M.at cell), .bool (M.done ⟨kind, cell, old, new⟩), .int .i64 0]) ∧ IsMem w'.heap b c m lv' (M.act ⟨kind, cell, old, new⟩) ∧ Ext ([b, c, m] ++ lv.ownBlock.toList) w w' := by
  have c0 := cellAt hI.hb 0
  have c1 := cellAt hI.hb 1
  have c2 := cellAt hI.hb 2
  simp at c0 c1 c2
  have hlt := lt_of_heap hI.hb
  obtain ⟨cnt, hcnt⟩ := hI.hm
  have HLG := Hs.hid hI.hg
  have d0 : decide (cell < 0) = false := by simp; omega
  have d1 : decide (kind < 1) = false := by simp; omega
  go_enter Try.func38, Try.ntmps38
  go_wp2_with fail
  go_quiet (fail)
  go_upto_region 6 with (first
    | (at_lookup; refine wpList_lookup (l := cnt) rfl _ _ _ rfl keyInt Try.underlying27 (d := (0 : Int)) (zeroInt _) rfl (hcnt.same (heap_old _ _ hcnt.lt)) who rfl ?_)
    | (at_mapUpdate; refine wpList_mapUpdate (l := cnt) rfl rfl _ _ _ rfl keyInt Try.underlying27 rfl (hcnt.same (heap_old _ _ hcnt.lt)) who rfl _ rfl ?_; intro w1 hm1 hx1))
  have hbm : b ≠ m := hcnt.ne hI.hb
  have hb1 := hx1.same (heap_old' _ _ hI.hb) (by simpa using hbm)
  have hc1 := hx1.same (heap_old' _ _ hI.hc) (by simpa using hcnt.ne hI.hc)
  have hl1 : Own w1.heap 85 4 lv M.log.length (M.log.flatMap Acc.cells) := hI.hl.same fun g hg => by
    obtain ⟨cur, hcur⟩ := hI.hl.block hg
    exact (hx1.same (heap_old' _ _ hcur) (by simpa using hcnt.ne hcur)).trans hcur.symm
  have ha1 := hx1.same (heap_new w _) (by simp; have := hcnt.lt; omega)
  have E1 : Ext ([b, c, m] ++ lv.ownBlock.toList) w w1 := (((Ext.refl _ w).alloc _).drewN nq).trans hx1 (by simp)
  have sz1 : w.heap.size < w1.heap.size := by have := hx1.size; simp at this; omega
  have hclt := lt_of_heap hI.hc
  have hbA : b < w.heap.size := hlt
  have hgl : ∀ g, lv.ownBlock = some g → g < w.heap.size := fun g hg => hI.hl.lt hg
  generalize hA : w.heap.size = A at ha1 hbA sz1 hclt hgl
  have HA := Hs.hid hA; clear hA
  clear c0 c1 c2 hx1
  have c0 := cellAt hb1 0
  have c1 := cellAt hb1 1
  have c2 := cellAt hb1 2
  simp at c0 c1 c2
  have a0 := cellAt ha1 0
  have a1 := cellAt ha1 1
  have a2 := cellAt ha1 2
  have a3 := cellAt ha1 3
  simp at a0 a1 a2 a3
  have f2 := freeAt hb1 2
  have hbl : b ∉ lv.ownBlock.toList := fun hm => by
    obtain ⟨cur, hcur⟩ := hl1.block (by simpa using hm)
    exact absurd rfl (ne_block hb1 hcur (by simp))
  have hcl : c ∉ lv.ownBlock.toList := fun hm => by
    obtain ⟨cur, hcur⟩ := hl1.block (by simpa using hm)
    exact absurd rfl (ne_block hc1 hcur (by simp))
  have hml : m ∉ lv.ownBlock.toList := fun hm => by
    obtain ⟨cur, hcur⟩ := hl1.block (by simpa using hm)
    exact absurd rfl (hm1.ne hcur)
  have hAl : A ∉ lv.ownBlock.toList := fun hm => by
    have := hgl A (by simpa using hm); omega
  have hcs : ∀ u ∈ [Value.int .i64 kind, Value.int .i64 cell, Value.string old, Value.string new], u.oneCell' = true := by simp [Value.oneCell']
  have hmx : M.log.length + 1 ≤ maxLen := by unfold maxLen; omega
  have hb1lt := lt_of_heap hb1
  have hb1ne : b ≠ w1.heap.size := by omega
  go_cut [] (fun wx => DoMid w b c m A ([b, c, m] ++ lv.ownBlock.toList) M ⟨kind, cell, old, new⟩ wx)
  case first =>
    obtain ⟨i0, hi, hz0, hz1, hz2⟩ := info_parts infoAcc
    go_region_law (refine step_append_own rfl (.tmp 45) (.tmp 47) 71 rfl 85 i0 _ 4 48 Try.underlying71 hi hz0 hz1 hz2 rfl (by decide) lv M.log.length _ (by simp [Act.eval, Act.put]) (hl1.alloc _) ⟨w1.heap.size, 0, none⟩ 1 1 [.int .i64 kind, .int .i64 cell, .string old, .string new] (by simp [Act.eval, Act.put]) rfl (news_new w1 _ _) hcs hmx (by omega) ?_; intro ao2 cap2 w2 hl2 hx2 hf2; have hb2 := hx2.same (heap_old' _ _ hb1) hbl; have e2 := cellAt hb2 2; have f2' := freeAt hb2 2; simp at e2)
    all_goals
      go_wp2_with fail
      go_meet
    all_goals exact doMid_of (x := ⟨kind, cell, old, new⟩) hb1 hc1 hm1 ha1 hl2 hx2 (fun g hg => (hf2 g hg).imp id (fun h => by simp at h; omega)) E1 (by simp) (fun g hg => by simp at hg ⊢; exact .inr (.inr (.inr hg))) hbl hcl hml hAl (Nat.le_of_eq HA.out) (by omega) HLG.out
  case rest =>
    clear hb1 hc1 hm1 hl1 ha1 c0 c1 c2 a0 a1 a2 a3 f2 hcs hmx hb1lt hb1ne E1
    obtain ⟨⟨lv2, hM, hF⟩, hA2, hE, _⟩ := hcut
    have c0 := cellAt hM.hb 0
    simp at c0
    have a0 := cellAt hA2 0
    have a1 := cellAt hA2 1
    have a2 := cellAt hA2 2
    have a3 := cellAt hA2 3
    simp [Acc.cells] at a0 a1 a2 a3
    have f2 := freeAt hM.hc cell.toNat
    have hcc : wc.cell? ⟨c, cell.toNat, none⟩ = some (.string (M.at cell)) := by
      rw [cellAt hM.hc]
      have : cell.toNat < M.cells.length := by omega
      simp [MSt.at, List.getD, this]
    have hfin := do_fin hM (x := ⟨kind, cell, old, new⟩) (by omega) h1
    have hcF : c ∈ ([b, c, m] ++ lv.ownBlock.toList) := by simp
    rcases (by omega : kind = 1 ∨ kind = 2 ∨ kind = 3) with rfl | rfl | rfl
    · have hd : M.done ⟨1, cell, old, new⟩ = true := by simp [MSt.done]
      have Hfin := Hs.hid (hfin (by simp)); clear hfin
      have Hd := Hs.hid hd; clear hd
      go_wp2_with fail
      go_quiet (fail)
      go_wp2_with fail
      go_ret3
      exact ⟨lv2, by rw [Hd.out]; rfl, Hfin.out, hE.drewN _⟩
    · have hd : M.done ⟨2, cell, old, new⟩ = true := by simp [MSt.done]
      have Hset := Hs.hid (do_set hM (x := ⟨2, cell, old, new⟩) (by omega) h1 (by simp [hd])); clear hfin
      have Hd := Hs.hid hd; clear hd
      go_wp2_with fail
      go_quiet (fail)
      go_wp2_with fail
      go_region
      all_goals
        go_wp2_with fail
        go_ret3
        exact ⟨lv2, by rw [Hd.out]; rfl, Hset.out, ((hE.drewN _).setCell (.inl hcF) _)⟩
    · by_cases heq : ((M.at cell).toList == old.toList) = true
      · have hd : M.done ⟨3, cell, old, new⟩ = true := by simp [MSt.done]; simpa using heq
        have Hset := Hs.hid (do_set hM (x := ⟨3, cell, old, new⟩) (by omega) h1 (by simp [hd])); clear hfin
        have Hd := Hs.hid hd; clear hd
        go_wp2_with fail
        go_quiet (fail)
        go_wp2_with fail
        go_region
        all_goals
          go_wp2_with fail
          go_ret3
          exact ⟨lv2, by rw [Hd.out]; rfl, Hset.out, ((hE.drewN _).setCell (.inl hcF) _)⟩
      · have heq : ((M.at cell).toList == old.toList) = false := by simpa using heq
        have hd : M.done ⟨3, cell, old, new⟩ = false := by simp [MSt.done]; simpa using heq
        have Hfin := Hs.hid (hfin (by simp [hd])); clear hfin
        have Hd := Hs.hid hd; clear hd
        go_wp2_with fail
        go_quiet (fail)
        go_wp2_with fail
        go_ret3
        exact ⟨lv2, by rw [Hd.out]; rfl, Hfin.out, hE.drewN _⟩
end Go.Proofs.Ytkhihpmadmmeaaa
