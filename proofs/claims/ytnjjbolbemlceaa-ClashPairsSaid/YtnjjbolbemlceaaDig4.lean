/-
  digest.Sum, walked.
-/
import Derived.Test.YtnjjbolbemlceaaDig3
import Derived.Test.YtnjjbolbemlceaaDigQ
import Derived.Laws.Rows
set_option linter.unusedSimpArgs false
set_option linter.unusedVariables false
set_option maxHeartbeats 1000000
set_option maxRecDepth 100000
namespace Go.Proofs.Ytnjjbolbemlceaa
open Go.RowKit Go.Hs Go.Dg

theorem repeatL_len (l : List UInt8) : ∀ c, (Lib.repeatL l c).length = l.length * c
  | 0 => rfl
  | c + 1 => by
    unfold Lib.repeatL
    rw [List.length_append, repeatL_len l c, Nat.mul_succ]; omega
theorem repeat_any (c : Int) (h0 : 0 ≤ c) (h1 : c ≤ 1000) (w : World) : Calls Try.prog 46 #[.string ⟨#[0]⟩, .int .i64 c] w fun e w' => ∃ z : ByteArray, e = .returned (.string z) ∧ Hid (z = ⟨(Lib.repeatL [0] c.toNat).toArray⟩) ∧ z.size ≤ 1000 ∧ Ext [] w w' := by
  obtain ⟨k, rfl⟩ := Int.eq_ofNat_of_zero_le h0
  refine (Try.strings_Repeat ⟨#[0]⟩ k w (by omega) (by show 1 * k ≤ _; omega)).mono fun e w' ⟨g1, g2⟩ => ⟨_, g1, Hs.hid rfl, ?_, Ext.ofBelow g2⟩
  show (Lib.repeatL [0] k).toArray.size ≤ 1000
  rw [List.size_toArray, repeatL_len]
  simp; omega
theorem repeatL_zero : ∀ c, Lib.repeatL [0] c = List.replicate c 0
  | 0 => rfl
  | c + 1 => by unfold Lib.repeatL; rw [repeatL_zero c]; rfl
theorem one_conv (w : World) (x : Nat) : (convert 42 9 (.slice (some ⟨w.heap.size, 0, none⟩) 1 1)).run Try.prog (w.alloc (.cells #[.int .u8 (x : Int)] 5)) = .ok (.string (strN [x])) (w.alloc (.cells #[.int .u8 (x : Int)] 5)) := by
  have hown : Own (w.alloc (.cells #[.int .u8 (x : Int)] 5)).heap 5 1 (.slice (some ⟨w.heap.size, 0, none⟩) [x].length 1) [x].length ([x].map fun (c : Nat) => Value.int .u8 c) :=
    ⟨rfl, .inr ⟨_, 1, _, rfl, Nat.zero_le _, heap_new _ _, Nat.le_refl _, by decide, rfl, rfl⟩⟩
  exact run_bytes_text (P := Try.prog) 42 9 5 Try.underlying42 Try.underlying5 Try.underlying9 _ _ hown
abbrev sumCell (f : Nat → Int) : Obj := .cells (bytesL f) 27 (0, 0)
structure SmAt (w wr : World) (R T : Nat) (t1 : St) : Prop where
  r : wr.heap[R]? = some (sumCell fun _ => 0)
  t : wr.heap[T]? = some (stCell t1)
  ext : Ext [] w wr
  lo : w.heap.size ≤ T ∧ w.heap.size ≤ R ∧ R ≠ T
theorem SmAt.ext0 {w wr w' : World} {R T : Nat} {t1 : St} (h : SmAt w wr R T t1) (hx : Ext [] wr w') : SmAt w w' R T t1 := ⟨hx.same h.r (by simp), hx.same h.t (by simp), h.ext.trans0 hx, h.lo⟩
theorem SmAt.put {w wr : World} {R T : Nat} {t1 : St} (h : SmAt w wr R T t1) (u : St) :
    SmAt w ((((((((wr.setCell ⟨T, 0, none⟩ (.int .u32 u.a)).setCell ⟨T, 1, none⟩ (.int .u32 u.b)).setCell ⟨T, 2, none⟩ (.int .u32 u.c)).setCell ⟨T, 3, none⟩ (.int .u32 u.d)).setCell ⟨T, 4, none⟩ (.int .u32 u.e)).setCell ⟨T, 5, none⟩ (.int .u32 u.f)).setCell ⟨T, 6, none⟩ (.int .u32 u.g)).setCell ⟨T, 7, none⟩ (.int .u32 u.h)) R T u := by
  have hx : Ext [T] wr ((((((((wr.setCell ⟨T, 0, none⟩ (.int .u32 u.a)).setCell ⟨T, 1, none⟩ (.int .u32 u.b)).setCell ⟨T, 2, none⟩ (.int .u32 u.c)).setCell ⟨T, 3, none⟩ (.int .u32 u.d)).setCell ⟨T, 4, none⟩ (.int .u32 u.e)).setCell ⟨T, 5, none⟩ (.int .u32 u.f)).setCell ⟨T, 6, none⟩ (.int .u32 u.g)).setCell ⟨T, 7, none⟩ (.int .u32 u.h)) := by
    repeat (first | (with_reducible exact Ext.refl _ _) | (with_reducible refine Ext.set' (List.mem_singleton.2 rfl) ?_ _ _))
  refine ⟨hx.same h.r (by simpa using h.lo.2.2), ?_, h.ext.trans hx (fun g hg => .inr (by simp at hg; have := h.lo; omega)), h.lo⟩
  refine Eq.trans (heap_set (heap_set (heap_set (heap_set (heap_set (heap_set (heap_set (heap_set h.t 0 _) 1 _) 2 _) 3 _) 4 _) 5 _) 6 _) 7 _) ?_
  simp
abbrev wordsA (t : St) : Array Value := #[.int .u32 t.a, .int .u32 t.b, .int .u32 t.c, .int .u32 t.d, .int .u32 t.e, .int .u32 t.f, .int .u32 t.g, .int .u32 t.h]
structure OutAt (w wr : World) (R T O W : Nat) (t1 : St) (c : Nat) : Prop where
  sm : SmAt w wr R T t1
  o : wr.heap[O]? = some (sumCell (upTo t1 c))
  v : wr.heap[W]? = some (.cells (wordsA t1) 70 (0, 0))
  ne : O ≠ R ∧ O ≠ T ∧ O ≠ W ∧ w.heap.size ≤ O
theorem OutAt.put {w wr : World} {R T O W : Nat} {t1 : St} {c : Nat} (h : OutAt w wr R T O W t1 c) (hc : c < 32) : OutAt w (wr.setCell ⟨O, c, none⟩ (.int .u8 (sumByte t1 c))) R T O W t1 (c + 1) := by
  obtain ⟨n1, n2, n3, n4⟩ := h.ne
  have hx : Ext [O] wr (wr.setCell ⟨O, c, none⟩ (.int .u8 (sumByte t1 c))) := Ext.set' (by simp) (Ext.refl _ _) _ _
  refine ⟨⟨hx.same h.sm.r (by simp; exact Ne.symm n1), hx.same h.sm.t (by simp; exact Ne.symm n2), h.sm.ext.trans hx (fun g hg => .inr (by simp at hg; omega)), h.sm.lo⟩, ?_, hx.same h.v (by simp; exact Ne.symm n3), h.ne⟩
  rw [heap_set h.o, bytesL_set _ hc, upTo_step _ hc]
theorem wordsA_get (t : St) {i : Nat} (h : i < 8) : (wordsA t)[i]? = some (.int .u32 (wordOf t i)) := by
  unfold wordOf
  match i, h with
  | 0, _ => rfl
  | 1, _ => rfl
  | 2, _ => rfl
  | 3, _ => rfl
  | 4, _ => rfl
  | 5, _ => rfl
  | 6, _ => rfl
  | 7, _ => rfl
theorem digSum_any (b : Nat) (t : St) (left : ByteArray) (n : Nat) (w : World) (hb : w.heap[b]? = some (hashCell t left n)) (hl : left.size < 64) (hn : n ≤ 2000000000) :
    Calls Try.prog 30 #[.pointer (some ⟨b, 0, none⟩)] w fun e w' => e = .returned (.agg (sumV t left n)) ∧ Ext [] w w' := by
  obtain ⟨h0, h1, h2, h3, h4, h5, h6, h7, h8, h9⟩ := hcells hb
  have hli : (left.size : Int) < 64 := by omega
  have hli0 : (0 : Int) ≤ left.size := by omega
  have hni : (n : Int) ≤ 2000000000 := by omega
  have hn0 : (0 : Int) ≤ n := by omega
  have hr0 : (0 : Int) ≤ (119 - (left.size : Int)) % 64 := by omega
  have hr1 : (119 - (left.size : Int)) % 64 ≤ 1000 := by omega
  have hw1 : IntKind.i64.wrap (119 - (left.size : Int)) = 119 - (left.size : Int) := IntWalk.i64_in _ (by omega)
  have hw2 : Int.tmod (119 - (left.size : Int)) 64 = (119 - (left.size : Int)) % 64 := Int.tmod_eq_emod_of_nonneg (by omega)
  have HRR := Hs.hid (And.intro hr0 hr1)
  clear hr0 hr1
  have hbl := lt_of_heap hb
  have hc1 : ¬ 9223372036854775807 < left.size + 1 := by omega
  have hl1 : (left ++ (⟨#[128]⟩ : ByteArray)).size ≤ 64 := by rw [ByteArray.size_append]; show left.size + 1 ≤ 64; omega
  go_enter Try.func30, Try.ntmps30
  go_upto_region 1 with fail
  go_region_held3 (fun w' => w'.cell? ⟨b, 8, none⟩ = some (.string left))
    (first
      | exact h8
      | exact g8
      | go_keep)
    ((go_at_call 46; (refine (repeat_any _ HRR.out.1 HRR.out.2 _).mono ?_); rintro e w4 ⟨z, rfl, hz, hzs, hx4⟩; have hc2 : ¬ 9223372036854775807 < left.size + 1 + z.size := (by omega); have hb4 := hx4.same (by first | exact hb | exact heap_old' _ _ hb) (by simp); obtain ⟨g0, g1, g2, g3, g4, g5, g6, g7, g8, g9⟩ := hcells hb4))
  go_wp2
  have hR4 : w4.heap[w.heap.size]? = some (sumCell fun _ => 0) := hx4.same (b := w.heap.size) (o := sumCell fun _ => 0) (heap_new w (sumCell fun _ => 0)) (by simp)
  have hxw : Ext [] w w4 := ((((Ext.refl [] w).alloc _).drew).trans0 hx4)
  have HZ := Hs.hid (And.intro hz.out (And.intro hzs hl))
  obtain ⟨pre, hpre⟩ : ∃ pre, left ++ (⟨#[128]⟩ : ByteArray) ++ z = pre := ⟨_, rfl⟩
  rw [hpre]
  have hps : pre.size ≤ 2000 := by rw [← hpre, ByteArray.size_append]; omega
  have HP := Hs.hid (And.intro hpre hps)
  clear hz hzs hc2 hl1 hc1 h0 h1 h2 h3 h4 h5 h6 h7 h8 h9 g0 g1 g2 g3 g4 g5 g6 g7 g8 g9 hli hli0 hw1 hw2 hpre hx4
  go_loopw [4, 3] (fun i v wr => ∃ m s3, m ≤ 8 ∧ i = .int .i64 ((m : Nat) - 1 : Int) ∧ v = .string s3 ∧ Hid (s3 = lenTo pre n (8 - m)) ∧ wr.heap[b]? = some (hashCell t left n) ∧ Ext [] w wr ∧ wr.heap[w.heap.size]? = some (sumCell fun _ => 0)) (fun i _ _ => (intOf i + 1).toNat)
  case atStart => exact ⟨8, pre, Nat.le_refl _, rfl, rfl, Hs.hid rfl, hb4, hxw, hR4⟩
  case round =>
    clear hb hb4 hxw hR4
    obtain ⟨m, s3, hm, rfl, rfl, hs3, hb, hx, hR⟩ := hrel
    cases m with
    | succ q =>
      have hq : ((q + 1 : Nat) : Int) - 1 = q := by omega
      rw [hq]
      have hq0 : (0 : Int) ≤ q := by omega
      have hq7 : (q : Int) ≤ 7 := by omega
      have hsz : ¬ 9223372036854775807 < s3.size + 1 := by rw [hs3.out, lenTo_size]; have := HP.out.2; omega
      have HM := Hs.hid hm
      obtain ⟨h0, h1, h2, h3, h4, h5, h6, h7, h8, h9⟩ := hcells hb
      have hX : ((n * 8 / 2 ^ (8 * q) % 256 : Nat) : Int) = (n : Int) * 8 / 2 ^ (8 * q) % 256 := by simp
      have hcv := one_conv wr (n * 8 / 2 ^ (8 * q) % 256)
      rw [hX] at hcv
      have hsc : (strN [n * 8 / 2 ^ (8 * q) % 256]).size = 1 := rfl
      have hs4 : Hid (s3 ++ strN [n * 8 / 2 ^ (8 * q) % 256] = lenTo pre n (8 - q)) := Hs.hid (by
        have h1 := hm
        rw [hs3.out, show 8 - q = (8 - (q + 1)) + 1 by omega, lenTo, show 7 - (8 - (q + 1)) = q by omega])
      clear hm hX
      go_wp2
      go_round
      case rel => exact ⟨q, _, by have := HM.out; omega, rfl, rfl, hs4, heap_old' _ _ hb, hx.alloc _, heap_old' _ _ hR⟩
      case measure => simp [intOf]
    | zero =>
      have h01 : ((0 : Nat) : Int) - 1 = -1 := rfl
      rw [h01]
      have hpad : s3 = padB left n := by
        rw [hs3.out]
        unfold padB
        rw [← HP.out.1, HZ.out.1, repeatL_zero, show ((119 - (left.size : Int)) % 64).toNat = (119 - left.size) % 64 by have := HZ.out.2.2; omega]
      have hsz := padB_size HZ.out.2.2 n
      rw [← hpad] at hsz
      have HPD := Hs.hid hpad
      have HSZ := Hs.hid hsz
      obtain ⟨h0, h1, h2, h3, h4, h5, h6, h7, h8, h9⟩ := hcells hb
      clear hpad hsz hs3 hm h01
      have hM0 : SmAt w (wr.alloc (stCell t)) w.heap.size wr.heap.size t :=
        ⟨heap_old' _ _ hR, heap_new _ _, hx.alloc _, hx.size, Nat.le_refl _, Nat.ne_of_lt (lt_of_heap hR)⟩
      have hE0 : Hid (eat t s3 = eat t (padB left n)) := Hs.hid (by rw [HPD.out])
      have hZ0 : Hid (s3.size ≤ 128 ∧ s3.size % 64 = 0) := Hs.hid (by rcases HSZ.out with h | h <;> omega)
      go_wp2
      clear h0 h1 h2 h3 h4 h5 h6 h7 h8 h9 hb hR hx
      obtain ⟨R, hRR⟩ : ∃ R, w.heap.size = R := ⟨_, rfl⟩
      obtain ⟨T, hTT⟩ : ∃ T, wr.heap.size = T := ⟨_, rfl⟩
      rw [hRR, hTT] at hM0
      rw [hRR, hTT]
      obtain ⟨tf, htf⟩ : ∃ tf, eat t (padB left n) = tf := ⟨_, rfl⟩
      have HTF := Hs.hid htf
      have HRR := Hs.hid hRR
      rw [htf] at hE0
      clear hRR hTT htf
      go_loopw [3] (fun v wr => ∃ s1 t1, v = .string s1 ∧ SmAt w wr R T t1 ∧ Hid (eat t1 s1 = tf) ∧ Hid (s1.size ≤ 128 ∧ s1.size % 64 = 0)) (fun v _ => match v with | .string s1 => s1.size | _ => 0)
      case atStart => exact ⟨s3, t, rfl, hM0, hE0, hZ0⟩
      case round =>
        clear hM0 hE0 hZ0
        obtain ⟨s1, t1, rfl, hM, hE, hZ⟩ := hrel
        obtain ⟨h0, h1, h2, h3, h4, h5, h6, h7⟩ := st_cells hM.t
        have hz := hZ.out
        by_cases h0s : s1.size = 0
        · have hlt : decide ((0 : Int) < s1.size) = false := decide_eq_false (by omega)
          have hlt2 : ¬ (0 : Int) < s1.size := by omega
          have hlt3 : ¬ 0 < s1.size := by omega
          have hn64 : ¬ 64 ≤ s1.size := by omega
          have HF := Hs.hid (show tf.1 = t1 by have := hE.out; rw [eat_end hn64] at this; rw [← this])
          have hTl := lt_of_heap hM.t
          clear hz h0s hn64
          go_wp2
          have hw1 : (wr.alloc (sumCell fun _ => 0)).heap.size = wr.heap.size + 1 := by simp
          have hO0 : OutAt w ((wr.alloc (sumCell fun _ => 0)).alloc (.cells (wordsA t1) 70)) R T wr.heap.size (wr.heap.size + 1) t1 0 := by
            have hx2 : Ext [] wr ((wr.alloc (sumCell fun _ => 0)).alloc (.cells (wordsA t1) 70)) := ((Ext.refl [] wr).alloc _).alloc _
            have hlo := hM.lo
            have hext := hM.ext.size
            have hRl := lt_of_heap hM.r
            refine ⟨hM.ext0 hx2, heap_old' _ _ ?_, by rw [← hw1]; exact heap_new _ _, by omega⟩
            exact heap_new _ _
          clear hTl hM h0 h1 h2 h3 h4 h5 h6 h7 hw1 hlt hlt2 hlt3
          obtain ⟨O, hOO⟩ : ∃ O, wr.heap.size = O := ⟨_, rfl⟩
          rw [hOO] at hO0 ⊢
          clear hOO
          go_loopw [72] (fun ii wr => ∃ i, i ≤ 8 ∧ ii = .int .i64 (i : Nat) ∧ OutAt w wr R T O (O + 1) t1 (4 * i)) (fun ii _ => 8 - (intOf ii).toNat)
          case atStart => exact ⟨0, Nat.zero_le _, rfl, hO0⟩
          case round =>
            clear hO0
            obtain ⟨i, hi, rfl, hO⟩ := hrel
            have hi0 : (0 : Int) ≤ i := by omega
            by_cases hlt : i < 8
            · have hii : (i : Int) < 8 := by omega
              have cw := cellAt hO.v i
              rw [wordsA_get t1 hlt] at cw
              have HI := Hs.hid (And.intro hi hlt)
              clear hi hlt
              go_wp2
              clear cw
              go_loopw [77] (fun kk wr => ∃ k, k ≤ 4 ∧ kk = .int .i64 (k : Nat) ∧ OutAt w wr R T O (O + 1) t1 (4 * i + k)) (fun kk _ => 4 - (intOf kk).toNat)
              case atStart => exact ⟨0, Nat.zero_le _, rfl, hO⟩
              case round =>
                clear hO
                obtain ⟨k, hk, rfl, hO⟩ := hrel
                have hk0 : (0 : Int) ≤ k := by omega
                by_cases hlt : k < 4
                · have hkk : (k : Int) < 4 := by omega
                  have hc : 4 * i + k < 32 := by have := HI.out; omega
                  have cO := cellAt hO.o (4 * i + k)
                  rw [bytesL_get _ hc] at cO
                  have fO := freeAt hO.o
                  have hO2 := hO.put hc
                  have hsh : ((24 : Int) - 8 * k).toNat = 24 - 8 * k := by omega
                  have hdv : sumByte t1 (4 * i + k) = wordOf t1 i / 2 ^ (24 - 8 * k) % 256 := by
                    unfold sumByte
                    rw [show (4 * i + k) / 4 = i by omega, show (4 * i + k) % 4 = k by omega]
                  rw [hdv] at hO2
                  have HO2 := Hs.hid hO2
                  have HK := Hs.hid hlt
                  clear hk hlt hO2 hdv hc
                  go_wp2
                  go_round
                  case rel => exact ⟨k + 1, HK.out, by go_num, HO2.out⟩
                  case measure => have := HK.out; simp [intOf]; omega
                · obtain rfl : k = 4 := by omega
                  clear hk hlt hk0
                  go_wp2
                  go_round
                  case rel => exact ⟨i + 1, HI.out.2, by go_num, hO⟩
                  case measure => have := HI.out; simp [intOf]; omega
            · obtain rfl : i = 8 := by omega
              clear hi hlt hi0
              have hiS : (Try.prog.info? 27).map (·.size) = some 32 := by kernel_rfl
              go_wp2_with (first
                | (refine wpList_load_row rfl 27 (.tmp 6) rfl O rfl _ (bytesL (upTo t1 (4 * 8))) (0, 0) _ hO.o Try.underlying27 rfl (by rw [bytesL_size]; exact hiS) ?_)
                | (refine wpList_store_row rfl 27 (.tmp 2) (.tmp 93) rfl R (bytesL (upTo t1 (4 * 8))) rfl rfl _ _ hO.sm.r (by rw [bytesL_size]; exact hiS) (by rw [bytesL_size, bytesL_size]) (bytesL_one _) ?_))
              have hfin : bytesL (upTo t1 (4 * 8)) = sumV t left n := by
                unfold sumV
                rw [HTF.out, HF.out]
                exact bytesL_congr fun j hj => by unfold upTo; rw [if_pos (by omega)]
              have hx : Ext [] w (wr.setRow R (bytesL (upTo t1 (4 * 8)))) := hO.sm.ext.trans (F' := [R]) ⟨rfl, rfl, rfl, by simp, fun q _ hq => setRow_other _ _ _ _ (by simpa using hq)⟩ (fun g hg => .inr (by simp at hg; have := hO.sm.lo; omega))
              refine bodyPost_ret (v := .agg (bytesL (upTo t1 (4 * 8)))) (results_cell_row (P := Try.prog) Try.results30 _ _ R _ _ _ _ rfl (setRow_heap _ _ _ _ _ _ hO.sm.r) Try.underlying27 rfl (by rw [bytesL_size]; exact hiS)) rfl ⟨by rw [hfin], hx⟩
        · have h64 : 64 ≤ s1.size := by omega
          have hlt : (0 : Int) < s1.size := by omega
          have hz64 : (64 : Int) ≤ s1.size := by omega
          have hz128 : (s1.size : Int) ≤ 128 := by omega
          have HL := Hs.hid (And.intro h64 (show s1.size ≤ maxLen by simp [maxLen]; omega))
          clear hz h0s h64
          go_wp2_with (go_at_call 44; refine (mix_lit t1 s1 HL.out.1 HL.out.2 _).mono ?_; rintro e w4 ⟨rfl, hx4⟩; have hM4 := hM.ext0 hx4; obtain ⟨k0, k1, k2, k3, k4, k5, k6, k7⟩ := st_cells hM4.t; have kf := freeAt hM4.t)
          have hM5 := hM4.put (mixF t1 s1)
          go_round
          case rel => exact ⟨_, _, rfl, hM5, Hs.hid (by rw [← hE.out, eat_more HL.out.1]), Hs.hid (by have := hZ.out; have := HL.out.1; rw [ByteArray.size_extract]; omega)⟩
          case measure => have := HL.out.1; simp [ByteArray.size_extract]; omega
end Go.Proofs.Ytnjjbolbemlceaa
