-- PRINTED BY print.sh 35421559b90ae4d0a3588c463048766b98c2df88dd9212a6774a882060cdf62d: not written by this session
import Derived.Test.YtjicjadibaomkaaDoorPErx0
namespace Go.Proofs.YtjicjadibaomkaaDoor.PEr
open Go.RowKit Go.Proofs.YtjicjadibaomkaaDoorW.PrintWords Go.Proofs.YtjicjadibaomkaaDoorW.PrintLast Go.Proofs.YtjicjadibaomkaaDoorW.PrintMore
attribute [local go_sem] max2_int min2_int max_two min_two max_three min_three max_four min_four   -- for this text's walks alone
set_option linter.unusedVariables false
set_option linter.unusedSimpArgs false

/-! ### api_Errno_Error: function 38 -/
def api_Errno_Error.l0 : Nat → Int → List (S118) → Int → Int → Option (ByteArray)
  | 0, _, _, _, _ => none
  | k + 1, x0, x25, x26, x27 => if x27 < x26 then (if 0 ≤ x27 then (if x27 < (x25.length : Int) then (if ((rd_T118 x25 x27).f0) = x0 then (some ((rd_T118 x25 x27).f1)) else (api_Errno_Error.l0 k x0 x25 x26 (wrap64 (x27 + 1)))) else (none)) else (none)) else (some (⟨#[111, 107]⟩ : ByteArray))
def api_Errno_Error.f (k : Nat) (a0 : Int) : Option (ByteArray) := (some (([(⟨1, (⟨#[101, 110, 100]⟩ : ByteArray)⟩ : S118), (⟨2, (⟨#[102, 111, 114, 109]⟩ : ByteArray)⟩ : S118), (⟨3, (⟨#[98, 105, 103]⟩ : ByteArray)⟩ : S118), (⟨4, (⟨#[97, 114, 103]⟩ : ByteArray)⟩ : S118), (⟨5, (⟨#[107, 105, 110, 100]⟩ : ByteArray)⟩ : S118), (⟨6, (⟨#[114, 97, 110, 103, 101]⟩ : ByteArray)⟩ : S118), (⟨7, (⟨#[102, 117, 108, 108]⟩ : ByteArray)⟩ : S118), (⟨8, (⟨#[110, 111, 110, 101]⟩ : ByteArray)⟩ : S118), (⟨9, (⟨#[116, 104, 101, 114, 101]⟩ : ByteArray)⟩ : S118), (⟨10, (⟨#[111, 118, 101, 114, 102, 108, 111, 119]⟩ : ByteArray)⟩ : S118), (⟨11, (⟨#[115, 104, 111, 114, 116]⟩ : ByteArray)⟩ : S118), (⟨12, (⟨#[112, 114, 111, 111, 102]⟩ : ByteArray)⟩ : S118), (⟨13, (⟨#[102, 117, 116, 117, 114, 101]⟩ : ByteArray)⟩ : S118), (⟨14, (⟨#[112, 114, 117, 110, 101, 100]⟩ : ByteArray)⟩ : S118), (⟨15, (⟨#[98, 114, 97, 110, 99, 104]⟩ : ByteArray)⟩ : S118), (⟨16, (⟨#[117, 110, 100, 111, 110, 101]⟩ : ByteArray)⟩ : S118), (⟨17, (⟨#[102, 105, 120, 101, 100]⟩ : ByteArray)⟩ : S118), (⟨18, (⟨#[99, 111, 110, 102, 108, 105, 99, 116]⟩ : ByteArray)⟩ : S118), (⟨19, (⟨#[100, 105, 118, 101, 114, 103, 101, 100]⟩ : ByteArray)⟩ : S118), (⟨20, (⟨#[98, 117, 115, 121]⟩ : ByteArray)⟩ : S118)] : List (S118)) : List (S118))).bind fun y101 => (api_Errno_Error.l0 k a0 y101 (y101.length : Int) 0)
theorem api_Errno_Error.mono_l : ∀ k, (∀ y0 y1 y2 y3, LeO (api_Errno_Error.l0 k y0 y1 y2 y3) (api_Errno_Error.l0 (k + 1) y0 y1 y2 y3))
  | 0 => fun _ _ _ _ r h => by simp [api_Errno_Error.l0] at h
  | k + 1 => by
    have ih0 := api_Errno_Error.mono_l k
    · intro y0 y1 y2 y3
      unfold api_Errno_Error.l0
      repeat' first
      | (with_reducible exact ih0 _ _ _ _)
      | (with_reducible exact LeO.refl _)
      | (with_reducible exact LeO.none _)
      | (with_reducible refine LeO.ite ?_ ?_)
      | (with_reducible refine LeO.bind ?_ (fun _ => ?_))
      | exact ih0 _ _ _ _
      | exact LeO.none _
      | refine LeO.ite ?_ ?_
      | refine LeO.bind ?_ (fun _ => ?_)
theorem api_Errno_Error.mono : ∀ a0 k, LeO (api_Errno_Error.f k a0) (api_Errno_Error.f (k + 1) a0) := by
  intro a0 k
  have ih0 := api_Errno_Error.mono_l k
  unfold api_Errno_Error.f
  repeat' first
      | (with_reducible exact ih0 _ _ _ _)
      | (with_reducible exact LeO.refl _)
      | (with_reducible exact LeO.none _)
      | (with_reducible refine LeO.ite ?_ ?_)
      | (with_reducible refine LeO.bind ?_ (fun _ => ?_))
      | exact ih0 _ _ _ _
      | exact LeO.none _
      | refine LeO.ite ?_ ?_
      | refine LeO.bind ?_ (fun _ => ?_)
set_option maxHeartbeats 8000000 in
set_option maxRecDepth 100000 in
theorem api_Errno_Error.calls (k : Nat) (a0 : Int) (r : ByteArray) (w : World) (h : api_Errno_Error.f k a0 = some r) :
    Calls Tryd.prog 38 #[.int .i64 a0] w fun e w' => e = .returned (.string r) ∧ Below w.heap.size w w' := by
  have hu118 := Tryd.underlying118
  have HB := Aside0.mk (Below.refl w.heap.size w)
  have H : ((some (([(⟨1, (⟨#[101, 110, 100]⟩ : ByteArray)⟩ : S118), (⟨2, (⟨#[102, 111, 114, 109]⟩ : ByteArray)⟩ : S118), (⟨3, (⟨#[98, 105, 103]⟩ : ByteArray)⟩ : S118), (⟨4, (⟨#[97, 114, 103]⟩ : ByteArray)⟩ : S118), (⟨5, (⟨#[107, 105, 110, 100]⟩ : ByteArray)⟩ : S118), (⟨6, (⟨#[114, 97, 110, 103, 101]⟩ : ByteArray)⟩ : S118), (⟨7, (⟨#[102, 117, 108, 108]⟩ : ByteArray)⟩ : S118), (⟨8, (⟨#[110, 111, 110, 101]⟩ : ByteArray)⟩ : S118), (⟨9, (⟨#[116, 104, 101, 114, 101]⟩ : ByteArray)⟩ : S118), (⟨10, (⟨#[111, 118, 101, 114, 102, 108, 111, 119]⟩ : ByteArray)⟩ : S118), (⟨11, (⟨#[115, 104, 111, 114, 116]⟩ : ByteArray)⟩ : S118), (⟨12, (⟨#[112, 114, 111, 111, 102]⟩ : ByteArray)⟩ : S118), (⟨13, (⟨#[102, 117, 116, 117, 114, 101]⟩ : ByteArray)⟩ : S118), (⟨14, (⟨#[112, 114, 117, 110, 101, 100]⟩ : ByteArray)⟩ : S118), (⟨15, (⟨#[98, 114, 97, 110, 99, 104]⟩ : ByteArray)⟩ : S118), (⟨16, (⟨#[117, 110, 100, 111, 110, 101]⟩ : ByteArray)⟩ : S118), (⟨17, (⟨#[102, 105, 120, 101, 100]⟩ : ByteArray)⟩ : S118), (⟨18, (⟨#[99, 111, 110, 102, 108, 105, 99, 116]⟩ : ByteArray)⟩ : S118), (⟨19, (⟨#[100, 105, 118, 101, 114, 103, 101, 100]⟩ : ByteArray)⟩ : S118), (⟨20, (⟨#[98, 117, 115, 121]⟩ : ByteArray)⟩ : S118)] : List (S118)) : List (S118))).bind fun y101 => (api_Errno_Error.l0 k a0 y101 (y101.length : Int) 0)) = some r := h
  clear h
  obtain ⟨y101, hy101⟩ : ∃ y_ : List (S118), y_ = (([(⟨1, (⟨#[101, 110, 100]⟩ : ByteArray)⟩ : S118), (⟨2, (⟨#[102, 111, 114, 109]⟩ : ByteArray)⟩ : S118), (⟨3, (⟨#[98, 105, 103]⟩ : ByteArray)⟩ : S118), (⟨4, (⟨#[97, 114, 103]⟩ : ByteArray)⟩ : S118), (⟨5, (⟨#[107, 105, 110, 100]⟩ : ByteArray)⟩ : S118), (⟨6, (⟨#[114, 97, 110, 103, 101]⟩ : ByteArray)⟩ : S118), (⟨7, (⟨#[102, 117, 108, 108]⟩ : ByteArray)⟩ : S118), (⟨8, (⟨#[110, 111, 110, 101]⟩ : ByteArray)⟩ : S118), (⟨9, (⟨#[116, 104, 101, 114, 101]⟩ : ByteArray)⟩ : S118), (⟨10, (⟨#[111, 118, 101, 114, 102, 108, 111, 119]⟩ : ByteArray)⟩ : S118), (⟨11, (⟨#[115, 104, 111, 114, 116]⟩ : ByteArray)⟩ : S118), (⟨12, (⟨#[112, 114, 111, 111, 102]⟩ : ByteArray)⟩ : S118), (⟨13, (⟨#[102, 117, 116, 117, 114, 101]⟩ : ByteArray)⟩ : S118), (⟨14, (⟨#[112, 114, 117, 110, 101, 100]⟩ : ByteArray)⟩ : S118), (⟨15, (⟨#[98, 114, 97, 110, 99, 104]⟩ : ByteArray)⟩ : S118), (⟨16, (⟨#[117, 110, 100, 111, 110, 101]⟩ : ByteArray)⟩ : S118), (⟨17, (⟨#[102, 105, 120, 101, 100]⟩ : ByteArray)⟩ : S118), (⟨18, (⟨#[99, 111, 110, 102, 108, 105, 99, 116]⟩ : ByteArray)⟩ : S118), (⟨19, (⟨#[100, 105, 118, 101, 114, 103, 101, 100]⟩ : ByteArray)⟩ : S118), (⟨20, (⟨#[98, 117, 115, 121]⟩ : ByteArray)⟩ : S118)] : List (S118))) := ⟨_, rfl⟩
  replace H : (api_Errno_Error.l0 k a0 y101 (y101.length : Int) 0) = some r := by first | (rw [hy101]; with_reducible exact H) | (have H2_ := (Option.bind_some _ _).symm.trans H; rw [hy101]; with_reducible exact H2_) | (have H2_ := (Option.bind_some _ _).symm.trans H; with_reducible exact H2_) | with_reducible exact H | (rw [hy101]; exact H) | exact H
  have Ny101 := Aside0.mk hy101
  clear hy101
  have H' := Aside0.mk H
  clear H
  go_enter Tryd.func38, Tryd.ntmps38
  go_wp2_with (first | ((with_reducible refine gate_dst (N := 25) rfl ?_); refine Kd.R_lit k118 _ 118 ?hg (N := 25) ?hd (xs := ([(⟨1, (⟨#[101, 110, 100]⟩ : ByteArray)⟩ : S118), (⟨2, (⟨#[102, 111, 114, 109]⟩ : ByteArray)⟩ : S118), (⟨3, (⟨#[98, 105, 103]⟩ : ByteArray)⟩ : S118), (⟨4, (⟨#[97, 114, 103]⟩ : ByteArray)⟩ : S118), (⟨5, (⟨#[107, 105, 110, 100]⟩ : ByteArray)⟩ : S118), (⟨6, (⟨#[114, 97, 110, 103, 101]⟩ : ByteArray)⟩ : S118), (⟨7, (⟨#[102, 117, 108, 108]⟩ : ByteArray)⟩ : S118), (⟨8, (⟨#[110, 111, 110, 101]⟩ : ByteArray)⟩ : S118), (⟨9, (⟨#[116, 104, 101, 114, 101]⟩ : ByteArray)⟩ : S118), (⟨10, (⟨#[111, 118, 101, 114, 102, 108, 111, 119]⟩ : ByteArray)⟩ : S118), (⟨11, (⟨#[115, 104, 111, 114, 116]⟩ : ByteArray)⟩ : S118), (⟨12, (⟨#[112, 114, 111, 111, 102]⟩ : ByteArray)⟩ : S118), (⟨13, (⟨#[102, 117, 116, 117, 114, 101]⟩ : ByteArray)⟩ : S118), (⟨14, (⟨#[112, 114, 117, 110, 101, 100]⟩ : ByteArray)⟩ : S118), (⟨15, (⟨#[98, 114, 97, 110, 99, 104]⟩ : ByteArray)⟩ : S118), (⟨16, (⟨#[117, 110, 100, 111, 110, 101]⟩ : ByteArray)⟩ : S118), (⟨17, (⟨#[102, 105, 120, 101, 100]⟩ : ByteArray)⟩ : S118), (⟨18, (⟨#[99, 111, 110, 102, 108, 105, 99, 116]⟩ : ByteArray)⟩ : S118), (⟨19, (⟨#[100, 105, 118, 101, 114, 103, 101, 100]⟩ : ByteArray)⟩ : S118), (⟨20, (⟨#[98, 117, 115, 121]⟩ : ByteArray)⟩ : S118)] : List (S118))) (inner := [.int .i64 1, .string (⟨#[101, 110, 100]⟩ : ByteArray), .int .i64 2, .string (⟨#[102, 111, 114, 109]⟩ : ByteArray), .int .i64 3, .string (⟨#[98, 105, 103]⟩ : ByteArray), .int .i64 4, .string (⟨#[97, 114, 103]⟩ : ByteArray), .int .i64 5, .string (⟨#[107, 105, 110, 100]⟩ : ByteArray), .int .i64 6, .string (⟨#[114, 97, 110, 103, 101]⟩ : ByteArray), .int .i64 7, .string (⟨#[102, 117, 108, 108]⟩ : ByteArray), .int .i64 8, .string (⟨#[110, 111, 110, 101]⟩ : ByteArray), .int .i64 9, .string (⟨#[116, 104, 101, 114, 101]⟩ : ByteArray), .int .i64 10, .string (⟨#[111, 118, 101, 114, 102, 108, 111, 119]⟩ : ByteArray), .int .i64 11, .string (⟨#[115, 104, 111, 114, 116]⟩ : ByteArray), .int .i64 12, .string (⟨#[112, 114, 111, 111, 102]⟩ : ByteArray), .int .i64 13, .string (⟨#[102, 117, 116, 117, 114, 101]⟩ : ByteArray), .int .i64 14, .string (⟨#[112, 114, 117, 110, 101, 100]⟩ : ByteArray), .int .i64 15, .string (⟨#[98, 114, 97, 110, 99, 104]⟩ : ByteArray), .int .i64 16, .string (⟨#[117, 110, 100, 111, 110, 101]⟩ : ByteArray), .int .i64 17, .string (⟨#[102, 105, 120, 101, 100]⟩ : ByteArray), .int .i64 18, .string (⟨#[99, 111, 110, 102, 108, 105, 99, 116]⟩ : ByteArray), .int .i64 19, .string (⟨#[100, 105, 118, 101, 114, 103, 101, 100]⟩ : ByteArray), .int .i64 20, .string (⟨#[98, 117, 115, 121]⟩ : ByteArray)]) (ok := fun _ => True) (okp := fun _ => True) ?hr ?hp (fun _ hk => hk) trivial (Below.refl _ _) (Nat.le_refl _) (by simp) ?_; (case hd => rfl); (case hg => rfl); (case hr => first | (go_simp; done) | (go_simp; rfl)); (case hp => exact (Reps.c2 (show Kd.M k118 _ _ _ (⟨1, (⟨#[101, 110, 100]⟩ : ByteArray)⟩ : S118) [.int .i64 1, .string (⟨#[101, 110, 100]⟩ : ByteArray)] from (k118_mkM _ _ _ (⟨1, (⟨#[101, 110, 100]⟩ : ByteArray)⟩ : S118) )) (Reps.c2 (show Kd.M k118 _ _ _ (⟨2, (⟨#[102, 111, 114, 109]⟩ : ByteArray)⟩ : S118) [.int .i64 2, .string (⟨#[102, 111, 114, 109]⟩ : ByteArray)] from (k118_mkM _ _ _ (⟨2, (⟨#[102, 111, 114, 109]⟩ : ByteArray)⟩ : S118) )) (Reps.c2 (show Kd.M k118 _ _ _ (⟨3, (⟨#[98, 105, 103]⟩ : ByteArray)⟩ : S118) [.int .i64 3, .string (⟨#[98, 105, 103]⟩ : ByteArray)] from (k118_mkM _ _ _ (⟨3, (⟨#[98, 105, 103]⟩ : ByteArray)⟩ : S118) )) (Reps.c2 (show Kd.M k118 _ _ _ (⟨4, (⟨#[97, 114, 103]⟩ : ByteArray)⟩ : S118) [.int .i64 4, .string (⟨#[97, 114, 103]⟩ : ByteArray)] from (k118_mkM _ _ _ (⟨4, (⟨#[97, 114, 103]⟩ : ByteArray)⟩ : S118) )) (Reps.c2 (show Kd.M k118 _ _ _ (⟨5, (⟨#[107, 105, 110, 100]⟩ : ByteArray)⟩ : S118) [.int .i64 5, .string (⟨#[107, 105, 110, 100]⟩ : ByteArray)] from (k118_mkM _ _ _ (⟨5, (⟨#[107, 105, 110, 100]⟩ : ByteArray)⟩ : S118) )) (Reps.c2 (show Kd.M k118 _ _ _ (⟨6, (⟨#[114, 97, 110, 103, 101]⟩ : ByteArray)⟩ : S118) [.int .i64 6, .string (⟨#[114, 97, 110, 103, 101]⟩ : ByteArray)] from (k118_mkM _ _ _ (⟨6, (⟨#[114, 97, 110, 103, 101]⟩ : ByteArray)⟩ : S118) )) (Reps.c2 (show Kd.M k118 _ _ _ (⟨7, (⟨#[102, 117, 108, 108]⟩ : ByteArray)⟩ : S118) [.int .i64 7, .string (⟨#[102, 117, 108, 108]⟩ : ByteArray)] from (k118_mkM _ _ _ (⟨7, (⟨#[102, 117, 108, 108]⟩ : ByteArray)⟩ : S118) )) (Reps.c2 (show Kd.M k118 _ _ _ (⟨8, (⟨#[110, 111, 110, 101]⟩ : ByteArray)⟩ : S118) [.int .i64 8, .string (⟨#[110, 111, 110, 101]⟩ : ByteArray)] from (k118_mkM _ _ _ (⟨8, (⟨#[110, 111, 110, 101]⟩ : ByteArray)⟩ : S118) )) (Reps.c2 (show Kd.M k118 _ _ _ (⟨9, (⟨#[116, 104, 101, 114, 101]⟩ : ByteArray)⟩ : S118) [.int .i64 9, .string (⟨#[116, 104, 101, 114, 101]⟩ : ByteArray)] from (k118_mkM _ _ _ (⟨9, (⟨#[116, 104, 101, 114, 101]⟩ : ByteArray)⟩ : S118) )) (Reps.c2 (show Kd.M k118 _ _ _ (⟨10, (⟨#[111, 118, 101, 114, 102, 108, 111, 119]⟩ : ByteArray)⟩ : S118) [.int .i64 10, .string (⟨#[111, 118, 101, 114, 102, 108, 111, 119]⟩ : ByteArray)] from (k118_mkM _ _ _ (⟨10, (⟨#[111, 118, 101, 114, 102, 108, 111, 119]⟩ : ByteArray)⟩ : S118) )) (Reps.c2 (show Kd.M k118 _ _ _ (⟨11, (⟨#[115, 104, 111, 114, 116]⟩ : ByteArray)⟩ : S118) [.int .i64 11, .string (⟨#[115, 104, 111, 114, 116]⟩ : ByteArray)] from (k118_mkM _ _ _ (⟨11, (⟨#[115, 104, 111, 114, 116]⟩ : ByteArray)⟩ : S118) )) (Reps.c2 (show Kd.M k118 _ _ _ (⟨12, (⟨#[112, 114, 111, 111, 102]⟩ : ByteArray)⟩ : S118) [.int .i64 12, .string (⟨#[112, 114, 111, 111, 102]⟩ : ByteArray)] from (k118_mkM _ _ _ (⟨12, (⟨#[112, 114, 111, 111, 102]⟩ : ByteArray)⟩ : S118) )) (Reps.c2 (show Kd.M k118 _ _ _ (⟨13, (⟨#[102, 117, 116, 117, 114, 101]⟩ : ByteArray)⟩ : S118) [.int .i64 13, .string (⟨#[102, 117, 116, 117, 114, 101]⟩ : ByteArray)] from (k118_mkM _ _ _ (⟨13, (⟨#[102, 117, 116, 117, 114, 101]⟩ : ByteArray)⟩ : S118) )) (Reps.c2 (show Kd.M k118 _ _ _ (⟨14, (⟨#[112, 114, 117, 110, 101, 100]⟩ : ByteArray)⟩ : S118) [.int .i64 14, .string (⟨#[112, 114, 117, 110, 101, 100]⟩ : ByteArray)] from (k118_mkM _ _ _ (⟨14, (⟨#[112, 114, 117, 110, 101, 100]⟩ : ByteArray)⟩ : S118) )) (Reps.c2 (show Kd.M k118 _ _ _ (⟨15, (⟨#[98, 114, 97, 110, 99, 104]⟩ : ByteArray)⟩ : S118) [.int .i64 15, .string (⟨#[98, 114, 97, 110, 99, 104]⟩ : ByteArray)] from (k118_mkM _ _ _ (⟨15, (⟨#[98, 114, 97, 110, 99, 104]⟩ : ByteArray)⟩ : S118) )) (Reps.c2 (show Kd.M k118 _ _ _ (⟨16, (⟨#[117, 110, 100, 111, 110, 101]⟩ : ByteArray)⟩ : S118) [.int .i64 16, .string (⟨#[117, 110, 100, 111, 110, 101]⟩ : ByteArray)] from (k118_mkM _ _ _ (⟨16, (⟨#[117, 110, 100, 111, 110, 101]⟩ : ByteArray)⟩ : S118) )) (Reps.c2 (show Kd.M k118 _ _ _ (⟨17, (⟨#[102, 105, 120, 101, 100]⟩ : ByteArray)⟩ : S118) [.int .i64 17, .string (⟨#[102, 105, 120, 101, 100]⟩ : ByteArray)] from (k118_mkM _ _ _ (⟨17, (⟨#[102, 105, 120, 101, 100]⟩ : ByteArray)⟩ : S118) )) (Reps.c2 (show Kd.M k118 _ _ _ (⟨18, (⟨#[99, 111, 110, 102, 108, 105, 99, 116]⟩ : ByteArray)⟩ : S118) [.int .i64 18, .string (⟨#[99, 111, 110, 102, 108, 105, 99, 116]⟩ : ByteArray)] from (k118_mkM _ _ _ (⟨18, (⟨#[99, 111, 110, 102, 108, 105, 99, 116]⟩ : ByteArray)⟩ : S118) )) (Reps.c2 (show Kd.M k118 _ _ _ (⟨19, (⟨#[100, 105, 118, 101, 114, 103, 101, 100]⟩ : ByteArray)⟩ : S118) [.int .i64 19, .string (⟨#[100, 105, 118, 101, 114, 103, 101, 100]⟩ : ByteArray)] from (k118_mkM _ _ _ (⟨19, (⟨#[100, 105, 118, 101, 114, 103, 101, 100]⟩ : ByteArray)⟩ : S118) )) (Reps.c2 (show Kd.M k118 _ _ _ (⟨20, (⟨#[98, 117, 115, 121]⟩ : ByteArray)⟩ : S118) [.int .i64 20, .string (⟨#[98, 117, 115, 121]⟩ : ByteArray)] from (k118_mkM _ _ _ (⟨20, (⟨#[98, 117, 115, 121]⟩ : ByteArray)⟩ : S118) )) (Reps.none _ _)))))))))))))))))))))); intro v102 w2 ho3 hb hg_ hnew_; clear hg_ hnew_; (first | rw [← Ny101.out] at ho3 | (simp only [Int.reduceToNat] at ho3; rw [← Ny101.out] at ho3)); have n0_ := Aside0.mk (Kd.R_lower ho3 (below_size (by repeat (first | (with_reducible first | exact HB.out | apply below_alloc | apply pw_below_drewN | apply below_drew1) | exact HB.out)))); have n1_ := Aside0.mk (below_step (by repeat (first | (with_reducible first | exact HB.out | apply below_alloc | apply pw_below_drewN | apply below_drew1) | exact HB.out)) hb); clear HB; have HO103 := n0_; have HB := n1_; clear n0_ n1_; clear hb ho3; obtain ⟨Ao4, co4, eo4⟩ := Kd.R_slice HO103.out; subst eo4))
  go_loopg [27] k (fun kq v27 w' => ∃ (x27_1 : Int), v27 = .int .i64 x27_1 ∧ Aside0 (api_Errno_Error.l0 kq a0 y101 (y101.length : Int) x27_1 = some r) ∧ Aside0 (kq ≤ k) ∧ Aside0 (Kd.R k118 118 w' w.heap.size (fun _ => True) (.slice Ao4 y101.length co4) y101) ∧ Aside0 (Below w.heap.size w w'))
  case atStart => exact ⟨(0), (by first | rfl | (simp; done) | (simp [*]; done)), H', ⟨Nat.le_refl _⟩, ⟨by (with_reducible repeat (first | apply Kd.R_alloc | apply Kd.R_drewN | apply Kd.R_drew)); exact HO103.out⟩, ⟨by repeat (first | (with_reducible first | exact HB.out | apply below_alloc | apply pw_below_drewN | apply below_drew1) | exact HB.out)⟩⟩
  case round =>
    clear H'
    try clear c2
    try clear p2
    try clear c3
    obtain ⟨x27_1, rfl, HA, HK1, HO_25, HB⟩ := hrel
    cases gk with
    | zero => exact absurd HA.out (by simp [api_Errno_Error.l0])
    | succ k1 =>
      have H := HA.out
      clear HA
      simp only [api_Errno_Error.l0] at H
      by_cases c5 : x27_1 < (y101.length : Int)
      · rw [if_pos c5] at H
        have c5b0 : decide (x27_1 < (y101.length : Int)) = true := decide_eq_true c5
        clear c5
        by_cases c6 : 0 ≤ x27_1
        · rw [if_pos c6] at H
          have c6b0 : decide (0 ≤ x27_1) = true := decide_eq_true c6
          clear c6
          by_cases c7 : x27_1 < (y101.length : Int)
          · rw [if_pos c7] at H
            have c7b0 : decide (x27_1 < (y101.length : Int)) = true := decide_eq_true c7
            clear c7
            by_cases c8 : ((rd_T118 y101 x27_1).f0) = a0
            · rw [if_pos c8] at H
              have c8b0 : (((rd_T118 y101 x27_1).f0) == a0) = true := beq_iff_eq.mpr c8
              have c8b1 : (((rd_T118 y101 x27_1).f0) != a0) = false := bne_eq_false_iff_eq.mpr c8
              clear c8
              obtain rfl := Option.some.inj H
              have p104 : 0 ≤ (x27_1 : Int) := of_decide_eq_true (by first | (with_reducible assumption) | assumption)
              have q104 : x27_1 < (y101.length : Int) := of_decide_eq_true (by first | (with_reducible assumption) | assumption)
              obtain ⟨ad104, e104, hx104_0, hx104_1⟩ := at_T118 (Kd.R_reads' HO_25.out).2.2 x27_1 p104 q104
              cases e104
              replace p104 := eq_true p104
              replace q104 := eq_true q104
              go_wp2_with (first | ((with_reducible refine gate_dst (N := 4) rfl ?_); refine box_event ?hg (N := 4) ?hd (cs := #[.int .i64 0, .string (⟨#[]⟩ : ByteArray)]) (t := 118) ?hr ?_; (case hd => rfl); (case hg => rfl); (case hr => first | (go_simp; done) | (go_simp; rfl)); intro gb105 hg w9 hbox hb; have n0_ := Aside0.mk (Kd.R_below (Kd.R_elderB (by (with_reducible repeat (first | apply Kd.R_alloc | apply Kd.R_drewN | apply Kd.R_drew)); exact HO_25.out) gb105 (Nat.le_of_eq hg.symm)) hb); have n1_ := Aside0.mk (below_step (by repeat (first | (with_reducible first | exact HB.out | apply below_alloc | apply pw_below_drewN | apply below_drew1) | exact HB.out)) hb); have n2_ := Aside0.mk (hbox); have n3_ := Aside0.mk ((by rw [hg]; exact (below_size (by repeat (first | (with_reducible first | exact HB.out | apply below_alloc | apply pw_below_drewN | apply below_drew1) | exact HB.out))) : w.heap.size ≤ gb105)); have n4_ := Aside0.mk ((by rw [hg]; exact (below_size (by repeat (first | (with_reducible first | exact HB.out | apply below_alloc | apply pw_below_drewN | apply below_drew1) | exact HB.out))) : w.heap.size ≤ gb105)); clear HO_25; clear HB; have HO_25 := n0_; have HB := n1_; have BK105 := n2_; have GW105 := n3_; have GE105 := n4_; clear n0_ n1_ n2_ n3_ n4_; clear hb hbox hg; have hcz10_0 : w9.cell? ⟨gb105, 0, none⟩ = some (.int .i64 0) := (blk_cell BK105.out 0).trans rfl; have hcz10_1 : w9.cell? ⟨gb105, 1, none⟩ = some (.string (⟨#[]⟩ : ByteArray)) := (blk_cell BK105.out 1).trans rfl; have hfz10_0 := blk_frozen BK105.out 0; have hfz10_1 := blk_frozen BK105.out 1))
              go_ret
              exact ⟨by first | rfl | (simp [errW_none, errW_some] <;> rfl) | (simp [*, errW_none, errW_some] <;> rfl), by repeat (first | (with_reducible first | exact HB.out | apply below_alloc | apply pw_below_drewN | apply below_drew1 | refine below_set ?_ GE105.out) | exact HB.out)⟩
            · rw [if_neg c8] at H
              have c8b0 : (((rd_T118 y101 x27_1).f0) == a0) = false := beq_eq_false_iff_ne.mpr c8
              have c8b1 : (((rd_T118 y101 x27_1).f0) != a0) = true := bne_iff_ne.mpr c8
              have H' := Aside0.mk H
              clear H
              have p104 : 0 ≤ (x27_1 : Int) := of_decide_eq_true (by first | (with_reducible assumption) | assumption)
              have q104 : x27_1 < (y101.length : Int) := of_decide_eq_true (by first | (with_reducible assumption) | assumption)
              obtain ⟨ad104, e104, hx104_0, hx104_1⟩ := at_T118 (Kd.R_reads' HO_25.out).2.2 x27_1 p104 q104
              cases e104
              replace p104 := eq_true p104
              replace q104 := eq_true q104
              go_wp2_with (first | ((with_reducible refine gate_dst (N := 4) rfl ?_); refine box_event ?hg (N := 4) ?hd (cs := #[.int .i64 0, .string (⟨#[]⟩ : ByteArray)]) (t := 118) ?hr ?_; (case hd => rfl); (case hg => rfl); (case hr => first | (go_simp; done) | (go_simp; rfl)); intro gb105 hg w11 hbox hb; have n0_ := Aside0.mk (Kd.R_below (Kd.R_elderB (by (with_reducible repeat (first | apply Kd.R_alloc | apply Kd.R_drewN | apply Kd.R_drew)); exact HO_25.out) gb105 (Nat.le_of_eq hg.symm)) hb); have n1_ := Aside0.mk (below_step (by repeat (first | (with_reducible first | exact HB.out | apply below_alloc | apply pw_below_drewN | apply below_drew1) | exact HB.out)) hb); have n2_ := Aside0.mk (hbox); have n3_ := Aside0.mk ((by rw [hg]; exact (below_size (by repeat (first | (with_reducible first | exact HB.out | apply below_alloc | apply pw_below_drewN | apply below_drew1) | exact HB.out))) : w.heap.size ≤ gb105)); have n4_ := Aside0.mk ((by rw [hg]; exact (below_size (by repeat (first | (with_reducible first | exact HB.out | apply below_alloc | apply pw_below_drewN | apply below_drew1) | exact HB.out))) : w.heap.size ≤ gb105)); clear HO_25; clear HB; have HO_25 := n0_; have HB := n1_; have BK105 := n2_; have GW105 := n3_; have GE105 := n4_; clear n0_ n1_ n2_ n3_ n4_; clear hb hbox hg; have hcz12_0 : w11.cell? ⟨gb105, 0, none⟩ = some (.int .i64 0) := (blk_cell BK105.out 0).trans rfl; have hcz12_1 : w11.cell? ⟨gb105, 1, none⟩ = some (.string (⟨#[]⟩ : ByteArray)) := (blk_cell BK105.out 1).trans rfl; have hfz12_0 := blk_frozen BK105.out 0; have hfz12_1 := blk_frozen BK105.out 1))
              go_roundg k1
              case measure => have := HK1.out; omega
              case rel => exact ⟨(wrap64 (x27_1 + 1)), (by first | rfl | (simp; done) | (simp [*]; done)), H', ⟨by have := HK1.out; omega⟩, ⟨by (with_reducible repeat (first | apply Kd.R_alloc | apply Kd.R_drewN | apply Kd.R_drew)); exact Kd.R_mono (Kd.R_far (p := ⟨gb105, 1, none⟩) (Kd.R_far (p := ⟨gb105, 0, none⟩) (Kd.R_mono HO_25.out (fun k_ hk => (⟨hk, hk.2⟩ : _ ∧ k_ ≠ gb105))) (fun _ hk => hk.2) (.int .i64 ((rd_T118 y101 x27_1).f0))) (fun _ hk => hk.2) (.string ((rd_T118 y101 x27_1).f1))) (fun _ hk => trivial)⟩, ⟨by repeat (first | (with_reducible first | exact HB.out | apply below_alloc | apply pw_below_drewN | apply below_drew1 | refine below_set ?_ GE105.out) | exact HB.out)⟩⟩
          · rw [if_neg c7] at H
            exact absurd H (by simp)
        · rw [if_neg c6] at H
          exact absurd H (by simp)
      · rw [if_neg c5] at H
        have c5b0 : decide (x27_1 < (y101.length : Int)) = false := decide_eq_false c5
        clear c5
        obtain rfl := Option.some.inj H
        go_wp2
        go_ret
        exact ⟨by first | rfl | (simp [errW_none, errW_some] <;> rfl) | (simp [*, errW_none, errW_some] <;> rfl), by repeat (first | (with_reducible first | exact HB.out | apply below_alloc | apply pw_below_drewN | apply below_drew1) | exact HB.out)⟩

end Go.Proofs.YtjicjadibaomkaaDoor.PEr
