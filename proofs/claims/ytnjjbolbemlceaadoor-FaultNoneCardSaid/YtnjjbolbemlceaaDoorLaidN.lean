/-
  The four listed variables of FaultNone's row: what the condition gives a walk; a world that meets it.
-/
import Derived.Test.YtnjjbolbemlceaaDoorLaid
import Derived.LaidMore
import Derived.LaidHandle
set_option linter.unusedSimpArgs false
set_option linter.unusedVariables false
namespace Go.Proofs.YtnjjbolbemlceaaDoor
open Go.ChangeShapes Go.WideShapes Go.Deep Go.RowKit Go.Hs
def laidN : List (String × DataW Unit) := [("math/bits.deBruijn32tab", Rows.laid_math_bits_deBruijn32tab), ("math/bits.deBruijn64tab", Rows.laid_math_bits_deBruijn64tab), ("internal/strconv.uint64pow10", Rows.laid_internal_strconv_uint64pow10), ("errors.errorType", Rows.laid_errors_errorType)]
theorem gd_of_laidN {W : World} (h : laidMetH Tryd.prog laidN W) : Gd W := by
  have h' : laidMet Tryd.prog [("math/bits.deBruijn32tab", Rows.laid_math_bits_deBruijn32tab), ("math/bits.deBruijn64tab", Rows.laid_math_bits_deBruijn64tab), ("internal/strconv.uint64pow10", Rows.laid_internal_strconv_uint64pow10)] W ∧ handlesMet Tryd.prog laidE W := h
  exact gd_of_laid (show laidMet Tryd.prog [] W ∧ handlesMet Tryd.prog laidE W from ⟨laidMet_nil _ _, h'.2⟩)
theorem doorMet (os : Os) (args : Array Value) : laidMetH Tryd.prog laidN ((World.doorLaid Tryd.prog 400 os).forCall (fun _ _ => 0) ⟨#[], args, []⟩).memory :=
  laidMetH_of_parts3 (fuel := 8) (laidMet_of_run' 8 (by kernel_rfl) (by kernel_rfl)) (by kernel_rfl) (by kernel_rfl)
end Go.Proofs.YtnjjbolbemlceaaDoor
