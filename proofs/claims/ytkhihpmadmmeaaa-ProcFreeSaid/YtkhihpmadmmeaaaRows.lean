/-
  No cell of these rows narrows 'for every input' (looked for: loops, veiled, ifaces, maps, wideKeys, modest, calm, conditions, laid).
  DERIVED. THE GIVEN ROWS OF THIS SEAT. 6 by the template 'for every input the law returns true; each argument reads behind the call as it read before'; 0 by the template 'total and deterministic' (their statements: YtkhihpmadmmeaaaTotals.lean).
  GIVEN WITH THE SEED: the statements are not yours to turn. If you find one false, say at which input.
  Laid BY PROGRAM, IN A SANDBOX (cutbox-rows.mjs): the forced cells as the released guide's own fill.sh prints them over the translation 3649dfe898986853… (all of the seat's roots in one cut). By AI agents, Wed Nov 11 2026. No macro, syntax, notation, axiom, sorry.
-/
import Derived.Test.YtkhihpmadmmeaaaChecked
import GoSem.Claim
import GoSem.ClaimJoined
import GoSem.ClaimMapViews
import Derived.JoinedTies
import Derived.KernelRfl
namespace Go.Proofs.Ytkhihpmadmmeaaa
/- THE CELL 'sum', in the pinned program and in every row, IS THE sha256 OF THE DUMP (.gsa) THAT YtkhihpmadmmeaaaProg.lean LOADS. Nothing in Lean hashes anything: it is a label: what it is worth is what the hold of that sum in a sandbox is worth. -/
noncomputable def Try.pinned : Pinned := { name := "ytkhihpmadmmeaaa", sum := "3649dfe898986853d363e19854619ca67ea16939b0c3cc8fb49e0b8552e0c7bb", checked := Try.checked }
namespace Rows
def none {H : Type} : Left H := { results := [], args := [] }

/-- 'hindsightlaw16.ProcPlaces': WHATEVER THE INPUT: true; the input reads as it did. -/
def procPlacesSpec : ChangeSpec := { name := "procPlaces", fn := fun _ => fun
  | [d1, d2] => { results := [.lit (.bool true)], args := [d1, d2] }
  | _ => none }
def procPlacesRow : OpenClaim := { program := "ytkhihpmadmmeaaa", sum := "3649dfe898986853d363e19854619ca67ea16939b0c3cc8fb49e0b8552e0c7bb", func := "hindsight/hindsightlaw16.ProcPlaces", spec := "procPlaces", apart := false }
def ProcPlacesSaid : Prop := procPlacesRow.holds Try.pinned (OpenSpec.ofChange procPlacesSpec)

/-- ITS FALSE NEIGHBOUR: 'it returns false'. Refute it at one input. -/
def procPlacesWrong : ChangeSpec := { name := "procPlaces", fn := fun _ => fun
  | [d1, d2] => { results := [.lit (.bool false)], args := [d1, d2] }
  | _ => none }
def ProcPlacesWrongFalsely : Prop := procPlacesRow.holds Try.pinned (OpenSpec.ofChange procPlacesWrong)

/-- 'hindsightlaw16.ProcHelped': WHATEVER THE INPUT: true; the input reads as it did. -/
def procHelpedSpec : ChangeSpec := { name := "procHelped", fn := fun _ => fun
  | [d1, d2, d3, d4, d5] => { results := [.lit (.bool true)], args := [d1, d2, d3, d4, d5] }
  | _ => none }
def procHelpedRow : OpenClaim := { program := "ytkhihpmadmmeaaa", sum := "3649dfe898986853d363e19854619ca67ea16939b0c3cc8fb49e0b8552e0c7bb", func := "hindsight/hindsightlaw16.ProcHelped", spec := "procHelped", apart := false }
def ProcHelpedSaid : Prop := procHelpedRow.holds Try.pinned (OpenSpec.ofChange procHelpedSpec)

/-- ITS FALSE NEIGHBOUR: 'it returns false'. Refute it at one input. -/
def procHelpedWrong : ChangeSpec := { name := "procHelped", fn := fun _ => fun
  | [d1, d2, d3, d4, d5] => { results := [.lit (.bool false)], args := [d1, d2, d3, d4, d5] }
  | _ => none }
def ProcHelpedWrongFalsely : Prop := procHelpedRow.holds Try.pinned (OpenSpec.ofChange procHelpedWrong)

/-- 'hindsightlaw16.ProcBusy': WHATEVER THE INPUT: true; the input reads as it did. -/
def procBusySpec : ChangeSpec := { name := "procBusy", fn := fun _ => fun
  | [d1, d2] => { results := [.lit (.bool true)], args := [d1, d2] }
  | _ => none }
def procBusyRow : OpenClaim := { program := "ytkhihpmadmmeaaa", sum := "3649dfe898986853d363e19854619ca67ea16939b0c3cc8fb49e0b8552e0c7bb", func := "hindsight/hindsightlaw16.ProcBusy", spec := "procBusy", apart := false }
def ProcBusySaid : Prop := procBusyRow.holds Try.pinned (OpenSpec.ofChange procBusySpec)

/-- ITS FALSE NEIGHBOUR: 'it returns false'. Refute it at one input. -/
def procBusyWrong : ChangeSpec := { name := "procBusy", fn := fun _ => fun
  | [d1, d2] => { results := [.lit (.bool false)], args := [d1, d2] }
  | _ => none }
def ProcBusyWrongFalsely : Prop := procBusyRow.holds Try.pinned (OpenSpec.ofChange procBusyWrong)

/-- 'hindsightlaw16.ProcPlays': WHATEVER THE INPUT: true; the input reads as it did. -/
def procPlaysSpec : ChangeSpec := { name := "procPlays", fn := fun _ => fun
  | [d1, d2, d3] => { results := [.lit (.bool true)], args := [d1, d2, d3] }
  | _ => none }
def procPlaysRow : OpenClaim := { program := "ytkhihpmadmmeaaa", sum := "3649dfe898986853d363e19854619ca67ea16939b0c3cc8fb49e0b8552e0c7bb", func := "hindsight/hindsightlaw16.ProcPlays", spec := "procPlays", apart := false }
def ProcPlaysSaid : Prop := procPlaysRow.holds Try.pinned (OpenSpec.ofChange procPlaysSpec)

/-- ITS FALSE NEIGHBOUR: 'it returns false'. Refute it at one input. -/
def procPlaysWrong : ChangeSpec := { name := "procPlays", fn := fun _ => fun
  | [d1, d2, d3] => { results := [.lit (.bool false)], args := [d1, d2, d3] }
  | _ => none }
def ProcPlaysWrongFalsely : Prop := procPlaysRow.holds Try.pinned (OpenSpec.ofChange procPlaysWrong)

/-- 'hindsightlaw16.ProcOnce': WHATEVER THE INPUT: true; the input reads as it did. -/
def procOnceSpec : ChangeSpec := { name := "procOnce", fn := fun _ => fun
  | [d1, d2, d3] => { results := [.lit (.bool true)], args := [d1, d2, d3] }
  | _ => none }
def procOnceRow : OpenClaim := { program := "ytkhihpmadmmeaaa", sum := "3649dfe898986853d363e19854619ca67ea16939b0c3cc8fb49e0b8552e0c7bb", func := "hindsight/hindsightlaw16.ProcOnce", spec := "procOnce", apart := false }
def ProcOnceSaid : Prop := procOnceRow.holds Try.pinned (OpenSpec.ofChange procOnceSpec)

/-- ITS FALSE NEIGHBOUR: 'it returns false'. Refute it at one input. -/
def procOnceWrong : ChangeSpec := { name := "procOnce", fn := fun _ => fun
  | [d1, d2, d3] => { results := [.lit (.bool false)], args := [d1, d2, d3] }
  | _ => none }
def ProcOnceWrongFalsely : Prop := procOnceRow.holds Try.pinned (OpenSpec.ofChange procOnceWrong)

/-- 'hindsightlaw16.ProcFree': WHATEVER THE INPUT: true; the input reads as it did. -/
def procFreeSpec : ChangeSpec := { name := "procFree", fn := fun _ => fun
  | [d1, d2, d3] => { results := [.lit (.bool true)], args := [d1, d2, d3] }
  | _ => none }
def procFreeRow : OpenClaim := { program := "ytkhihpmadmmeaaa", sum := "3649dfe898986853d363e19854619ca67ea16939b0c3cc8fb49e0b8552e0c7bb", func := "hindsight/hindsightlaw16.ProcFree", spec := "procFree", apart := false }
def ProcFreeSaid : Prop := procFreeRow.holds Try.pinned (OpenSpec.ofChange procFreeSpec)

/-- ITS FALSE NEIGHBOUR: 'it returns false'. Refute it at one input. -/
def procFreeWrong : ChangeSpec := { name := "procFree", fn := fun _ => fun
  | [d1, d2, d3] => { results := [.lit (.bool false)], args := [d1, d2, d3] }
  | _ => none }
def ProcFreeWrongFalsely : Prop := procFreeRow.holds Try.pinned (OpenSpec.ofChange procFreeWrong)

/- THE SECOND FORM. 'bulk': how many values and letters a reading holds, each counted each time it is reached (what is shared counts as often as it is met; a slice's spare places count too). A statement '..UptoSaid' is the law's where the arguments, and the package variables that the reading takes, are together of bulk at most 1048576: NARROWER than '..Said'. Prove '..Said' where nothing that the law and all that it calls make is longer than what came in: it says more and counts as full. Else prove '..UptoSaid'. A law counts once. -/
mutual
def uptoBulk {H : Type} : DataW H → Nat
  | .lit (.string bytes) => bytes.length + 1
  | .lit _ => 1
  | .nil => 1
  | .ptr d => uptoBulk d + 1
  | .slice elems spare => uptoBulkAll elems + uptoBulkAll spare + 1
  | .agg parts => uptoBulkAll parts + 1
  | .iface _ d => uptoBulk d + 1
  | .map entries => uptoBulkEntries entries + 1
  | .held _ => 1
def uptoBulkAll {H : Type} : List (DataW H) → Nat
  | [] => 0
  | d :: r => uptoBulk d + uptoBulkAll r
def uptoBulkEntries {H : Type} : List (Lit × DataW H) → Nat
  | [] => 0
  | x :: r => uptoBulkEntry x + uptoBulkEntries r
def uptoBulkEntry {H : Type} : Lit × DataW H → Nat
  | (.string bytes, d) => bytes.length + uptoBulk d + 1
  | (_, d) => uptoBulk d + 1
 end
def uptoSmall : (H : Type) → List (DataW H) → Bool := fun _ ds => decide (uptoBulkAll ds ≤ 1048576)
def OpenSpec.upto (s : _root_.Go.ChangeSpec) : _root_.Go.OpenSpec := { _root_.Go.OpenSpec.ofChange s with cond := some uptoSmall }

/-- 'hindsightlaw16.ProcPlaces', WHERE WHAT IT READS IS OF BULK AT MOST 1048576: true; the input reads as it did. -/
def procPlacesUptoRow : OpenClaim := { program := "ytkhihpmadmmeaaa", sum := "3649dfe898986853d363e19854619ca67ea16939b0c3cc8fb49e0b8552e0c7bb", func := "hindsight/hindsightlaw16.ProcPlaces", spec := "procPlaces", apart := false, narrowed := true }
def ProcPlacesUptoSaid : Prop := procPlacesUptoRow.holds Try.pinned (OpenSpec.upto procPlacesSpec)

/-- 'hindsightlaw16.ProcHelped', WHERE WHAT IT READS IS OF BULK AT MOST 1048576: true; the input reads as it did. -/
def procHelpedUptoRow : OpenClaim := { program := "ytkhihpmadmmeaaa", sum := "3649dfe898986853d363e19854619ca67ea16939b0c3cc8fb49e0b8552e0c7bb", func := "hindsight/hindsightlaw16.ProcHelped", spec := "procHelped", apart := false, narrowed := true }
def ProcHelpedUptoSaid : Prop := procHelpedUptoRow.holds Try.pinned (OpenSpec.upto procHelpedSpec)

/-- 'hindsightlaw16.ProcBusy', WHERE WHAT IT READS IS OF BULK AT MOST 1048576: true; the input reads as it did. -/
def procBusyUptoRow : OpenClaim := { program := "ytkhihpmadmmeaaa", sum := "3649dfe898986853d363e19854619ca67ea16939b0c3cc8fb49e0b8552e0c7bb", func := "hindsight/hindsightlaw16.ProcBusy", spec := "procBusy", apart := false, narrowed := true }
def ProcBusyUptoSaid : Prop := procBusyUptoRow.holds Try.pinned (OpenSpec.upto procBusySpec)

/-- 'hindsightlaw16.ProcPlays', WHERE WHAT IT READS IS OF BULK AT MOST 1048576: true; the input reads as it did. -/
def procPlaysUptoRow : OpenClaim := { program := "ytkhihpmadmmeaaa", sum := "3649dfe898986853d363e19854619ca67ea16939b0c3cc8fb49e0b8552e0c7bb", func := "hindsight/hindsightlaw16.ProcPlays", spec := "procPlays", apart := false, narrowed := true }
def ProcPlaysUptoSaid : Prop := procPlaysUptoRow.holds Try.pinned (OpenSpec.upto procPlaysSpec)

/-- 'hindsightlaw16.ProcOnce', WHERE WHAT IT READS IS OF BULK AT MOST 1048576: true; the input reads as it did. -/
def procOnceUptoRow : OpenClaim := { program := "ytkhihpmadmmeaaa", sum := "3649dfe898986853d363e19854619ca67ea16939b0c3cc8fb49e0b8552e0c7bb", func := "hindsight/hindsightlaw16.ProcOnce", spec := "procOnce", apart := false, narrowed := true }
def ProcOnceUptoSaid : Prop := procOnceUptoRow.holds Try.pinned (OpenSpec.upto procOnceSpec)

/-- 'hindsightlaw16.ProcFree', WHERE WHAT IT READS IS OF BULK AT MOST 1048576: true; the input reads as it did. -/
def procFreeUptoRow : OpenClaim := { program := "ytkhihpmadmmeaaa", sum := "3649dfe898986853d363e19854619ca67ea16939b0c3cc8fb49e0b8552e0c7bb", func := "hindsight/hindsightlaw16.ProcFree", spec := "procFree", apart := false, narrowed := true }
def ProcFreeUptoSaid : Prop := procFreeUptoRow.holds Try.pinned (OpenSpec.upto procFreeSpec)

end Rows
end Go.Proofs.Ytkhihpmadmmeaaa
