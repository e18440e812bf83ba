/-
  No cell of these rows narrows 'for every input' (looked for: loops, veiled, ifaces, maps, wideKeys, modest, calm, conditions, laid).
  DERIVED. THE GIVEN ROWS OF THIS SEAT. 2 by the template 'for every input the law returns true; each argument reads behind the call as it read before'; 0 by the template 'total and deterministic' (their statements: YtjicjadibaomkaaTotals.lean).
  GIVEN WITH THE SEED: the statements are not yours to turn. If you find one false, say at which input.
  Laid BY PROGRAM, IN A SANDBOX (cutbox-rows.mjs): the forced cells as the released guide's own fill.sh prints them over the translation cb394717219a09d5… (all of the seat's roots in one cut). By AI agents, Wed Nov 11 2026. No macro, syntax, notation, axiom, sorry.
-/
import Derived.Test.YtjicjadibaomkaaChecked
import GoSem.Claim
import GoSem.ClaimJoined
import GoSem.ClaimMapViews
import Derived.JoinedTies
import Derived.KernelRfl
namespace Go.Proofs.Ytjicjadibaomkaa
/- THE CELL 'sum', in the pinned program and in every row, IS THE sha256 OF THE DUMP (.gsa) THAT YtjicjadibaomkaaProg.lean LOADS. Nothing in Lean hashes anything: it is a label: what it is worth is what the hold of that sum in a sandbox is worth. -/
noncomputable def Try.pinned : Pinned := { name := "ytjicjadibaomkaa", sum := "cb394717219a09d51b9fd8dc772477dd3c5fd8a57ecc8fcd011b081c02e29f8c", checked := Try.checked }
namespace Rows
def none {H : Type} : Left H := { results := [], args := [] }

/-- 'hindsightlaw11.ClashWhole': WHATEVER THE INPUT: true; the input reads as it did. -/
def clashWholeSpec : ChangeSpec := { name := "clashWhole", fn := fun _ => fun
  | [d1, d2, d3, d4] => { results := [.lit (.bool true)], args := [d1, d2, d3, d4] }
  | _ => none }
def clashWholeRow : OpenClaim := { program := "ytjicjadibaomkaa", sum := "cb394717219a09d51b9fd8dc772477dd3c5fd8a57ecc8fcd011b081c02e29f8c", func := "hindsight/hindsightlaw11.ClashWhole", spec := "clashWhole", inPlace := ["internal/abi.NoEscape", "internal/bytealg.MakeNoZero"], recurses := true, plainKeys := false, apart := false }
def ClashWholeSaid : Prop := clashWholeRow.holds Try.pinned (OpenSpec.ofChange clashWholeSpec)

/-- ITS FALSE NEIGHBOUR: 'it returns false'. Refute it at one input. -/
def clashWholeWrong : ChangeSpec := { name := "clashWhole", fn := fun _ => fun
  | [d1, d2, d3, d4] => { results := [.lit (.bool false)], args := [d1, d2, d3, d4] }
  | _ => none }
def ClashWholeWrongFalsely : Prop := clashWholeRow.holds Try.pinned (OpenSpec.ofChange clashWholeWrong)

/-- 'hindsightlaw11.ClashSure': WHATEVER THE INPUT: true; the input reads as it did. -/
def clashSureSpec : ChangeSpec := { name := "clashSure", fn := fun _ => fun
  | [d1, d2, d3, d4, d5, d6, d7, d8] => { results := [.lit (.bool true)], args := [d1, d2, d3, d4, d5, d6, d7, d8] }
  | _ => none }
def clashSureRow : OpenClaim := { program := "ytjicjadibaomkaa", sum := "cb394717219a09d51b9fd8dc772477dd3c5fd8a57ecc8fcd011b081c02e29f8c", func := "hindsight/hindsightlaw11.ClashSure", spec := "clashSure", inPlace := ["internal/abi.NoEscape", "internal/bytealg.MakeNoZero"], recurses := true, plainKeys := false, apart := false }
def ClashSureSaid : Prop := clashSureRow.holds Try.pinned (OpenSpec.ofChange clashSureSpec)

/-- ITS FALSE NEIGHBOUR: 'it returns false'. Refute it at one input. -/
def clashSureWrong : ChangeSpec := { name := "clashSure", fn := fun _ => fun
  | [d1, d2, d3, d4, d5, d6, d7, d8] => { results := [.lit (.bool false)], args := [d1, d2, d3, d4, d5, d6, d7, d8] }
  | _ => none }
def ClashSureWrongFalsely : Prop := clashSureRow.holds Try.pinned (OpenSpec.ofChange clashSureWrong)

/- THE SECOND FORM. 'bulk': how many values and letters a reading holds, each counted each time it is reached (what is shared counts as often as it is met; a slice's spare places count too). A statement '..UptoSaid' is the law's where the arguments, and the package variables that the reading takes, are together of bulk at most 1048576: NARROWER than '..Said'. Prove '..Said' where nothing that the law and all that it calls make is longer than what came in: it says more and counts as full. Else prove '..UptoSaid'. A law counts once. -/
mutual
def uptoBulk {H : Type} : DataW H → Nat
  | .lit (.string bytes) => bytes.length + 1
  | .lit _ => 1
  | .nil => 1
  | .ptr d => uptoBulk d + 1
  | .slice elems spare => uptoBulkAll elems + uptoBulkAll spare + 1
  | .agg parts => uptoBulkAll parts + 1
  | .iface _ d => uptoBulk d + 1
  | .map entries => uptoBulkEntries entries + 1
  | .held _ => 1
def uptoBulkAll {H : Type} : List (DataW H) → Nat
  | [] => 0
  | d :: r => uptoBulk d + uptoBulkAll r
def uptoBulkEntries {H : Type} : List (Lit × DataW H) → Nat
  | [] => 0
  | x :: r => uptoBulkEntry x + uptoBulkEntries r
def uptoBulkEntry {H : Type} : Lit × DataW H → Nat
  | (.string bytes, d) => bytes.length + uptoBulk d + 1
  | (_, d) => uptoBulk d + 1
 end
def uptoSmall : (H : Type) → List (DataW H) → Bool := fun _ ds => decide (uptoBulkAll ds ≤ 1048576)
def OpenSpec.upto (s : _root_.Go.ChangeSpec) : _root_.Go.OpenSpec := { _root_.Go.OpenSpec.ofChange s with cond := some uptoSmall }

/-- 'hindsightlaw11.ClashWhole', WHERE WHAT IT READS IS OF BULK AT MOST 1048576: true; the input reads as it did. -/
def clashWholeUptoRow : OpenClaim := { program := "ytjicjadibaomkaa", sum := "cb394717219a09d51b9fd8dc772477dd3c5fd8a57ecc8fcd011b081c02e29f8c", func := "hindsight/hindsightlaw11.ClashWhole", spec := "clashWhole", inPlace := ["internal/abi.NoEscape", "internal/bytealg.MakeNoZero"], recurses := true, plainKeys := false, apart := false, narrowed := true }
def ClashWholeUptoSaid : Prop := clashWholeUptoRow.holds Try.pinned (OpenSpec.upto clashWholeSpec)

/-- 'hindsightlaw11.ClashSure', WHERE WHAT IT READS IS OF BULK AT MOST 1048576: true; the input reads as it did. -/
def clashSureUptoRow : OpenClaim := { program := "ytjicjadibaomkaa", sum := "cb394717219a09d51b9fd8dc772477dd3c5fd8a57ecc8fcd011b081c02e29f8c", func := "hindsight/hindsightlaw11.ClashSure", spec := "clashSure", inPlace := ["internal/abi.NoEscape", "internal/bytealg.MakeNoZero"], recurses := true, plainKeys := false, apart := false, narrowed := true }
def ClashSureUptoSaid : Prop := clashSureUptoRow.holds Try.pinned (OpenSpec.upto clashSureSpec)

end Rows
end Go.Proofs.Ytjicjadibaomkaa
