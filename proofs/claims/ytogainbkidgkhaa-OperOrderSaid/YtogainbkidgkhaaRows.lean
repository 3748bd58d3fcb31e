/-
  No cell of these rows narrows 'for every input' (looked for: loops, veiled, ifaces, maps, wideKeys, modest, calm, conditions, laid).
  DERIVED. THE GIVEN ROWS OF THIS SEAT. 5 by the template 'for every input the law returns true; each argument reads behind the call as it read before'; 0 by the template 'total and deterministic' (their statements: YtogainbkidgkhaaTotals.lean).
  GIVEN WITH THE SEED: the statements are not yours to turn. If you find one false, say at which input.
  Laid BY PROGRAM, IN A SANDBOX (cutbox-rows.mjs): the forced cells as the released guide's own fill.sh prints them over the translation 40ca210ae94df6fd… (all of the seat's roots in one cut). By AI agents, Wed Nov 11 2026. No macro, syntax, notation, axiom, sorry.
-/
import Derived.Test.YtogainbkidgkhaaChecked
import GoSem.Claim
import GoSem.ClaimJoined
import GoSem.ClaimMapViews
import Derived.JoinedTies
import Derived.KernelRfl
namespace Go.Proofs.Ytogainbkidgkhaa
/- THE CELL 'sum', in the pinned program and in every row, IS THE sha256 OF THE DUMP (.gsa) THAT YtogainbkidgkhaaProg.lean LOADS. Nothing in Lean hashes anything: it is a label: what it is worth is what the hold of that sum in a sandbox is worth. -/
noncomputable def Try.pinned : Pinned := { name := "ytogainbkidgkhaa", sum := "40ca210ae94df6fda992ae7adfd66703f45780bbdf74d70a8636e340943bc69b", checked := Try.checked }
namespace Rows
def none {H : Type} : Left H := { results := [], args := [] }

/-- 'watershedlaw12.OperOnes': WHATEVER THE INPUT: true; the input reads as it did. -/
def operOnesSpec : ChangeSpec := { name := "operOnes", fn := fun _ => fun
  | [d1, d2, d3] => { results := [.lit (.bool true)], args := [d1, d2, d3] }
  | _ => none }
def operOnesRow : OpenClaim := { program := "ytogainbkidgkhaa", sum := "40ca210ae94df6fda992ae7adfd66703f45780bbdf74d70a8636e340943bc69b", func := "watershed/watershedlaw12.OperOnes", spec := "operOnes", apart := false }
def OperOnesSaid : Prop := operOnesRow.holds Try.pinned (OpenSpec.ofChange operOnesSpec)

/-- ITS FALSE NEIGHBOUR: 'it returns false'. Refute it at one input. -/
def operOnesWrong : ChangeSpec := { name := "operOnes", fn := fun _ => fun
  | [d1, d2, d3] => { results := [.lit (.bool false)], args := [d1, d2, d3] }
  | _ => none }
def OperOnesWrongFalsely : Prop := operOnesRow.holds Try.pinned (OpenSpec.ofChange operOnesWrong)

/-- 'watershedlaw12.OperFolds': WHATEVER THE INPUT: true; the input reads as it did. -/
def operFoldsSpec : ChangeSpec := { name := "operFolds", fn := fun _ => fun
  | [d1, d2] => { results := [.lit (.bool true)], args := [d1, d2] }
  | _ => none }
def operFoldsRow : OpenClaim := { program := "ytogainbkidgkhaa", sum := "40ca210ae94df6fda992ae7adfd66703f45780bbdf74d70a8636e340943bc69b", func := "watershed/watershedlaw12.OperFolds", spec := "operFolds", recurses := true, apart := false }
def OperFoldsSaid : Prop := operFoldsRow.holds Try.pinned (OpenSpec.ofChange operFoldsSpec)

/-- ITS FALSE NEIGHBOUR: 'it returns false'. Refute it at one input. -/
def operFoldsWrong : ChangeSpec := { name := "operFolds", fn := fun _ => fun
  | [d1, d2] => { results := [.lit (.bool false)], args := [d1, d2] }
  | _ => none }
def OperFoldsWrongFalsely : Prop := operFoldsRow.holds Try.pinned (OpenSpec.ofChange operFoldsWrong)

/-- 'watershedlaw12.OperBounds': WHATEVER THE INPUT: true; the input reads as it did. -/
def operBoundsSpec : ChangeSpec := { name := "operBounds", fn := fun _ => fun
  | [d] => { results := [.lit (.bool true)], args := [d] }
  | _ => none }
def operBoundsRow : OpenClaim := { program := "ytogainbkidgkhaa", sum := "40ca210ae94df6fda992ae7adfd66703f45780bbdf74d70a8636e340943bc69b", func := "watershed/watershedlaw12.OperBounds", spec := "operBounds", inPlace := ["internal/abi.NoEscape", "internal/bytealg.MakeNoZero"], recurses := true, apart := false }
def OperBoundsSaid : Prop := operBoundsRow.holds Try.pinned (OpenSpec.ofChange operBoundsSpec)

/-- ITS FALSE NEIGHBOUR: 'it returns false'. Refute it at one input. -/
def operBoundsWrong : ChangeSpec := { name := "operBounds", fn := fun _ => fun
  | [d] => { results := [.lit (.bool false)], args := [d] }
  | _ => none }
def OperBoundsWrongFalsely : Prop := operBoundsRow.holds Try.pinned (OpenSpec.ofChange operBoundsWrong)

/-- 'watershedlaw12.OperParts': WHATEVER THE INPUT: true; the input reads as it did. -/
def operPartsSpec : ChangeSpec := { name := "operParts", fn := fun _ => fun
  | [d1, d2, d3] => { results := [.lit (.bool true)], args := [d1, d2, d3] }
  | _ => none }
def operPartsRow : OpenClaim := { program := "ytogainbkidgkhaa", sum := "40ca210ae94df6fda992ae7adfd66703f45780bbdf74d70a8636e340943bc69b", func := "watershed/watershedlaw12.OperParts", spec := "operParts", inPlace := ["internal/abi.NoEscape", "internal/bytealg.MakeNoZero"], recurses := true, apart := false }
def OperPartsSaid : Prop := operPartsRow.holds Try.pinned (OpenSpec.ofChange operPartsSpec)

/-- ITS FALSE NEIGHBOUR: 'it returns false'. Refute it at one input. -/
def operPartsWrong : ChangeSpec := { name := "operParts", fn := fun _ => fun
  | [d1, d2, d3] => { results := [.lit (.bool false)], args := [d1, d2, d3] }
  | _ => none }
def OperPartsWrongFalsely : Prop := operPartsRow.holds Try.pinned (OpenSpec.ofChange operPartsWrong)

/-- 'watershedlaw12.OperOrder': WHATEVER THE INPUT: true; the input reads as it did. -/
def operOrderSpec : ChangeSpec := { name := "operOrder", fn := fun _ => fun
  | [d1, d2, d3] => { results := [.lit (.bool true)], args := [d1, d2, d3] }
  | _ => none }
def operOrderRow : OpenClaim := { program := "ytogainbkidgkhaa", sum := "40ca210ae94df6fda992ae7adfd66703f45780bbdf74d70a8636e340943bc69b", func := "watershed/watershedlaw12.OperOrder", spec := "operOrder", inPlace := ["internal/abi.NoEscape", "internal/bytealg.MakeNoZero"], unfollowed := true, recurses := true, apart := false }
def OperOrderSaid : Prop := operOrderRow.holds Try.pinned (OpenSpec.ofChange operOrderSpec)

/-- ITS FALSE NEIGHBOUR: 'it returns false'. Refute it at one input. -/
def operOrderWrong : ChangeSpec := { name := "operOrder", fn := fun _ => fun
  | [d1, d2, d3] => { results := [.lit (.bool false)], args := [d1, d2, d3] }
  | _ => none }
def OperOrderWrongFalsely : Prop := operOrderRow.holds Try.pinned (OpenSpec.ofChange operOrderWrong)

/- THE SECOND FORM. 'bulk': how many values and letters a reading holds, each counted each time it is reached (what is shared counts as often as it is met; a slice's spare places count too). A statement '..UptoSaid' is the law's where the arguments, and the package variables that the reading takes, are together of bulk at most 1048576: NARROWER than '..Said'. Prove '..Said' where nothing that the law and all that it calls make is longer than what came in: it says more and counts as full. Else prove '..UptoSaid'. A law counts once. -/
mutual
def uptoBulk {H : Type} : DataW H → Nat
  | .lit (.string bytes) => bytes.length + 1
  | .lit _ => 1
  | .nil => 1
  | .ptr d => uptoBulk d + 1
  | .slice elems spare => uptoBulkAll elems + uptoBulkAll spare + 1
  | .agg parts => uptoBulkAll parts + 1
  | .iface _ d => uptoBulk d + 1
  | .map entries => uptoBulkEntries entries + 1
  | .held _ => 1
def uptoBulkAll {H : Type} : List (DataW H) → Nat
  | [] => 0
  | d :: r => uptoBulk d + uptoBulkAll r
def uptoBulkEntries {H : Type} : List (Lit × DataW H) → Nat
  | [] => 0
  | x :: r => uptoBulkEntry x + uptoBulkEntries r
def uptoBulkEntry {H : Type} : Lit × DataW H → Nat
  | (.string bytes, d) => bytes.length + uptoBulk d + 1
  | (_, d) => uptoBulk d + 1
 end
def uptoSmall : (H : Type) → List (DataW H) → Bool := fun _ ds => decide (uptoBulkAll ds ≤ 1048576)
def OpenSpec.upto (s : _root_.Go.ChangeSpec) : _root_.Go.OpenSpec := { _root_.Go.OpenSpec.ofChange s with cond := some uptoSmall }

/-- 'watershedlaw12.OperOnes', WHERE WHAT IT READS IS OF BULK AT MOST 1048576: true; the input reads as it did. -/
def operOnesUptoRow : OpenClaim := { program := "ytogainbkidgkhaa", sum := "40ca210ae94df6fda992ae7adfd66703f45780bbdf74d70a8636e340943bc69b", func := "watershed/watershedlaw12.OperOnes", spec := "operOnes", apart := false, narrowed := true }
def OperOnesUptoSaid : Prop := operOnesUptoRow.holds Try.pinned (OpenSpec.upto operOnesSpec)

/-- 'watershedlaw12.OperFolds', WHERE WHAT IT READS IS OF BULK AT MOST 1048576: true; the input reads as it did. -/
def operFoldsUptoRow : OpenClaim := { program := "ytogainbkidgkhaa", sum := "40ca210ae94df6fda992ae7adfd66703f45780bbdf74d70a8636e340943bc69b", func := "watershed/watershedlaw12.OperFolds", spec := "operFolds", recurses := true, apart := false, narrowed := true }
def OperFoldsUptoSaid : Prop := operFoldsUptoRow.holds Try.pinned (OpenSpec.upto operFoldsSpec)

/-- 'watershedlaw12.OperBounds', WHERE WHAT IT READS IS OF BULK AT MOST 1048576: true; the input reads as it did. -/
def operBoundsUptoRow : OpenClaim := { program := "ytogainbkidgkhaa", sum := "40ca210ae94df6fda992ae7adfd66703f45780bbdf74d70a8636e340943bc69b", func := "watershed/watershedlaw12.OperBounds", spec := "operBounds", inPlace := ["internal/abi.NoEscape", "internal/bytealg.MakeNoZero"], recurses := true, apart := false, narrowed := true }
def OperBoundsUptoSaid : Prop := operBoundsUptoRow.holds Try.pinned (OpenSpec.upto operBoundsSpec)

/-- 'watershedlaw12.OperParts', WHERE WHAT IT READS IS OF BULK AT MOST 1048576: true; the input reads as it did. -/
def operPartsUptoRow : OpenClaim := { program := "ytogainbkidgkhaa", sum := "40ca210ae94df6fda992ae7adfd66703f45780bbdf74d70a8636e340943bc69b", func := "watershed/watershedlaw12.OperParts", spec := "operParts", inPlace := ["internal/abi.NoEscape", "internal/bytealg.MakeNoZero"], recurses := true, apart := false, narrowed := true }
def OperPartsUptoSaid : Prop := operPartsUptoRow.holds Try.pinned (OpenSpec.upto operPartsSpec)

/-- 'watershedlaw12.OperOrder', WHERE WHAT IT READS IS OF BULK AT MOST 1048576: true; the input reads as it did. -/
def operOrderUptoRow : OpenClaim := { program := "ytogainbkidgkhaa", sum := "40ca210ae94df6fda992ae7adfd66703f45780bbdf74d70a8636e340943bc69b", func := "watershed/watershedlaw12.OperOrder", spec := "operOrder", inPlace := ["internal/abi.NoEscape", "internal/bytealg.MakeNoZero"], unfollowed := true, recurses := true, apart := false, narrowed := true }
def OperOrderUptoSaid : Prop := operOrderUptoRow.holds Try.pinned (OpenSpec.upto operOrderSpec)

end Rows
end Go.Proofs.Ytogainbkidgkhaa
