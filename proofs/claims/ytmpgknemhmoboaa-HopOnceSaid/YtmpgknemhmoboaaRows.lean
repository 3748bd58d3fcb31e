/-
  No cell of these rows narrows 'for every input' (looked for: loops, veiled, ifaces, maps, wideKeys, modest, calm, conditions, laid).
  DERIVED. THE GIVEN ROWS OF THIS SEAT. 7 by the template 'for every input the law returns true; each argument reads behind the call as it read before'; 0 by the template 'total and deterministic' (their statements: YtmpgknemhmoboaaTotals.lean).
  GIVEN WITH THE SEED: the statements are not yours to turn. If you find one false, say at which input.
  Laid BY PROGRAM, IN A SANDBOX (cutbox-rows.mjs): the forced cells as the released guide's own fill.sh prints them over the translation 8a6f72f2bd0029b1… (all of the seat's roots in one cut). By AI agents, Wed Nov 11 2026. No macro, syntax, notation, axiom, sorry.
-/
import Derived.Test.YtmpgknemhmoboaaChecked
import GoSem.Claim
import GoSem.ClaimJoined
import GoSem.ClaimMapViews
import Derived.JoinedTies
import Derived.KernelRfl
namespace Go.Proofs.Ytmpgknemhmoboaa
/- THE CELL 'sum', in the pinned program and in every row, IS THE sha256 OF THE DUMP (.gsa) THAT YtmpgknemhmoboaaProg.lean LOADS. Nothing in Lean hashes anything: it is a label: what it is worth is what the hold of that sum in a sandbox is worth. -/
noncomputable def Try.pinned : Pinned := { name := "ytmpgknemhmoboaa", sum := "8a6f72f2bd0029b1827ec7ff46594525a0e478caa99cb80ba79ffd833ca3093f", checked := Try.checked }
namespace Rows
def none {H : Type} : Left H := { results := [], args := [] }

/-- 'watershedlaw17.HopTakes': WHATEVER THE INPUT: true; the input reads as it did. -/
def hopTakesSpec : ChangeSpec := { name := "hopTakes", fn := fun _ => fun
  | [d1, d2, d3] => { results := [.lit (.bool true)], args := [d1, d2, d3] }
  | _ => none }
def hopTakesRow : OpenClaim := { program := "ytmpgknemhmoboaa", sum := "8a6f72f2bd0029b1827ec7ff46594525a0e478caa99cb80ba79ffd833ca3093f", func := "watershed/watershedlaw17.HopTakes", spec := "hopTakes", apart := false }
def HopTakesSaid : Prop := hopTakesRow.holds Try.pinned (OpenSpec.ofChange hopTakesSpec)

/-- ITS FALSE NEIGHBOUR: 'it returns false'. Refute it at one input. -/
def hopTakesWrong : ChangeSpec := { name := "hopTakes", fn := fun _ => fun
  | [d1, d2, d3] => { results := [.lit (.bool false)], args := [d1, d2, d3] }
  | _ => none }
def HopTakesWrongFalsely : Prop := hopTakesRow.holds Try.pinned (OpenSpec.ofChange hopTakesWrong)

/-- 'watershedlaw08.WordsOptions': WHATEVER THE INPUT: true; the input reads as it did. -/
def wordsOptionsSpec : ChangeSpec := { name := "wordsOptions", fn := fun _ => fun
  | [d1, d2] => { results := [.lit (.bool true)], args := [d1, d2] }
  | _ => none }
def wordsOptionsRow : OpenClaim := { program := "ytmpgknemhmoboaa", sum := "8a6f72f2bd0029b1827ec7ff46594525a0e478caa99cb80ba79ffd833ca3093f", func := "watershed/watershedlaw08.WordsOptions", spec := "wordsOptions", apart := false }
def WordsOptionsSaid : Prop := wordsOptionsRow.holds Try.pinned (OpenSpec.ofChange wordsOptionsSpec)

/-- ITS FALSE NEIGHBOUR: 'it returns false'. Refute it at one input. -/
def wordsOptionsWrong : ChangeSpec := { name := "wordsOptions", fn := fun _ => fun
  | [d1, d2] => { results := [.lit (.bool false)], args := [d1, d2] }
  | _ => none }
def WordsOptionsWrongFalsely : Prop := wordsOptionsRow.holds Try.pinned (OpenSpec.ofChange wordsOptionsWrong)

/-- 'watershedlaw17.HopSends': WHATEVER THE INPUT: true; the input reads as it did. -/
def hopSendsSpec : ChangeSpec := { name := "hopSends", fn := fun _ => fun
  | [d1, d2, d3, d4, d5] => { results := [.lit (.bool true)], args := [d1, d2, d3, d4, d5] }
  | _ => none }
def hopSendsRow : OpenClaim := { program := "ytmpgknemhmoboaa", sum := "8a6f72f2bd0029b1827ec7ff46594525a0e478caa99cb80ba79ffd833ca3093f", func := "watershed/watershedlaw17.HopSends", spec := "hopSends", apart := false }
def HopSendsSaid : Prop := hopSendsRow.holds Try.pinned (OpenSpec.ofChange hopSendsSpec)

/-- ITS FALSE NEIGHBOUR: 'it returns false'. Refute it at one input. -/
def hopSendsWrong : ChangeSpec := { name := "hopSends", fn := fun _ => fun
  | [d1, d2, d3, d4, d5] => { results := [.lit (.bool false)], args := [d1, d2, d3, d4, d5] }
  | _ => none }
def HopSendsWrongFalsely : Prop := hopSendsRow.holds Try.pinned (OpenSpec.ofChange hopSendsWrong)

/-- 'watershedlaw08.WordsNumbers': WHATEVER THE INPUT: true; the input reads as it did. -/
def wordsNumbersSpec : ChangeSpec := { name := "wordsNumbers", fn := fun _ => fun
  | [d1, d2, d3, d4] => { results := [.lit (.bool true)], args := [d1, d2, d3, d4] }
  | _ => none }
def wordsNumbersRow : OpenClaim := { program := "ytmpgknemhmoboaa", sum := "8a6f72f2bd0029b1827ec7ff46594525a0e478caa99cb80ba79ffd833ca3093f", func := "watershed/watershedlaw08.WordsNumbers", spec := "wordsNumbers", apart := false }
def WordsNumbersSaid : Prop := wordsNumbersRow.holds Try.pinned (OpenSpec.ofChange wordsNumbersSpec)

/-- ITS FALSE NEIGHBOUR: 'it returns false'. Refute it at one input. -/
def wordsNumbersWrong : ChangeSpec := { name := "wordsNumbers", fn := fun _ => fun
  | [d1, d2, d3, d4] => { results := [.lit (.bool false)], args := [d1, d2, d3, d4] }
  | _ => none }
def WordsNumbersWrongFalsely : Prop := wordsNumbersRow.holds Try.pinned (OpenSpec.ofChange wordsNumbersWrong)

/-- 'watershedlaw17.HopFrames': WHATEVER THE INPUT: true; the input reads as it did. -/
def hopFramesSpec : ChangeSpec := { name := "hopFrames", fn := fun _ => fun
  | [d1, d2] => { results := [.lit (.bool true)], args := [d1, d2] }
  | _ => none }
def hopFramesRow : OpenClaim := { program := "ytmpgknemhmoboaa", sum := "8a6f72f2bd0029b1827ec7ff46594525a0e478caa99cb80ba79ffd833ca3093f", func := "watershed/watershedlaw17.HopFrames", spec := "hopFrames", apart := false }
def HopFramesSaid : Prop := hopFramesRow.holds Try.pinned (OpenSpec.ofChange hopFramesSpec)

/-- ITS FALSE NEIGHBOUR: 'it returns false'. Refute it at one input. -/
def hopFramesWrong : ChangeSpec := { name := "hopFrames", fn := fun _ => fun
  | [d1, d2] => { results := [.lit (.bool false)], args := [d1, d2] }
  | _ => none }
def HopFramesWrongFalsely : Prop := hopFramesRow.holds Try.pinned (OpenSpec.ofChange hopFramesWrong)

/-- 'watershedlaw17.HopOnce': WHATEVER THE INPUT: true; the input reads as it did. -/
def hopOnceSpec : ChangeSpec := { name := "hopOnce", fn := fun _ => fun
  | [d1, d2, d3] => { results := [.lit (.bool true)], args := [d1, d2, d3] }
  | _ => none }
def hopOnceRow : OpenClaim := { program := "ytmpgknemhmoboaa", sum := "8a6f72f2bd0029b1827ec7ff46594525a0e478caa99cb80ba79ffd833ca3093f", func := "watershed/watershedlaw17.HopOnce", spec := "hopOnce", apart := false }
def HopOnceSaid : Prop := hopOnceRow.holds Try.pinned (OpenSpec.ofChange hopOnceSpec)

/-- ITS FALSE NEIGHBOUR: 'it returns false'. Refute it at one input. -/
def hopOnceWrong : ChangeSpec := { name := "hopOnce", fn := fun _ => fun
  | [d1, d2, d3] => { results := [.lit (.bool false)], args := [d1, d2, d3] }
  | _ => none }
def HopOnceWrongFalsely : Prop := hopOnceRow.holds Try.pinned (OpenSpec.ofChange hopOnceWrong)

/-- 'watershedlaw17.HopStale': WHATEVER THE INPUT: true; the input reads as it did. -/
def hopStaleSpec : ChangeSpec := { name := "hopStale", fn := fun _ => fun
  | [d1, d2, d3, d4] => { results := [.lit (.bool true)], args := [d1, d2, d3, d4] }
  | _ => none }
def hopStaleRow : OpenClaim := { program := "ytmpgknemhmoboaa", sum := "8a6f72f2bd0029b1827ec7ff46594525a0e478caa99cb80ba79ffd833ca3093f", func := "watershed/watershedlaw17.HopStale", spec := "hopStale", apart := false }
def HopStaleSaid : Prop := hopStaleRow.holds Try.pinned (OpenSpec.ofChange hopStaleSpec)

/-- ITS FALSE NEIGHBOUR: 'it returns false'. Refute it at one input. -/
def hopStaleWrong : ChangeSpec := { name := "hopStale", fn := fun _ => fun
  | [d1, d2, d3, d4] => { results := [.lit (.bool false)], args := [d1, d2, d3, d4] }
  | _ => none }
def HopStaleWrongFalsely : Prop := hopStaleRow.holds Try.pinned (OpenSpec.ofChange hopStaleWrong)

/- THE SECOND FORM. 'bulk': how many values and letters a reading holds, each counted each time it is reached (what is shared counts as often as it is met; a slice's spare places count too). A statement '..UptoSaid' is the law's where the arguments, and the package variables that the reading takes, are together of bulk at most 1048576: NARROWER than '..Said'. Prove '..Said' where nothing that the law and all that it calls make is longer than what came in: it says more and counts as full. Else prove '..UptoSaid'. A law counts once. -/
mutual
def uptoBulk {H : Type} : DataW H → Nat
  | .lit (.string bytes) => bytes.length + 1
  | .lit _ => 1
  | .nil => 1
  | .ptr d => uptoBulk d + 1
  | .slice elems spare => uptoBulkAll elems + uptoBulkAll spare + 1
  | .agg parts => uptoBulkAll parts + 1
  | .iface _ d => uptoBulk d + 1
  | .map entries => uptoBulkEntries entries + 1
  | .held _ => 1
def uptoBulkAll {H : Type} : List (DataW H) → Nat
  | [] => 0
  | d :: r => uptoBulk d + uptoBulkAll r
def uptoBulkEntries {H : Type} : List (Lit × DataW H) → Nat
  | [] => 0
  | x :: r => uptoBulkEntry x + uptoBulkEntries r
def uptoBulkEntry {H : Type} : Lit × DataW H → Nat
  | (.string bytes, d) => bytes.length + uptoBulk d + 1
  | (_, d) => uptoBulk d + 1
 end
def uptoSmall : (H : Type) → List (DataW H) → Bool := fun _ ds => decide (uptoBulkAll ds ≤ 1048576)
def OpenSpec.upto (s : _root_.Go.ChangeSpec) : _root_.Go.OpenSpec := { _root_.Go.OpenSpec.ofChange s with cond := some uptoSmall }

/-- 'watershedlaw17.HopTakes', WHERE WHAT IT READS IS OF BULK AT MOST 1048576: true; the input reads as it did. -/
def hopTakesUptoRow : OpenClaim := { program := "ytmpgknemhmoboaa", sum := "8a6f72f2bd0029b1827ec7ff46594525a0e478caa99cb80ba79ffd833ca3093f", func := "watershed/watershedlaw17.HopTakes", spec := "hopTakes", apart := false, narrowed := true }
def HopTakesUptoSaid : Prop := hopTakesUptoRow.holds Try.pinned (OpenSpec.upto hopTakesSpec)

/-- 'watershedlaw08.WordsOptions', WHERE WHAT IT READS IS OF BULK AT MOST 1048576: true; the input reads as it did. -/
def wordsOptionsUptoRow : OpenClaim := { program := "ytmpgknemhmoboaa", sum := "8a6f72f2bd0029b1827ec7ff46594525a0e478caa99cb80ba79ffd833ca3093f", func := "watershed/watershedlaw08.WordsOptions", spec := "wordsOptions", apart := false, narrowed := true }
def WordsOptionsUptoSaid : Prop := wordsOptionsUptoRow.holds Try.pinned (OpenSpec.upto wordsOptionsSpec)

/-- 'watershedlaw17.HopSends', WHERE WHAT IT READS IS OF BULK AT MOST 1048576: true; the input reads as it did. -/
def hopSendsUptoRow : OpenClaim := { program := "ytmpgknemhmoboaa", sum := "8a6f72f2bd0029b1827ec7ff46594525a0e478caa99cb80ba79ffd833ca3093f", func := "watershed/watershedlaw17.HopSends", spec := "hopSends", apart := false, narrowed := true }
def HopSendsUptoSaid : Prop := hopSendsUptoRow.holds Try.pinned (OpenSpec.upto hopSendsSpec)

/-- 'watershedlaw08.WordsNumbers', WHERE WHAT IT READS IS OF BULK AT MOST 1048576: true; the input reads as it did. -/
def wordsNumbersUptoRow : OpenClaim := { program := "ytmpgknemhmoboaa", sum := "8a6f72f2bd0029b1827ec7ff46594525a0e478caa99cb80ba79ffd833ca3093f", func := "watershed/watershedlaw08.WordsNumbers", spec := "wordsNumbers", apart := false, narrowed := true }
def WordsNumbersUptoSaid : Prop := wordsNumbersUptoRow.holds Try.pinned (OpenSpec.upto wordsNumbersSpec)

/-- 'watershedlaw17.HopFrames', WHERE WHAT IT READS IS OF BULK AT MOST 1048576: true; the input reads as it did. -/
def hopFramesUptoRow : OpenClaim := { program := "ytmpgknemhmoboaa", sum := "8a6f72f2bd0029b1827ec7ff46594525a0e478caa99cb80ba79ffd833ca3093f", func := "watershed/watershedlaw17.HopFrames", spec := "hopFrames", apart := false, narrowed := true }
def HopFramesUptoSaid : Prop := hopFramesUptoRow.holds Try.pinned (OpenSpec.upto hopFramesSpec)

/-- 'watershedlaw17.HopOnce', WHERE WHAT IT READS IS OF BULK AT MOST 1048576: true; the input reads as it did. -/
def hopOnceUptoRow : OpenClaim := { program := "ytmpgknemhmoboaa", sum := "8a6f72f2bd0029b1827ec7ff46594525a0e478caa99cb80ba79ffd833ca3093f", func := "watershed/watershedlaw17.HopOnce", spec := "hopOnce", apart := false, narrowed := true }
def HopOnceUptoSaid : Prop := hopOnceUptoRow.holds Try.pinned (OpenSpec.upto hopOnceSpec)

/-- 'watershedlaw17.HopStale', WHERE WHAT IT READS IS OF BULK AT MOST 1048576: true; the input reads as it did. -/
def hopStaleUptoRow : OpenClaim := { program := "ytmpgknemhmoboaa", sum := "8a6f72f2bd0029b1827ec7ff46594525a0e478caa99cb80ba79ffd833ca3093f", func := "watershed/watershedlaw17.HopStale", spec := "hopStale", apart := false, narrowed := true }
def HopStaleUptoSaid : Prop := hopStaleUptoRow.holds Try.pinned (OpenSpec.upto hopStaleSpec)

end Rows
end Go.Proofs.Ytmpgknemhmoboaa
