/-
  No cell of these rows narrows 'for every input' (looked for: loops, veiled, ifaces, maps, wideKeys, modest, calm, conditions, laid).
  DERIVED. THE GIVEN ROWS OF THIS SEAT. 6 by the template 'for every input the law returns true; each argument reads behind the call as it read before'; 0 by the template 'total and deterministic' (their statements: YtfeenmfehgljgaaTotals.lean).
  GIVEN WITH THE SEED: the statements are not yours to turn. If you find one false, say at which input.
  Laid BY PROGRAM, IN A SANDBOX (cutbox-rows.mjs): the forced cells as the released guide's own fill.sh prints them over the translation 3b8a2393a568230e… (all of the seat's roots in one cut). By AI agents, Wed Nov 11 2026. No macro, syntax, notation, axiom, sorry.
-/
import Derived.Test.YtfeenmfehgljgaaChecked
import GoSem.Claim
import GoSem.ClaimJoined
import GoSem.ClaimMapViews
import Derived.JoinedTies
import Derived.KernelRfl
namespace Go.Proofs.Ytfeenmfehgljgaa
/- THE CELL 'sum', in the pinned program and in every row, IS THE sha256 OF THE DUMP (.gsa) THAT YtfeenmfehgljgaaProg.lean LOADS. Nothing in Lean hashes anything: it is a label: what it is worth is what the hold of that sum in a sandbox is worth. -/
noncomputable def Try.pinned : Pinned := { name := "ytfeenmfehgljgaa", sum := "3b8a2393a568230e386c725a394de7baa62fd9865b48d62169df56a412d5ac46", checked := Try.checked }
namespace Rows
def none {H : Type} : Left H := { results := [], args := [] }

/-- 'laws.FnNumBytes': WHATEVER THE INPUT: true; the input reads as it did. -/
def fnNumBytesSpec : ChangeSpec := { name := "fnNumBytes", fn := fun _ => fun
  | [d] => { results := [.lit (.bool true)], args := [d] }
  | _ => none }
def fnNumBytesRow : OpenClaim := { program := "ytfeenmfehgljgaa", sum := "3b8a2393a568230e386c725a394de7baa62fd9865b48d62169df56a412d5ac46", func := "loop.example/g00196/laws.FnNumBytes", spec := "fnNumBytes", apart := false }
def FnNumBytesSaid : Prop := fnNumBytesRow.holds Try.pinned (OpenSpec.ofChange fnNumBytesSpec)

/-- ITS FALSE NEIGHBOUR: 'it returns false'. Refute it at one input. -/
def fnNumBytesWrong : ChangeSpec := { name := "fnNumBytes", fn := fun _ => fun
  | [d] => { results := [.lit (.bool false)], args := [d] }
  | _ => none }
def FnNumBytesWrongFalsely : Prop := fnNumBytesRow.holds Try.pinned (OpenSpec.ofChange fnNumBytesWrong)

/-- 'laws.FnKept': WHATEVER THE INPUT: true; the input reads as it did. -/
def fnKeptSpec : ChangeSpec := { name := "fnKept", fn := fun _ => fun
  | [d] => { results := [.lit (.bool true)], args := [d] }
  | _ => none }
def fnKeptRow : OpenClaim := { program := "ytfeenmfehgljgaa", sum := "3b8a2393a568230e386c725a394de7baa62fd9865b48d62169df56a412d5ac46", func := "loop.example/g00196/laws.FnKept", spec := "fnKept", unfollowed := true, recurses := true, apart := false }
def FnKeptSaid : Prop := fnKeptRow.holds Try.pinned (OpenSpec.ofChange fnKeptSpec)

/-- ITS FALSE NEIGHBOUR: 'it returns false'. Refute it at one input. -/
def fnKeptWrong : ChangeSpec := { name := "fnKept", fn := fun _ => fun
  | [d] => { results := [.lit (.bool false)], args := [d] }
  | _ => none }
def FnKeptWrongFalsely : Prop := fnKeptRow.holds Try.pinned (OpenSpec.ofChange fnKeptWrong)

/-- 'laws.FnExactKeptOk': WHATEVER THE INPUT: true; the input reads as it did. -/
def fnExactKeptOkSpec : ChangeSpec := { name := "fnExactKeptOk", fn := fun _ => fun
  | [d1, d2, d3] => { results := [.lit (.bool true)], args := [d1, d2, d3] }
  | _ => none }
def fnExactKeptOkRow : OpenClaim := { program := "ytfeenmfehgljgaa", sum := "3b8a2393a568230e386c725a394de7baa62fd9865b48d62169df56a412d5ac46", func := "loop.example/g00196/laws.FnExactKeptOk", spec := "fnExactKeptOk", unfollowed := true, recurses := true, apart := false }
def FnExactKeptOkSaid : Prop := fnExactKeptOkRow.holds Try.pinned (OpenSpec.ofChange fnExactKeptOkSpec)

/-- ITS FALSE NEIGHBOUR: 'it returns false'. Refute it at one input. -/
def fnExactKeptOkWrong : ChangeSpec := { name := "fnExactKeptOk", fn := fun _ => fun
  | [d1, d2, d3] => { results := [.lit (.bool false)], args := [d1, d2, d3] }
  | _ => none }
def FnExactKeptOkWrongFalsely : Prop := fnExactKeptOkRow.holds Try.pinned (OpenSpec.ofChange fnExactKeptOkWrong)

/-- 'laws.FnExactAgain': WHATEVER THE INPUT: true; the input reads as it did. -/
def fnExactAgainSpec : ChangeSpec := { name := "fnExactAgain", fn := fun _ => fun
  | [d1, d2, d3, d4] => { results := [.lit (.bool true)], args := [d1, d2, d3, d4] }
  | _ => none }
def fnExactAgainRow : OpenClaim := { program := "ytfeenmfehgljgaa", sum := "3b8a2393a568230e386c725a394de7baa62fd9865b48d62169df56a412d5ac46", func := "loop.example/g00196/laws.FnExactAgain", spec := "fnExactAgain", unfollowed := true, recurses := true, apart := false }
def FnExactAgainSaid : Prop := fnExactAgainRow.holds Try.pinned (OpenSpec.ofChange fnExactAgainSpec)

/-- ITS FALSE NEIGHBOUR: 'it returns false'. Refute it at one input. -/
def fnExactAgainWrong : ChangeSpec := { name := "fnExactAgain", fn := fun _ => fun
  | [d1, d2, d3, d4] => { results := [.lit (.bool false)], args := [d1, d2, d3, d4] }
  | _ => none }
def FnExactAgainWrongFalsely : Prop := fnExactAgainRow.holds Try.pinned (OpenSpec.ofChange fnExactAgainWrong)

/-- 'laws.FnRestore': WHATEVER THE INPUT: true; the input reads as it did. -/
def fnRestoreSpec : ChangeSpec := { name := "fnRestore", fn := fun _ => fun
  | [d] => { results := [.lit (.bool true)], args := [d] }
  | _ => none }
def fnRestoreRow : OpenClaim := { program := "ytfeenmfehgljgaa", sum := "3b8a2393a568230e386c725a394de7baa62fd9865b48d62169df56a412d5ac46", func := "loop.example/g00196/laws.FnRestore", spec := "fnRestore", unfollowed := true, recurses := true, apart := false }
def FnRestoreSaid : Prop := fnRestoreRow.holds Try.pinned (OpenSpec.ofChange fnRestoreSpec)

/-- ITS FALSE NEIGHBOUR: 'it returns false'. Refute it at one input. -/
def fnRestoreWrong : ChangeSpec := { name := "fnRestore", fn := fun _ => fun
  | [d] => { results := [.lit (.bool false)], args := [d] }
  | _ => none }
def FnRestoreWrongFalsely : Prop := fnRestoreRow.holds Try.pinned (OpenSpec.ofChange fnRestoreWrong)

/-- 'laws.FnExactRestore': WHATEVER THE INPUT: true; the input reads as it did. -/
def fnExactRestoreSpec : ChangeSpec := { name := "fnExactRestore", fn := fun _ => fun
  | [d1, d2, d3, d4] => { results := [.lit (.bool true)], args := [d1, d2, d3, d4] }
  | _ => none }
def fnExactRestoreRow : OpenClaim := { program := "ytfeenmfehgljgaa", sum := "3b8a2393a568230e386c725a394de7baa62fd9865b48d62169df56a412d5ac46", func := "loop.example/g00196/laws.FnExactRestore", spec := "fnExactRestore", unfollowed := true, recurses := true, apart := false }
def FnExactRestoreSaid : Prop := fnExactRestoreRow.holds Try.pinned (OpenSpec.ofChange fnExactRestoreSpec)

/-- ITS FALSE NEIGHBOUR: 'it returns false'. Refute it at one input. -/
def fnExactRestoreWrong : ChangeSpec := { name := "fnExactRestore", fn := fun _ => fun
  | [d1, d2, d3, d4] => { results := [.lit (.bool false)], args := [d1, d2, d3, d4] }
  | _ => none }
def FnExactRestoreWrongFalsely : Prop := fnExactRestoreRow.holds Try.pinned (OpenSpec.ofChange fnExactRestoreWrong)

/- THE SECOND FORM. 'bulk': how many values and letters a reading holds, each counted each time it is reached (what is shared counts as often as it is met; a slice's spare places count too). A statement '..UptoSaid' is the law's where the arguments, and the package variables that the reading takes, are together of bulk at most 1048576: NARROWER than '..Said'. Prove '..Said' where nothing that the law and all that it calls make is longer than what came in: it says more and counts as full. Else prove '..UptoSaid'. A law counts once. -/
mutual
def uptoBulk {H : Type} : DataW H → Nat
  | .lit (.string bytes) => bytes.length + 1
  | .lit _ => 1
  | .nil => 1
  | .ptr d => uptoBulk d + 1
  | .slice elems spare => uptoBulkAll elems + uptoBulkAll spare + 1
  | .agg parts => uptoBulkAll parts + 1
  | .iface _ d => uptoBulk d + 1
  | .map entries => uptoBulkEntries entries + 1
  | .held _ => 1
def uptoBulkAll {H : Type} : List (DataW H) → Nat
  | [] => 0
  | d :: r => uptoBulk d + uptoBulkAll r
def uptoBulkEntries {H : Type} : List (Lit × DataW H) → Nat
  | [] => 0
  | x :: r => uptoBulkEntry x + uptoBulkEntries r
def uptoBulkEntry {H : Type} : Lit × DataW H → Nat
  | (.string bytes, d) => bytes.length + uptoBulk d + 1
  | (_, d) => uptoBulk d + 1
 end
def uptoSmall : (H : Type) → List (DataW H) → Bool := fun _ ds => decide (uptoBulkAll ds ≤ 1048576)
def OpenSpec.upto (s : _root_.Go.ChangeSpec) : _root_.Go.OpenSpec := { _root_.Go.OpenSpec.ofChange s with cond := some uptoSmall }

/-- 'laws.FnNumBytes', WHERE WHAT IT READS IS OF BULK AT MOST 1048576: true; the input reads as it did. -/
def fnNumBytesUptoRow : OpenClaim := { program := "ytfeenmfehgljgaa", sum := "3b8a2393a568230e386c725a394de7baa62fd9865b48d62169df56a412d5ac46", func := "loop.example/g00196/laws.FnNumBytes", spec := "fnNumBytes", apart := false, narrowed := true }
def FnNumBytesUptoSaid : Prop := fnNumBytesUptoRow.holds Try.pinned (OpenSpec.upto fnNumBytesSpec)

/-- 'laws.FnKept', WHERE WHAT IT READS IS OF BULK AT MOST 1048576: true; the input reads as it did. -/
def fnKeptUptoRow : OpenClaim := { program := "ytfeenmfehgljgaa", sum := "3b8a2393a568230e386c725a394de7baa62fd9865b48d62169df56a412d5ac46", func := "loop.example/g00196/laws.FnKept", spec := "fnKept", unfollowed := true, recurses := true, apart := false, narrowed := true }
def FnKeptUptoSaid : Prop := fnKeptUptoRow.holds Try.pinned (OpenSpec.upto fnKeptSpec)

/-- 'laws.FnExactKeptOk', WHERE WHAT IT READS IS OF BULK AT MOST 1048576: true; the input reads as it did. -/
def fnExactKeptOkUptoRow : OpenClaim := { program := "ytfeenmfehgljgaa", sum := "3b8a2393a568230e386c725a394de7baa62fd9865b48d62169df56a412d5ac46", func := "loop.example/g00196/laws.FnExactKeptOk", spec := "fnExactKeptOk", unfollowed := true, recurses := true, apart := false, narrowed := true }
def FnExactKeptOkUptoSaid : Prop := fnExactKeptOkUptoRow.holds Try.pinned (OpenSpec.upto fnExactKeptOkSpec)

/-- 'laws.FnExactAgain', WHERE WHAT IT READS IS OF BULK AT MOST 1048576: true; the input reads as it did. -/
def fnExactAgainUptoRow : OpenClaim := { program := "ytfeenmfehgljgaa", sum := "3b8a2393a568230e386c725a394de7baa62fd9865b48d62169df56a412d5ac46", func := "loop.example/g00196/laws.FnExactAgain", spec := "fnExactAgain", unfollowed := true, recurses := true, apart := false, narrowed := true }
def FnExactAgainUptoSaid : Prop := fnExactAgainUptoRow.holds Try.pinned (OpenSpec.upto fnExactAgainSpec)

/-- 'laws.FnRestore', WHERE WHAT IT READS IS OF BULK AT MOST 1048576: true; the input reads as it did. -/
def fnRestoreUptoRow : OpenClaim := { program := "ytfeenmfehgljgaa", sum := "3b8a2393a568230e386c725a394de7baa62fd9865b48d62169df56a412d5ac46", func := "loop.example/g00196/laws.FnRestore", spec := "fnRestore", unfollowed := true, recurses := true, apart := false, narrowed := true }
def FnRestoreUptoSaid : Prop := fnRestoreUptoRow.holds Try.pinned (OpenSpec.upto fnRestoreSpec)

/-- 'laws.FnExactRestore', WHERE WHAT IT READS IS OF BULK AT MOST 1048576: true; the input reads as it did. -/
def fnExactRestoreUptoRow : OpenClaim := { program := "ytfeenmfehgljgaa", sum := "3b8a2393a568230e386c725a394de7baa62fd9865b48d62169df56a412d5ac46", func := "loop.example/g00196/laws.FnExactRestore", spec := "fnExactRestore", unfollowed := true, recurses := true, apart := false, narrowed := true }
def FnExactRestoreUptoSaid : Prop := fnExactRestoreUptoRow.holds Try.pinned (OpenSpec.upto fnExactRestoreSpec)

end Rows
end Go.Proofs.Ytfeenmfehgljgaa
