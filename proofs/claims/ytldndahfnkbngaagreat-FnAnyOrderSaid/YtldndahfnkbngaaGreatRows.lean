/-
  No cell of these rows narrows 'for every input' (looked for: loops, veiled, ifaces, maps, wideKeys, modest, calm, conditions, laid).
  DERIVED. THE GIVEN ROWS OF THIS SEAT. 13 by the template 'for every input the law returns true; each argument reads behind the call as it read before'; 0 by the template 'total and deterministic' (their statements: YtldndahfnkbngaaGreatTotals.lean).
  GIVEN WITH THE SEED: the statements are not yours to turn. If you find one false, say at which input.
  Laid BY PROGRAM, IN A SANDBOX (cutbox-rows.mjs): the forced cells as the released guide's own fill.sh prints them over the translation 0187538a5fc4a674… (all of the seat's roots in one cut). By AI agents, Wed Nov 11 2026. No macro, syntax, notation, axiom, sorry.
-/
import Derived.Test.YtldndahfnkbngaaGreatChecked
import GoSem.Claim
import GoSem.ClaimJoined
import GoSem.ClaimMapViews
import Derived.JoinedTies
import Derived.KernelRfl
namespace Go.Proofs.YtldndahfnkbngaaGreat
/- THE CELL 'sum', in the pinned program and in every row, IS THE sha256 OF THE DUMP (.gsa) THAT YtldndahfnkbngaaGreatProg.lean LOADS. Nothing in Lean hashes anything: it is a label: what it is worth is what the hold of that sum in a sandbox is worth. -/
noncomputable def Tryz.pinned : Pinned := { name := "ytldndahfnkbngaagreat", sum := "0187538a5fc4a6748563cc056766ac65de9597866d1e645c39463c17459f3a9d", checked := Tryz.checked }
namespace Rows
def none {H : Type} : Left H := { results := [], args := [] }

/-- 'laws.FnExactRedo': WHATEVER THE INPUT: true; the input reads as it did. -/
def fnExactRedoSpec : ChangeSpec := { name := "fnExactRedo", fn := fun _ => fun
  | [d1, d2] => { results := [.lit (.bool true)], args := [d1, d2] }
  | _ => none }
def fnExactRedoRow : OpenClaim := { program := "ytldndahfnkbngaagreat", sum := "0187538a5fc4a6748563cc056766ac65de9597866d1e645c39463c17459f3a9d", func := "loop.example/g00196/laws.FnExactRedo", spec := "fnExactRedo", unfollowed := true, recurses := true, apart := false }
def FnExactRedoSaid : Prop := fnExactRedoRow.holds Tryz.pinned (OpenSpec.ofChange fnExactRedoSpec)

/-- ITS FALSE NEIGHBOUR: 'it returns false'. Refute it at one input. -/
def fnExactRedoWrong : ChangeSpec := { name := "fnExactRedo", fn := fun _ => fun
  | [d1, d2] => { results := [.lit (.bool false)], args := [d1, d2] }
  | _ => none }
def FnExactRedoWrongFalsely : Prop := fnExactRedoRow.holds Tryz.pinned (OpenSpec.ofChange fnExactRedoWrong)

/-- 'laws.FnExactUntil': WHATEVER THE INPUT: true; the input reads as it did. -/
def fnExactUntilSpec : ChangeSpec := { name := "fnExactUntil", fn := fun _ => fun
  | [d1, d2, d3] => { results := [.lit (.bool true)], args := [d1, d2, d3] }
  | _ => none }
def fnExactUntilRow : OpenClaim := { program := "ytldndahfnkbngaagreat", sum := "0187538a5fc4a6748563cc056766ac65de9597866d1e645c39463c17459f3a9d", func := "loop.example/g00196/laws.FnExactUntil", spec := "fnExactUntil", unfollowed := true, recurses := true, apart := false }
def FnExactUntilSaid : Prop := fnExactUntilRow.holds Tryz.pinned (OpenSpec.ofChange fnExactUntilSpec)

/-- ITS FALSE NEIGHBOUR: 'it returns false'. Refute it at one input. -/
def fnExactUntilWrong : ChangeSpec := { name := "fnExactUntil", fn := fun _ => fun
  | [d1, d2, d3] => { results := [.lit (.bool false)], args := [d1, d2, d3] }
  | _ => none }
def FnExactUntilWrongFalsely : Prop := fnExactUntilRow.holds Tryz.pinned (OpenSpec.ofChange fnExactUntilWrong)

/-- 'laws.FnUndone': WHATEVER THE INPUT: true; the input reads as it did. -/
def fnUndoneSpec : ChangeSpec := { name := "fnUndone", fn := fun _ => fun
  | [d] => { results := [.lit (.bool true)], args := [d] }
  | _ => none }
def fnUndoneRow : OpenClaim := { program := "ytldndahfnkbngaagreat", sum := "0187538a5fc4a6748563cc056766ac65de9597866d1e645c39463c17459f3a9d", func := "loop.example/g00196/laws.FnUndone", spec := "fnUndone", unfollowed := true, recurses := true, apart := false }
def FnUndoneSaid : Prop := fnUndoneRow.holds Tryz.pinned (OpenSpec.ofChange fnUndoneSpec)

/-- ITS FALSE NEIGHBOUR: 'it returns false'. Refute it at one input. -/
def fnUndoneWrong : ChangeSpec := { name := "fnUndone", fn := fun _ => fun
  | [d] => { results := [.lit (.bool false)], args := [d] }
  | _ => none }
def FnUndoneWrongFalsely : Prop := fnUndoneRow.holds Tryz.pinned (OpenSpec.ofChange fnUndoneWrong)

/-- 'laws.FnBackOne': WHATEVER THE INPUT: true; the input reads as it did. -/
def fnBackOneSpec : ChangeSpec := { name := "fnBackOne", fn := fun _ => fun
  | [d] => { results := [.lit (.bool true)], args := [d] }
  | _ => none }
def fnBackOneRow : OpenClaim := { program := "ytldndahfnkbngaagreat", sum := "0187538a5fc4a6748563cc056766ac65de9597866d1e645c39463c17459f3a9d", func := "loop.example/g00196/laws.FnBackOne", spec := "fnBackOne", unfollowed := true, recurses := true, apart := false }
def FnBackOneSaid : Prop := fnBackOneRow.holds Tryz.pinned (OpenSpec.ofChange fnBackOneSpec)

/-- ITS FALSE NEIGHBOUR: 'it returns false'. Refute it at one input. -/
def fnBackOneWrong : ChangeSpec := { name := "fnBackOne", fn := fun _ => fun
  | [d] => { results := [.lit (.bool false)], args := [d] }
  | _ => none }
def FnBackOneWrongFalsely : Prop := fnBackOneRow.holds Tryz.pinned (OpenSpec.ofChange fnBackOneWrong)

/-- 'laws.FnTwiceBack': WHATEVER THE INPUT: true; the input reads as it did. -/
def fnTwiceBackSpec : ChangeSpec := { name := "fnTwiceBack", fn := fun _ => fun
  | [d] => { results := [.lit (.bool true)], args := [d] }
  | _ => none }
def fnTwiceBackRow : OpenClaim := { program := "ytldndahfnkbngaagreat", sum := "0187538a5fc4a6748563cc056766ac65de9597866d1e645c39463c17459f3a9d", func := "loop.example/g00196/laws.FnTwiceBack", spec := "fnTwiceBack", unfollowed := true, recurses := true, apart := false }
def FnTwiceBackSaid : Prop := fnTwiceBackRow.holds Tryz.pinned (OpenSpec.ofChange fnTwiceBackSpec)

/-- ITS FALSE NEIGHBOUR: 'it returns false'. Refute it at one input. -/
def fnTwiceBackWrong : ChangeSpec := { name := "fnTwiceBack", fn := fun _ => fun
  | [d] => { results := [.lit (.bool false)], args := [d] }
  | _ => none }
def FnTwiceBackWrongFalsely : Prop := fnTwiceBackRow.holds Tryz.pinned (OpenSpec.ofChange fnTwiceBackWrong)

/-- 'laws.FnLast': WHATEVER THE INPUT: true; the input reads as it did. -/
def fnLastSpec : ChangeSpec := { name := "fnLast", fn := fun _ => fun
  | [d] => { results := [.lit (.bool true)], args := [d] }
  | _ => none }
def fnLastRow : OpenClaim := { program := "ytldndahfnkbngaagreat", sum := "0187538a5fc4a6748563cc056766ac65de9597866d1e645c39463c17459f3a9d", func := "loop.example/g00196/laws.FnLast", spec := "fnLast", unfollowed := true, recurses := true, apart := false }
def FnLastSaid : Prop := fnLastRow.holds Tryz.pinned (OpenSpec.ofChange fnLastSpec)

/-- ITS FALSE NEIGHBOUR: 'it returns false'. Refute it at one input. -/
def fnLastWrong : ChangeSpec := { name := "fnLast", fn := fun _ => fun
  | [d] => { results := [.lit (.bool false)], args := [d] }
  | _ => none }
def FnLastWrongFalsely : Prop := fnLastRow.holds Tryz.pinned (OpenSpec.ofChange fnLastWrong)

/-- 'laws.FnUntil': WHATEVER THE INPUT: true; the input reads as it did. -/
def fnUntilSpec : ChangeSpec := { name := "fnUntil", fn := fun _ => fun
  | [d] => { results := [.lit (.bool true)], args := [d] }
  | _ => none }
def fnUntilRow : OpenClaim := { program := "ytldndahfnkbngaagreat", sum := "0187538a5fc4a6748563cc056766ac65de9597866d1e645c39463c17459f3a9d", func := "loop.example/g00196/laws.FnUntil", spec := "fnUntil", unfollowed := true, recurses := true, apart := false }
def FnUntilSaid : Prop := fnUntilRow.holds Tryz.pinned (OpenSpec.ofChange fnUntilSpec)

/-- ITS FALSE NEIGHBOUR: 'it returns false'. Refute it at one input. -/
def fnUntilWrong : ChangeSpec := { name := "fnUntil", fn := fun _ => fun
  | [d] => { results := [.lit (.bool false)], args := [d] }
  | _ => none }
def FnUntilWrongFalsely : Prop := fnUntilRow.holds Tryz.pinned (OpenSpec.ofChange fnUntilWrong)

/-- 'laws.FnRow': WHATEVER THE INPUT: true; the input reads as it did. -/
def fnRowSpec : ChangeSpec := { name := "fnRow", fn := fun _ => fun
  | [d] => { results := [.lit (.bool true)], args := [d] }
  | _ => none }
def fnRowRow : OpenClaim := { program := "ytldndahfnkbngaagreat", sum := "0187538a5fc4a6748563cc056766ac65de9597866d1e645c39463c17459f3a9d", func := "loop.example/g00196/laws.FnRow", spec := "fnRow", unfollowed := true, recurses := true, apart := false }
def FnRowSaid : Prop := fnRowRow.holds Tryz.pinned (OpenSpec.ofChange fnRowSpec)

/-- ITS FALSE NEIGHBOUR: 'it returns false'. Refute it at one input. -/
def fnRowWrong : ChangeSpec := { name := "fnRow", fn := fun _ => fun
  | [d] => { results := [.lit (.bool false)], args := [d] }
  | _ => none }
def FnRowWrongFalsely : Prop := fnRowRow.holds Tryz.pinned (OpenSpec.ofChange fnRowWrong)

/-- 'laws.FnAnyOrder': WHATEVER THE INPUT: true; the input reads as it did. -/
def fnAnyOrderSpec : ChangeSpec := { name := "fnAnyOrder", fn := fun _ => fun
  | [d] => { results := [.lit (.bool true)], args := [d] }
  | _ => none }
def fnAnyOrderRow : OpenClaim := { program := "ytldndahfnkbngaagreat", sum := "0187538a5fc4a6748563cc056766ac65de9597866d1e645c39463c17459f3a9d", func := "loop.example/g00196/laws.FnAnyOrder", spec := "fnAnyOrder", unfollowed := true, recurses := true, apart := false }
def FnAnyOrderSaid : Prop := fnAnyOrderRow.holds Tryz.pinned (OpenSpec.ofChange fnAnyOrderSpec)

/-- ITS FALSE NEIGHBOUR: 'it returns false'. Refute it at one input. -/
def fnAnyOrderWrong : ChangeSpec := { name := "fnAnyOrder", fn := fun _ => fun
  | [d] => { results := [.lit (.bool false)], args := [d] }
  | _ => none }
def FnAnyOrderWrongFalsely : Prop := fnAnyOrderRow.holds Tryz.pinned (OpenSpec.ofChange fnAnyOrderWrong)

/-- 'laws.FnMoment': WHATEVER THE INPUT: true; the input reads as it did. -/
def fnMomentSpec : ChangeSpec := { name := "fnMoment", fn := fun _ => fun
  | [d] => { results := [.lit (.bool true)], args := [d] }
  | _ => none }
def fnMomentRow : OpenClaim := { program := "ytldndahfnkbngaagreat", sum := "0187538a5fc4a6748563cc056766ac65de9597866d1e645c39463c17459f3a9d", func := "loop.example/g00196/laws.FnMoment", spec := "fnMoment", unfollowed := true, recurses := true, apart := false }
def FnMomentSaid : Prop := fnMomentRow.holds Tryz.pinned (OpenSpec.ofChange fnMomentSpec)

/-- ITS FALSE NEIGHBOUR: 'it returns false'. Refute it at one input. -/
def fnMomentWrong : ChangeSpec := { name := "fnMoment", fn := fun _ => fun
  | [d] => { results := [.lit (.bool false)], args := [d] }
  | _ => none }
def FnMomentWrongFalsely : Prop := fnMomentRow.holds Tryz.pinned (OpenSpec.ofChange fnMomentWrong)

/-- 'laws.FnBegin': WHATEVER THE INPUT: true; the input reads as it did. -/
def fnBeginSpec : ChangeSpec := { name := "fnBegin", fn := fun _ => fun
  | [d] => { results := [.lit (.bool true)], args := [d] }
  | _ => none }
def fnBeginRow : OpenClaim := { program := "ytldndahfnkbngaagreat", sum := "0187538a5fc4a6748563cc056766ac65de9597866d1e645c39463c17459f3a9d", func := "loop.example/g00196/laws.FnBegin", spec := "fnBegin", unfollowed := true, recurses := true, apart := false }
def FnBeginSaid : Prop := fnBeginRow.holds Tryz.pinned (OpenSpec.ofChange fnBeginSpec)

/-- ITS FALSE NEIGHBOUR: 'it returns false'. Refute it at one input. -/
def fnBeginWrong : ChangeSpec := { name := "fnBegin", fn := fun _ => fun
  | [d] => { results := [.lit (.bool false)], args := [d] }
  | _ => none }
def FnBeginWrongFalsely : Prop := fnBeginRow.holds Tryz.pinned (OpenSpec.ofChange fnBeginWrong)

/-- 'laws.FnMark': WHATEVER THE INPUT: true; the input reads as it did. -/
def fnMarkSpec : ChangeSpec := { name := "fnMark", fn := fun _ => fun
  | [d] => { results := [.lit (.bool true)], args := [d] }
  | _ => none }
def fnMarkRow : OpenClaim := { program := "ytldndahfnkbngaagreat", sum := "0187538a5fc4a6748563cc056766ac65de9597866d1e645c39463c17459f3a9d", func := "loop.example/g00196/laws.FnMark", spec := "fnMark", unfollowed := true, recurses := true, apart := false }
def FnMarkSaid : Prop := fnMarkRow.holds Tryz.pinned (OpenSpec.ofChange fnMarkSpec)

/-- ITS FALSE NEIGHBOUR: 'it returns false'. Refute it at one input. -/
def fnMarkWrong : ChangeSpec := { name := "fnMark", fn := fun _ => fun
  | [d] => { results := [.lit (.bool false)], args := [d] }
  | _ => none }
def FnMarkWrongFalsely : Prop := fnMarkRow.holds Tryz.pinned (OpenSpec.ofChange fnMarkWrong)

/-- 'laws.FnLiveStep': WHATEVER THE INPUT: true; the input reads as it did. -/
def fnLiveStepSpec : ChangeSpec := { name := "fnLiveStep", fn := fun _ => fun
  | [d] => { results := [.lit (.bool true)], args := [d] }
  | _ => none }
def fnLiveStepRow : OpenClaim := { program := "ytldndahfnkbngaagreat", sum := "0187538a5fc4a6748563cc056766ac65de9597866d1e645c39463c17459f3a9d", func := "loop.example/g00196/laws.FnLiveStep", spec := "fnLiveStep", unfollowed := true, recurses := true, apart := false }
def FnLiveStepSaid : Prop := fnLiveStepRow.holds Tryz.pinned (OpenSpec.ofChange fnLiveStepSpec)

/-- ITS FALSE NEIGHBOUR: 'it returns false'. Refute it at one input. -/
def fnLiveStepWrong : ChangeSpec := { name := "fnLiveStep", fn := fun _ => fun
  | [d] => { results := [.lit (.bool false)], args := [d] }
  | _ => none }
def FnLiveStepWrongFalsely : Prop := fnLiveStepRow.holds Tryz.pinned (OpenSpec.ofChange fnLiveStepWrong)

/- THE SECOND FORM. 'bulk': how many values and letters a reading holds, each counted each time it is reached (what is shared counts as often as it is met; a slice's spare places count too). A statement '..UptoSaid' is the law's where the arguments, and the package variables that the reading takes, are together of bulk at most 1048576: NARROWER than '..Said'. Prove '..Said' where nothing that the law and all that it calls make is longer than what came in: it says more and counts as full. Else prove '..UptoSaid'. A law counts once. -/
mutual
def uptoBulk {H : Type} : DataW H → Nat
  | .lit (.string bytes) => bytes.length + 1
  | .lit _ => 1
  | .nil => 1
  | .ptr d => uptoBulk d + 1
  | .slice elems spare => uptoBulkAll elems + uptoBulkAll spare + 1
  | .agg parts => uptoBulkAll parts + 1
  | .iface _ d => uptoBulk d + 1
  | .map entries => uptoBulkEntries entries + 1
  | .held _ => 1
def uptoBulkAll {H : Type} : List (DataW H) → Nat
  | [] => 0
  | d :: r => uptoBulk d + uptoBulkAll r
def uptoBulkEntries {H : Type} : List (Lit × DataW H) → Nat
  | [] => 0
  | x :: r => uptoBulkEntry x + uptoBulkEntries r
def uptoBulkEntry {H : Type} : Lit × DataW H → Nat
  | (.string bytes, d) => bytes.length + uptoBulk d + 1
  | (_, d) => uptoBulk d + 1
 end
def uptoSmall : (H : Type) → List (DataW H) → Bool := fun _ ds => decide (uptoBulkAll ds ≤ 1048576)
def OpenSpec.upto (s : _root_.Go.ChangeSpec) : _root_.Go.OpenSpec := { _root_.Go.OpenSpec.ofChange s with cond := some uptoSmall }

/-- 'laws.FnExactRedo', WHERE WHAT IT READS IS OF BULK AT MOST 1048576: true; the input reads as it did. -/
def fnExactRedoUptoRow : OpenClaim := { program := "ytldndahfnkbngaagreat", sum := "0187538a5fc4a6748563cc056766ac65de9597866d1e645c39463c17459f3a9d", func := "loop.example/g00196/laws.FnExactRedo", spec := "fnExactRedo", unfollowed := true, recurses := true, apart := false, narrowed := true }
def FnExactRedoUptoSaid : Prop := fnExactRedoUptoRow.holds Tryz.pinned (OpenSpec.upto fnExactRedoSpec)

/-- 'laws.FnExactUntil', WHERE WHAT IT READS IS OF BULK AT MOST 1048576: true; the input reads as it did. -/
def fnExactUntilUptoRow : OpenClaim := { program := "ytldndahfnkbngaagreat", sum := "0187538a5fc4a6748563cc056766ac65de9597866d1e645c39463c17459f3a9d", func := "loop.example/g00196/laws.FnExactUntil", spec := "fnExactUntil", unfollowed := true, recurses := true, apart := false, narrowed := true }
def FnExactUntilUptoSaid : Prop := fnExactUntilUptoRow.holds Tryz.pinned (OpenSpec.upto fnExactUntilSpec)

/-- 'laws.FnUndone', WHERE WHAT IT READS IS OF BULK AT MOST 1048576: true; the input reads as it did. -/
def fnUndoneUptoRow : OpenClaim := { program := "ytldndahfnkbngaagreat", sum := "0187538a5fc4a6748563cc056766ac65de9597866d1e645c39463c17459f3a9d", func := "loop.example/g00196/laws.FnUndone", spec := "fnUndone", unfollowed := true, recurses := true, apart := false, narrowed := true }
def FnUndoneUptoSaid : Prop := fnUndoneUptoRow.holds Tryz.pinned (OpenSpec.upto fnUndoneSpec)

/-- 'laws.FnBackOne', WHERE WHAT IT READS IS OF BULK AT MOST 1048576: true; the input reads as it did. -/
def fnBackOneUptoRow : OpenClaim := { program := "ytldndahfnkbngaagreat", sum := "0187538a5fc4a6748563cc056766ac65de9597866d1e645c39463c17459f3a9d", func := "loop.example/g00196/laws.FnBackOne", spec := "fnBackOne", unfollowed := true, recurses := true, apart := false, narrowed := true }
def FnBackOneUptoSaid : Prop := fnBackOneUptoRow.holds Tryz.pinned (OpenSpec.upto fnBackOneSpec)

/-- 'laws.FnTwiceBack', WHERE WHAT IT READS IS OF BULK AT MOST 1048576: true; the input reads as it did. -/
def fnTwiceBackUptoRow : OpenClaim := { program := "ytldndahfnkbngaagreat", sum := "0187538a5fc4a6748563cc056766ac65de9597866d1e645c39463c17459f3a9d", func := "loop.example/g00196/laws.FnTwiceBack", spec := "fnTwiceBack", unfollowed := true, recurses := true, apart := false, narrowed := true }
def FnTwiceBackUptoSaid : Prop := fnTwiceBackUptoRow.holds Tryz.pinned (OpenSpec.upto fnTwiceBackSpec)

/-- 'laws.FnLast', WHERE WHAT IT READS IS OF BULK AT MOST 1048576: true; the input reads as it did. -/
def fnLastUptoRow : OpenClaim := { program := "ytldndahfnkbngaagreat", sum := "0187538a5fc4a6748563cc056766ac65de9597866d1e645c39463c17459f3a9d", func := "loop.example/g00196/laws.FnLast", spec := "fnLast", unfollowed := true, recurses := true, apart := false, narrowed := true }
def FnLastUptoSaid : Prop := fnLastUptoRow.holds Tryz.pinned (OpenSpec.upto fnLastSpec)

/-- 'laws.FnUntil', WHERE WHAT IT READS IS OF BULK AT MOST 1048576: true; the input reads as it did. -/
def fnUntilUptoRow : OpenClaim := { program := "ytldndahfnkbngaagreat", sum := "0187538a5fc4a6748563cc056766ac65de9597866d1e645c39463c17459f3a9d", func := "loop.example/g00196/laws.FnUntil", spec := "fnUntil", unfollowed := true, recurses := true, apart := false, narrowed := true }
def FnUntilUptoSaid : Prop := fnUntilUptoRow.holds Tryz.pinned (OpenSpec.upto fnUntilSpec)

/-- 'laws.FnRow', WHERE WHAT IT READS IS OF BULK AT MOST 1048576: true; the input reads as it did. -/
def fnRowUptoRow : OpenClaim := { program := "ytldndahfnkbngaagreat", sum := "0187538a5fc4a6748563cc056766ac65de9597866d1e645c39463c17459f3a9d", func := "loop.example/g00196/laws.FnRow", spec := "fnRow", unfollowed := true, recurses := true, apart := false, narrowed := true }
def FnRowUptoSaid : Prop := fnRowUptoRow.holds Tryz.pinned (OpenSpec.upto fnRowSpec)

/-- 'laws.FnAnyOrder', WHERE WHAT IT READS IS OF BULK AT MOST 1048576: true; the input reads as it did. -/
def fnAnyOrderUptoRow : OpenClaim := { program := "ytldndahfnkbngaagreat", sum := "0187538a5fc4a6748563cc056766ac65de9597866d1e645c39463c17459f3a9d", func := "loop.example/g00196/laws.FnAnyOrder", spec := "fnAnyOrder", unfollowed := true, recurses := true, apart := false, narrowed := true }
def FnAnyOrderUptoSaid : Prop := fnAnyOrderUptoRow.holds Tryz.pinned (OpenSpec.upto fnAnyOrderSpec)

/-- 'laws.FnMoment', WHERE WHAT IT READS IS OF BULK AT MOST 1048576: true; the input reads as it did. -/
def fnMomentUptoRow : OpenClaim := { program := "ytldndahfnkbngaagreat", sum := "0187538a5fc4a6748563cc056766ac65de9597866d1e645c39463c17459f3a9d", func := "loop.example/g00196/laws.FnMoment", spec := "fnMoment", unfollowed := true, recurses := true, apart := false, narrowed := true }
def FnMomentUptoSaid : Prop := fnMomentUptoRow.holds Tryz.pinned (OpenSpec.upto fnMomentSpec)

/-- 'laws.FnBegin', WHERE WHAT IT READS IS OF BULK AT MOST 1048576: true; the input reads as it did. -/
def fnBeginUptoRow : OpenClaim := { program := "ytldndahfnkbngaagreat", sum := "0187538a5fc4a6748563cc056766ac65de9597866d1e645c39463c17459f3a9d", func := "loop.example/g00196/laws.FnBegin", spec := "fnBegin", unfollowed := true, recurses := true, apart := false, narrowed := true }
def FnBeginUptoSaid : Prop := fnBeginUptoRow.holds Tryz.pinned (OpenSpec.upto fnBeginSpec)

/-- 'laws.FnMark', WHERE WHAT IT READS IS OF BULK AT MOST 1048576: true; the input reads as it did. -/
def fnMarkUptoRow : OpenClaim := { program := "ytldndahfnkbngaagreat", sum := "0187538a5fc4a6748563cc056766ac65de9597866d1e645c39463c17459f3a9d", func := "loop.example/g00196/laws.FnMark", spec := "fnMark", unfollowed := true, recurses := true, apart := false, narrowed := true }
def FnMarkUptoSaid : Prop := fnMarkUptoRow.holds Tryz.pinned (OpenSpec.upto fnMarkSpec)

/-- 'laws.FnLiveStep', WHERE WHAT IT READS IS OF BULK AT MOST 1048576: true; the input reads as it did. -/
def fnLiveStepUptoRow : OpenClaim := { program := "ytldndahfnkbngaagreat", sum := "0187538a5fc4a6748563cc056766ac65de9597866d1e645c39463c17459f3a9d", func := "loop.example/g00196/laws.FnLiveStep", spec := "fnLiveStep", unfollowed := true, recurses := true, apart := false, narrowed := true }
def FnLiveStepUptoSaid : Prop := fnLiveStepUptoRow.holds Tryz.pinned (OpenSpec.upto fnLiveStepSpec)

end Rows
end Go.Proofs.YtldndahfnkbngaaGreat
