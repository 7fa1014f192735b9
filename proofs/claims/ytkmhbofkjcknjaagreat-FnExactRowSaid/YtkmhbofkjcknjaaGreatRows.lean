/-
  No cell of these rows narrows 'for every input' (looked for: loops, veiled, ifaces, maps, wideKeys, modest, calm, conditions, laid).
  DERIVED. THE GIVEN ROWS OF THIS SEAT. 12 by the template 'for every input the law returns true; each argument reads behind the call as it read before'; 0 by the template 'total and deterministic' (their statements: YtkmhbofkjcknjaaGreatTotals.lean).
  GIVEN WITH THE SEED: the statements are not yours to turn. If you find one false, say at which input.
  Laid BY PROGRAM, IN A SANDBOX (cutbox-rows.mjs): the forced cells as the released guide's own fill.sh prints them over the translation 4c3a6ac0b9ebe48e… (all of the seat's roots in one cut). By AI agents, Wed Nov 11 2026. No macro, syntax, notation, axiom, sorry.
-/
import Derived.Test.YtkmhbofkjcknjaaGreatChecked
import GoSem.Claim
import GoSem.ClaimJoined
import GoSem.ClaimMapViews
import Derived.JoinedTies
import Derived.KernelRfl
namespace Go.Proofs.YtkmhbofkjcknjaaGreat
/- THE CELL 'sum', in the pinned program and in every row, IS THE sha256 OF THE DUMP (.gsa) THAT YtkmhbofkjcknjaaGreatProg.lean LOADS. Nothing in Lean hashes anything: it is a label: what it is worth is what the hold of that sum in a sandbox is worth. -/
noncomputable def Tryz.pinned : Pinned := { name := "ytkmhbofkjcknjaagreat", sum := "4c3a6ac0b9ebe48edda90a5e464f3ad7da7a820589995822884001a3bd8f27f3", checked := Tryz.checked }
namespace Rows
def none {H : Type} : Left H := { results := [], args := [] }

/-- 'laws.FnRow': WHATEVER THE INPUT: true; the input reads as it did. -/
def fnRowSpec : ChangeSpec := { name := "fnRow", fn := fun _ => fun
  | [d] => { results := [.lit (.bool true)], args := [d] }
  | _ => none }
def fnRowRow : OpenClaim := { program := "ytkmhbofkjcknjaagreat", sum := "4c3a6ac0b9ebe48edda90a5e464f3ad7da7a820589995822884001a3bd8f27f3", func := "loop.example/g00196/laws.FnRow", spec := "fnRow", unfollowed := true, recurses := true, apart := false }
def FnRowSaid : Prop := fnRowRow.holds Tryz.pinned (OpenSpec.ofChange fnRowSpec)

/-- ITS FALSE NEIGHBOUR: 'it returns false'. Refute it at one input. -/
def fnRowWrong : ChangeSpec := { name := "fnRow", fn := fun _ => fun
  | [d] => { results := [.lit (.bool false)], args := [d] }
  | _ => none }
def FnRowWrongFalsely : Prop := fnRowRow.holds Tryz.pinned (OpenSpec.ofChange fnRowWrong)

/-- 'laws.FnExactStopOk': WHATEVER THE INPUT: true; the input reads as it did. -/
def fnExactStopOkSpec : ChangeSpec := { name := "fnExactStopOk", fn := fun _ => fun
  | [d1, d2] => { results := [.lit (.bool true)], args := [d1, d2] }
  | _ => none }
def fnExactStopOkRow : OpenClaim := { program := "ytkmhbofkjcknjaagreat", sum := "4c3a6ac0b9ebe48edda90a5e464f3ad7da7a820589995822884001a3bd8f27f3", func := "loop.example/g00196/laws.FnExactStopOk", spec := "fnExactStopOk", unfollowed := true, recurses := true, apart := false }
def FnExactStopOkSaid : Prop := fnExactStopOkRow.holds Tryz.pinned (OpenSpec.ofChange fnExactStopOkSpec)

/-- ITS FALSE NEIGHBOUR: 'it returns false'. Refute it at one input. -/
def fnExactStopOkWrong : ChangeSpec := { name := "fnExactStopOk", fn := fun _ => fun
  | [d1, d2] => { results := [.lit (.bool false)], args := [d1, d2] }
  | _ => none }
def FnExactStopOkWrongFalsely : Prop := fnExactStopOkRow.holds Tryz.pinned (OpenSpec.ofChange fnExactStopOkWrong)

/-- 'laws.FnExactHolds': WHATEVER THE INPUT: true; the input reads as it did. -/
def fnExactHoldsSpec : ChangeSpec := { name := "fnExactHolds", fn := fun _ => fun
  | [d1, d2] => { results := [.lit (.bool true)], args := [d1, d2] }
  | _ => none }
def fnExactHoldsRow : OpenClaim := { program := "ytkmhbofkjcknjaagreat", sum := "4c3a6ac0b9ebe48edda90a5e464f3ad7da7a820589995822884001a3bd8f27f3", func := "loop.example/g00196/laws.FnExactHolds", spec := "fnExactHolds", unfollowed := true, recurses := true, apart := false }
def FnExactHoldsSaid : Prop := fnExactHoldsRow.holds Tryz.pinned (OpenSpec.ofChange fnExactHoldsSpec)

/-- ITS FALSE NEIGHBOUR: 'it returns false'. Refute it at one input. -/
def fnExactHoldsWrong : ChangeSpec := { name := "fnExactHolds", fn := fun _ => fun
  | [d1, d2] => { results := [.lit (.bool false)], args := [d1, d2] }
  | _ => none }
def FnExactHoldsWrongFalsely : Prop := fnExactHoldsRow.holds Tryz.pinned (OpenSpec.ofChange fnExactHoldsWrong)

/-- 'laws.FnExactLast': WHATEVER THE INPUT: true; the input reads as it did. -/
def fnExactLastSpec : ChangeSpec := { name := "fnExactLast", fn := fun _ => fun
  | [d1, d2] => { results := [.lit (.bool true)], args := [d1, d2] }
  | _ => none }
def fnExactLastRow : OpenClaim := { program := "ytkmhbofkjcknjaagreat", sum := "4c3a6ac0b9ebe48edda90a5e464f3ad7da7a820589995822884001a3bd8f27f3", func := "loop.example/g00196/laws.FnExactLast", spec := "fnExactLast", unfollowed := true, recurses := true, apart := false }
def FnExactLastSaid : Prop := fnExactLastRow.holds Tryz.pinned (OpenSpec.ofChange fnExactLastSpec)

/-- ITS FALSE NEIGHBOUR: 'it returns false'. Refute it at one input. -/
def fnExactLastWrong : ChangeSpec := { name := "fnExactLast", fn := fun _ => fun
  | [d1, d2] => { results := [.lit (.bool false)], args := [d1, d2] }
  | _ => none }
def FnExactLastWrongFalsely : Prop := fnExactLastRow.holds Tryz.pinned (OpenSpec.ofChange fnExactLastWrong)

/-- 'laws.FnExactRowOk': WHATEVER THE INPUT: true; the input reads as it did. -/
def fnExactRowOkSpec : ChangeSpec := { name := "fnExactRowOk", fn := fun _ => fun
  | [d1, d2] => { results := [.lit (.bool true)], args := [d1, d2] }
  | _ => none }
def fnExactRowOkRow : OpenClaim := { program := "ytkmhbofkjcknjaagreat", sum := "4c3a6ac0b9ebe48edda90a5e464f3ad7da7a820589995822884001a3bd8f27f3", func := "loop.example/g00196/laws.FnExactRowOk", spec := "fnExactRowOk", unfollowed := true, recurses := true, apart := false }
def FnExactRowOkSaid : Prop := fnExactRowOkRow.holds Tryz.pinned (OpenSpec.ofChange fnExactRowOkSpec)

/-- ITS FALSE NEIGHBOUR: 'it returns false'. Refute it at one input. -/
def fnExactRowOkWrong : ChangeSpec := { name := "fnExactRowOk", fn := fun _ => fun
  | [d1, d2] => { results := [.lit (.bool false)], args := [d1, d2] }
  | _ => none }
def FnExactRowOkWrongFalsely : Prop := fnExactRowOkRow.holds Tryz.pinned (OpenSpec.ofChange fnExactRowOkWrong)

/-- 'laws.FnExactRow': WHATEVER THE INPUT: true; the input reads as it did. -/
def fnExactRowSpec : ChangeSpec := { name := "fnExactRow", fn := fun _ => fun
  | [d] => { results := [.lit (.bool true)], args := [d] }
  | _ => none }
def fnExactRowRow : OpenClaim := { program := "ytkmhbofkjcknjaagreat", sum := "4c3a6ac0b9ebe48edda90a5e464f3ad7da7a820589995822884001a3bd8f27f3", func := "loop.example/g00196/laws.FnExactRow", spec := "fnExactRow", unfollowed := true, recurses := true, apart := false }
def FnExactRowSaid : Prop := fnExactRowRow.holds Tryz.pinned (OpenSpec.ofChange fnExactRowSpec)

/-- ITS FALSE NEIGHBOUR: 'it returns false'. Refute it at one input. -/
def fnExactRowWrong : ChangeSpec := { name := "fnExactRow", fn := fun _ => fun
  | [d] => { results := [.lit (.bool false)], args := [d] }
  | _ => none }
def FnExactRowWrongFalsely : Prop := fnExactRowRow.holds Tryz.pinned (OpenSpec.ofChange fnExactRowWrong)

/-- 'laws.FnExactLiveOk': WHATEVER THE INPUT: true; the input reads as it did. -/
def fnExactLiveOkSpec : ChangeSpec := { name := "fnExactLiveOk", fn := fun _ => fun
  | [d] => { results := [.lit (.bool true)], args := [d] }
  | _ => none }
def fnExactLiveOkRow : OpenClaim := { program := "ytkmhbofkjcknjaagreat", sum := "4c3a6ac0b9ebe48edda90a5e464f3ad7da7a820589995822884001a3bd8f27f3", func := "loop.example/g00196/laws.FnExactLiveOk", spec := "fnExactLiveOk", unfollowed := true, recurses := true, apart := false }
def FnExactLiveOkSaid : Prop := fnExactLiveOkRow.holds Tryz.pinned (OpenSpec.ofChange fnExactLiveOkSpec)

/-- ITS FALSE NEIGHBOUR: 'it returns false'. Refute it at one input. -/
def fnExactLiveOkWrong : ChangeSpec := { name := "fnExactLiveOk", fn := fun _ => fun
  | [d] => { results := [.lit (.bool false)], args := [d] }
  | _ => none }
def FnExactLiveOkWrongFalsely : Prop := fnExactLiveOkRow.holds Tryz.pinned (OpenSpec.ofChange fnExactLiveOkWrong)

/-- 'laws.FnExactShotDone': WHATEVER THE INPUT: true; the input reads as it did. -/
def fnExactShotDoneSpec : ChangeSpec := { name := "fnExactShotDone", fn := fun _ => fun
  | [d] => { results := [.lit (.bool true)], args := [d] }
  | _ => none }
def fnExactShotDoneRow : OpenClaim := { program := "ytkmhbofkjcknjaagreat", sum := "4c3a6ac0b9ebe48edda90a5e464f3ad7da7a820589995822884001a3bd8f27f3", func := "loop.example/g00196/laws.FnExactShotDone", spec := "fnExactShotDone", unfollowed := true, recurses := true, apart := false }
def FnExactShotDoneSaid : Prop := fnExactShotDoneRow.holds Tryz.pinned (OpenSpec.ofChange fnExactShotDoneSpec)

/-- ITS FALSE NEIGHBOUR: 'it returns false'. Refute it at one input. -/
def fnExactShotDoneWrong : ChangeSpec := { name := "fnExactShotDone", fn := fun _ => fun
  | [d] => { results := [.lit (.bool false)], args := [d] }
  | _ => none }
def FnExactShotDoneWrongFalsely : Prop := fnExactShotDoneRow.holds Tryz.pinned (OpenSpec.ofChange fnExactShotDoneWrong)

/-- 'laws.FnExactPack': WHATEVER THE INPUT: true; the input reads as it did. -/
def fnExactPackSpec : ChangeSpec := { name := "fnExactPack", fn := fun _ => fun
  | [d] => { results := [.lit (.bool true)], args := [d] }
  | _ => none }
def fnExactPackRow : OpenClaim := { program := "ytkmhbofkjcknjaagreat", sum := "4c3a6ac0b9ebe48edda90a5e464f3ad7da7a820589995822884001a3bd8f27f3", func := "loop.example/g00196/laws.FnExactPack", spec := "fnExactPack", unfollowed := true, recurses := true, apart := false }
def FnExactPackSaid : Prop := fnExactPackRow.holds Tryz.pinned (OpenSpec.ofChange fnExactPackSpec)

/-- ITS FALSE NEIGHBOUR: 'it returns false'. Refute it at one input. -/
def fnExactPackWrong : ChangeSpec := { name := "fnExactPack", fn := fun _ => fun
  | [d] => { results := [.lit (.bool false)], args := [d] }
  | _ => none }
def FnExactPackWrongFalsely : Prop := fnExactPackRow.holds Tryz.pinned (OpenSpec.ofChange fnExactPackWrong)

/-- 'laws.FnExactUnpack': WHATEVER THE INPUT: true; the input reads as it did. -/
def fnExactUnpackSpec : ChangeSpec := { name := "fnExactUnpack", fn := fun _ => fun
  | [d] => { results := [.lit (.bool true)], args := [d] }
  | _ => none }
def fnExactUnpackRow : OpenClaim := { program := "ytkmhbofkjcknjaagreat", sum := "4c3a6ac0b9ebe48edda90a5e464f3ad7da7a820589995822884001a3bd8f27f3", func := "loop.example/g00196/laws.FnExactUnpack", spec := "fnExactUnpack", unfollowed := true, recurses := true, apart := false }
def FnExactUnpackSaid : Prop := fnExactUnpackRow.holds Tryz.pinned (OpenSpec.ofChange fnExactUnpackSpec)

/-- ITS FALSE NEIGHBOUR: 'it returns false'. Refute it at one input. -/
def fnExactUnpackWrong : ChangeSpec := { name := "fnExactUnpack", fn := fun _ => fun
  | [d] => { results := [.lit (.bool false)], args := [d] }
  | _ => none }
def FnExactUnpackWrongFalsely : Prop := fnExactUnpackRow.holds Tryz.pinned (OpenSpec.ofChange fnExactUnpackWrong)

/-- 'laws.FnExactSwap': WHATEVER THE INPUT: true; the input reads as it did. -/
def fnExactSwapSpec : ChangeSpec := { name := "fnExactSwap", fn := fun _ => fun
  | [d1, d2, d3] => { results := [.lit (.bool true)], args := [d1, d2, d3] }
  | _ => none }
def fnExactSwapRow : OpenClaim := { program := "ytkmhbofkjcknjaagreat", sum := "4c3a6ac0b9ebe48edda90a5e464f3ad7da7a820589995822884001a3bd8f27f3", func := "loop.example/g00196/laws.FnExactSwap", spec := "fnExactSwap", unfollowed := true, recurses := true, apart := false }
def FnExactSwapSaid : Prop := fnExactSwapRow.holds Tryz.pinned (OpenSpec.ofChange fnExactSwapSpec)

/-- ITS FALSE NEIGHBOUR: 'it returns false'. Refute it at one input. -/
def fnExactSwapWrong : ChangeSpec := { name := "fnExactSwap", fn := fun _ => fun
  | [d1, d2, d3] => { results := [.lit (.bool false)], args := [d1, d2, d3] }
  | _ => none }
def FnExactSwapWrongFalsely : Prop := fnExactSwapRow.holds Tryz.pinned (OpenSpec.ofChange fnExactSwapWrong)

/-- 'laws.FnExactUndone': WHATEVER THE INPUT: true; the input reads as it did. -/
def fnExactUndoneSpec : ChangeSpec := { name := "fnExactUndone", fn := fun _ => fun
  | [d1, d2, d3] => { results := [.lit (.bool true)], args := [d1, d2, d3] }
  | _ => none }
def fnExactUndoneRow : OpenClaim := { program := "ytkmhbofkjcknjaagreat", sum := "4c3a6ac0b9ebe48edda90a5e464f3ad7da7a820589995822884001a3bd8f27f3", func := "loop.example/g00196/laws.FnExactUndone", spec := "fnExactUndone", unfollowed := true, recurses := true, apart := false }
def FnExactUndoneSaid : Prop := fnExactUndoneRow.holds Tryz.pinned (OpenSpec.ofChange fnExactUndoneSpec)

/-- ITS FALSE NEIGHBOUR: 'it returns false'. Refute it at one input. -/
def fnExactUndoneWrong : ChangeSpec := { name := "fnExactUndone", fn := fun _ => fun
  | [d1, d2, d3] => { results := [.lit (.bool false)], args := [d1, d2, d3] }
  | _ => none }
def FnExactUndoneWrongFalsely : Prop := fnExactUndoneRow.holds Tryz.pinned (OpenSpec.ofChange fnExactUndoneWrong)

/- THE SECOND FORM. 'bulk': how many values and letters a reading holds, each counted each time it is reached (what is shared counts as often as it is met; a slice's spare places count too). A statement '..UptoSaid' is the law's where the arguments, and the package variables that the reading takes, are together of bulk at most 1048576: NARROWER than '..Said'. Prove '..Said' where nothing that the law and all that it calls make is longer than what came in: it says more and counts as full. Else prove '..UptoSaid'. A law counts once. -/
mutual
def uptoBulk {H : Type} : DataW H → Nat
  | .lit (.string bytes) => bytes.length + 1
  | .lit _ => 1
  | .nil => 1
  | .ptr d => uptoBulk d + 1
  | .slice elems spare => uptoBulkAll elems + uptoBulkAll spare + 1
  | .agg parts => uptoBulkAll parts + 1
  | .iface _ d => uptoBulk d + 1
  | .map entries => uptoBulkEntries entries + 1
  | .held _ => 1
def uptoBulkAll {H : Type} : List (DataW H) → Nat
  | [] => 0
  | d :: r => uptoBulk d + uptoBulkAll r
def uptoBulkEntries {H : Type} : List (Lit × DataW H) → Nat
  | [] => 0
  | x :: r => uptoBulkEntry x + uptoBulkEntries r
def uptoBulkEntry {H : Type} : Lit × DataW H → Nat
  | (.string bytes, d) => bytes.length + uptoBulk d + 1
  | (_, d) => uptoBulk d + 1
 end
def uptoSmall : (H : Type) → List (DataW H) → Bool := fun _ ds => decide (uptoBulkAll ds ≤ 1048576)
def OpenSpec.upto (s : _root_.Go.ChangeSpec) : _root_.Go.OpenSpec := { _root_.Go.OpenSpec.ofChange s with cond := some uptoSmall }

/-- 'laws.FnRow', WHERE WHAT IT READS IS OF BULK AT MOST 1048576: true; the input reads as it did. -/
def fnRowUptoRow : OpenClaim := { program := "ytkmhbofkjcknjaagreat", sum := "4c3a6ac0b9ebe48edda90a5e464f3ad7da7a820589995822884001a3bd8f27f3", func := "loop.example/g00196/laws.FnRow", spec := "fnRow", unfollowed := true, recurses := true, apart := false, narrowed := true }
def FnRowUptoSaid : Prop := fnRowUptoRow.holds Tryz.pinned (OpenSpec.upto fnRowSpec)

/-- 'laws.FnExactStopOk', WHERE WHAT IT READS IS OF BULK AT MOST 1048576: true; the input reads as it did. -/
def fnExactStopOkUptoRow : OpenClaim := { program := "ytkmhbofkjcknjaagreat", sum := "4c3a6ac0b9ebe48edda90a5e464f3ad7da7a820589995822884001a3bd8f27f3", func := "loop.example/g00196/laws.FnExactStopOk", spec := "fnExactStopOk", unfollowed := true, recurses := true, apart := false, narrowed := true }
def FnExactStopOkUptoSaid : Prop := fnExactStopOkUptoRow.holds Tryz.pinned (OpenSpec.upto fnExactStopOkSpec)

/-- 'laws.FnExactHolds', WHERE WHAT IT READS IS OF BULK AT MOST 1048576: true; the input reads as it did. -/
def fnExactHoldsUptoRow : OpenClaim := { program := "ytkmhbofkjcknjaagreat", sum := "4c3a6ac0b9ebe48edda90a5e464f3ad7da7a820589995822884001a3bd8f27f3", func := "loop.example/g00196/laws.FnExactHolds", spec := "fnExactHolds", unfollowed := true, recurses := true, apart := false, narrowed := true }
def FnExactHoldsUptoSaid : Prop := fnExactHoldsUptoRow.holds Tryz.pinned (OpenSpec.upto fnExactHoldsSpec)

/-- 'laws.FnExactLast', WHERE WHAT IT READS IS OF BULK AT MOST 1048576: true; the input reads as it did. -/
def fnExactLastUptoRow : OpenClaim := { program := "ytkmhbofkjcknjaagreat", sum := "4c3a6ac0b9ebe48edda90a5e464f3ad7da7a820589995822884001a3bd8f27f3", func := "loop.example/g00196/laws.FnExactLast", spec := "fnExactLast", unfollowed := true, recurses := true, apart := false, narrowed := true }
def FnExactLastUptoSaid : Prop := fnExactLastUptoRow.holds Tryz.pinned (OpenSpec.upto fnExactLastSpec)

/-- 'laws.FnExactRowOk', WHERE WHAT IT READS IS OF BULK AT MOST 1048576: true; the input reads as it did. -/
def fnExactRowOkUptoRow : OpenClaim := { program := "ytkmhbofkjcknjaagreat", sum := "4c3a6ac0b9ebe48edda90a5e464f3ad7da7a820589995822884001a3bd8f27f3", func := "loop.example/g00196/laws.FnExactRowOk", spec := "fnExactRowOk", unfollowed := true, recurses := true, apart := false, narrowed := true }
def FnExactRowOkUptoSaid : Prop := fnExactRowOkUptoRow.holds Tryz.pinned (OpenSpec.upto fnExactRowOkSpec)

/-- 'laws.FnExactRow', WHERE WHAT IT READS IS OF BULK AT MOST 1048576: true; the input reads as it did. -/
def fnExactRowUptoRow : OpenClaim := { program := "ytkmhbofkjcknjaagreat", sum := "4c3a6ac0b9ebe48edda90a5e464f3ad7da7a820589995822884001a3bd8f27f3", func := "loop.example/g00196/laws.FnExactRow", spec := "fnExactRow", unfollowed := true, recurses := true, apart := false, narrowed := true }
def FnExactRowUptoSaid : Prop := fnExactRowUptoRow.holds Tryz.pinned (OpenSpec.upto fnExactRowSpec)

/-- 'laws.FnExactLiveOk', WHERE WHAT IT READS IS OF BULK AT MOST 1048576: true; the input reads as it did. -/
def fnExactLiveOkUptoRow : OpenClaim := { program := "ytkmhbofkjcknjaagreat", sum := "4c3a6ac0b9ebe48edda90a5e464f3ad7da7a820589995822884001a3bd8f27f3", func := "loop.example/g00196/laws.FnExactLiveOk", spec := "fnExactLiveOk", unfollowed := true, recurses := true, apart := false, narrowed := true }
def FnExactLiveOkUptoSaid : Prop := fnExactLiveOkUptoRow.holds Tryz.pinned (OpenSpec.upto fnExactLiveOkSpec)

/-- 'laws.FnExactShotDone', WHERE WHAT IT READS IS OF BULK AT MOST 1048576: true; the input reads as it did. -/
def fnExactShotDoneUptoRow : OpenClaim := { program := "ytkmhbofkjcknjaagreat", sum := "4c3a6ac0b9ebe48edda90a5e464f3ad7da7a820589995822884001a3bd8f27f3", func := "loop.example/g00196/laws.FnExactShotDone", spec := "fnExactShotDone", unfollowed := true, recurses := true, apart := false, narrowed := true }
def FnExactShotDoneUptoSaid : Prop := fnExactShotDoneUptoRow.holds Tryz.pinned (OpenSpec.upto fnExactShotDoneSpec)

/-- 'laws.FnExactPack', WHERE WHAT IT READS IS OF BULK AT MOST 1048576: true; the input reads as it did. -/
def fnExactPackUptoRow : OpenClaim := { program := "ytkmhbofkjcknjaagreat", sum := "4c3a6ac0b9ebe48edda90a5e464f3ad7da7a820589995822884001a3bd8f27f3", func := "loop.example/g00196/laws.FnExactPack", spec := "fnExactPack", unfollowed := true, recurses := true, apart := false, narrowed := true }
def FnExactPackUptoSaid : Prop := fnExactPackUptoRow.holds Tryz.pinned (OpenSpec.upto fnExactPackSpec)

/-- 'laws.FnExactUnpack', WHERE WHAT IT READS IS OF BULK AT MOST 1048576: true; the input reads as it did. -/
def fnExactUnpackUptoRow : OpenClaim := { program := "ytkmhbofkjcknjaagreat", sum := "4c3a6ac0b9ebe48edda90a5e464f3ad7da7a820589995822884001a3bd8f27f3", func := "loop.example/g00196/laws.FnExactUnpack", spec := "fnExactUnpack", unfollowed := true, recurses := true, apart := false, narrowed := true }
def FnExactUnpackUptoSaid : Prop := fnExactUnpackUptoRow.holds Tryz.pinned (OpenSpec.upto fnExactUnpackSpec)

/-- 'laws.FnExactSwap', WHERE WHAT IT READS IS OF BULK AT MOST 1048576: true; the input reads as it did. -/
def fnExactSwapUptoRow : OpenClaim := { program := "ytkmhbofkjcknjaagreat", sum := "4c3a6ac0b9ebe48edda90a5e464f3ad7da7a820589995822884001a3bd8f27f3", func := "loop.example/g00196/laws.FnExactSwap", spec := "fnExactSwap", unfollowed := true, recurses := true, apart := false, narrowed := true }
def FnExactSwapUptoSaid : Prop := fnExactSwapUptoRow.holds Tryz.pinned (OpenSpec.upto fnExactSwapSpec)

/-- 'laws.FnExactUndone', WHERE WHAT IT READS IS OF BULK AT MOST 1048576: true; the input reads as it did. -/
def fnExactUndoneUptoRow : OpenClaim := { program := "ytkmhbofkjcknjaagreat", sum := "4c3a6ac0b9ebe48edda90a5e464f3ad7da7a820589995822884001a3bd8f27f3", func := "loop.example/g00196/laws.FnExactUndone", spec := "fnExactUndone", unfollowed := true, recurses := true, apart := false, narrowed := true }
def FnExactUndoneUptoSaid : Prop := fnExactUndoneUptoRow.holds Tryz.pinned (OpenSpec.upto fnExactUndoneSpec)

end Rows
end Go.Proofs.YtkmhbofkjcknjaaGreat
