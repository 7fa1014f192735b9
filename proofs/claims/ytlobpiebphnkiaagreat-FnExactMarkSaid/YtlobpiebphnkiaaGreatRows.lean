/-
  No cell of these rows narrows 'for every input' (looked for: loops, veiled, ifaces, maps, wideKeys, modest, calm, conditions, laid).
  DERIVED. THE GIVEN ROWS OF THIS SEAT. 12 by the template 'for every input the law returns true; each argument reads behind the call as it read before'; 0 by the template 'total and deterministic' (their statements: YtlobpiebphnkiaaGreatTotals.lean).
  GIVEN WITH THE SEED: the statements are not yours to turn. If you find one false, say at which input.
  Laid BY PROGRAM, IN A SANDBOX (cutbox-rows.mjs): the forced cells as the released guide's own fill.sh prints them over the translation 10f45437d33ccda4… (all of the seat's roots in one cut). By AI agents, Wed Nov 11 2026. No macro, syntax, notation, axiom, sorry.
-/
import Derived.Test.YtlobpiebphnkiaaGreatChecked
import GoSem.Claim
import GoSem.ClaimJoined
import GoSem.ClaimMapViews
import Derived.JoinedTies
import Derived.KernelRfl
namespace Go.Proofs.YtlobpiebphnkiaaGreat
/- THE CELL 'sum', in the pinned program and in every row, IS THE sha256 OF THE DUMP (.gsa) THAT YtlobpiebphnkiaaGreatProg.lean LOADS. Nothing in Lean hashes anything: it is a label: what it is worth is what the hold of that sum in a sandbox is worth. -/
noncomputable def Tryz.pinned : Pinned := { name := "ytlobpiebphnkiaagreat", sum := "10f45437d33ccda48f19b74880d923bf7f315280811d2558b79a538139f4a448", checked := Tryz.checked }
namespace Rows
def none {H : Type} : Left H := { results := [], args := [] }

/-- 'laws.FnExactLiveOk': WHATEVER THE INPUT: true; the input reads as it did. -/
def fnExactLiveOkSpec : ChangeSpec := { name := "fnExactLiveOk", fn := fun _ => fun
  | [d] => { results := [.lit (.bool true)], args := [d] }
  | _ => none }
def fnExactLiveOkRow : OpenClaim := { program := "ytlobpiebphnkiaagreat", sum := "10f45437d33ccda48f19b74880d923bf7f315280811d2558b79a538139f4a448", func := "loop.example/g00196/laws.FnExactLiveOk", spec := "fnExactLiveOk", unfollowed := true, recurses := true, apart := false }
def FnExactLiveOkSaid : Prop := fnExactLiveOkRow.holds Tryz.pinned (OpenSpec.ofChange fnExactLiveOkSpec)

/-- ITS FALSE NEIGHBOUR: 'it returns false'. Refute it at one input. -/
def fnExactLiveOkWrong : ChangeSpec := { name := "fnExactLiveOk", fn := fun _ => fun
  | [d] => { results := [.lit (.bool false)], args := [d] }
  | _ => none }
def FnExactLiveOkWrongFalsely : Prop := fnExactLiveOkRow.holds Tryz.pinned (OpenSpec.ofChange fnExactLiveOkWrong)

/-- 'laws.FnExactShotDone': WHATEVER THE INPUT: true; the input reads as it did. -/
def fnExactShotDoneSpec : ChangeSpec := { name := "fnExactShotDone", fn := fun _ => fun
  | [d] => { results := [.lit (.bool true)], args := [d] }
  | _ => none }
def fnExactShotDoneRow : OpenClaim := { program := "ytlobpiebphnkiaagreat", sum := "10f45437d33ccda48f19b74880d923bf7f315280811d2558b79a538139f4a448", func := "loop.example/g00196/laws.FnExactShotDone", spec := "fnExactShotDone", unfollowed := true, recurses := true, apart := false }
def FnExactShotDoneSaid : Prop := fnExactShotDoneRow.holds Tryz.pinned (OpenSpec.ofChange fnExactShotDoneSpec)

/-- ITS FALSE NEIGHBOUR: 'it returns false'. Refute it at one input. -/
def fnExactShotDoneWrong : ChangeSpec := { name := "fnExactShotDone", fn := fun _ => fun
  | [d] => { results := [.lit (.bool false)], args := [d] }
  | _ => none }
def FnExactShotDoneWrongFalsely : Prop := fnExactShotDoneRow.holds Tryz.pinned (OpenSpec.ofChange fnExactShotDoneWrong)

/-- 'laws.FnExactUndone': WHATEVER THE INPUT: true; the input reads as it did. -/
def fnExactUndoneSpec : ChangeSpec := { name := "fnExactUndone", fn := fun _ => fun
  | [d1, d2, d3] => { results := [.lit (.bool true)], args := [d1, d2, d3] }
  | _ => none }
def fnExactUndoneRow : OpenClaim := { program := "ytlobpiebphnkiaagreat", sum := "10f45437d33ccda48f19b74880d923bf7f315280811d2558b79a538139f4a448", func := "loop.example/g00196/laws.FnExactUndone", spec := "fnExactUndone", unfollowed := true, recurses := true, apart := false }
def FnExactUndoneSaid : Prop := fnExactUndoneRow.holds Tryz.pinned (OpenSpec.ofChange fnExactUndoneSpec)

/-- ITS FALSE NEIGHBOUR: 'it returns false'. Refute it at one input. -/
def fnExactUndoneWrong : ChangeSpec := { name := "fnExactUndone", fn := fun _ => fun
  | [d1, d2, d3] => { results := [.lit (.bool false)], args := [d1, d2, d3] }
  | _ => none }
def FnExactUndoneWrongFalsely : Prop := fnExactUndoneRow.holds Tryz.pinned (OpenSpec.ofChange fnExactUndoneWrong)

/-- 'laws.FnExactShotNew': WHATEVER THE INPUT: true; the input reads as it did. -/
def fnExactShotNewSpec : ChangeSpec := { name := "fnExactShotNew", fn := fun _ => fun
  | [d] => { results := [.lit (.bool true)], args := [d] }
  | _ => none }
def fnExactShotNewRow : OpenClaim := { program := "ytlobpiebphnkiaagreat", sum := "10f45437d33ccda48f19b74880d923bf7f315280811d2558b79a538139f4a448", func := "loop.example/g00196/laws.FnExactShotNew", spec := "fnExactShotNew", unfollowed := true, recurses := true, apart := false }
def FnExactShotNewSaid : Prop := fnExactShotNewRow.holds Tryz.pinned (OpenSpec.ofChange fnExactShotNewSpec)

/-- ITS FALSE NEIGHBOUR: 'it returns false'. Refute it at one input. -/
def fnExactShotNewWrong : ChangeSpec := { name := "fnExactShotNew", fn := fun _ => fun
  | [d] => { results := [.lit (.bool false)], args := [d] }
  | _ => none }
def FnExactShotNewWrongFalsely : Prop := fnExactShotNewRow.holds Tryz.pinned (OpenSpec.ofChange fnExactShotNewWrong)

/-- 'laws.FnExactBack': WHATEVER THE INPUT: true; the input reads as it did. -/
def fnExactBackSpec : ChangeSpec := { name := "fnExactBack", fn := fun _ => fun
  | [d1, d2, d3] => { results := [.lit (.bool true)], args := [d1, d2, d3] }
  | _ => none }
def fnExactBackRow : OpenClaim := { program := "ytlobpiebphnkiaagreat", sum := "10f45437d33ccda48f19b74880d923bf7f315280811d2558b79a538139f4a448", func := "loop.example/g00196/laws.FnExactBack", spec := "fnExactBack", unfollowed := true, recurses := true, apart := false }
def FnExactBackSaid : Prop := fnExactBackRow.holds Tryz.pinned (OpenSpec.ofChange fnExactBackSpec)

/-- ITS FALSE NEIGHBOUR: 'it returns false'. Refute it at one input. -/
def fnExactBackWrong : ChangeSpec := { name := "fnExactBack", fn := fun _ => fun
  | [d1, d2, d3] => { results := [.lit (.bool false)], args := [d1, d2, d3] }
  | _ => none }
def FnExactBackWrongFalsely : Prop := fnExactBackRow.holds Tryz.pinned (OpenSpec.ofChange fnExactBackWrong)

/-- 'laws.FnExactBackOne': WHATEVER THE INPUT: true; the input reads as it did. -/
def fnExactBackOneSpec : ChangeSpec := { name := "fnExactBackOne", fn := fun _ => fun
  | [d1, d2] => { results := [.lit (.bool true)], args := [d1, d2] }
  | _ => none }
def fnExactBackOneRow : OpenClaim := { program := "ytlobpiebphnkiaagreat", sum := "10f45437d33ccda48f19b74880d923bf7f315280811d2558b79a538139f4a448", func := "loop.example/g00196/laws.FnExactBackOne", spec := "fnExactBackOne", unfollowed := true, recurses := true, apart := false }
def FnExactBackOneSaid : Prop := fnExactBackOneRow.holds Tryz.pinned (OpenSpec.ofChange fnExactBackOneSpec)

/-- ITS FALSE NEIGHBOUR: 'it returns false'. Refute it at one input. -/
def fnExactBackOneWrong : ChangeSpec := { name := "fnExactBackOne", fn := fun _ => fun
  | [d1, d2] => { results := [.lit (.bool false)], args := [d1, d2] }
  | _ => none }
def FnExactBackOneWrongFalsely : Prop := fnExactBackOneRow.holds Tryz.pinned (OpenSpec.ofChange fnExactBackOneWrong)

/-- 'laws.FnExactUntil': WHATEVER THE INPUT: true; the input reads as it did. -/
def fnExactUntilSpec : ChangeSpec := { name := "fnExactUntil", fn := fun _ => fun
  | [d1, d2, d3] => { results := [.lit (.bool true)], args := [d1, d2, d3] }
  | _ => none }
def fnExactUntilRow : OpenClaim := { program := "ytlobpiebphnkiaagreat", sum := "10f45437d33ccda48f19b74880d923bf7f315280811d2558b79a538139f4a448", func := "loop.example/g00196/laws.FnExactUntil", spec := "fnExactUntil", unfollowed := true, recurses := true, apart := false }
def FnExactUntilSaid : Prop := fnExactUntilRow.holds Tryz.pinned (OpenSpec.ofChange fnExactUntilSpec)

/-- ITS FALSE NEIGHBOUR: 'it returns false'. Refute it at one input. -/
def fnExactUntilWrong : ChangeSpec := { name := "fnExactUntil", fn := fun _ => fun
  | [d1, d2, d3] => { results := [.lit (.bool false)], args := [d1, d2, d3] }
  | _ => none }
def FnExactUntilWrongFalsely : Prop := fnExactUntilRow.holds Tryz.pinned (OpenSpec.ofChange fnExactUntilWrong)

/-- 'laws.FnExactRedo': WHATEVER THE INPUT: true; the input reads as it did. -/
def fnExactRedoSpec : ChangeSpec := { name := "fnExactRedo", fn := fun _ => fun
  | [d1, d2] => { results := [.lit (.bool true)], args := [d1, d2] }
  | _ => none }
def fnExactRedoRow : OpenClaim := { program := "ytlobpiebphnkiaagreat", sum := "10f45437d33ccda48f19b74880d923bf7f315280811d2558b79a538139f4a448", func := "loop.example/g00196/laws.FnExactRedo", spec := "fnExactRedo", unfollowed := true, recurses := true, apart := false }
def FnExactRedoSaid : Prop := fnExactRedoRow.holds Tryz.pinned (OpenSpec.ofChange fnExactRedoSpec)

/-- ITS FALSE NEIGHBOUR: 'it returns false'. Refute it at one input. -/
def fnExactRedoWrong : ChangeSpec := { name := "fnExactRedo", fn := fun _ => fun
  | [d1, d2] => { results := [.lit (.bool false)], args := [d1, d2] }
  | _ => none }
def FnExactRedoWrongFalsely : Prop := fnExactRedoRow.holds Tryz.pinned (OpenSpec.ofChange fnExactRedoWrong)

/-- 'laws.FnExactBegin': WHATEVER THE INPUT: true; the input reads as it did. -/
def fnExactBeginSpec : ChangeSpec := { name := "fnExactBegin", fn := fun _ => fun
  | [d1, d2] => { results := [.lit (.bool true)], args := [d1, d2] }
  | _ => none }
def fnExactBeginRow : OpenClaim := { program := "ytlobpiebphnkiaagreat", sum := "10f45437d33ccda48f19b74880d923bf7f315280811d2558b79a538139f4a448", func := "loop.example/g00196/laws.FnExactBegin", spec := "fnExactBegin", unfollowed := true, recurses := true, apart := false }
def FnExactBeginSaid : Prop := fnExactBeginRow.holds Tryz.pinned (OpenSpec.ofChange fnExactBeginSpec)

/-- ITS FALSE NEIGHBOUR: 'it returns false'. Refute it at one input. -/
def fnExactBeginWrong : ChangeSpec := { name := "fnExactBegin", fn := fun _ => fun
  | [d1, d2] => { results := [.lit (.bool false)], args := [d1, d2] }
  | _ => none }
def FnExactBeginWrongFalsely : Prop := fnExactBeginRow.holds Tryz.pinned (OpenSpec.ofChange fnExactBeginWrong)

/-- 'laws.FnExactMark': WHATEVER THE INPUT: true; the input reads as it did. -/
def fnExactMarkSpec : ChangeSpec := { name := "fnExactMark", fn := fun _ => fun
  | [d1, d2, d3] => { results := [.lit (.bool true)], args := [d1, d2, d3] }
  | _ => none }
def fnExactMarkRow : OpenClaim := { program := "ytlobpiebphnkiaagreat", sum := "10f45437d33ccda48f19b74880d923bf7f315280811d2558b79a538139f4a448", func := "loop.example/g00196/laws.FnExactMark", spec := "fnExactMark", unfollowed := true, recurses := true, apart := false }
def FnExactMarkSaid : Prop := fnExactMarkRow.holds Tryz.pinned (OpenSpec.ofChange fnExactMarkSpec)

/-- ITS FALSE NEIGHBOUR: 'it returns false'. Refute it at one input. -/
def fnExactMarkWrong : ChangeSpec := { name := "fnExactMark", fn := fun _ => fun
  | [d1, d2, d3] => { results := [.lit (.bool false)], args := [d1, d2, d3] }
  | _ => none }
def FnExactMarkWrongFalsely : Prop := fnExactMarkRow.holds Tryz.pinned (OpenSpec.ofChange fnExactMarkWrong)

/-- 'laws.FnExactPicture': WHATEVER THE INPUT: true; the input reads as it did. -/
def fnExactPictureSpec : ChangeSpec := { name := "fnExactPicture", fn := fun _ => fun
  | [d] => { results := [.lit (.bool true)], args := [d] }
  | _ => none }
def fnExactPictureRow : OpenClaim := { program := "ytlobpiebphnkiaagreat", sum := "10f45437d33ccda48f19b74880d923bf7f315280811d2558b79a538139f4a448", func := "loop.example/g00196/laws.FnExactPicture", spec := "fnExactPicture", unfollowed := true, recurses := true, apart := false }
def FnExactPictureSaid : Prop := fnExactPictureRow.holds Tryz.pinned (OpenSpec.ofChange fnExactPictureSpec)

/-- ITS FALSE NEIGHBOUR: 'it returns false'. Refute it at one input. -/
def fnExactPictureWrong : ChangeSpec := { name := "fnExactPicture", fn := fun _ => fun
  | [d] => { results := [.lit (.bool false)], args := [d] }
  | _ => none }
def FnExactPictureWrongFalsely : Prop := fnExactPictureRow.holds Tryz.pinned (OpenSpec.ofChange fnExactPictureWrong)

/-- 'laws.FnExactLiveStep': WHATEVER THE INPUT: true; the input reads as it did. -/
def fnExactLiveStepSpec : ChangeSpec := { name := "fnExactLiveStep", fn := fun _ => fun
  | [d1, d2, d3] => { results := [.lit (.bool true)], args := [d1, d2, d3] }
  | _ => none }
def fnExactLiveStepRow : OpenClaim := { program := "ytlobpiebphnkiaagreat", sum := "10f45437d33ccda48f19b74880d923bf7f315280811d2558b79a538139f4a448", func := "loop.example/g00196/laws.FnExactLiveStep", spec := "fnExactLiveStep", unfollowed := true, recurses := true, apart := false }
def FnExactLiveStepSaid : Prop := fnExactLiveStepRow.holds Tryz.pinned (OpenSpec.ofChange fnExactLiveStepSpec)

/-- ITS FALSE NEIGHBOUR: 'it returns false'. Refute it at one input. -/
def fnExactLiveStepWrong : ChangeSpec := { name := "fnExactLiveStep", fn := fun _ => fun
  | [d1, d2, d3] => { results := [.lit (.bool false)], args := [d1, d2, d3] }
  | _ => none }
def FnExactLiveStepWrongFalsely : Prop := fnExactLiveStepRow.holds Tryz.pinned (OpenSpec.ofChange fnExactLiveStepWrong)

/- THE SECOND FORM. 'bulk': how many values and letters a reading holds, each counted each time it is reached (what is shared counts as often as it is met; a slice's spare places count too). A statement '..UptoSaid' is the law's where the arguments, and the package variables that the reading takes, are together of bulk at most 1048576: NARROWER than '..Said'. Prove '..Said' where nothing that the law and all that it calls make is longer than what came in: it says more and counts as full. Else prove '..UptoSaid'. A law counts once. -/
mutual
def uptoBulk {H : Type} : DataW H → Nat
  | .lit (.string bytes) => bytes.length + 1
  | .lit _ => 1
  | .nil => 1
  | .ptr d => uptoBulk d + 1
  | .slice elems spare => uptoBulkAll elems + uptoBulkAll spare + 1
  | .agg parts => uptoBulkAll parts + 1
  | .iface _ d => uptoBulk d + 1
  | .map entries => uptoBulkEntries entries + 1
  | .held _ => 1
def uptoBulkAll {H : Type} : List (DataW H) → Nat
  | [] => 0
  | d :: r => uptoBulk d + uptoBulkAll r
def uptoBulkEntries {H : Type} : List (Lit × DataW H) → Nat
  | [] => 0
  | x :: r => uptoBulkEntry x + uptoBulkEntries r
def uptoBulkEntry {H : Type} : Lit × DataW H → Nat
  | (.string bytes, d) => bytes.length + uptoBulk d + 1
  | (_, d) => uptoBulk d + 1
 end
def uptoSmall : (H : Type) → List (DataW H) → Bool := fun _ ds => decide (uptoBulkAll ds ≤ 1048576)
def OpenSpec.upto (s : _root_.Go.ChangeSpec) : _root_.Go.OpenSpec := { _root_.Go.OpenSpec.ofChange s with cond := some uptoSmall }

/-- 'laws.FnExactLiveOk', WHERE WHAT IT READS IS OF BULK AT MOST 1048576: true; the input reads as it did. -/
def fnExactLiveOkUptoRow : OpenClaim := { program := "ytlobpiebphnkiaagreat", sum := "10f45437d33ccda48f19b74880d923bf7f315280811d2558b79a538139f4a448", func := "loop.example/g00196/laws.FnExactLiveOk", spec := "fnExactLiveOk", unfollowed := true, recurses := true, apart := false, narrowed := true }
def FnExactLiveOkUptoSaid : Prop := fnExactLiveOkUptoRow.holds Tryz.pinned (OpenSpec.upto fnExactLiveOkSpec)

/-- 'laws.FnExactShotDone', WHERE WHAT IT READS IS OF BULK AT MOST 1048576: true; the input reads as it did. -/
def fnExactShotDoneUptoRow : OpenClaim := { program := "ytlobpiebphnkiaagreat", sum := "10f45437d33ccda48f19b74880d923bf7f315280811d2558b79a538139f4a448", func := "loop.example/g00196/laws.FnExactShotDone", spec := "fnExactShotDone", unfollowed := true, recurses := true, apart := false, narrowed := true }
def FnExactShotDoneUptoSaid : Prop := fnExactShotDoneUptoRow.holds Tryz.pinned (OpenSpec.upto fnExactShotDoneSpec)

/-- 'laws.FnExactUndone', WHERE WHAT IT READS IS OF BULK AT MOST 1048576: true; the input reads as it did. -/
def fnExactUndoneUptoRow : OpenClaim := { program := "ytlobpiebphnkiaagreat", sum := "10f45437d33ccda48f19b74880d923bf7f315280811d2558b79a538139f4a448", func := "loop.example/g00196/laws.FnExactUndone", spec := "fnExactUndone", unfollowed := true, recurses := true, apart := false, narrowed := true }
def FnExactUndoneUptoSaid : Prop := fnExactUndoneUptoRow.holds Tryz.pinned (OpenSpec.upto fnExactUndoneSpec)

/-- 'laws.FnExactShotNew', WHERE WHAT IT READS IS OF BULK AT MOST 1048576: true; the input reads as it did. -/
def fnExactShotNewUptoRow : OpenClaim := { program := "ytlobpiebphnkiaagreat", sum := "10f45437d33ccda48f19b74880d923bf7f315280811d2558b79a538139f4a448", func := "loop.example/g00196/laws.FnExactShotNew", spec := "fnExactShotNew", unfollowed := true, recurses := true, apart := false, narrowed := true }
def FnExactShotNewUptoSaid : Prop := fnExactShotNewUptoRow.holds Tryz.pinned (OpenSpec.upto fnExactShotNewSpec)

/-- 'laws.FnExactBack', WHERE WHAT IT READS IS OF BULK AT MOST 1048576: true; the input reads as it did. -/
def fnExactBackUptoRow : OpenClaim := { program := "ytlobpiebphnkiaagreat", sum := "10f45437d33ccda48f19b74880d923bf7f315280811d2558b79a538139f4a448", func := "loop.example/g00196/laws.FnExactBack", spec := "fnExactBack", unfollowed := true, recurses := true, apart := false, narrowed := true }
def FnExactBackUptoSaid : Prop := fnExactBackUptoRow.holds Tryz.pinned (OpenSpec.upto fnExactBackSpec)

/-- 'laws.FnExactBackOne', WHERE WHAT IT READS IS OF BULK AT MOST 1048576: true; the input reads as it did. -/
def fnExactBackOneUptoRow : OpenClaim := { program := "ytlobpiebphnkiaagreat", sum := "10f45437d33ccda48f19b74880d923bf7f315280811d2558b79a538139f4a448", func := "loop.example/g00196/laws.FnExactBackOne", spec := "fnExactBackOne", unfollowed := true, recurses := true, apart := false, narrowed := true }
def FnExactBackOneUptoSaid : Prop := fnExactBackOneUptoRow.holds Tryz.pinned (OpenSpec.upto fnExactBackOneSpec)

/-- 'laws.FnExactUntil', WHERE WHAT IT READS IS OF BULK AT MOST 1048576: true; the input reads as it did. -/
def fnExactUntilUptoRow : OpenClaim := { program := "ytlobpiebphnkiaagreat", sum := "10f45437d33ccda48f19b74880d923bf7f315280811d2558b79a538139f4a448", func := "loop.example/g00196/laws.FnExactUntil", spec := "fnExactUntil", unfollowed := true, recurses := true, apart := false, narrowed := true }
def FnExactUntilUptoSaid : Prop := fnExactUntilUptoRow.holds Tryz.pinned (OpenSpec.upto fnExactUntilSpec)

/-- 'laws.FnExactRedo', WHERE WHAT IT READS IS OF BULK AT MOST 1048576: true; the input reads as it did. -/
def fnExactRedoUptoRow : OpenClaim := { program := "ytlobpiebphnkiaagreat", sum := "10f45437d33ccda48f19b74880d923bf7f315280811d2558b79a538139f4a448", func := "loop.example/g00196/laws.FnExactRedo", spec := "fnExactRedo", unfollowed := true, recurses := true, apart := false, narrowed := true }
def FnExactRedoUptoSaid : Prop := fnExactRedoUptoRow.holds Tryz.pinned (OpenSpec.upto fnExactRedoSpec)

/-- 'laws.FnExactBegin', WHERE WHAT IT READS IS OF BULK AT MOST 1048576: true; the input reads as it did. -/
def fnExactBeginUptoRow : OpenClaim := { program := "ytlobpiebphnkiaagreat", sum := "10f45437d33ccda48f19b74880d923bf7f315280811d2558b79a538139f4a448", func := "loop.example/g00196/laws.FnExactBegin", spec := "fnExactBegin", unfollowed := true, recurses := true, apart := false, narrowed := true }
def FnExactBeginUptoSaid : Prop := fnExactBeginUptoRow.holds Tryz.pinned (OpenSpec.upto fnExactBeginSpec)

/-- 'laws.FnExactMark', WHERE WHAT IT READS IS OF BULK AT MOST 1048576: true; the input reads as it did. -/
def fnExactMarkUptoRow : OpenClaim := { program := "ytlobpiebphnkiaagreat", sum := "10f45437d33ccda48f19b74880d923bf7f315280811d2558b79a538139f4a448", func := "loop.example/g00196/laws.FnExactMark", spec := "fnExactMark", unfollowed := true, recurses := true, apart := false, narrowed := true }
def FnExactMarkUptoSaid : Prop := fnExactMarkUptoRow.holds Tryz.pinned (OpenSpec.upto fnExactMarkSpec)

/-- 'laws.FnExactPicture', WHERE WHAT IT READS IS OF BULK AT MOST 1048576: true; the input reads as it did. -/
def fnExactPictureUptoRow : OpenClaim := { program := "ytlobpiebphnkiaagreat", sum := "10f45437d33ccda48f19b74880d923bf7f315280811d2558b79a538139f4a448", func := "loop.example/g00196/laws.FnExactPicture", spec := "fnExactPicture", unfollowed := true, recurses := true, apart := false, narrowed := true }
def FnExactPictureUptoSaid : Prop := fnExactPictureUptoRow.holds Tryz.pinned (OpenSpec.upto fnExactPictureSpec)

/-- 'laws.FnExactLiveStep', WHERE WHAT IT READS IS OF BULK AT MOST 1048576: true; the input reads as it did. -/
def fnExactLiveStepUptoRow : OpenClaim := { program := "ytlobpiebphnkiaagreat", sum := "10f45437d33ccda48f19b74880d923bf7f315280811d2558b79a538139f4a448", func := "loop.example/g00196/laws.FnExactLiveStep", spec := "fnExactLiveStep", unfollowed := true, recurses := true, apart := false, narrowed := true }
def FnExactLiveStepUptoSaid : Prop := fnExactLiveStepUptoRow.holds Tryz.pinned (OpenSpec.upto fnExactLiveStepSpec)

end Rows
end Go.Proofs.YtlobpiebphnkiaaGreat
