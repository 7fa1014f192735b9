/-
  No cell of these rows narrows 'for every input' (looked for: loops, veiled, ifaces, maps, wideKeys, modest, calm, conditions, laid).
  DERIVED. THE GIVEN ROWS OF THIS SEAT. 12 by the template 'for every input the law returns true; each argument reads behind the call as it read before'; 0 by the template 'total and deterministic' (their statements: YtipfcgbhaalcdaaGreatTotals.lean).
  GIVEN WITH THE SEED: the statements are not yours to turn. If you find one false, say at which input.
  Laid BY PROGRAM, IN A SANDBOX (cutbox-rows.mjs): the forced cells as the released guide's own fill.sh prints them over the translation 7d196367a4f47b92… (all of the seat's roots in one cut). By AI agents, Wed Nov 11 2026. No macro, syntax, notation, axiom, sorry.
-/
import Derived.Test.YtipfcgbhaalcdaaGreatChecked
import GoSem.Claim
import GoSem.ClaimJoined
import GoSem.ClaimMapViews
import Derived.JoinedTies
import Derived.KernelRfl
namespace Go.Proofs.YtipfcgbhaalcdaaGreat
/- THE CELL 'sum', in the pinned program and in every row, IS THE sha256 OF THE DUMP (.gsa) THAT YtipfcgbhaalcdaaGreatProg.lean LOADS. Nothing in Lean hashes anything: it is a label: what it is worth is what the hold of that sum in a sandbox is worth. -/
noncomputable def Tryz.pinned : Pinned := { name := "ytipfcgbhaalcdaagreat", sum := "7d196367a4f47b9208589645f33f561ddf5557385fa64854e95704431f17610b", checked := Tryz.checked }
namespace Rows
def none {H : Type} : Left H := { results := [], args := [] }

/-- 'laws.FnBack': WHATEVER THE INPUT: true; the input reads as it did. -/
def fnBackSpec : ChangeSpec := { name := "fnBack", fn := fun _ => fun
  | [d] => { results := [.lit (.bool true)], args := [d] }
  | _ => none }
def fnBackRow : OpenClaim := { program := "ytipfcgbhaalcdaagreat", sum := "7d196367a4f47b9208589645f33f561ddf5557385fa64854e95704431f17610b", func := "loop.example/g00196/laws.FnBack", spec := "fnBack", unfollowed := true, recurses := true, apart := false }
def FnBackSaid : Prop := fnBackRow.holds Tryz.pinned (OpenSpec.ofChange fnBackSpec)

/-- ITS FALSE NEIGHBOUR: 'it returns false'. Refute it at one input. -/
def fnBackWrong : ChangeSpec := { name := "fnBack", fn := fun _ => fun
  | [d] => { results := [.lit (.bool false)], args := [d] }
  | _ => none }
def FnBackWrongFalsely : Prop := fnBackRow.holds Tryz.pinned (OpenSpec.ofChange fnBackWrong)

/-- 'laws.FnPicture': WHATEVER THE INPUT: true; the input reads as it did. -/
def fnPictureSpec : ChangeSpec := { name := "fnPicture", fn := fun _ => fun
  | [d] => { results := [.lit (.bool true)], args := [d] }
  | _ => none }
def fnPictureRow : OpenClaim := { program := "ytipfcgbhaalcdaagreat", sum := "7d196367a4f47b9208589645f33f561ddf5557385fa64854e95704431f17610b", func := "loop.example/g00196/laws.FnPicture", spec := "fnPicture", unfollowed := true, recurses := true, apart := false }
def FnPictureSaid : Prop := fnPictureRow.holds Tryz.pinned (OpenSpec.ofChange fnPictureSpec)

/-- ITS FALSE NEIGHBOUR: 'it returns false'. Refute it at one input. -/
def fnPictureWrong : ChangeSpec := { name := "fnPicture", fn := fun _ => fun
  | [d] => { results := [.lit (.bool false)], args := [d] }
  | _ => none }
def FnPictureWrongFalsely : Prop := fnPictureRow.holds Tryz.pinned (OpenSpec.ofChange fnPictureWrong)

/-- 'laws.FnSwapped': WHATEVER THE INPUT: true; the input reads as it did. -/
def fnSwappedSpec : ChangeSpec := { name := "fnSwapped", fn := fun _ => fun
  | [d] => { results := [.lit (.bool true)], args := [d] }
  | _ => none }
def fnSwappedRow : OpenClaim := { program := "ytipfcgbhaalcdaagreat", sum := "7d196367a4f47b9208589645f33f561ddf5557385fa64854e95704431f17610b", func := "loop.example/g00196/laws.FnSwapped", spec := "fnSwapped", unfollowed := true, recurses := true, apart := false }
def FnSwappedSaid : Prop := fnSwappedRow.holds Tryz.pinned (OpenSpec.ofChange fnSwappedSpec)

/-- ITS FALSE NEIGHBOUR: 'it returns false'. Refute it at one input. -/
def fnSwappedWrong : ChangeSpec := { name := "fnSwapped", fn := fun _ => fun
  | [d] => { results := [.lit (.bool false)], args := [d] }
  | _ => none }
def FnSwappedWrongFalsely : Prop := fnSwappedRow.holds Tryz.pinned (OpenSpec.ofChange fnSwappedWrong)

/-- 'laws.FnExactPack': WHATEVER THE INPUT: true; the input reads as it did. -/
def fnExactPackSpec : ChangeSpec := { name := "fnExactPack", fn := fun _ => fun
  | [d] => { results := [.lit (.bool true)], args := [d] }
  | _ => none }
def fnExactPackRow : OpenClaim := { program := "ytipfcgbhaalcdaagreat", sum := "7d196367a4f47b9208589645f33f561ddf5557385fa64854e95704431f17610b", func := "loop.example/g00196/laws.FnExactPack", spec := "fnExactPack", unfollowed := true, recurses := true, apart := false }
def FnExactPackSaid : Prop := fnExactPackRow.holds Tryz.pinned (OpenSpec.ofChange fnExactPackSpec)

/-- ITS FALSE NEIGHBOUR: 'it returns false'. Refute it at one input. -/
def fnExactPackWrong : ChangeSpec := { name := "fnExactPack", fn := fun _ => fun
  | [d] => { results := [.lit (.bool false)], args := [d] }
  | _ => none }
def FnExactPackWrongFalsely : Prop := fnExactPackRow.holds Tryz.pinned (OpenSpec.ofChange fnExactPackWrong)

/-- 'laws.FnBegin': WHATEVER THE INPUT: true; the input reads as it did. -/
def fnBeginSpec : ChangeSpec := { name := "fnBegin", fn := fun _ => fun
  | [d] => { results := [.lit (.bool true)], args := [d] }
  | _ => none }
def fnBeginRow : OpenClaim := { program := "ytipfcgbhaalcdaagreat", sum := "7d196367a4f47b9208589645f33f561ddf5557385fa64854e95704431f17610b", func := "loop.example/g00196/laws.FnBegin", spec := "fnBegin", unfollowed := true, recurses := true, apart := false }
def FnBeginSaid : Prop := fnBeginRow.holds Tryz.pinned (OpenSpec.ofChange fnBeginSpec)

/-- ITS FALSE NEIGHBOUR: 'it returns false'. Refute it at one input. -/
def fnBeginWrong : ChangeSpec := { name := "fnBegin", fn := fun _ => fun
  | [d] => { results := [.lit (.bool false)], args := [d] }
  | _ => none }
def FnBeginWrongFalsely : Prop := fnBeginRow.holds Tryz.pinned (OpenSpec.ofChange fnBeginWrong)

/-- 'laws.FnMark': WHATEVER THE INPUT: true; the input reads as it did. -/
def fnMarkSpec : ChangeSpec := { name := "fnMark", fn := fun _ => fun
  | [d] => { results := [.lit (.bool true)], args := [d] }
  | _ => none }
def fnMarkRow : OpenClaim := { program := "ytipfcgbhaalcdaagreat", sum := "7d196367a4f47b9208589645f33f561ddf5557385fa64854e95704431f17610b", func := "loop.example/g00196/laws.FnMark", spec := "fnMark", unfollowed := true, recurses := true, apart := false }
def FnMarkSaid : Prop := fnMarkRow.holds Tryz.pinned (OpenSpec.ofChange fnMarkSpec)

/-- ITS FALSE NEIGHBOUR: 'it returns false'. Refute it at one input. -/
def fnMarkWrong : ChangeSpec := { name := "fnMark", fn := fun _ => fun
  | [d] => { results := [.lit (.bool false)], args := [d] }
  | _ => none }
def FnMarkWrongFalsely : Prop := fnMarkRow.holds Tryz.pinned (OpenSpec.ofChange fnMarkWrong)

/-- 'laws.FnLiveStep': WHATEVER THE INPUT: true; the input reads as it did. -/
def fnLiveStepSpec : ChangeSpec := { name := "fnLiveStep", fn := fun _ => fun
  | [d] => { results := [.lit (.bool true)], args := [d] }
  | _ => none }
def fnLiveStepRow : OpenClaim := { program := "ytipfcgbhaalcdaagreat", sum := "7d196367a4f47b9208589645f33f561ddf5557385fa64854e95704431f17610b", func := "loop.example/g00196/laws.FnLiveStep", spec := "fnLiveStep", unfollowed := true, recurses := true, apart := false }
def FnLiveStepSaid : Prop := fnLiveStepRow.holds Tryz.pinned (OpenSpec.ofChange fnLiveStepSpec)

/-- ITS FALSE NEIGHBOUR: 'it returns false'. Refute it at one input. -/
def fnLiveStepWrong : ChangeSpec := { name := "fnLiveStep", fn := fun _ => fun
  | [d] => { results := [.lit (.bool false)], args := [d] }
  | _ => none }
def FnLiveStepWrongFalsely : Prop := fnLiveStepRow.holds Tryz.pinned (OpenSpec.ofChange fnLiveStepWrong)

/-- 'laws.FnPacked': WHATEVER THE INPUT: true; the input reads as it did. -/
def fnPackedSpec : ChangeSpec := { name := "fnPacked", fn := fun _ => fun
  | [d] => { results := [.lit (.bool true)], args := [d] }
  | _ => none }
def fnPackedRow : OpenClaim := { program := "ytipfcgbhaalcdaagreat", sum := "7d196367a4f47b9208589645f33f561ddf5557385fa64854e95704431f17610b", func := "loop.example/g00196/laws.FnPacked", spec := "fnPacked", unfollowed := true, recurses := true, apart := false }
def FnPackedSaid : Prop := fnPackedRow.holds Tryz.pinned (OpenSpec.ofChange fnPackedSpec)

/-- ITS FALSE NEIGHBOUR: 'it returns false'. Refute it at one input. -/
def fnPackedWrong : ChangeSpec := { name := "fnPacked", fn := fun _ => fun
  | [d] => { results := [.lit (.bool false)], args := [d] }
  | _ => none }
def FnPackedWrongFalsely : Prop := fnPackedRow.holds Tryz.pinned (OpenSpec.ofChange fnPackedWrong)

/-- 'laws.FnExactUnpack': WHATEVER THE INPUT: true; the input reads as it did. -/
def fnExactUnpackSpec : ChangeSpec := { name := "fnExactUnpack", fn := fun _ => fun
  | [d] => { results := [.lit (.bool true)], args := [d] }
  | _ => none }
def fnExactUnpackRow : OpenClaim := { program := "ytipfcgbhaalcdaagreat", sum := "7d196367a4f47b9208589645f33f561ddf5557385fa64854e95704431f17610b", func := "loop.example/g00196/laws.FnExactUnpack", spec := "fnExactUnpack", unfollowed := true, recurses := true, apart := false }
def FnExactUnpackSaid : Prop := fnExactUnpackRow.holds Tryz.pinned (OpenSpec.ofChange fnExactUnpackSpec)

/-- ITS FALSE NEIGHBOUR: 'it returns false'. Refute it at one input. -/
def fnExactUnpackWrong : ChangeSpec := { name := "fnExactUnpack", fn := fun _ => fun
  | [d] => { results := [.lit (.bool false)], args := [d] }
  | _ => none }
def FnExactUnpackWrongFalsely : Prop := fnExactUnpackRow.holds Tryz.pinned (OpenSpec.ofChange fnExactUnpackWrong)

/-- 'laws.FnExactSwap': WHATEVER THE INPUT: true; the input reads as it did. -/
def fnExactSwapSpec : ChangeSpec := { name := "fnExactSwap", fn := fun _ => fun
  | [d1, d2, d3] => { results := [.lit (.bool true)], args := [d1, d2, d3] }
  | _ => none }
def fnExactSwapRow : OpenClaim := { program := "ytipfcgbhaalcdaagreat", sum := "7d196367a4f47b9208589645f33f561ddf5557385fa64854e95704431f17610b", func := "loop.example/g00196/laws.FnExactSwap", spec := "fnExactSwap", unfollowed := true, recurses := true, apart := false }
def FnExactSwapSaid : Prop := fnExactSwapRow.holds Tryz.pinned (OpenSpec.ofChange fnExactSwapSpec)

/-- ITS FALSE NEIGHBOUR: 'it returns false'. Refute it at one input. -/
def fnExactSwapWrong : ChangeSpec := { name := "fnExactSwap", fn := fun _ => fun
  | [d1, d2, d3] => { results := [.lit (.bool false)], args := [d1, d2, d3] }
  | _ => none }
def FnExactSwapWrongFalsely : Prop := fnExactSwapRow.holds Tryz.pinned (OpenSpec.ofChange fnExactSwapWrong)

/-- 'laws.FnExactShotNew': WHATEVER THE INPUT: true; the input reads as it did. -/
def fnExactShotNewSpec : ChangeSpec := { name := "fnExactShotNew", fn := fun _ => fun
  | [d] => { results := [.lit (.bool true)], args := [d] }
  | _ => none }
def fnExactShotNewRow : OpenClaim := { program := "ytipfcgbhaalcdaagreat", sum := "7d196367a4f47b9208589645f33f561ddf5557385fa64854e95704431f17610b", func := "loop.example/g00196/laws.FnExactShotNew", spec := "fnExactShotNew", unfollowed := true, recurses := true, apart := false }
def FnExactShotNewSaid : Prop := fnExactShotNewRow.holds Tryz.pinned (OpenSpec.ofChange fnExactShotNewSpec)

/-- ITS FALSE NEIGHBOUR: 'it returns false'. Refute it at one input. -/
def fnExactShotNewWrong : ChangeSpec := { name := "fnExactShotNew", fn := fun _ => fun
  | [d] => { results := [.lit (.bool false)], args := [d] }
  | _ => none }
def FnExactShotNewWrongFalsely : Prop := fnExactShotNewRow.holds Tryz.pinned (OpenSpec.ofChange fnExactShotNewWrong)

/-- 'laws.FnShot': WHATEVER THE INPUT: true; the input reads as it did. -/
def fnShotSpec : ChangeSpec := { name := "fnShot", fn := fun _ => fun
  | [d] => { results := [.lit (.bool true)], args := [d] }
  | _ => none }
def fnShotRow : OpenClaim := { program := "ytipfcgbhaalcdaagreat", sum := "7d196367a4f47b9208589645f33f561ddf5557385fa64854e95704431f17610b", func := "loop.example/g00196/laws.FnShot", spec := "fnShot", unfollowed := true, recurses := true, apart := false }
def FnShotSaid : Prop := fnShotRow.holds Tryz.pinned (OpenSpec.ofChange fnShotSpec)

/-- ITS FALSE NEIGHBOUR: 'it returns false'. Refute it at one input. -/
def fnShotWrong : ChangeSpec := { name := "fnShot", fn := fun _ => fun
  | [d] => { results := [.lit (.bool false)], args := [d] }
  | _ => none }
def FnShotWrongFalsely : Prop := fnShotRow.holds Tryz.pinned (OpenSpec.ofChange fnShotWrong)

/- THE SECOND FORM. 'bulk': how many values and letters a reading holds, each counted each time it is reached (what is shared counts as often as it is met; a slice's spare places count too). A statement '..UptoSaid' is the law's where the arguments, and the package variables that the reading takes, are together of bulk at most 1048576: NARROWER than '..Said'. Prove '..Said' where nothing that the law and all that it calls make is longer than what came in: it says more and counts as full. Else prove '..UptoSaid'. A law counts once. -/
mutual
def uptoBulk {H : Type} : DataW H → Nat
  | .lit (.string bytes) => bytes.length + 1
  | .lit _ => 1
  | .nil => 1
  | .ptr d => uptoBulk d + 1
  | .slice elems spare => uptoBulkAll elems + uptoBulkAll spare + 1
  | .agg parts => uptoBulkAll parts + 1
  | .iface _ d => uptoBulk d + 1
  | .map entries => uptoBulkEntries entries + 1
  | .held _ => 1
def uptoBulkAll {H : Type} : List (DataW H) → Nat
  | [] => 0
  | d :: r => uptoBulk d + uptoBulkAll r
def uptoBulkEntries {H : Type} : List (Lit × DataW H) → Nat
  | [] => 0
  | x :: r => uptoBulkEntry x + uptoBulkEntries r
def uptoBulkEntry {H : Type} : Lit × DataW H → Nat
  | (.string bytes, d) => bytes.length + uptoBulk d + 1
  | (_, d) => uptoBulk d + 1
 end
def uptoSmall : (H : Type) → List (DataW H) → Bool := fun _ ds => decide (uptoBulkAll ds ≤ 1048576)
def OpenSpec.upto (s : _root_.Go.ChangeSpec) : _root_.Go.OpenSpec := { _root_.Go.OpenSpec.ofChange s with cond := some uptoSmall }

/-- 'laws.FnBack', WHERE WHAT IT READS IS OF BULK AT MOST 1048576: true; the input reads as it did. -/
def fnBackUptoRow : OpenClaim := { program := "ytipfcgbhaalcdaagreat", sum := "7d196367a4f47b9208589645f33f561ddf5557385fa64854e95704431f17610b", func := "loop.example/g00196/laws.FnBack", spec := "fnBack", unfollowed := true, recurses := true, apart := false, narrowed := true }
def FnBackUptoSaid : Prop := fnBackUptoRow.holds Tryz.pinned (OpenSpec.upto fnBackSpec)

/-- 'laws.FnPicture', WHERE WHAT IT READS IS OF BULK AT MOST 1048576: true; the input reads as it did. -/
def fnPictureUptoRow : OpenClaim := { program := "ytipfcgbhaalcdaagreat", sum := "7d196367a4f47b9208589645f33f561ddf5557385fa64854e95704431f17610b", func := "loop.example/g00196/laws.FnPicture", spec := "fnPicture", unfollowed := true, recurses := true, apart := false, narrowed := true }
def FnPictureUptoSaid : Prop := fnPictureUptoRow.holds Tryz.pinned (OpenSpec.upto fnPictureSpec)

/-- 'laws.FnSwapped', WHERE WHAT IT READS IS OF BULK AT MOST 1048576: true; the input reads as it did. -/
def fnSwappedUptoRow : OpenClaim := { program := "ytipfcgbhaalcdaagreat", sum := "7d196367a4f47b9208589645f33f561ddf5557385fa64854e95704431f17610b", func := "loop.example/g00196/laws.FnSwapped", spec := "fnSwapped", unfollowed := true, recurses := true, apart := false, narrowed := true }
def FnSwappedUptoSaid : Prop := fnSwappedUptoRow.holds Tryz.pinned (OpenSpec.upto fnSwappedSpec)

/-- 'laws.FnExactPack', WHERE WHAT IT READS IS OF BULK AT MOST 1048576: true; the input reads as it did. -/
def fnExactPackUptoRow : OpenClaim := { program := "ytipfcgbhaalcdaagreat", sum := "7d196367a4f47b9208589645f33f561ddf5557385fa64854e95704431f17610b", func := "loop.example/g00196/laws.FnExactPack", spec := "fnExactPack", unfollowed := true, recurses := true, apart := false, narrowed := true }
def FnExactPackUptoSaid : Prop := fnExactPackUptoRow.holds Tryz.pinned (OpenSpec.upto fnExactPackSpec)

/-- 'laws.FnBegin', WHERE WHAT IT READS IS OF BULK AT MOST 1048576: true; the input reads as it did. -/
def fnBeginUptoRow : OpenClaim := { program := "ytipfcgbhaalcdaagreat", sum := "7d196367a4f47b9208589645f33f561ddf5557385fa64854e95704431f17610b", func := "loop.example/g00196/laws.FnBegin", spec := "fnBegin", unfollowed := true, recurses := true, apart := false, narrowed := true }
def FnBeginUptoSaid : Prop := fnBeginUptoRow.holds Tryz.pinned (OpenSpec.upto fnBeginSpec)

/-- 'laws.FnMark', WHERE WHAT IT READS IS OF BULK AT MOST 1048576: true; the input reads as it did. -/
def fnMarkUptoRow : OpenClaim := { program := "ytipfcgbhaalcdaagreat", sum := "7d196367a4f47b9208589645f33f561ddf5557385fa64854e95704431f17610b", func := "loop.example/g00196/laws.FnMark", spec := "fnMark", unfollowed := true, recurses := true, apart := false, narrowed := true }
def FnMarkUptoSaid : Prop := fnMarkUptoRow.holds Tryz.pinned (OpenSpec.upto fnMarkSpec)

/-- 'laws.FnLiveStep', WHERE WHAT IT READS IS OF BULK AT MOST 1048576: true; the input reads as it did. -/
def fnLiveStepUptoRow : OpenClaim := { program := "ytipfcgbhaalcdaagreat", sum := "7d196367a4f47b9208589645f33f561ddf5557385fa64854e95704431f17610b", func := "loop.example/g00196/laws.FnLiveStep", spec := "fnLiveStep", unfollowed := true, recurses := true, apart := false, narrowed := true }
def FnLiveStepUptoSaid : Prop := fnLiveStepUptoRow.holds Tryz.pinned (OpenSpec.upto fnLiveStepSpec)

/-- 'laws.FnPacked', WHERE WHAT IT READS IS OF BULK AT MOST 1048576: true; the input reads as it did. -/
def fnPackedUptoRow : OpenClaim := { program := "ytipfcgbhaalcdaagreat", sum := "7d196367a4f47b9208589645f33f561ddf5557385fa64854e95704431f17610b", func := "loop.example/g00196/laws.FnPacked", spec := "fnPacked", unfollowed := true, recurses := true, apart := false, narrowed := true }
def FnPackedUptoSaid : Prop := fnPackedUptoRow.holds Tryz.pinned (OpenSpec.upto fnPackedSpec)

/-- 'laws.FnExactUnpack', WHERE WHAT IT READS IS OF BULK AT MOST 1048576: true; the input reads as it did. -/
def fnExactUnpackUptoRow : OpenClaim := { program := "ytipfcgbhaalcdaagreat", sum := "7d196367a4f47b9208589645f33f561ddf5557385fa64854e95704431f17610b", func := "loop.example/g00196/laws.FnExactUnpack", spec := "fnExactUnpack", unfollowed := true, recurses := true, apart := false, narrowed := true }
def FnExactUnpackUptoSaid : Prop := fnExactUnpackUptoRow.holds Tryz.pinned (OpenSpec.upto fnExactUnpackSpec)

/-- 'laws.FnExactSwap', WHERE WHAT IT READS IS OF BULK AT MOST 1048576: true; the input reads as it did. -/
def fnExactSwapUptoRow : OpenClaim := { program := "ytipfcgbhaalcdaagreat", sum := "7d196367a4f47b9208589645f33f561ddf5557385fa64854e95704431f17610b", func := "loop.example/g00196/laws.FnExactSwap", spec := "fnExactSwap", unfollowed := true, recurses := true, apart := false, narrowed := true }
def FnExactSwapUptoSaid : Prop := fnExactSwapUptoRow.holds Tryz.pinned (OpenSpec.upto fnExactSwapSpec)

/-- 'laws.FnExactShotNew', WHERE WHAT IT READS IS OF BULK AT MOST 1048576: true; the input reads as it did. -/
def fnExactShotNewUptoRow : OpenClaim := { program := "ytipfcgbhaalcdaagreat", sum := "7d196367a4f47b9208589645f33f561ddf5557385fa64854e95704431f17610b", func := "loop.example/g00196/laws.FnExactShotNew", spec := "fnExactShotNew", unfollowed := true, recurses := true, apart := false, narrowed := true }
def FnExactShotNewUptoSaid : Prop := fnExactShotNewUptoRow.holds Tryz.pinned (OpenSpec.upto fnExactShotNewSpec)

/-- 'laws.FnShot', WHERE WHAT IT READS IS OF BULK AT MOST 1048576: true; the input reads as it did. -/
def fnShotUptoRow : OpenClaim := { program := "ytipfcgbhaalcdaagreat", sum := "7d196367a4f47b9208589645f33f561ddf5557385fa64854e95704431f17610b", func := "loop.example/g00196/laws.FnShot", spec := "fnShot", unfollowed := true, recurses := true, apart := false, narrowed := true }
def FnShotUptoSaid : Prop := fnShotUptoRow.holds Tryz.pinned (OpenSpec.upto fnShotSpec)

end Rows
end Go.Proofs.YtipfcgbhaalcdaaGreat
