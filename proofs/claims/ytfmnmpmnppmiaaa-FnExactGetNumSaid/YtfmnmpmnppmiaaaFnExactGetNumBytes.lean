/- The loops that compare, mark and read marks of bytes. -/
import Derived.Test.YtfmnmpmnppmiaaaPFnExactGetNumx2
import Derived.Test.YtfmnmpmnppmiaaaBase
namespace Go.Proofs.Ytfmnmpmnppmiaaa.BytesFnExactGetNum
open Go.RowKit Go.Proofs.Ytfmnmpmnppmiaaa.PFnExactGetNum Go.Proofs.YtfmnmpmnppmiaaaW.PrintWords Go.Proofs.YtfmnmpmnppmiaaaW.PrintLast Go.Proofs.YtfmnmpmnppmiaaaW.PrintMore Go.Proofs.Ytfmnmpmnppmiaaa.Base
set_option linter.unusedVariables false
set_option linter.unusedSimpArgs false

theorem eq_self_loop (a : List Int) (hb : a.length < 4611686018427387904) : ∀ i, i ≤ a.length → Ev (fun k => laws_eqByteS.l0 k a a (i : Int)) true := by
  refine up_ind a.length _ ?_ ?_
  · refine Ev.step (fun k => laws_eqByteS.l0.eq_2 _ _ _ _) ?_
    simp only [show ¬ ((a.length : Nat) : Int) < (a.length : Int) by omega, if_false]
    exact Ev.now _
  · intro i hi ih
    refine Ev.step (fun k => laws_eqByteS.l0.eq_2 _ _ _ _) ?_
    simp only [show ((i : Nat) : Int) < (a.length : Int) by omega, if_true, show (0 : Int) ≤ (i : Int) by omega, wsucc (show i < 4611686018427387904 by omega)]
    exact ih
theorem eq_self (a : List Int) (hb : a.length < 4611686018427387904) : Ev (fun k => laws_eqByteS.f k a a) true := by
  unfold laws_eqByteS.f
  simp only [if_true]
  simpa using eq_self_loop a hb 0 (by omega)
end Go.Proofs.Ytfmnmpmnppmiaaa.BytesFnExactGetNum
