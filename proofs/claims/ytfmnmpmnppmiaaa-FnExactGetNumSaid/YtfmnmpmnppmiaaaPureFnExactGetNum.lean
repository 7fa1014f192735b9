/- FnExactGetNum returns true for all bytes and every place: both GetNum tell the same number, place and flag. No condition. -/
import Derived.Test.YtfmnmpmnppmiaaaPFnExactGetNumx2
import Derived.Test.YtfmnmpmnppmiaaaFnExactGetNumGet
import Derived.Test.YtfmnmpmnppmiaaaFnExactGetNumBytes
import Derived.Test.YtfmnmpmnppmiaaaFnExactGetNumCopy
namespace Go.Proofs.Ytfmnmpmnppmiaaa.Pure
open Go.RowKit Go.Proofs.Ytfmnmpmnppmiaaa.PFnExactGetNum Go.Proofs.YtfmnmpmnppmiaaaW.PrintWords Go.Proofs.YtfmnmpmnppmiaaaW.PrintLast Go.Proofs.Ytfmnmpmnppmiaaa.Base

theorem FnExactGetNum : laws_FnExactGetNum.Pure := by
  intro b x _ _ hw hx
  apply Ev.rounds
  unfold laws_FnExactGetNum.f
  by_cases hbig : (b.length : Int) > 1048576
  · simp only [hbig, if_true]; exact Ev.now _
  simp only [hbig, if_false]
  have hl : b.length ≤ 1000000000000 := by omega
  have hb : ∀ y ∈ b, 0 ≤ y ∧ y < 256 := by
    intro y hy
    have := hw y hy
    simp [Lit.wf, IntKind.min, IntKind.max, IntKind.bits, IntKind.signed] at this
    omega
  refine Ev.bind (CopyFnExactGetNum.copy b hl) ?_
  refine Ev.bind (GetFnExactGetNum.spec_get b hb hl x) ?_
  refine Ev.bind (CopyFnExactGetNum.copy b hl) ?_
  refine Ev.bind (GetFnExactGetNum.impl_get b hb hl x) ?_
  simp only [if_true, bne_self_eq_false]
  refine Ev.step (fun k => laws_FnExactGetNum.j0.eq_2 _ _ _ _) ?_
  simp only [Bool.false_eq_true, if_false]
  refine Ev.bind (CopyFnExactGetNum.copy b hl) ?_
  refine Ev.bind (BytesFnExactGetNum.eq_self _ (by omega)) ?_
  simp only [if_true]
  exact Ev.now _
end Go.Proofs.Ytfmnmpmnppmiaaa.Pure
