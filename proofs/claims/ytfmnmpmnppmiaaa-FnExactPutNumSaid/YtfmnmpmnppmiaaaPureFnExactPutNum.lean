/- FnExactPutNum returns true for every whole number of 64 bits: both PutNum tell the same bytes, and marks written into them are read again. No condition. -/
import Derived.Test.YtfmnmpmnppmiaaaPFnExactPutNumx2
import Derived.Test.YtfmnmpmnppmiaaaFnExactPutNumPut
import Derived.Test.YtfmnmpmnppmiaaaFnExactPutNumBytes
import Derived.Test.YtfmnmpmnppmiaaaFnExactPutNumMarks
namespace Go.Proofs.Ytfmnmpmnppmiaaa.Pure
open Go.RowKit Go.Proofs.Ytfmnmpmnppmiaaa.PFnExactPutNum Go.Proofs.YtfmnmpmnppmiaaaW.PrintWords Go.Proofs.YtfmnmpmnppmiaaaW.PrintLast Go.Proofs.Ytfmnmpmnppmiaaa.Base

theorem FnExactPutNum : laws_FnExactPutNum.Pure := by
  intro x hx
  apply Ev.rounds
  have hl : (PutFnExactPutNum.pn x).length < 1000000000000 := by have := PutFnExactPutNum.pn_len x; omega
  obtain ⟨ys, hm, hh⟩ := MarksFnExactPutNum.mark_held (PutFnExactPutNum.pn x) hl
  unfold laws_FnExactPutNum.f
  refine Ev.bind (PutFnExactPutNum.spec_put x) ?_
  refine Ev.bind (PutFnExactPutNum.impl_put x) ?_
  refine Ev.bind (BytesFnExactPutNum.eq_self _ (by omega)) ?_
  simp only [if_true]
  refine Ev.bind hm ?_
  refine Ev.bind hh ?_
  simp only [show ¬ (1 + ((PutFnExactPutNum.pn x).length : Int) < 0) by omega, if_false, if_true]
  refine Ev.bind (PutFnExactPutNum.impl_put x) ?_
  refine Ev.bind (BytesFnExactPutNum.eq_self _ (by omega)) ?_
  simp only [if_true]
  refine Ev.bind hh ?_
  simp only [show ¬ (1 + ((PutFnExactPutNum.pn x).length : Int) < 0) by omega, if_false, if_true]
  exact Ev.now _
end Go.Proofs.Ytfmnmpmnppmiaaa.Pure
