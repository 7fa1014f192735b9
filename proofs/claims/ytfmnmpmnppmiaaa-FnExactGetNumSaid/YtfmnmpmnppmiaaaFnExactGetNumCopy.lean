/- The loop that copies bytes. -/
import Derived.Test.YtfmnmpmnppmiaaaPFnExactGetNumx2
import Derived.Test.YtfmnmpmnppmiaaaBase
namespace Go.Proofs.Ytfmnmpmnppmiaaa.CopyFnExactGetNum
open Go.RowKit Go.Proofs.Ytfmnmpmnppmiaaa.PFnExactGetNum Go.Proofs.YtfmnmpmnppmiaaaW.PrintWords Go.Proofs.YtfmnmpmnppmiaaaW.PrintLast Go.Proofs.YtfmnmpmnppmiaaaW.PrintMore Go.Proofs.Ytfmnmpmnppmiaaa.Base
set_option linter.unusedVariables false
set_option linter.unusedSimpArgs false
theorem copy_loop (a : List Int) (hb : a.length < 4611686018427387904) : ∀ i, i ≤ a.length → ∀ x : List Int, x.length = a.length → (∀ j, j < i → x[j]? = a[j]?) →
    Ev (fun k => laws_toByteS.l0 k a x (i : Int)) a := by
  refine up_ind a.length _ ?_ ?_
  · intro x hx hj
    refine Ev.step (fun k => laws_toByteS.l0.eq_2 _ _ _ _) ?_
    simp only [show ¬ ((a.length : Nat) : Int) < (a.length : Int) by omega, if_false]
    have : x = a := by
      apply List.ext_getElem? ; intro j
      by_cases h : j < a.length
      · exact hj j h
      · rw [List.getElem?_eq_none (by omega), List.getElem?_eq_none (by omega)]
    rw [this]; exact Ev.now _
  · intro i hi ih x hx hj
    refine Ev.step (fun k => laws_toByteS.l0.eq_2 _ _ _ _) ?_
    simp only [show ((i : Nat) : Int) < (a.length : Int) by omega, if_true, show (0 : Int) ≤ (i : Int) by omega, hx, wsucc (show i < 4611686018427387904 by omega), Int.toNat_natCast]
    refine ih _ (by simpa using hx) ?_
    intro j hj2
    by_cases h : j = i
    · subst h; rw [rd_get hi]; simp [hx, hi]
    · rw [List.getElem?_set_ne (by omega)]; exact hj j (by omega)
theorem copy (a : List Int) (hb : a.length ≤ 1000000000000) : Ev (fun k => laws_toByteS.f k a) a := by
  unfold laws_toByteS.f
  simp only [show (0 : Int) ≤ (a.length : Int) by omega, if_true, Int.toNat_natCast, show a.length ≤ 281474976710656 by omega]
  simpa using copy_loop a (by omega) 0 (by omega) (List.replicate a.length 0) (by simp) (by intro j hj; omega)
end Go.Proofs.Ytfmnmpmnppmiaaa.CopyFnExactGetNum
