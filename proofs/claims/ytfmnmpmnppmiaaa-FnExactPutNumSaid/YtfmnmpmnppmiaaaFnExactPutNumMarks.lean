/- The loops that mark bytes and read the marks. -/
import Derived.Test.YtfmnmpmnppmiaaaPFnExactPutNumx2
import Derived.Test.YtfmnmpmnppmiaaaBase
namespace Go.Proofs.Ytfmnmpmnppmiaaa.MarksFnExactPutNum
open Go.RowKit Go.Proofs.Ytfmnmpmnppmiaaa.PFnExactPutNum Go.Proofs.YtfmnmpmnppmiaaaW.PrintWords Go.Proofs.YtfmnmpmnppmiaaaW.PrintLast Go.Proofs.YtfmnmpmnppmiaaaW.PrintMore Go.Proofs.Ytfmnmpmnppmiaaa.Base
set_option linter.unusedVariables false
set_option linter.unusedSimpArgs false

def Marked (xs : List Int) (v : Int) (j : Nat) : Prop := ∀ i, i < j → rd xs (i : Int) = (v + i) % 256

theorem mark_loop (n : Nat) (v : Int) (hv0 : 0 ≤ v) (hv : v < 1000000) (hb : n < 1000000000000) : ∀ i, i ≤ n → ∀ xs : List Int, xs.length = n → Marked xs v i →
    ∃ ys : List Int, Ev (fun k => laws_markByteS.l0 k xs (v + i) (i : Int)) (v + n, ys) ∧ ys.length = n ∧ Marked ys v n := by
  refine up_ind n _ ?_ ?_
  · intro xs hl hm
    refine ⟨xs, ?_, hl, hm⟩
    refine Ev.step (fun k => laws_markByteS.l0.eq_2 _ _ _ _) ?_
    simp only [hl, show ¬ ((n : Nat) : Int) < (n : Int) by omega, if_false]
    exact Ev.now _
  · intro i hi ih xs hl hm
    obtain ⟨ys, hy, hyl, hym⟩ := ih (xs.set i ((v + i) % 256)) (by simpa using hl) (by
      intro j hj
      by_cases h : j = i
      · subst h; simp [rd, List.getD_eq_getElem?_getD, hl, hi]
      · have := hm j (by omega)
        simp only [rd, Int.toNat_natCast, List.getD_eq_getElem?_getD] at this ⊢
        rw [List.getElem?_set_ne (by omega)]; exact this)
    refine ⟨ys, ?_, hyl, hym⟩
    refine Ev.step (fun k => laws_markByteS.l0.eq_2 _ _ _ _) ?_
    have e : wrap64 (v + (i : Int) + 1) = v + ((i + 1 : Nat) : Int) := by rw [w64] <;> omega
    simp only [hl, show ((i : Nat) : Int) < (n : Int) by omega, if_true, show (0 : Int) ≤ (i : Int) by omega, wsucc (show i < 4611686018427387904 by omega), e, Int.toNat_natCast]
    exact hy

theorem held_loop (n : Nat) (v : Int) (hv0 : 0 ≤ v) (hv : v < 1000000) (hb : n < 1000000000000) (xs : List Int) (hl : xs.length = n) (hm : Marked xs v n) :
    ∀ i, i ≤ n → Ev (fun k => laws_heldByteS.l0 k xs (v + i) (i : Int)) (v + n) := by
  refine up_ind n _ ?_ ?_
  · refine Ev.step (fun k => laws_heldByteS.l0.eq_2 _ _ _ _) ?_
    simp only [hl, show ¬ ((n : Nat) : Int) < (n : Int) by omega, if_false]
    exact Ev.now _
  · intro i hi ih
    refine Ev.step (fun k => laws_heldByteS.l0.eq_2 _ _ _ _) ?_
    have e : wrap64 (v + (i : Int) + 1) = v + ((i + 1 : Nat) : Int) := by rw [w64] <;> omega
    simp only [hl, show ((i : Nat) : Int) < (n : Int) by omega, if_true, show (0 : Int) ≤ (i : Int) by omega, wsucc (show i < 4611686018427387904 by omega), e, hm i hi]
    exact ih

theorem mark_held (xs : List Int) (hb : xs.length < 1000000000000) : ∃ ys : List Int, Ev (fun k => laws_markByteS.f k xs 1) (1 + (xs.length : Int), ys) ∧ Ev (fun k => laws_heldByteS.f k ys 1) (1 + (xs.length : Int)) := by
  obtain ⟨ys, h1, h2, h3⟩ := mark_loop xs.length 1 (by omega) (by omega) hb 0 (by omega) xs rfl (by intro i hi; omega)
  refine ⟨ys, ?_, ?_⟩
  · unfold laws_markByteS.f; simpa using h1
  · unfold laws_heldByteS.f; simpa using held_loop xs.length 1 (by omega) (by omega) hb ys h2 h3 0 (by omega)
end Go.Proofs.Ytfmnmpmnppmiaaa.MarksFnExactPutNum
