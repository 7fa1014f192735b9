/- The number form as a plain list of bytes, the loops of both PutNum, and the loops that compare, mark and read marks of bytes. -/
import Derived.Test.YtfmnmpmnppmiaaaPFnExactGetNumx2
import Derived.Test.YtfmnmpmnppmiaaaBase
namespace Go.Proofs.Ytfmnmpmnppmiaaa.PutFnExactGetNum
open Go.RowKit Go.Proofs.Ytfmnmpmnppmiaaa.PFnExactGetNum Go.Proofs.YtfmnmpmnppmiaaaW.PrintWords Go.Proofs.YtfmnmpmnppmiaaaW.PrintLast Go.Proofs.YtfmnmpmnppmiaaaW.PrintMore Go.Proofs.Ytfmnmpmnppmiaaa.Base
set_option linter.unusedVariables false
set_option linter.unusedSimpArgs false

def enc (m : Nat) : List Int := if h : 127 < m then (((m % 128 + 128 : Nat) : Int)) :: enc (m / 128) else [(m : Int)]
termination_by m
decreasing_by omega

theorem enc_big {m : Nat} (h : 127 < m) : enc m = (((m % 128 + 128 : Nat) : Int)) :: enc (m / 128) := by
  rw [enc]; simp [h]
theorem enc_small {m : Nat} (h : ¬ 127 < m) : enc m = [(m : Int)] := by
  rw [enc]; simp [h]

theorem and127 {m : Nat} (h : m < 4611686018427387904) : Go.bits .and .i64 (m : Int) 127 = ((m % 128 : Nat) : Int) := by
  have hw : ∀ n : Int, 0 ≤ n → n < 2 ^ 62 → IntKind.i64.wrap n = n := by intro n h0 h1; rw [IntKind.wrap_i64]; omega
  have := bits_mask .i64 62 (by decide) hw 7 (by decide) (m : Int) (by omega) (by omega)
  have e : ((2 : Int) ^ 7 - 1) = 127 := by decide
  rw [e] at this
  rw [this]; simp
theorem or128 {x : Nat} (h : x < 128) : Go.bits .or .i64 (x : Int) 128 = ((x + 128 : Nat) : Int) := by
  have hw : ∀ n : Int, 0 ≤ n → n < 2 ^ 62 → IntKind.i64.wrap n = n := by intro n h0 h1; rw [IntKind.wrap_i64]; omega
  have := (bits_nat .i64 62 (by decide) hw x 128 (by omega) (by omega)).2
  rw [show ((128 : Nat) : Int) = 128 from rfl] at this
  rw [this]
  congr 1
  have h2 := Nat.two_pow_add_eq_or_of_lt (i := 7) (b := x) (by omega) 1
  rw [Nat.or_comm]; simpa [Nat.add_comm] using h2.symm

theorem spec_loop (m : Nat) : ∀ acc : List Int, acc.length + m < 100000000000000 → Ev (fun k => spec_PutNum.l0 k acc (m : Int)) (acc ++ enc m) := by
  induction m using Nat.strongRecOn with
  | _ m ih =>
    intro acc hb
    refine Ev.step (fun k => spec_PutNum.l0.eq_2 _ _ _) ?_
    by_cases h : 127 < m
    · rw [enc_big h]
      have e : wrap64 (Int.tdiv (m : Int) 128) = ((m / 128 : Nat) : Int) := by
        rw [Int.tdiv_eq_ediv_of_nonneg (by omega)]; rw [w64] <;> omega
      have e2 : (wrap64 (Int.tmod (m : Int) 128 + 128)) % 256 = ((m % 128 + 128 : Nat) : Int) := by
        rw [Int.tmod_eq_emod_of_nonneg (by omega), w64] <;> omega
      simp only [show (m : Int) > 127 by omega, if_true, show acc.length < 140737488355328 by omega, e, e2]
      have := ih (m / 128) (by omega) (acc ++ [((m % 128 + 128 : Nat) : Int)]) (by simp; omega)
      simpa using this
    · rw [enc_small h]
      have e2 : (m : Int) % 256 = (m : Int) := by omega
      simp only [show ¬ (m : Int) > 127 by omega, if_false, show acc.length < 140737488355328 by omega, if_true, e2]
      exact Ev.now _

/-- What both PutNum tell. -/
def pn (x : Int) : List Int := if -2000000000 ≤ x ∧ x ≤ 2000000000 then (if x < 0 then enc (-2 * x - 1).toNat else enc (2 * x).toNat) else []

theorem in_f (a b c : Int) : impl_in.f a b c = some (decide (b ≤ a ∧ a ≤ c)) := by
  unfold impl_in.f; by_cases h : b ≤ a <;> simp [h]
theorem l1In_f (a b c : Int) : spec_l1In.f a b c = some (decide (b ≤ a ∧ a ≤ c)) := by
  unfold spec_l1In.f; by_cases h : b ≤ a <;> simp [h]

theorem spec_put (x : Int) : Ev (fun k => spec_PutNum.f k x) (pn x) := by
  unfold spec_PutNum.f pn
  rw [l1In_f]
  simp only [Option.bind_some]
  by_cases h : -2000000000 ≤ x ∧ x ≤ 2000000000
  · simp only [h, and_self, decide_true, if_true]
    by_cases hx : x < 0
    · simp only [hx, if_true]
      refine Ev.step (fun k => spec_PutNum.j0.eq_2 _ _ _) ?_
      have e : wrap64 (wrap64 (-2 * x) - 1) = (((-2 * x - 1).toNat : Nat) : Int) := by
        rw [w64, w64] <;> (try rw [w64]) <;> omega
      rw [e]
      simpa using spec_loop (-2 * x - 1).toNat [] (by simp; omega)
    · simp only [hx, if_false]
      refine Ev.step (fun k => spec_PutNum.j0.eq_2 _ _ _) ?_
      have e : wrap64 (2 * x) = (((2 * x).toNat : Nat) : Int) := by rw [w64] <;> omega
      rw [e]
      simpa using spec_loop (2 * x).toNat [] (by simp; omega)
  · simp only [h, decide_false, if_false, Bool.false_eq_true]
    exact Ev.now _

theorem enc_len (m : Nat) : (enc m).length ≤ m + 1 := by
  induction m using Nat.strongRecOn with
  | _ m ih =>
    by_cases h : 127 < m
    · rw [enc_big h]; have := ih (m / 128) (by omega); simp; omega
    · rw [enc_small h]; simp
theorem pn_len (x : Int) : (pn x).length ≤ 5000000000 := by
  unfold pn
  split
  · split
    · have := enc_len (-2 * x - 1).toNat; omega
    · have := enc_len (2 * x).toNat; omega
  · simp

end Go.Proofs.Ytfmnmpmnppmiaaa.PutFnExactGetNum
