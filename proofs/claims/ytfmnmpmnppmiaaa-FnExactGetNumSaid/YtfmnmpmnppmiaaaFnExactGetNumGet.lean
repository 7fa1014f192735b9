/- The number that bytes begin with, and that both GetNum tell it. -/
import Derived.Test.YtfmnmpmnppmiaaaPFnExactGetNumx2
import Derived.Test.YtfmnmpmnppmiaaaBase
import Derived.Test.YtfmnmpmnppmiaaaFnExactGetNumPut
namespace Go.Proofs.Ytfmnmpmnppmiaaa.GetFnExactGetNum
open Go.RowKit Go.Proofs.Ytfmnmpmnppmiaaa.PFnExactGetNum Go.Proofs.YtfmnmpmnppmiaaaW.PrintWords Go.Proofs.YtfmnmpmnppmiaaaW.PrintLast Go.Proofs.YtfmnmpmnppmiaaaW.PrintMore Go.Proofs.Ytfmnmpmnppmiaaa.Base Go.Proofs.Ytfmnmpmnppmiaaa.PutFnExactGetNum
set_option linter.unusedVariables false
set_option linter.unusedSimpArgs false

/-- The number of the form m. -/
def num (m : Nat) : Int := if m % 2 = 1 then -(((m + 1) / 2 : Nat) : Int) else ((m / 2 : Nat) : Int)
def inR (x : Int) : Prop := -2000000000 ≤ x ∧ x ≤ 2000000000
instance (x : Int) : Decidable (inR x) := inferInstanceAs (Decidable (_ ∧ _))
def gl (b : List Int) (a : Nat) : Nat → Nat → Nat → Int × Int × Bool
  | 0, _, _ => (0, 0, false)
  | r + 1, m, k =>
    if a + k < b.length then
      if 127 < b.getD (a + k) 0 then gl b a r (m + ((b.getD (a + k) 0).toNat % 128) * 2 ^ (7 * k)) (k + 1)
      else if b.getD (a + k) 0 = 0 ∧ 0 < k ∨ ¬ inR (num (m + ((b.getD (a + k) 0).toNat % 128) * 2 ^ (7 * k))) then (0, 0, false)
      else (num (m + ((b.getD (a + k) 0).toNat % 128) * 2 ^ (7 * k)), ((a + k + 1 : Nat) : Int), true)
    else (0, 0, false)

theorem orshl (i : Nat) (hi : i ≤ 28) (m v : Nat) (hm : m < 2 ^ i) (hv : v < 128) : Go.bits .or .i64 (m : Int) (shl .i64 (v : Int) (i : Int)) = ((m + v * 2 ^ i : Nat) : Int) := by
  have hw : ∀ n : Int, 0 ≤ n → n < 2 ^ 62 → IntKind.i64.wrap n = n := by intro n h0 h1; rw [IntKind.wrap_i64]; omega
  have hp : 2 ^ i ≤ 2 ^ 28 := Nat.pow_le_pow_right (by decide) hi
  have hp1 : 0 < 2 ^ i := Nat.two_pow_pos i
  have hprod : v * 2 ^ i ≤ 127 * 2 ^ 28 := Nat.mul_le_mul (by omega) hp
  have e : shl .i64 (v : Int) (i : Int) = ((v * 2 ^ i : Nat) : Int) := by
    unfold shl
    have e1 : min (((i : Nat) : Int)).toNat (IntKind.bits .i64) = i := by simp [IntKind.bits]; omega
    rw [e1, hw]
    · simp
    · have : (0 : Int) ≤ ((v * 2 ^ i : Nat) : Int) := by omega
      simpa using this
    · have : ((v * 2 ^ i : Nat) : Int) < 2 ^ 62 := by omega
      simpa using this
  rw [e, (bits_nat .i64 62 (by decide) hw m (v * 2 ^ i) (by omega) (by omega)).2]
  congr 1
  have h2 := Nat.two_pow_add_eq_or_of_lt hm v
  rw [Nat.or_comm, Nat.mul_comm v, ← h2, Nat.add_comm]

theorem byte_fact (b : List Int) (hb : ∀ x ∈ b, 0 ≤ x ∧ x < 256) (i : Nat) (h : i < b.length) : 0 ≤ b.getD i 0 ∧ b.getD i 0 < 256 := by
  have : b.getD i 0 = b[i] := by simp [List.getD_eq_getElem?_getD, h]
  rw [this]; exact hb _ (List.getElem_mem h)
theorem num_odd {m : Nat} (h : m % 2 = 1) : num m = -(((m + 1) / 2 : Nat) : Int) := by simp [num, h]
theorem num_even {m : Nat} (h : ¬ m % 2 = 1) : num m = ((m / 2 : Nat) : Int) := by simp [num, h]

theorem bnd (k m v : Nat) (hk : k ≤ 4) (hm : m < 2 ^ (7 * k)) (hv : v < 128) : m + v * 2 ^ (7 * k) < 2 ^ (7 * (k + 1)) ∧ m + v * 2 ^ (7 * k) < 34359738368 := by
  have h1 : 2 ^ (7 * (k + 1)) = 128 * 2 ^ (7 * k) := by rw [show 7 * (k + 1) = 7 * k + 7 by omega, Nat.pow_add]; omega
  have h3 : 2 ^ (7 * (k + 1)) ≤ 2 ^ 35 := Nat.pow_le_pow_right (by decide) (by omega)
  have h4 : (2 : Nat) ^ 35 = 34359738368 := by decide
  have h2 : v * 2 ^ (7 * k) ≤ 127 * 2 ^ (7 * k) := Nat.mul_le_mul_right _ (by omega)
  omega

theorem wsum {a k : Nat} (h : a + k < 4611686018427387904) : wrap64 ((a : Int) + (k : Int)) = ((a + k : Nat) : Int) := by rw [w64] <;> omega
theorem w7 {k : Nat} (h : k < 100) : wrap64 (7 * (k : Int)) = ((7 * k : Nat) : Int) := by rw [w64] <;> omega
theorem wnat {v : Nat} (h : v < 4611686018427387904) : wrap64 ((v : Nat) : Int) = (v : Int) := by rw [w64] <;> omega
theorem odd_i {M : Nat} (hM : M < 34359738368) (ho : M % 2 = 1) : wrap64 (Int.tdiv (wrap64 (-(wrap64 ((M : Int) + 1)))) 2) = num M := by
  rw [num_odd ho, wsucc (by omega), w64 (x := -((M + 1 : Nat) : Int)) (by omega) (by omega), Int.neg_tdiv, Int.tdiv_eq_ediv_of_nonneg (by omega), w64] <;> omega
theorem odd_s {M : Nat} (hM : M < 34359738368) (ho : M % 2 = 1) : wrap64 (wrap64 (-(wrap64 (Int.tdiv (M : Int) 2))) - 1) = num M := by
  rw [num_odd ho, Int.tdiv_eq_ediv_of_nonneg (by omega), w64 (x := (M : Int) / 2) (by omega) (by omega), w64 (x := -((M : Int) / 2)) (by omega) (by omega), w64] <;> omega
theorem even_b {M : Nat} (hM : M < 34359738368) (ho : ¬ M % 2 = 1) : wrap64 (Int.tdiv (M : Int) 2) = num M := by
  rw [num_even ho, Int.tdiv_eq_ediv_of_nonneg (by omega), w64] <;> omega
theorem tmod2 (M : Nat) : Int.tmod (M : Int) 2 = ((M % 2 : Nat) : Int) := by rw [Int.tmod_eq_emod_of_nonneg (by omega)]; omega
theorem tmod128 (v : Nat) : Int.tmod (v : Int) 128 = ((v % 128 : Nat) : Int) := by rw [Int.tmod_eq_emod_of_nonneg (by omega)]; omega
theorem gl_yes {b : List Int} {a r m k v : Nat} (h : a + k < b.length) (hv : b.getD (a + k) 0 = (v : Int)) : gl b a (r + 1) m k =
    if 127 < v then gl b a r (m + v % 128 * 2 ^ (7 * k)) (k + 1)
    else if v = 0 ∧ 0 < k ∨ ¬ inR (num (m + v % 128 * 2 ^ (7 * k))) then (0, 0, false)
    else (num (m + v % 128 * 2 ^ (7 * k)), ((a + k + 1 : Nat) : Int), true) := by
  rw [gl, if_pos h, hv, Int.toNat_natCast]
  by_cases h1 : 127 < v
  · rw [if_pos h1, if_pos (show (127 : Int) < (v : Int) from Int.ofNat_lt.2 h1)]
  · rw [if_neg h1, if_neg (show ¬ (127 : Int) < (v : Int) from fun hh => h1 (Int.ofNat_lt.1 hh))]
    by_cases h2 : v = 0
    · have h3 : (((v : Nat) : Int) = 0) = True := eq_true (by rw [h2]; rfl)
      simp only [h3, eq_true h2]
    · have h3 : ¬ ((v : Nat) : Int) = 0 := fun hh => h2 (Int.ofNat_inj.1 hh)
      simp only [h2, h3, false_and, false_or]
theorem gl_no {b : List Int} {a r m k : Nat} (h : ¬ a + k < b.length) : gl b a (r + 1) m k = (0, 0, false) := by rw [gl, if_neg h]

theorem impl_gl (b : List Int) (hb : ∀ x ∈ b, 0 ≤ x ∧ x < 256) (hl : b.length ≤ 1000000000000) (a : Nat) (ha : a ≤ b.length) :
    ∀ r m k : Nat, r + k = 5 → m < 2 ^ (7 * k) → Ev (fun n => impl_GetNum.l0 n b (a : Int) (m : Int) (k : Int)) (gl b a r m k) := by
  intro r
  induction r with
  | zero =>
    intro m k hk hm
    have g0 : ((k : Int) < 5) = False := eq_false (by omega)
    refine Ev.step (fun n => impl_GetNum.l0.eq_2 _ _ _ _ _) ?_
    simp only [g0, if_false]
    refine Ev.step (fun n => impl_GetNum.j1.eq_2 _ _ _ _ _ _) ?_
    simp only [Bool.false_eq_true, if_false, gl]
    exact Ev.now _
  | succ r ih =>
    intro m k hk hm
    have g0 : ((k : Int) < 5) = True := eq_true (by omega)
    have hk4 : k ≤ 4 := by omega
    have hk28 : 7 * k ≤ 28 := by omega
    have hk5 : r + (k + 1) = 5 := by omega
    have hak : a + k < 4611686018427387904 := by omega
    have e1 := wsum hak
    refine Ev.step (fun n => impl_GetNum.l0.eq_2 _ _ _ _ _) ?_
    simp only [g0, if_true, e1]
    refine Ev.step (fun n => impl_GetNum.j1.eq_2 _ _ _ _ _ _) ?_
    by_cases h : a + k < b.length
    · have hv := byte_fact b hb (a + k) h
      have er : rd b ((a + k : Nat) : Int) = b.getD (a + k) 0 := by rw [rd, Int.toNat_natCast]
      generalize hvv : b.getD (a + k) 0 = v at *
      obtain ⟨v, rfl⟩ := Int.eq_ofNat_of_zero_le hv.1
      have hv256 : v < 256 := Int.ofNat_lt.1 hv.2
      have e2 := w7 (k := k) (Nat.lt_of_le_of_lt hk4 (by decide))
      have e4 := wnat (v := v) (Nat.lt_of_lt_of_le hv256 (by decide))
      have e5 : Go.bits .and .i64 (v : Int) 127 = ((v % 128 : Nat) : Int) := and127 (Nat.lt_of_lt_of_le hv256 (by decide))
      have e6 := wsucc hak
      have e7 := wsucc (i := k) (Nat.lt_of_le_of_lt hk4 (by decide))
      have hb2 := bnd k m (v % 128) hk4 hm (Nat.mod_lt _ (by decide))
      have e3 := orshl (7 * k) hk28 m (v % 128) hm (Nat.mod_lt _ (by decide))
      have ihM := ih (m + v % 128 * 2 ^ (7 * k)) (k + 1) hk5 hb2.1
      have hM := hb2.2
      have f1 : decide (((a + k : Nat) : Int) < (b.length : Int)) = true := decide_eq_true (Int.ofNat_lt.2 h)
      have f2 : ((0 : Int) ≤ ((a + k : Nat) : Int)) = True := eq_true (Int.natCast_nonneg _)
      have f3 : (((a + k : Nat) : Int) < (b.length : Int)) = True := eq_true (Int.ofNat_lt.2 h)
      have f4 : ((0 : Int) ≤ ((7 * k : Nat) : Int)) = True := eq_true (Int.natCast_nonneg _)
      simp only [f1, if_true, e1, e2, er, e4, e5, e3, e6, f2, f3, f4]
      rw [gl_yes h hvv]
      clear hb2 e3 hm ih
      generalize m + v % 128 * 2 ^ (7 * k) = M at *
      by_cases hv7 : 127 < v
      · have f5 : (((v : Nat) : Int) > 127) = True := eq_true (Int.ofNat_lt.2 hv7)
        rw [if_pos hv7]
        simp only [f5, if_true, e7]
        exact ihM
      · have f5 : (((v : Nat) : Int) > 127) = False := eq_false (fun hh => hv7 (Int.ofNat_lt.1 hh))
        rw [if_neg hv7]
        simp only [f5, if_false]
        have hx : ∀ x : Int, Ev (fun n => (impl_in.f x (-2000000000) 2000000000).bind fun t => (if t = true then (some (x, ((a + k + 1 : Nat) : Int), true)) else (some (0, 0, false)))) (if ¬ inR x then (0, 0, false) else (x, ((a + k + 1 : Nat) : Int), true)) := by
          intro x
          rw [in_f]
          simp only [Option.bind_some]
          by_cases hh : inR x
          · have : decide (-2000000000 ≤ x ∧ x ≤ 2000000000) = true := decide_eq_true hh
            rw [if_neg (c := ¬ inR x) (fun h9 => h9 hh)]
            simp only [this, if_true]; exact Ev.now _
          · have : decide (-2000000000 ≤ x ∧ x ≤ 2000000000) = false := decide_eq_false hh
            rw [if_pos (c := ¬ inR x) hh]
            simp only [this, Bool.false_eq_true, if_false]; exact Ev.now _
        have hz0 : ∀ x : Int, (v = 0 ∧ 0 < k) → (if v = 0 ∧ 0 < k ∨ ¬ inR x then ((0, 0, false) : Int × Int × Bool) else (x, ((a + k + 1 : Nat) : Int), true)) = (0, 0, false) := by
          intro x h9; rw [if_pos (Or.inl h9)]
        have hz1 : ∀ x : Int, ¬ (v = 0 ∧ 0 < k) → (if v = 0 ∧ 0 < k ∨ ¬ inR x then ((0, 0, false) : Int × Int × Bool) else (x, ((a + k + 1 : Nat) : Int), true)) = (if ¬ inR x then (0, 0, false) else (x, ((a + k + 1 : Nat) : Int), true)) := by
          intro x h9; simp only [h9, false_or]
        have et := tmod2 M
        have fin : Ev (fun n => if ((v : Nat) : Int) = 0 then (if (k : Int) > 0 then some (0, 0, false) else (impl_in.f (num M) (-2000000000) 2000000000).bind fun t => (if t = true then (some (num M, ((a + k + 1 : Nat) : Int), true)) else (some (0, 0, false)))) else (impl_in.f (num M) (-2000000000) 2000000000).bind fun t => (if t = true then (some (num M, ((a + k + 1 : Nat) : Int), true)) else (some (0, 0, false)))) (if v = 0 ∧ 0 < k ∨ ¬ inR (num M) then (0, 0, false) else (num M, ((a + k + 1 : Nat) : Int), true)) := by
          by_cases hz : v = 0
          · have f6 : (((v : Nat) : Int) = 0) = True := eq_true (by rw [hz]; rfl)
            by_cases hk0 : 0 < k
            · have f7 : ((k : Int) > 0) = True := eq_true (Int.ofNat_lt.2 hk0)
              rw [hz0 _ ⟨hz, hk0⟩]
              simp only [f6, f7, if_true]; exact Ev.now _
            · have f7 : ((k : Int) > 0) = False := eq_false (fun hh => hk0 (Int.ofNat_lt.1 hh))
              rw [hz1 _ (fun hh => hk0 hh.2)]
              simp only [f6, f7, if_true, if_false]; exact hx _
          · have f6 : (((v : Nat) : Int) = 0) = False := eq_false (fun hh => hz (Int.ofNat_inj.1 hh))
            rw [hz1 _ (fun hh => hz hh.1)]
            simp only [f6, if_false]; exact hx _
        by_cases ho : M % 2 = 1
        · have e8 := odd_i hM ho
          have f8 : (((M % 2 : Nat) : Int) = 1) = True := eq_true (by rw [ho]; rfl)
          simp only [et, f8, if_true, e8]
          exact fin
        · have e8 := even_b hM ho
          have f8 : (((M % 2 : Nat) : Int) = 1) = False := eq_false (fun hh => ho (Int.ofNat_inj.1 hh))
          simp only [et, f8, if_false, e8]
          exact fin
    · have f1 : decide (((a + k : Nat) : Int) < (b.length : Int)) = false := decide_eq_false (fun hh => h (Int.ofNat_lt.1 hh))
      rw [gl_no h]
      simp only [f1, Bool.false_eq_true, if_false]
      exact Ev.now _

theorem pn_nil (x : Int) : ((pn x).length : Int) = 0 ↔ ¬ inR x := by
  have he : ∀ m, (enc m).length ≠ 0 := by
    intro m; by_cases h : 127 < m
    · rw [enc_big h]; simp
    · rw [enc_small h]; simp
  unfold pn inR
  by_cases h : -2000000000 ≤ x ∧ x ≤ 2000000000
  · simp only [h, and_self, if_true, not_true, iff_false]
    split
    · have := he (-2 * x - 1).toNat; omega
    · have := he (2 * x).toNat; omega
  · simp only [h, if_false, not_false_iff, iff_true]; rfl

theorem spec_gl (b : List Int) (hb : ∀ x ∈ b, 0 ≤ x ∧ x < 256) (hl : b.length ≤ 1000000000000) (a : Nat) (ha : a < b.length) :
    ∀ r m k : Nat, r + k = 5 → m < 2 ^ (7 * k) → Ev (fun n => spec_GetNum.l0 n b (a : Int) (m : Int) (k : Int)) (gl b a r m k) := by
  intro r
  induction r with
  | zero =>
    intro m k hk hm
    have g0 : ((k : Int) < 5) = False := eq_false (by omega)
    refine Ev.step (fun n => spec_GetNum.l0.eq_2 _ _ _ _ _) ?_
    simp only [g0, if_false]
    refine Ev.step (fun n => spec_GetNum.j2.eq_2 _ _ _ _ _ _) ?_
    simp only [Bool.false_eq_true, if_false, gl]
    exact Ev.now _
  | succ r ih =>
    intro m k hk hm
    have g0 : ((k : Int) < 5) = True := eq_true (by omega)
    have hk4 : k ≤ 4 := by omega
    have hk28 : 7 * k ≤ 28 := by omega
    have hk5 : r + (k + 1) = 5 := by omega
    have hak : a + k < 4611686018427387904 := by omega
    have e1 := wsum hak
    refine Ev.step (fun n => spec_GetNum.l0.eq_2 _ _ _ _ _) ?_
    simp only [g0, if_true, e1]
    refine Ev.step (fun n => spec_GetNum.j2.eq_2 _ _ _ _ _ _) ?_
    by_cases h : a + k < b.length
    · have hv := byte_fact b hb (a + k) h
      have er : rd b ((a + k : Nat) : Int) = b.getD (a + k) 0 := by rw [rd, Int.toNat_natCast]
      generalize hvv : b.getD (a + k) 0 = v at *
      obtain ⟨v, rfl⟩ := Int.eq_ofNat_of_zero_le hv.1
      have hv256 : v < 256 := Int.ofNat_lt.1 hv.2
      have e2 := w7 (k := k) (Nat.lt_of_le_of_lt hk4 (by decide))
      have e4 := wnat (v := v) (Nat.lt_of_lt_of_le hv256 (by decide))
      have e5 : Int.tmod (v : Int) 128 = ((v % 128 : Nat) : Int) := tmod128 v
      have e6 := wsucc hak
      have e7 := wsucc (i := k) (Nat.lt_of_le_of_lt hk4 (by decide))
      have hb2 := bnd k m (v % 128) hk4 hm (Nat.mod_lt _ (by decide))
      have e3 := orshl (7 * k) hk28 m (v % 128) hm (Nat.mod_lt _ (by decide))
      have ihM := ih (m + v % 128 * 2 ^ (7 * k)) (k + 1) hk5 hb2.1
      have hM := hb2.2
      have f1 : decide (((a + k : Nat) : Int) < (b.length : Int)) = true := decide_eq_true (Int.ofNat_lt.2 h)
      have f2 : ((0 : Int) ≤ ((a + k : Nat) : Int)) = True := eq_true (Int.natCast_nonneg _)
      have f3 : (((a + k : Nat) : Int) < (b.length : Int)) = True := eq_true (Int.ofNat_lt.2 h)
      have f4 : ((0 : Int) ≤ ((7 * k : Nat) : Int)) = True := eq_true (Int.natCast_nonneg _)
      simp only [f1, if_true, e1, e2, er, e4, e5, e3, e6, f2, f3, f4]
      rw [gl_yes h hvv]
      clear hb2 e3 hm ih
      generalize m + v % 128 * 2 ^ (7 * k) = M at *
      by_cases hv7 : 127 < v
      · have f5 : (((v : Nat) : Int) ≥ 128) = True := eq_true (Int.ofNat_lt.2 hv7)
        rw [if_pos hv7]
        simp only [f5, if_true, e7]
        exact ihM
      · have f5 : (((v : Nat) : Int) ≥ 128) = False := eq_false (fun hh => hv7 (Int.ofNat_lt.1 hh))
        rw [if_neg hv7]
        simp only [f5, if_false]
        have hx : ∀ x : Int, Ev (fun n => (spec_PutNum.f n x).bind fun t => (if (t.length : Int) = 0 then (some (0, 0, false)) else (some (x, ((a + k + 1 : Nat) : Int), true)))) (if ¬ inR x then (0, 0, false) else (x, ((a + k + 1 : Nat) : Int), true)) := by
          intro x
          refine Ev.bind (spec_put x) ?_
          by_cases hh : inR x
          · have : (((pn x).length : Int) = 0) = False := eq_false (by rw [pn_nil]; simpa using hh)
            rw [if_neg (c := ¬ inR x) (fun h9 => h9 hh)]
            simp only [this, if_false]; exact Ev.now _
          · have : (((pn x).length : Int) = 0) = True := eq_true (by rw [pn_nil]; exact hh)
            rw [if_pos (c := ¬ inR x) hh]
            simp only [this, if_true]; exact Ev.now _
        have hz0 : ∀ x : Int, (v = 0 ∧ 0 < k) → (if v = 0 ∧ 0 < k ∨ ¬ inR x then ((0, 0, false) : Int × Int × Bool) else (x, ((a + k + 1 : Nat) : Int), true)) = (0, 0, false) := by
          intro x h9; rw [if_pos (Or.inl h9)]
        have hz1 : ∀ x : Int, ¬ (v = 0 ∧ 0 < k) → (if v = 0 ∧ 0 < k ∨ ¬ inR x then ((0, 0, false) : Int × Int × Bool) else (x, ((a + k + 1 : Nat) : Int), true)) = (if ¬ inR x then (0, 0, false) else (x, ((a + k + 1 : Nat) : Int), true)) := by
          intro x h9; simp only [h9, false_or]
        have et := tmod2 M
        have fin : Ev (fun n => if ((v : Nat) : Int) = 0 then (if (k : Int) > 0 then some (0, 0, false) else (spec_PutNum.f n (num M)).bind fun t => (if (t.length : Int) = 0 then (some (0, 0, false)) else (some (num M, ((a + k + 1 : Nat) : Int), true)))) else (spec_PutNum.f n (num M)).bind fun t => (if (t.length : Int) = 0 then (some (0, 0, false)) else (some (num M, ((a + k + 1 : Nat) : Int), true)))) (if v = 0 ∧ 0 < k ∨ ¬ inR (num M) then (0, 0, false) else (num M, ((a + k + 1 : Nat) : Int), true)) := by
          by_cases hz : v = 0
          · have f6 : (((v : Nat) : Int) = 0) = True := eq_true (by rw [hz]; rfl)
            by_cases hk0 : 0 < k
            · have f7 : ((k : Int) > 0) = True := eq_true (Int.ofNat_lt.2 hk0)
              rw [hz0 _ ⟨hz, hk0⟩]
              simp only [f6, f7, if_true]; exact Ev.now _
            · have f7 : ((k : Int) > 0) = False := eq_false (fun hh => hk0 (Int.ofNat_lt.1 hh))
              rw [hz1 _ (fun hh => hk0 hh.2)]
              simp only [f6, f7, if_true, if_false]; exact hx _
          · have f6 : (((v : Nat) : Int) = 0) = False := eq_false (fun hh => hz (Int.ofNat_inj.1 hh))
            rw [hz1 _ (fun hh => hz hh.1)]
            simp only [f6, if_false]; exact hx _
        by_cases ho : M % 2 = 1
        · have e8 := odd_s hM ho
          have f8 : (((M % 2 : Nat) : Int) = 1) = True := eq_true (by rw [ho]; rfl)
          simp only [et, f8, if_true, e8]
          exact fin
        · have e8 := even_b hM ho
          have f8 : (((M % 2 : Nat) : Int) = 1) = False := eq_false (fun hh => ho (Int.ofNat_inj.1 hh))
          simp only [et, f8, if_false, e8]
          exact fin
    · have f1 : decide (((a + k : Nat) : Int) < (b.length : Int)) = false := decide_eq_false (fun hh => h (Int.ofNat_lt.1 hh))
      rw [gl_no h]
      simp only [f1, Bool.false_eq_true, if_false]
      exact Ev.now _

/-- What both GetNum tell. -/
def gn (b : List Int) (a : Int) : Int × Int × Bool := if 0 ≤ a ∧ a < b.length then gl b a.toNat 5 0 0 else (0, 0, false)

theorem impl_get (b : List Int) (hb : ∀ x ∈ b, 0 ≤ x ∧ x < 256) (hl : b.length ≤ 1000000000000) (a : Int) : Ev (fun n => impl_GetNum.f n b a) (gn b a) := by
  unfold impl_GetNum.f gn
  rw [in_f]
  simp only [Option.bind_some]
  by_cases h : 0 ≤ a ∧ a ≤ b.length
  · simp only [h, and_self, decide_true, if_true, true_and]
    obtain ⟨a, rfl⟩ := Int.eq_ofNat_of_zero_le h.1
    have := impl_gl b hb hl a (by omega) 5 0 0 rfl (by decide)
    by_cases h2 : (a : Int) < b.length
    · simp only [h2, if_true]; simpa using this
    · simp only [h2, if_false]
      have hg : gl b a 5 0 0 = (0, 0, false) := by simp only [gl, show ¬ a + 0 < b.length by omega, if_false]
      rw [hg] at this; simpa using this
  · simp only [h, decide_false, Bool.false_eq_true, if_false, show ¬ (0 ≤ a ∧ a < b.length) by omega]
    exact Ev.now _

theorem spec_get (b : List Int) (hb : ∀ x ∈ b, 0 ≤ x ∧ x < 256) (hl : b.length ≤ 1000000000000) (a : Int) : Ev (fun n => spec_GetNum.f n b a) (gn b a) := by
  unfold spec_GetNum.f gn
  by_cases h0 : a < 0
  · simp only [h0, if_true, show ¬ (0 ≤ a ∧ a < b.length) by omega, if_false]
    refine Ev.step (fun n => spec_GetNum.j0.eq_2 _ _ _ _) ?_
    simp only [if_true]; exact Ev.now _
  · simp only [h0, if_false]
    refine Ev.step (fun n => spec_GetNum.j0.eq_2 _ _ _ _) ?_
    by_cases h1 : a < b.length
    · simp only [show decide (a ≥ (b.length : Int)) = false by simp; omega, Bool.false_eq_true, if_false, show (0 ≤ a ∧ a < b.length) by omega, and_self, if_true]
      obtain ⟨a, rfl⟩ := Int.eq_ofNat_of_zero_le (show 0 ≤ a by omega)
      simpa using spec_gl b hb hl a (by omega) 5 0 0 rfl (by decide)
    · simp only [show decide (a ≥ (b.length : Int)) = true by simp; omega, if_true, show ¬ (0 ≤ a ∧ a < b.length) by omega, if_false]
      exact Ev.now _
end Go.Proofs.Ytfmnmpmnppmiaaa.GetFnExactGetNum
