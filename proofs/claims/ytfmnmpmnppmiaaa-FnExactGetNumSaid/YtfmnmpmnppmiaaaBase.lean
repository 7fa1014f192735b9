/- Plain lemmas on numbers, lists and rounds that the pure statements use; no program in sight. -/
import Derived.Test.YtfmnmpmnppmiaaaWMore
namespace Go.Proofs.Ytfmnmpmnppmiaaa.Base
open Go.RowKit Go.Proofs.YtfmnmpmnppmiaaaW.PrintWords Go.Proofs.YtfmnmpmnppmiaaaW.PrintLast Go.Proofs.YtfmnmpmnppmiaaaW.PrintMore
set_option linter.unusedVariables false
set_option linter.unusedSimpArgs false

theorem w64 {x : Int} (h0 : -9223372036854775808 ≤ x) (h1 : x ≤ 9223372036854775807) : wrap64 x = x := by
  unfold wrap64; omega
theorem wsucc {i : Nat} (h : i < 4611686018427387904) : wrap64 ((i : Int) + 1) = ((i + 1 : Nat) : Int) := by
  unfold wrap64; omega
theorem wsuccI {i : Int} (h0 : 0 ≤ i) (h : i < 4611686018427387904) : wrap64 (i + 1) = i + 1 := by
  unfold wrap64; omega
theorem rd_get {xs : List Int} {i : Nat} (h : i < xs.length) : rd xs (i : Int) = xs[i] := by
  simp [rd, List.getD_eq_getElem?_getD, h]
theorem rdOf_get {α : Type} {d : α} {xs : List α} {i : Nat} (h : i < xs.length) : rdOf d xs (i : Int) = xs[i] := by
  simp [rdOf, List.getD_eq_getElem?_getD, h]

/-- A loop over places: from each place on. -/
theorem up_ind (n : Nat) (P : Nat → Prop) (h0 : P n) (h : ∀ i, i < n → P (i + 1) → P i) : ∀ i, i ≤ n → P i := by
  intro i hi
  generalize hd : n - i = d
  induction d generalizing i with
  | zero => rw [show i = n by omega]; exact h0
  | succ d ih => exact h i (by omega) (ih (i + 1) (by omega) (by omega))

theorem Ev.ofEq {α : Type} {o : Option α} {r : α} (h : o = some r) : Ev (fun _ => o) r := ⟨0, fun _ _ => h⟩
theorem Ev.ex {α : Type} {g : Nat → Option α} {r : α} (h : Ev g r) : ∃ k, g k = some r := h.rounds
theorem Ev.unique {α : Type} {g : Nat → Option α} {r q : α} (h : Ev g r) (h' : Ev g q) : r = q := by
  obtain ⟨K, h⟩ := h; obtain ⟨K', h'⟩ := h'
  have a := h (max K K') (by omega); have b := h' (max K K') (by omega)
  rw [a] at b; exact Option.some.inj b

end Go.Proofs.Ytfmnmpmnppmiaaa.Base
