/- FnExactUntil returns true for every input, and leaves its arguments as they read. Conditions: none beside the row's own. -/
import Derived.ChangeSame
import Derived.SizedLaws
import Derived.DataReads
import Derived.Carry
import Derived.WideShapes
import Derived.KernelRfl
import Derived.Test.YtldndahfnkbngaaGreatRows
import Derived.WalkKit
import Derived.ProofKit
import Derived.OpenShut
import Derived.ShutString
import Derived.ChangeOld
import Derived.Below
import Derived.Test.YtldndahfnkbngaaGreatJA5
namespace Go.Proofs.YtldndahfnkbngaaGreat.Abs
open Go Go.Proofs
set_option linter.unusedVariables false
set_option linter.unusedSimpArgs false
attribute [local irreducible] callE
def zeroRes (b : List (Option Cont)) : Res := ⟨.tu [nSys 0 [] [] [] [], bl false], [tInsSS9 [], tStateS9 [], tItemSS9 [], tEventSS9 []], b⟩
def atRes (P : List (List Ins)) (H : List (List Event)) (b : List (Option Cont)) : Res := ⟨.tu [nSys 0 P (stsOf P H) (waysOf H P.length) H, bl true], [tInsSS9 P, tStateS9 (stsOf P H), tItemSS9 (waysOf H P.length), tEventSS9 H], b⟩
structure AT where
  j : Nat
  l : List (List Event)
  o : Nat
  b : Nat
  lv : Nat
end Go.Proofs.YtldndahfnkbngaaGreat.Abs
namespace Go.Proofs.YtldndahfnkbngaaGreat.Abs
open Go Go.Proofs
set_option linter.unusedVariables false
set_option linter.unusedSimpArgs false
attribute [local irreducible] callE
def hasCut (H : List (List Event)) (p i : Int) : Bool := decide (0 ≤ p ∧ p ≤ (H.length : Int) - 1) && decide (0 ≤ i ∧ i ≤ ((rd H p.toNat).length : Int))
noncomputable def backCutOf (H : List (List Event)) (p i : Int) : List Int := closeOf H ((lensOf H).set p.toNat i)
def atSys (P : List (List Ins)) (H : List (List Event)) : Sys := ⟨P, stsOf P H, waysOf H P.length, H⟩
noncomputable def backIs (P : List (List Ins)) (S : List State) (W : List (List Item)) (H : List (List Event)) (p i : Int) : Sys × Int :=
  if sysOk P S W H = true then (if hasCut H p i = true then (if waysFit (cutH H (backCutOf H p i)) P.length = true then (atSys P (cutH H (backCutOf H p i)), 0) else (⟨P, S, W, H⟩, 3)) else (⟨P, S, W, H⟩, 2)) else (⟨[], [], [], []⟩, 1)
def sysRes (X : Sys) (n : Int) (b : List (Option Cont)) : Res := ⟨.tu [nSys 0 X.progs X.states X.ways X.hist, i64 n], [tInsSS9 X.progs, tStateS9 X.states, tItemSS9 X.ways, tEventSS9 X.hist], b⟩
noncomputable def undoneIs (P : List (List Ins)) (S : List State) (W : List (List Item)) (H : List (List Event)) (p i : Int) : List Int := if (backIs P S W H p i).2 = 0 then (List.range H.length).map fun q => ((rd H q).length : Int) - ((rd (backIs P S W H p i).1.hist q).length : Int) else []
def lastOf (H : List (List Event)) (p : Int) : Int := if 0 ≤ p ∧ p ≤ (H.length : Int) - 1 then ((rd H p.toNat).length : Int) - 1 else -1
end Go.Proofs.YtldndahfnkbngaaGreat.Abs
namespace Go.Proofs.YtldndahfnkbngaaGreat.Abs
open Go Go.Proofs
set_option linter.unusedVariables false
set_option linter.unusedSimpArgs false
attribute [local irreducible] callE
def mItem (m : Int) (x : Item) : Item := ⟨decide (m.tmod 3 = 0), m + 1⟩
def wItem (x : Item) : Nat := 2
theorem wts_wItem (l : List Item) : wts wItem l = 2 * l.length := wts_const 2 l
def mWho (m : Int) (x : Who) : Who := ⟨m, m + 1⟩
def wWho (x : Who) : Nat := 2
theorem wts_wWho (l : List Who) : wts wWho l = 2 * l.length := wts_const 2 l
theorem ok_laws_markInsS8 (k : Nat) (l : List Ins) (m : Int) (hl : l.length ≤ 100000000000) (h0 : 0 ≤ m) (h1 : m ≤ 100000000000) : callE PR C (k + 1) 196 [(.h 1000000 0 0 [] 5 0 l.length), i64 m] [(.tree 8 (.sl 5 (l.map rIns)))] = some ⟨i64 (m + 5 * l.length), [], [some (.tree 8 (.sl 5 ((marks mIns wIns m l).map rIns)))]⟩ := by
  (refine fnI [ResultVar.tmp 4] Tryz.func196 ?_; conv => whnf)
  repeat' ((with_reducible (first | refine st16 ?_|refine fG.split (fun _ => ?_) (fun _ => ?_)|refine fG.bool (fun _ => ?_) (fun _ => ?_))) <;> (try (conv => whnf)))
  refine loop_rule (ι := TM Ins) (fun x => [(0, (.h 1000000 0 0 [] 5 0 l.length)), (1, i64 x.m), (5, i64 (x.j : Nat))])
    (fun x => [(1000000, ⟨0, x.g, x.d, .tree 8 (.sl 5 (x.l.map rIns))⟩)])
    (fun x => l.length - x.j) (fun x => x.j ≤ l.length ∧ x.l = half mIns wIns m l x.j ∧ x.m = m + 5 * x.j) ⟨0, m, l, 0, false⟩ fitOk ⟨Nat.zero_le _, (half_zero _ _ m l).symm, by simp⟩ (by simp [C]; omega) ?_
  rintro ⟨j, n, out, g, d⟩ sl ob ⟨hj, hout, hn⟩
  dsimp only at hj hout hn
  have hlen : out.length = l.length := by rw [hout, half_len]
  have hz : n.tmod 3 = n.tmod 3 := rfl
  (try dsimp only [cond_true, cond_false])
  (conv => whnf)
  repeat' ((with_reducible (first | refine sZ.eq (hz) ?_|refine st16 ?_|refine fG.split (fun _ => ?_) (fun _ => ?_)|refine fG.bool (fun _ => ?_) (fun _ => ?_))) <;> (try (conv => whnf)))
  case' refine_1 h =>
    refine ⟨⟨⟨j + 1, n + 1 + 1 + 1 + 1 + 1, out.set j (mIns n (rd out j)), _, _⟩, fitOk, ?_, ?_⟩⟩
    · refine ⟨by show j + 1 ≤ _; omega, ?_, by show _ = _; push_cast; omega⟩
      show _ = _
      rw [← half_set _ _ m l j (by omega), hout, hn]
      simp only [wts_wIns, List.length_take, mIns, show min j l.length = j by omega, Int.natCast_mul]
      rfl
    · show l.length - (j + 1) < l.length - j; omega
  case refine_2 h =>
    have : j = l.length := by omega
    rw [hout, hn, this, half_all]
theorem ok_laws_markItemS8 (k : Nat) (l : List Item) (m : Int) (hl : l.length ≤ 100000000000) (h0 : 0 ≤ m) (h1 : m ≤ 100000000000) : callE PR C (k + 1) 198 [(.h 1000000 0 0 [] 2 0 l.length), i64 m] [(.tree 8 (.sl 2 (l.map rItem)))] = some ⟨i64 (m + 2 * l.length), [], [some (.tree 8 (.sl 2 ((marks mItem wItem m l).map rItem)))]⟩ := by
  (refine fnI [ResultVar.tmp 4] Tryz.func198 ?_; conv => whnf)
  repeat' ((with_reducible (first | refine st16 ?_|refine fG.split (fun _ => ?_) (fun _ => ?_)|refine fG.bool (fun _ => ?_) (fun _ => ?_))) <;> (try (conv => whnf)))
  refine loop_rule (ι := TM Item) (fun x => [(0, (.h 1000000 0 0 [] 2 0 l.length)), (1, i64 x.m), (5, i64 (x.j : Nat))])
    (fun x => [(1000000, ⟨0, x.g, x.d, .tree 8 (.sl 2 (x.l.map rItem))⟩)])
    (fun x => l.length - x.j) (fun x => x.j ≤ l.length ∧ x.l = half mItem wItem m l x.j ∧ x.m = m + 2 * x.j) ⟨0, m, l, 0, false⟩ fitOk ⟨Nat.zero_le _, (half_zero _ _ m l).symm, by simp⟩ (by simp [C]; omega) ?_
  rintro ⟨j, n, out, g, d⟩ sl ob ⟨hj, hout, hn⟩
  dsimp only at hj hout hn
  have hlen : out.length = l.length := by rw [hout, half_len]
  have hz : n.tmod 3 = n.tmod 3 := rfl
  (try dsimp only [cond_true, cond_false])
  (conv => whnf)
  repeat' ((with_reducible (first | refine sZ.eq (hz) ?_|refine st16 ?_|refine fG.split (fun _ => ?_) (fun _ => ?_)|refine fG.bool (fun _ => ?_) (fun _ => ?_))) <;> (try (conv => whnf)))
  case' refine_1 h =>
    refine ⟨⟨⟨j + 1, n + 1 + 1, out.set j (mItem n (rd out j)), _, _⟩, fitOk, ?_, ?_⟩⟩
    · refine ⟨by show j + 1 ≤ _; omega, ?_, by show _ = _; push_cast; omega⟩
      show _ = _
      rw [← half_set _ _ m l j (by omega), hout, hn]
      simp only [wts_wItem, List.length_take, mItem, show min j l.length = j by omega, Int.natCast_mul]
      rfl
    · show l.length - (j + 1) < l.length - j; omega
  case refine_2 h =>
    have : j = l.length := by omega
    rw [hout, hn, this, half_all]
theorem ok_laws_markEventS8 (k : Nat) (l : List Event) (m : Int) (hl : l.length ≤ 100000000000) (h0 : 0 ≤ m) (h1 : m ≤ 100000000000) : callE PR C (k + 1) 199 [(.h 1000000 0 0 [] 3 0 l.length), i64 m] [(.tree 8 (.sl 3 (l.map rEvent)))] = some ⟨i64 (m + 3 * l.length), [], [some (.tree 8 (.sl 3 ((marks mEvent wEvent m l).map rEvent)))]⟩ := by
  (refine fnI [ResultVar.tmp 4] Tryz.func199 ?_; conv => whnf)
  repeat' ((with_reducible (first | refine st16 ?_|refine fG.split (fun _ => ?_) (fun _ => ?_)|refine fG.bool (fun _ => ?_) (fun _ => ?_))) <;> (try (conv => whnf)))
  refine loop_rule (ι := TM Event) (fun x => [(0, (.h 1000000 0 0 [] 3 0 l.length)), (1, i64 x.m), (5, i64 (x.j : Nat))])
    (fun x => [(1000000, ⟨0, x.g, x.d, .tree 8 (.sl 3 (x.l.map rEvent))⟩)])
    (fun x => l.length - x.j) (fun x => x.j ≤ l.length ∧ x.l = half mEvent wEvent m l x.j ∧ x.m = m + 3 * x.j) ⟨0, m, l, 0, false⟩ fitOk ⟨Nat.zero_le _, (half_zero _ _ m l).symm, by simp⟩ (by simp [C]; omega) ?_
  rintro ⟨j, n, out, g, d⟩ sl ob ⟨hj, hout, hn⟩
  dsimp only at hj hout hn
  have hlen : out.length = l.length := by rw [hout, half_len]
  have hz : n.tmod 3 = n.tmod 3 := rfl
  (try dsimp only [cond_true, cond_false])
  (conv => whnf)
  repeat' ((with_reducible (first | refine sZ.eq (hz) ?_|refine st16 ?_|refine fG.split (fun _ => ?_) (fun _ => ?_)|refine fG.bool (fun _ => ?_) (fun _ => ?_))) <;> (try (conv => whnf)))
  case' refine_1 h =>
    refine ⟨⟨⟨j + 1, n + 1 + 1 + 1, out.set j (mEvent n (rd out j)), _, _⟩, fitOk, ?_, ?_⟩⟩
    · refine ⟨by show j + 1 ≤ _; omega, ?_, by show _ = _; push_cast; omega⟩
      show _ = _
      rw [← half_set _ _ m l j (by omega), hout, hn]
      simp only [wts_wEvent, List.length_take, mEvent, show min j l.length = j by omega, Int.natCast_mul]
      rfl
    · show l.length - (j + 1) < l.length - j; omega
  case refine_2 h =>
    have : j = l.length := by omega
    rw [hout, hn, this, half_all]
def mInsL (m : Int) (x : List Ins) : List Ins := marks mIns wIns m x
def wInsL (x : List Ins) : Nat := 5 * x.length
theorem ok_laws_markInsSS (k : Nat) (l : List (List Ins)) (m : Int) (hl : l.length ≤ 100000000000) (h0 : 0 ≤ m) (h1 : m + wts wInsL l ≤ 10000000000) (hx : ∀ j : Nat, j < l.length → (rd l j).length ≤ 10000000000) :
    callE PR C (k + 2) 103 [.h 1000000 0 0 [] 1 0 l.length, i64 m] [.tree 9 (.sl 1 (l.map rInsL))] = some ⟨i64 (m + wts wInsL l), [], [some (.tree 9 (.sl 1 ((marks mInsL wInsL m l).map rInsL)))]⟩ := by
  (refine fnI [ResultVar.tmp 4] Tryz.func103 ?_; conv => whnf)
  repeat' ((with_reducible (first | refine st16 ?_|refine fG.split (fun _ => ?_) (fun _ => ?_)|refine fG.bool (fun _ => ?_) (fun _ => ?_))) <;> (try (conv => whnf)))
  refine loop_rule (ι := TM (List Ins)) (fun x => [(0, .h 1000000 0 0 [] 1 0 l.length), (1, i64 x.m), (5, i64 (x.j : Nat))])
    (fun x => [(1000000, ⟨0, x.g, x.d, .tree 9 (.sl 1 (x.l.map rInsL))⟩)])
    (fun x => l.length - x.j) (fun x => x.j ≤ l.length ∧ x.l = half mInsL wInsL m l x.j ∧ x.m = m + wts wInsL (l.take x.j)) ⟨0, m, l, 0, false⟩ fitOk ⟨Nat.zero_le _, (half_zero _ _ m l).symm, by simp [wts]⟩ (by simp [C]; omega) ?_
  rintro ⟨j, n, out, g, d⟩ sl ob ⟨hj, hout, hn⟩
  dsimp only at hj hout hn
  have hlen : out.length = l.length := by rw [hout, half_len]
  have hn1 : n ≤ 10000000000 := by have := wts_le wInsL l j; omega
  have hn0 : 0 ≤ n := by omega
  have hrd : j < l.length → rd out j = rd l j := fun h => by rw [hout]; exact half_rd _ _ m l j h
  (try dsimp only [cond_true, cond_false])
  (conv => whnf)
  by_cases hjl : j < l.length
  · have hx1 : (rd out j).length ≤ 10000000000 := by rw [hrd hjl]; exact hx j hjl
    have hq : ∀ k, callE PR C (k + 1) 196 [.h 1000000 0 0 [] 5 0 ((rd out j).map rIns).length, i64 n] [.tree 8 (.sl 5 ((rd out j).map rIns))] = some ⟨i64 (n + 5 * (rd out j).length), [], [some (.tree 8 (.sl 5 ((marks mIns wIns n (rd out j)).map rIns)))]⟩ := by
      intro k
      rw [List.length_map]
      exact ok_laws_markInsS8 k (rd out j) n (by omega) (by omega) (by omega)
    repeat' ((with_reducible (first | refine sCall.of (hq _) ?_|refine st16 ?_|refine fG.split (fun _ => ?_) (fun _ => ?_)|refine fG.bool (fun _ => ?_) (fun _ => ?_))) <;> (try (conv => whnf)))
    refine ⟨⟨⟨j + 1, n + 5 * (rd out j).length, out.set j (mInsL n (rd out j)), _, _⟩, fitOk, ?_, ?_⟩⟩
    · have e := wts_take wInsL l j hjl
      refine ⟨by show j + 1 ≤ _; omega, ?_, ?_⟩
      · show _ = _
        rw [← half_set _ _ m l j hjl, hrd hjl, hout, hn]
      · show _ = _
        rw [e, hrd hjl]
        simp only [wInsL]
        omega
    · show l.length - (j + 1) < l.length - j; omega
  · have : j = l.length := by omega
    repeat' ((with_reducible (first | refine st16 ?_|refine fG.split (fun _ => ?_) (fun _ => ?_)|refine fG.bool (fun _ => ?_) (fun _ => ?_))) <;> (try (conv => whnf)))
    rw [hout, hn, this, half_all, List.take_length]
def mItemL (m : Int) (x : List Item) : List Item := marks mItem wItem m x
def wItemL (x : List Item) : Nat := 2 * x.length
theorem ok_laws_markItemSS (k : Nat) (l : List (List Item)) (m : Int) (hl : l.length ≤ 100000000000) (h0 : 0 ≤ m) (h1 : m + wts wItemL l ≤ 10000000000) (hx : ∀ j : Nat, j < l.length → (rd l j).length ≤ 10000000000) :
    callE PR C (k + 2) 105 [.h 1000000 0 0 [] 1 0 l.length, i64 m] [.tree 9 (.sl 1 (l.map rItemL))] = some ⟨i64 (m + wts wItemL l), [], [some (.tree 9 (.sl 1 ((marks mItemL wItemL m l).map rItemL)))]⟩ := by
  (refine fnI [ResultVar.tmp 4] Tryz.func105 ?_; conv => whnf)
  repeat' ((with_reducible (first | refine st16 ?_|refine fG.split (fun _ => ?_) (fun _ => ?_)|refine fG.bool (fun _ => ?_) (fun _ => ?_))) <;> (try (conv => whnf)))
  refine loop_rule (ι := TM (List Item)) (fun x => [(0, .h 1000000 0 0 [] 1 0 l.length), (1, i64 x.m), (5, i64 (x.j : Nat))])
    (fun x => [(1000000, ⟨0, x.g, x.d, .tree 9 (.sl 1 (x.l.map rItemL))⟩)])
    (fun x => l.length - x.j) (fun x => x.j ≤ l.length ∧ x.l = half mItemL wItemL m l x.j ∧ x.m = m + wts wItemL (l.take x.j)) ⟨0, m, l, 0, false⟩ fitOk ⟨Nat.zero_le _, (half_zero _ _ m l).symm, by simp [wts]⟩ (by simp [C]; omega) ?_
  rintro ⟨j, n, out, g, d⟩ sl ob ⟨hj, hout, hn⟩
  dsimp only at hj hout hn
  have hlen : out.length = l.length := by rw [hout, half_len]
  have hn1 : n ≤ 10000000000 := by have := wts_le wItemL l j; omega
  have hn0 : 0 ≤ n := by omega
  have hrd : j < l.length → rd out j = rd l j := fun h => by rw [hout]; exact half_rd _ _ m l j h
  (try dsimp only [cond_true, cond_false])
  (conv => whnf)
  by_cases hjl : j < l.length
  · have hx1 : (rd out j).length ≤ 10000000000 := by rw [hrd hjl]; exact hx j hjl
    have hq : ∀ k, callE PR C (k + 1) 198 [.h 1000000 0 0 [] 2 0 ((rd out j).map rItem).length, i64 n] [.tree 8 (.sl 2 ((rd out j).map rItem))] = some ⟨i64 (n + 2 * (rd out j).length), [], [some (.tree 8 (.sl 2 ((marks mItem wItem n (rd out j)).map rItem)))]⟩ := by
      intro k
      rw [List.length_map]
      exact ok_laws_markItemS8 k (rd out j) n (by omega) (by omega) (by omega)
    repeat' ((with_reducible (first | refine sCall.of (hq _) ?_|refine st16 ?_|refine fG.split (fun _ => ?_) (fun _ => ?_)|refine fG.bool (fun _ => ?_) (fun _ => ?_))) <;> (try (conv => whnf)))
    refine ⟨⟨⟨j + 1, n + 2 * (rd out j).length, out.set j (mItemL n (rd out j)), _, _⟩, fitOk, ?_, ?_⟩⟩
    · have e := wts_take wItemL l j hjl
      refine ⟨by show j + 1 ≤ _; omega, ?_, ?_⟩
      · show _ = _
        rw [← half_set _ _ m l j hjl, hrd hjl, hout, hn]
      · show _ = _
        rw [e, hrd hjl]
        simp only [wItemL]
        omega
    · show l.length - (j + 1) < l.length - j; omega
  · have : j = l.length := by omega
    repeat' ((with_reducible (first | refine st16 ?_|refine fG.split (fun _ => ?_) (fun _ => ?_)|refine fG.bool (fun _ => ?_) (fun _ => ?_))) <;> (try (conv => whnf)))
    rw [hout, hn, this, half_all, List.take_length]
def mEventL (m : Int) (x : List Event) : List Event := marks mEvent wEvent m x
def wEventL (x : List Event) : Nat := 3 * x.length
theorem ok_laws_markEventSS (k : Nat) (l : List (List Event)) (m : Int) (hl : l.length ≤ 100000000000) (h0 : 0 ≤ m) (h1 : m + wts wEventL l ≤ 10000000000) (hx : ∀ j : Nat, j < l.length → (rd l j).length ≤ 10000000000) :
    callE PR C (k + 2) 106 [.h 1000000 0 0 [] 1 0 l.length, i64 m] [.tree 9 (.sl 1 (l.map rEventL))] = some ⟨i64 (m + wts wEventL l), [], [some (.tree 9 (.sl 1 ((marks mEventL wEventL m l).map rEventL)))]⟩ := by
  (refine fnI [ResultVar.tmp 4] Tryz.func106 ?_; conv => whnf)
  repeat' ((with_reducible (first | refine st16 ?_|refine fG.split (fun _ => ?_) (fun _ => ?_)|refine fG.bool (fun _ => ?_) (fun _ => ?_))) <;> (try (conv => whnf)))
  refine loop_rule (ι := TM (List Event)) (fun x => [(0, .h 1000000 0 0 [] 1 0 l.length), (1, i64 x.m), (5, i64 (x.j : Nat))])
    (fun x => [(1000000, ⟨0, x.g, x.d, .tree 9 (.sl 1 (x.l.map rEventL))⟩)])
    (fun x => l.length - x.j) (fun x => x.j ≤ l.length ∧ x.l = half mEventL wEventL m l x.j ∧ x.m = m + wts wEventL (l.take x.j)) ⟨0, m, l, 0, false⟩ fitOk ⟨Nat.zero_le _, (half_zero _ _ m l).symm, by simp [wts]⟩ (by simp [C]; omega) ?_
  rintro ⟨j, n, out, g, d⟩ sl ob ⟨hj, hout, hn⟩
  dsimp only at hj hout hn
  have hlen : out.length = l.length := by rw [hout, half_len]
  have hn1 : n ≤ 10000000000 := by have := wts_le wEventL l j; omega
  have hn0 : 0 ≤ n := by omega
  have hrd : j < l.length → rd out j = rd l j := fun h => by rw [hout]; exact half_rd _ _ m l j h
  (try dsimp only [cond_true, cond_false])
  (conv => whnf)
  by_cases hjl : j < l.length
  · have hx1 : (rd out j).length ≤ 10000000000 := by rw [hrd hjl]; exact hx j hjl
    have hq : ∀ k, callE PR C (k + 1) 199 [.h 1000000 0 0 [] 3 0 ((rd out j).map rEvent).length, i64 n] [.tree 8 (.sl 3 ((rd out j).map rEvent))] = some ⟨i64 (n + 3 * (rd out j).length), [], [some (.tree 8 (.sl 3 ((marks mEvent wEvent n (rd out j)).map rEvent)))]⟩ := by
      intro k
      rw [List.length_map]
      exact ok_laws_markEventS8 k (rd out j) n (by omega) (by omega) (by omega)
    repeat' ((with_reducible (first | refine sCall.of (hq _) ?_|refine st16 ?_|refine fG.split (fun _ => ?_) (fun _ => ?_)|refine fG.bool (fun _ => ?_) (fun _ => ?_))) <;> (try (conv => whnf)))
    refine ⟨⟨⟨j + 1, n + 3 * (rd out j).length, out.set j (mEventL n (rd out j)), _, _⟩, fitOk, ?_, ?_⟩⟩
    · have e := wts_take wEventL l j hjl
      refine ⟨by show j + 1 ≤ _; omega, ?_, ?_⟩
      · show _ = _
        rw [← half_set _ _ m l j hjl, hrd hjl, hout, hn]
      · show _ = _
        rw [e, hrd hjl]
        simp only [wEventL]
        omega
    · show l.length - (j + 1) < l.length - j; omega
  · have : j = l.length := by omega
    repeat' ((with_reducible (first | refine st16 ?_|refine fG.split (fun _ => ?_) (fun _ => ?_)|refine fG.bool (fun _ => ?_) (fun _ => ?_))) <;> (try (conv => whnf)))
    rw [hout, hn, this, half_all, List.take_length]

theorem wts_mul {α : Type} (n : Nat) (l : List (List α)) : wts (fun x => n * x.length) l = n * wts List.length l := by
  induction l with
  | nil => rfl
  | cons a l ih => simp only [wts] at ih ⊢; rw [ih, Nat.mul_add]
def mState (m : Int) (x : State) : State := ⟨m, marksI (m + 1) x.regs, marksI (m + 1 + x.regs.length) x.out, m + 1 + x.regs.length + x.out.length⟩
def wState (x : State) : Nat := 2 + x.regs.length + x.out.length
theorem wts_wState (l : List State) : wts wState l = 2 * l.length + wts wSt l := by
  induction l with
  | nil => rfl
  | cons a l ih => simp only [wts, List.length_cons, wState, wSt] at ih ⊢; omega
set_option maxHeartbeats 4000000 in
theorem ok_laws_markStateS (k : Nat) (l : List State) (m : Int) (hl : l.length ≤ 100000000000) (h0 : 0 ≤ m) (h1 : m + wts wState l ≤ 10000000000) (hx : ∀ j : Nat, j < l.length → (rd l j).regs.length ≤ 10000000000 ∧ (rd l j).out.length ≤ 10000000000) :
    callE PR C (k + 2) 104 [.h 1000000 0 0 [] 4 0 l.length, i64 m] [tStateS9 l] = some ⟨i64 (m + wts wState l), [], [some (tStateS9 (marks mState wState m l))]⟩ := by
  (refine fnI [ResultVar.tmp 4] Tryz.func104 ?_; conv => whnf)
  repeat' ((with_reducible (first | refine st16 ?_|refine fG.split (fun _ => ?_) (fun _ => ?_)|refine fG.bool (fun _ => ?_) (fun _ => ?_))) <;> (try (conv => whnf)))
  refine loop_rule (ι := TM State) (fun x => [(0, .h 1000000 0 0 [] 4 0 l.length), (1, i64 x.m), (5, i64 (x.j : Nat))])
    (fun x => [(1000000, ⟨0, x.g, x.d, tStateS9 x.l⟩)])
    (fun x => l.length - x.j) (fun x => x.j ≤ l.length ∧ x.l = half mState wState m l x.j ∧ x.m = m + wts wState (l.take x.j)) ⟨0, m, l, 0, false⟩ fitOk ⟨Nat.zero_le _, (half_zero _ _ m l).symm, by simp [wts]⟩ (by simp [C]; omega) ?_
  rintro ⟨j, n, out, g, d⟩ sl ob ⟨hj, hout, hn⟩
  dsimp only at hj hout hn
  have hlen : out.length = l.length := by rw [hout, half_len]
  have hn1 : n ≤ 10000000000 := by have := wts_le wState l j; omega
  have hn0 : 0 ≤ n := by omega
  have hrd : j < l.length → rd out j = rd l j := fun h => by rw [hout]; exact half_rd _ _ m l j h
  have hx' : j < l.length → (rd out j).regs.length ≤ 10000000000 ∧ (rd out j).out.length ≤ 10000000000 := fun h => by rw [hrd h]; exact hx j h
  (try dsimp only [cond_true, cond_false])
  (conv => whnf)
  by_cases hjl : j < l.length
  · have hx1 := (hx' hjl).1
    have hx2 := (hx' hjl).2
    have hq1 := fun k => ok_laws_markIntS' k (rd out j).regs (n + 1) (by omega) (by omega) (by omega)
    have hq2 := fun k => ok_laws_markIntS' k (rd out j).out (n + 1 + (rd out j).regs.length) (by omega) (by omega) (by omega)
    repeat' ((with_reducible (first | refine sCall.of (hq1 _) ?_|refine sCall.of (hq2 _) ?_|refine st16 ?_|refine fG.split (fun _ => ?_) (fun _ => ?_)|refine fG.bool (fun _ => ?_) (fun _ => ?_))) <;> (try (conv => whnf)))
    refine ⟨⟨⟨j + 1, n + 1 + (rd out j).regs.length + (rd out j).out.length + 1, out.set j (mState n (rd out j)), _, _⟩, fitOk, ?_, ?_⟩⟩
    · have e := wts_take wState l j hjl
      refine ⟨by show j + 1 ≤ _; omega, ?_, ?_⟩
      · show _ = _
        rw [← half_set _ _ m l j hjl, hrd hjl, hout, hn]
      · show _ = _
        rw [e, hrd hjl]
        simp only [wState]
        omega
    · show l.length - (j + 1) < l.length - j; omega
  · have : j = l.length := by omega
    repeat' ((with_reducible (first | refine st16 ?_|refine fG.split (fun _ => ?_) (fun _ => ?_)|refine fG.bool (fun _ => ?_) (fun _ => ?_))) <;> (try (conv => whnf)))
    rw [hout, hn, this, half_all, List.take_length]
def sysW (P : List (List Ins)) (S : List State) (W : List (List Item)) (H : List (List Event)) : Nat := wts wInsL P + (wts wState S + (wts wItemL W + wts wEventL H))
theorem sysW_le (P : List (List Ins)) (S : List State) (W : List (List Item)) (H : List (List Event)) : sysW P S W H ≤ 5 * sysSz P S W H := by
  have h1 : wts wInsL P = 5 * wts List.length P := wts_mul 5 P
  have h2 := wts_wState S
  have h3 : wts wItemL W = 2 * wts List.length W := wts_mul 2 W
  have h4 : wts wEventL H = 3 * wts List.length H := wts_mul 3 H
  unfold sysW sysSz
  omega
def mkP (m : Int) (P : List (List Ins)) : List (List Ins) := marks mInsL wInsL m P
def mkS (m : Int) (P : List (List Ins)) (S : List State) : List State := marks mState wState (m + wts wInsL P) S
def mkW (m : Int) (P : List (List Ins)) (S : List State) (W : List (List Item)) : List (List Item) := marks mItemL wItemL (m + wts wInsL P + wts wState S) W
def mkH (m : Int) (P : List (List Ins)) (S : List State) (W : List (List Item)) (H : List (List Event)) : List (List Event) := marks mEventL wEventL (m + wts wInsL P + wts wState S + wts wItemL W) H
theorem ok_laws_markSys (k : Nat) (P : List (List Ins)) (S : List State) (W : List (List Item)) (H : List (List Event)) (m : Int) (hb : SysB 1048576 P S W H) (h0 : 0 ≤ m) (h1 : m + sysW P S W H ≤ 1000000000) :
    callE PR C (k + 3) 24 [aSys 0 P S W H, i64 m] [tInsSS9 P, tStateS9 S, tItemSS9 W, tEventSS9 H] = some ⟨i64 (m + sysW P S W H), [], [some (tInsSS9 (mkP m P)), some (tStateS9 (mkS m P S)), some (tItemSS9 (mkW m P S W)), some (tEventSS9 (mkH m P S W H))]⟩ := by
  rw [show m + ((sysW P S W H : Nat) : Int) = m + wts wInsL P + wts wState S + wts wItemL W + wts wEventL H by simp only [sysW]; omega]
  unfold sysW at h1
  unfold mkP mkS mkW mkH
  have b1 := hb.p
  have b2 := hb.s
  have b3 := hb.w
  have b4 := hb.h
  have q1 := fun k => ok_laws_markInsSS k P m (by omega) h0 (by omega) (fun j hj => by have := hb.pp j hj; omega)
  have q2 := fun k => ok_laws_markStateS k S (m + wts wInsL P) (by omega) (by omega) (by omega) (fun j hj => by have := hb.ss j hj; omega)
  have q3 := fun k => ok_laws_markItemSS k W (m + wts wInsL P + wts wState S) (by omega) (by omega) (by omega) (fun j hj => by have := hb.ww j hj; omega)
  have q4 := fun k => ok_laws_markEventSS k H (m + wts wInsL P + wts wState S + wts wItemL W) (by omega) (by omega) (by omega) (fun j hj => by have := hb.hh j hj; omega)
  have e1 := marks_len mInsL wInsL P m
  have e2 := marks_len mState wState S (m + wts wInsL P)
  have e3 := marks_len mItemL wItemL W (m + wts wInsL P + wts wState S)
  have e4 := marks_len mEventL wEventL H (m + wts wInsL P + wts wState S + wts wItemL W)
  (refine fnI [ResultVar.tmp 4] Tryz.func24 ?_; conv => whnf)
  repeat' ((with_reducible (first | refine sCall.of (q1 _) ?_|refine sCall.of (q2 _) ?_|refine sCall.of (q3 _) ?_|refine sCall.of (q4 _) ?_|refine st16 ?_|refine fG.split (fun _ => ?_) (fun _ => ?_)|refine fG.bool (fun _ => ?_) (fun _ => ?_))) <;> (try (conv => whnf)))

theorem gBeq {a b : Bool} {A B : Prop} (h : B) (e : a = b := by with_reducible assumption) : fG (!(a == b)) A B := by subst e; cases a <;> exact h
theorem ok_laws_heldInsS (k : Nat) (x l : List Ins) (m : Int) (hl : l.length ≤ 1000000000) (h0 : 0 ≤ m) (h1 : m ≤ 10000000000) (e : x = marks mIns wIns m l) : callE PR C (k + 1) 200 [.h 1000000 0 0 [] 5 0 x.length, i64 m] [.tree 0 (.sl 5 (x.map rIns))] = some ⟨i64 (m + 5 * l.length), [], [none]⟩ := by
  have hxl : x.length = l.length := by rw [e, marks_len]
  (refine fnI [ResultVar.tmp 4] Tryz.func200 ?_; conv => whnf)
  repeat' ((with_reducible (first | refine st16 ?_|refine fG.split (fun _ => ?_) (fun _ => ?_)|refine fG.bool (fun _ => ?_) (fun _ => ?_))) <;> (try (conv => whnf)))
  refine loop_rule (ι := TH) (fun z => [(0, .h 1000000 0 0 [] 5 0 x.length), (1, i64 z.m), (5, i64 (z.j : Nat))])
    (fun z => [(1000000, ⟨0, 0, false, .tree 0 (.sl 5 (x.map rIns))⟩)])
    (fun z => l.length - z.j) (fun z => z.j ≤ l.length ∧ z.m = m + 5 * z.j) ⟨0, m⟩ fitOk ⟨Nat.zero_le _, by simp⟩ (by simp [C]; omega) ?_
  rintro ⟨j, n⟩ sl ob ⟨hj, hn⟩
  dsimp only at hj hn
  (try dsimp only [cond_true, cond_false])
  (conv => whnf)
  by_cases hjl : j < l.length
  · have hr : rd x j = mIns n (rd l j) := by
      rw [e, marks_rd _ _ _ _ _ hjl, wts_wIns, List.length_take, hn]
      rw [show min j l.length = j by omega]
      simp
    have hr1 : (rd x j).op = n := by rw [hr]; rfl
    have hr2 : (rd x j).r = n + 1 := by rw [hr]; rfl
    have hr3 : (rd x j).a = n + 1 + 1 := by rw [hr]; rfl
    have hr4 : (rd x j).b = n + 1 + 1 + 1 := by rw [hr]; rfl
    have hr5 : (rd x j).n = n + 1 + 1 + 1 + 1 := by rw [hr]; rfl
    clear hr e
    repeat' ((with_reducible (first | refine st16 ?_|refine fG.split (fun _ => ?_) (fun _ => ?_)|refine fG.bool (fun _ => ?_) (fun _ => ?_))) <;> (try (conv => whnf)))
    refine ⟨⟨⟨j + 1, n + 1 + 1 + 1 + 1 + 1⟩, fitOk, ?_, ?_⟩⟩
    · exact ⟨by show j + 1 ≤ _; omega, by show _ = _; push_cast; omega⟩
    · show l.length - (j + 1) < l.length - j; omega
  · have : j = l.length := by omega
    repeat' ((with_reducible (first | refine st16 ?_|refine fG.split (fun _ => ?_) (fun _ => ?_)|refine fG.bool (fun _ => ?_) (fun _ => ?_))) <;> (try (conv => whnf)))
    rw [hn, this]
theorem ok_laws_heldItemS (k : Nat) (x l : List Item) (m : Int) (hl : l.length ≤ 1000000000) (h0 : 0 ≤ m) (h1 : m ≤ 10000000000) (e : x = marks mItem wItem m l) : callE PR C (k + 1) 202 [.h 1000000 0 0 [] 2 0 x.length, i64 m] [.tree 0 (.sl 2 (x.map rItem))] = some ⟨i64 (m + 2 * l.length), [], [none]⟩ := by
  have hxl : x.length = l.length := by rw [e, marks_len]
  (refine fnI [ResultVar.tmp 4] Tryz.func202 ?_; conv => whnf)
  repeat' ((with_reducible (first | refine st16 ?_|refine fG.split (fun _ => ?_) (fun _ => ?_)|refine fG.bool (fun _ => ?_) (fun _ => ?_))) <;> (try (conv => whnf)))
  refine loop_rule (ι := TH) (fun z => [(0, .h 1000000 0 0 [] 2 0 x.length), (1, i64 z.m), (5, i64 (z.j : Nat))])
    (fun z => [(1000000, ⟨0, 0, false, .tree 0 (.sl 2 (x.map rItem))⟩)])
    (fun z => l.length - z.j) (fun z => z.j ≤ l.length ∧ z.m = m + 2 * z.j) ⟨0, m⟩ fitOk ⟨Nat.zero_le _, by simp⟩ (by simp [C]; omega) ?_
  rintro ⟨j, n⟩ sl ob ⟨hj, hn⟩
  dsimp only at hj hn
  (try dsimp only [cond_true, cond_false])
  (conv => whnf)
  by_cases hjl : j < l.length
  · have hr : rd x j = mItem n (rd l j) := by
      rw [e, marks_rd _ _ _ _ _ hjl, wts_wItem, List.length_take, hn]
      rw [show min j l.length = j by omega]
      simp
    have hr1 : (rd x j).mark = decide (Int.tmod (n) 3 = 0) := by rw [hr]; rfl
    have hr2 : (rd x j).v = n + 1 := by rw [hr]; rfl
    clear hr e
    have hz : n.tmod 3 = n.tmod 3 := rfl
    repeat' ((with_reducible (first | refine sZ.eq (hz) ?_|refine gBeq ?_|refine st16 ?_|refine fG.split (fun _ => ?_) (fun _ => ?_)|refine fG.bool (fun _ => ?_) (fun _ => ?_))) <;> (try (conv => whnf)))
    refine ⟨⟨⟨j + 1, n + 1 + 1⟩, fitOk, ?_, ?_⟩⟩
    · exact ⟨by show j + 1 ≤ _; omega, by show _ = _; push_cast; omega⟩
    · show l.length - (j + 1) < l.length - j; omega
  · have : j = l.length := by omega
    repeat' ((with_reducible (first | refine st16 ?_|refine fG.split (fun _ => ?_) (fun _ => ?_)|refine fG.bool (fun _ => ?_) (fun _ => ?_))) <;> (try (conv => whnf)))
    rw [hn, this]
theorem ok_laws_heldEventS (k : Nat) (x l : List Event) (m : Int) (hl : l.length ≤ 1000000000) (h0 : 0 ≤ m) (h1 : m ≤ 10000000000) (e : x = marks mEvent wEvent m l) : callE PR C (k + 1) 203 [.h 1000000 0 0 [] 3 0 x.length, i64 m] [.tree 0 (.sl 3 (x.map rEvent))] = some ⟨i64 (m + 3 * l.length), [], [none]⟩ := by
  have hxl : x.length = l.length := by rw [e, marks_len]
  (refine fnI [ResultVar.tmp 4] Tryz.func203 ?_; conv => whnf)
  repeat' ((with_reducible (first | refine st16 ?_|refine fG.split (fun _ => ?_) (fun _ => ?_)|refine fG.bool (fun _ => ?_) (fun _ => ?_))) <;> (try (conv => whnf)))
  refine loop_rule (ι := TH) (fun z => [(0, .h 1000000 0 0 [] 3 0 x.length), (1, i64 z.m), (5, i64 (z.j : Nat))])
    (fun z => [(1000000, ⟨0, 0, false, .tree 0 (.sl 3 (x.map rEvent))⟩)])
    (fun z => l.length - z.j) (fun z => z.j ≤ l.length ∧ z.m = m + 3 * z.j) ⟨0, m⟩ fitOk ⟨Nat.zero_le _, by simp⟩ (by simp [C]; omega) ?_
  rintro ⟨j, n⟩ sl ob ⟨hj, hn⟩
  dsimp only at hj hn
  (try dsimp only [cond_true, cond_false])
  (conv => whnf)
  by_cases hjl : j < l.length
  · have hr : rd x j = mEvent n (rd l j) := by
      rw [e, marks_rd _ _ _ _ _ hjl, wts_wEvent, List.length_take, hn]
      rw [show min j l.length = j by omega]
      simp
    have hr1 : (rd x j).kind = n := by rw [hr]; rfl
    have hr2 : (rd x j).peer = n + 1 := by rw [hr]; rfl
    have hr3 : (rd x j).v = n + 1 + 1 := by rw [hr]; rfl
    clear hr e
    repeat' ((with_reducible (first | refine st16 ?_|refine fG.split (fun _ => ?_) (fun _ => ?_)|refine fG.bool (fun _ => ?_) (fun _ => ?_))) <;> (try (conv => whnf)))
    refine ⟨⟨⟨j + 1, n + 1 + 1 + 1⟩, fitOk, ?_, ?_⟩⟩
    · exact ⟨by show j + 1 ≤ _; omega, by show _ = _; push_cast; omega⟩
    · show l.length - (j + 1) < l.length - j; omega
  · have : j = l.length := by omega
    repeat' ((with_reducible (first | refine st16 ?_|refine fG.split (fun _ => ?_) (fun _ => ?_)|refine fG.bool (fun _ => ?_) (fun _ => ?_))) <;> (try (conv => whnf)))
    rw [hn, this]
theorem ok_laws_heldInsSS (k : Nat) (x l : List (List Ins)) (m : Int) (hl : l.length ≤ 1000000000) (h0 : 0 ≤ m) (h1 : m + wts wInsL l ≤ 10000000000) (hx : ∀ j : Nat, j < l.length → (rd l j).length ≤ 1000000000) (e : x = marks mInsL wInsL m l) :
    callE PR C (k + 2) 107 [.h 1000000 0 0 [] 1 0 x.length, i64 m] [.tree 0 (.sl 1 (x.map rInsL))] = some ⟨i64 (m + wts wInsL l), [], [none]⟩ := by
  have hxl : x.length = l.length := by rw [e, marks_len]
  (refine fnI [ResultVar.tmp 4] Tryz.func107 ?_; conv => whnf)
  repeat' ((with_reducible (first | refine st16 ?_|refine fG.split (fun _ => ?_) (fun _ => ?_)|refine fG.bool (fun _ => ?_) (fun _ => ?_))) <;> (try (conv => whnf)))
  refine loop_rule (ι := TH) (fun z => [(0, .h 1000000 0 0 [] 1 0 x.length), (1, i64 z.m), (5, i64 (z.j : Nat))])
    (fun z => [(1000000, ⟨0, 0, false, .tree 0 (.sl 1 (x.map rInsL))⟩)])
    (fun z => l.length - z.j) (fun z => z.j ≤ l.length ∧ z.m = m + wts wInsL (l.take z.j)) ⟨0, m⟩ fitOk ⟨Nat.zero_le _, by simp [wts]⟩ (by simp [C]; omega) ?_
  rintro ⟨j, n⟩ sl ob ⟨hj, hn⟩
  dsimp only at hj hn
  have hn1 : n ≤ 10000000000 := by have := wts_le wInsL l j; omega
  (try dsimp only [cond_true, cond_false])
  (conv => whnf)
  by_cases hjl : j < l.length
  · have hr : rd x j = marks mIns wIns n (rd l j) := by rw [e, marks_rd _ _ _ _ _ hjl, hn]; rfl
    have hln : (rd x j).length = (rd l j).length := by rw [hr, marks_len]
    have hw := wts_take wInsL l j hjl
    have hw2 := wts_le wInsL l (j + 1)
    have hwj : wInsL (rd l j) = 5 * (rd l j).length := rfl
    have hq := fun k => ok_laws_heldInsS k (rd x j) (rd l j) n (hx j hjl) (by omega) hn1 hr
    clear hr e
    repeat' ((with_reducible (first | refine sCall.of (hq _) ?_|refine st16 ?_|refine fG.split (fun _ => ?_) (fun _ => ?_)|refine fG.bool (fun _ => ?_) (fun _ => ?_))) <;> (try (conv => whnf)))
    refine ⟨⟨⟨j + 1, n + 5 * (rd l j).length⟩, fitOk, ?_, ?_⟩⟩
    · exact ⟨by show j + 1 ≤ _; omega, by show _ = _; rw [hw, hwj]; push_cast; omega⟩
    · show l.length - (j + 1) < l.length - j; omega
  · have : j = l.length := by omega
    repeat' ((with_reducible (first | refine st16 ?_|refine fG.split (fun _ => ?_) (fun _ => ?_)|refine fG.bool (fun _ => ?_) (fun _ => ?_))) <;> (try (conv => whnf)))
    rw [hn, this, List.take_length]
theorem ok_laws_heldItemSS (k : Nat) (x l : List (List Item)) (m : Int) (hl : l.length ≤ 1000000000) (h0 : 0 ≤ m) (h1 : m + wts wItemL l ≤ 10000000000) (hx : ∀ j : Nat, j < l.length → (rd l j).length ≤ 1000000000) (e : x = marks mItemL wItemL m l) :
    callE PR C (k + 2) 109 [.h 1000000 0 0 [] 1 0 x.length, i64 m] [.tree 0 (.sl 1 (x.map rItemL))] = some ⟨i64 (m + wts wItemL l), [], [none]⟩ := by
  have hxl : x.length = l.length := by rw [e, marks_len]
  (refine fnI [ResultVar.tmp 4] Tryz.func109 ?_; conv => whnf)
  repeat' ((with_reducible (first | refine st16 ?_|refine fG.split (fun _ => ?_) (fun _ => ?_)|refine fG.bool (fun _ => ?_) (fun _ => ?_))) <;> (try (conv => whnf)))
  refine loop_rule (ι := TH) (fun z => [(0, .h 1000000 0 0 [] 1 0 x.length), (1, i64 z.m), (5, i64 (z.j : Nat))])
    (fun z => [(1000000, ⟨0, 0, false, .tree 0 (.sl 1 (x.map rItemL))⟩)])
    (fun z => l.length - z.j) (fun z => z.j ≤ l.length ∧ z.m = m + wts wItemL (l.take z.j)) ⟨0, m⟩ fitOk ⟨Nat.zero_le _, by simp [wts]⟩ (by simp [C]; omega) ?_
  rintro ⟨j, n⟩ sl ob ⟨hj, hn⟩
  dsimp only at hj hn
  have hn1 : n ≤ 10000000000 := by have := wts_le wItemL l j; omega
  (try dsimp only [cond_true, cond_false])
  (conv => whnf)
  by_cases hjl : j < l.length
  · have hr : rd x j = marks mItem wItem n (rd l j) := by rw [e, marks_rd _ _ _ _ _ hjl, hn]; rfl
    have hln : (rd x j).length = (rd l j).length := by rw [hr, marks_len]
    have hw := wts_take wItemL l j hjl
    have hw2 := wts_le wItemL l (j + 1)
    have hwj : wItemL (rd l j) = 2 * (rd l j).length := rfl
    have hq := fun k => ok_laws_heldItemS k (rd x j) (rd l j) n (hx j hjl) (by omega) hn1 hr
    clear hr e
    repeat' ((with_reducible (first | refine sCall.of (hq _) ?_|refine st16 ?_|refine fG.split (fun _ => ?_) (fun _ => ?_)|refine fG.bool (fun _ => ?_) (fun _ => ?_))) <;> (try (conv => whnf)))
    refine ⟨⟨⟨j + 1, n + 2 * (rd l j).length⟩, fitOk, ?_, ?_⟩⟩
    · exact ⟨by show j + 1 ≤ _; omega, by show _ = _; rw [hw, hwj]; push_cast; omega⟩
    · show l.length - (j + 1) < l.length - j; omega
  · have : j = l.length := by omega
    repeat' ((with_reducible (first | refine st16 ?_|refine fG.split (fun _ => ?_) (fun _ => ?_)|refine fG.bool (fun _ => ?_) (fun _ => ?_))) <;> (try (conv => whnf)))
    rw [hn, this, List.take_length]
theorem ok_laws_heldEventSS (k : Nat) (x l : List (List Event)) (m : Int) (hl : l.length ≤ 1000000000) (h0 : 0 ≤ m) (h1 : m + wts wEventL l ≤ 10000000000) (hx : ∀ j : Nat, j < l.length → (rd l j).length ≤ 1000000000) (e : x = marks mEventL wEventL m l) :
    callE PR C (k + 2) 110 [.h 1000000 0 0 [] 1 0 x.length, i64 m] [.tree 0 (.sl 1 (x.map rEventL))] = some ⟨i64 (m + wts wEventL l), [], [none]⟩ := by
  have hxl : x.length = l.length := by rw [e, marks_len]
  (refine fnI [ResultVar.tmp 4] Tryz.func110 ?_; conv => whnf)
  repeat' ((with_reducible (first | refine st16 ?_|refine fG.split (fun _ => ?_) (fun _ => ?_)|refine fG.bool (fun _ => ?_) (fun _ => ?_))) <;> (try (conv => whnf)))
  refine loop_rule (ι := TH) (fun z => [(0, .h 1000000 0 0 [] 1 0 x.length), (1, i64 z.m), (5, i64 (z.j : Nat))])
    (fun z => [(1000000, ⟨0, 0, false, .tree 0 (.sl 1 (x.map rEventL))⟩)])
    (fun z => l.length - z.j) (fun z => z.j ≤ l.length ∧ z.m = m + wts wEventL (l.take z.j)) ⟨0, m⟩ fitOk ⟨Nat.zero_le _, by simp [wts]⟩ (by simp [C]; omega) ?_
  rintro ⟨j, n⟩ sl ob ⟨hj, hn⟩
  dsimp only at hj hn
  have hn1 : n ≤ 10000000000 := by have := wts_le wEventL l j; omega
  (try dsimp only [cond_true, cond_false])
  (conv => whnf)
  by_cases hjl : j < l.length
  · have hr : rd x j = marks mEvent wEvent n (rd l j) := by rw [e, marks_rd _ _ _ _ _ hjl, hn]; rfl
    have hln : (rd x j).length = (rd l j).length := by rw [hr, marks_len]
    have hw := wts_take wEventL l j hjl
    have hw2 := wts_le wEventL l (j + 1)
    have hwj : wEventL (rd l j) = 3 * (rd l j).length := rfl
    have hq := fun k => ok_laws_heldEventS k (rd x j) (rd l j) n (hx j hjl) (by omega) hn1 hr
    clear hr e
    repeat' ((with_reducible (first | refine sCall.of (hq _) ?_|refine st16 ?_|refine fG.split (fun _ => ?_) (fun _ => ?_)|refine fG.bool (fun _ => ?_) (fun _ => ?_))) <;> (try (conv => whnf)))
    refine ⟨⟨⟨j + 1, n + 3 * (rd l j).length⟩, fitOk, ?_, ?_⟩⟩
    · exact ⟨by show j + 1 ≤ _; omega, by show _ = _; rw [hw, hwj]; push_cast; omega⟩
    · show l.length - (j + 1) < l.length - j; omega
  · have : j = l.length := by omega
    repeat' ((with_reducible (first | refine st16 ?_|refine fG.split (fun _ => ?_) (fun _ => ?_)|refine fG.bool (fun _ => ?_) (fun _ => ?_))) <;> (try (conv => whnf)))
    rw [hn, this, List.take_length]
set_option maxHeartbeats 4000000 in
theorem ok_laws_heldStateS (k : Nat) (x l : List State) (m : Int) (hl : l.length ≤ 1000000000) (h0 : 0 ≤ m) (h1 : m + wts wState l ≤ 10000000000) (hx : ∀ j : Nat, j < l.length → (rd l j).regs.length ≤ 1000000000 ∧ (rd l j).out.length ≤ 1000000000) (e : x = marks mState wState m l) :
    callE PR C (k + 2) 108 [.h 1000000 0 0 [] 4 0 x.length, i64 m] [tStateS x] = some ⟨i64 (m + wts wState l), [], [none]⟩ := by
  have hxl : x.length = l.length := by rw [e, marks_len]
  (refine fnI [ResultVar.tmp 4] Tryz.func108 ?_; conv => whnf)
  repeat' ((with_reducible (first | refine st16 ?_|refine fG.split (fun _ => ?_) (fun _ => ?_)|refine fG.bool (fun _ => ?_) (fun _ => ?_))) <;> (try (conv => whnf)))
  refine loop_rule (ι := TH) (fun z => [(0, .h 1000000 0 0 [] 4 0 x.length), (1, i64 z.m), (5, i64 (z.j : Nat))])
    (fun z => [(1000000, ⟨0, 0, false, tStateS x⟩)])
    (fun z => l.length - z.j) (fun z => z.j ≤ l.length ∧ z.m = m + wts wState (l.take z.j)) ⟨0, m⟩ fitOk ⟨Nat.zero_le _, by simp [wts]⟩ (by simp [C]; omega) ?_
  rintro ⟨j, n⟩ sl ob ⟨hj, hn⟩
  dsimp only at hj hn
  have hn1 : n ≤ 10000000000 := by have := wts_le wState l j; omega
  (try dsimp only [cond_true, cond_false])
  (conv => whnf)
  by_cases hjl : j < l.length
  · have hx1 := (hx j hjl).1
    have hx2 := (hx j hjl).2
    have hw := wts_take wState l j hjl
    have hw2 := wts_le wState l (j + 1)
    have er : rd x j = mState n (rd l j) := by rw [e, hn]; exact marks_rd _ _ m l j hjl
    have e2 : (rd x j).at_ = n := by rw [er]; rfl
    have e3 : (rd x j).regs = marksI (n + 1) (rd l j).regs := by rw [er]; rfl
    have e4 : (rd x j).out = marksI (n + 1 + (rd x j).regs.length) (rd l j).out := by rw [e3, marksI_len, er]; rfl
    have l1 : (rd x j).regs.length = (rd l j).regs.length := by rw [e3, marksI_len]
    have l2 : (rd x j).out.length = (rd l j).out.length := by rw [e4, marksI_len]
    have e5 : (rd x j).code = n + 1 + (rd x j).regs.length + (rd x j).out.length := by rw [l1, l2, er]; rfl
    have hwj : wState (rd l j) = 2 + (rd x j).regs.length + (rd x j).out.length := by rw [l1, l2]; rfl
    have hq1 := fun k => ok_laws_heldIntS k (rd x j).regs (n + 1) (by omega) (by omega) (by omega) (fun i hi => by rw [e3] at hi ⊢; exact marksI_rd _ _ i hi)
    have hq2 := fun k => ok_laws_heldIntS k (rd x j).out (n + 1 + (rd x j).regs.length) (by omega) (by omega) (by omega) (fun i hi => by rw [e4] at hi ⊢; exact marksI_rd _ _ i hi)
    clear e3 e4 er e
    repeat' ((with_reducible (first | refine sCall.of (hq1 _) ?_|refine sCall.of (hq2 _) ?_|refine st16 ?_|refine fG.split (fun _ => ?_) (fun _ => ?_)|refine fG.bool (fun _ => ?_) (fun _ => ?_))) <;> (try (conv => whnf)))
    refine ⟨⟨⟨j + 1, n + 1 + (rd x j).regs.length + (rd x j).out.length + 1⟩, fitOk, ?_, ?_⟩⟩
    · exact ⟨by show j + 1 ≤ _; omega, by show _ = _; rw [hw, hwj]; push_cast; omega⟩
    · show l.length - (j + 1) < l.length - j; omega
  · have : j = l.length := by omega
    repeat' ((with_reducible (first | refine st16 ?_|refine fG.split (fun _ => ?_) (fun _ => ?_)|refine fG.bool (fun _ => ?_) (fun _ => ?_))) <;> (try (conv => whnf)))
    rw [hn, this, List.take_length]
theorem ok_laws_heldSys (k : Nat) (P : List (List Ins)) (S : List State) (W : List (List Item)) (H : List (List Event)) (P' : List (List Ins)) (S' : List State) (W' : List (List Item)) (H' : List (List Event)) (m : Int) (hb : SysB 1000000000 P S W H) (h0 : 0 ≤ m) (h1 : m + sysW P S W H ≤ 10000000000)
    (e1 : P' = mkP m P) (e2 : S' = mkS m P S) (e3 : W' = mkW m P S W) (e4 : H' = mkH m P S W H) :
    callE PR C (k + 3) 26 [aSys 0 P' S' W' H', i64 m] [tInsSS P', tStateS S', tItemSS W', tEventSS H'] = some ⟨i64 (m + sysW P S W H), [], [none, none, none, none]⟩ := by
  rw [show m + ((sysW P S W H : Nat) : Int) = m + wts wInsL P + wts wState S + wts wItemL W + wts wEventL H by simp only [sysW]; omega]
  unfold sysW at h1
  have b1 := hb.p
  have b2 := hb.s
  have b3 := hb.w
  have b4 := hb.h
  have q1 := fun k => ok_laws_heldInsSS k P' P m (by omega) h0 (by omega) hb.pp e1
  have q2 := fun k => ok_laws_heldStateS k S' S (m + wts wInsL P) (by omega) (by omega) (by omega) hb.ss e2
  have q3 := fun k => ok_laws_heldItemSS k W' W (m + wts wInsL P + wts wState S) (by omega) (by omega) (by omega) hb.ww e3
  have q4 := fun k => ok_laws_heldEventSS k H' H (m + wts wInsL P + wts wState S + wts wItemL W) (by omega) (by omega) (by omega) hb.hh e4
  clear e1 e2 e3 e4
  (refine fnI [ResultVar.tmp 4] Tryz.func26 ?_; conv => whnf)
  repeat' ((with_reducible (first | refine sCall.of (q1 _) ?_|refine sCall.of (q2 _) ?_|refine sCall.of (q3 _) ?_|refine sCall.of (q4 _) ?_|refine st16 ?_|refine fG.split (fun _ => ?_) (fun _ => ?_)|refine fG.bool (fun _ => ?_) (fun _ => ?_))) <;> (try (conv => whnf)))

end Go.Proofs.YtldndahfnkbngaaGreat.Abs
namespace Go.Proofs.YtldndahfnkbngaaGreat.Abs
open Go Go.Proofs
set_option linter.unusedVariables false
set_option linter.unusedSimpArgs false
attribute [local irreducible] callE
structure SysG (X : Sys) : Prop where
  b : SysB 1048576 X.progs X.states X.ways X.hist
  w : sysW X.progs X.states X.ways X.hist ≤ 500000000
theorem sysG_empty : SysG ⟨[], [], [], []⟩ := by
  refine ⟨⟨by simp, fun j hj => by simp at hj, by simp, fun j hj => by simp at hj, by simp, fun j hj => by simp at hj, by simp, fun j hj => by simp at hj⟩, by simp [sysW, wts]⟩
theorem sysG_of {X : Sys} (hB : SysB 1048576 X.progs X.states X.ways X.hist) (n1 : X.progs.length ≤ 4) (n2 : X.states.length ≤ 4) (n3 : X.ways.length ≤ 16) (n4 : X.hist.length ≤ 4) : SysG X := by
  refine ⟨hB, ?_⟩
  have h1 := wts_bound wInsL 5242880 X.progs fun j hj => by have := hB.pp j hj; unfold wInsL; omega
  have h2 := wts_bound wState 2097154 X.states fun j hj => by have := hB.ss j hj; unfold wState; omega
  have h3 := wts_bound wItemL 2097152 X.ways fun j hj => by have := hB.ww j hj; unfold wItemL; omega
  have h4 := wts_bound wEventL 3145728 X.hist fun j hj => by have := hB.hh j hj; unfold wEventL; omega
  unfold sysW
  omega
end Go.Proofs.YtldndahfnkbngaaGreat.Abs
namespace Go.Proofs.YtldndahfnkbngaaGreat.Abs
open Go Go.Proofs
set_option linter.unusedVariables false
set_option linter.unusedSimpArgs false
attribute [local irreducible] callE
def askedOf (x : Ins) (peer : Int) : Int := if x.n = 9 then peer else x.n
def srcIs (n : Nat) (W : List (List Item)) (p : Nat) (q : Int) : Int × Int :=
  if 0 ≤ q ∧ q ≤ (n : Int) - 1 then (if (rd W (q.toNat * n + p)).length = 0 then (0, 3) else if (rd (rd W (q.toNat * n + p)) 0).mark = true then (0, 5) else (q, 0)) else (0, 2)
def wantsOf (P : List (List Ins)) (S : List State) (p : Nat) : Event := next (rd P p) (rd S p)
def insAt (P : List (List Ins)) (S : List State) (p : Nat) : Ins := rd (rd P p) (rd S p).at_.toNat
def comingIs (P : List (List Ins)) (S : List State) (W : List (List Item)) (H : List (List Event)) (p peer : Int) : Event × Int :=
  if 0 ≤ p ∧ p ≤ (P.length : Int) - 1 then
    (if (rd S p.toNat).code = 0 then
      (if (200 : Int) ≤ ((rd H p.toNat).length : Int) then (⟨0, 0, 0⟩, 4) else
        if (wantsOf P S p.toNat).kind = 2 then (if (12 : Int) ≤ ((rd W (p.toNat * P.length + (wantsOf P S p.toNat).peer.toNat)).length : Int) then (⟨0, 0, 0⟩, 4) else (wantsOf P S p.toNat, 0))
        else if (wantsOf P S p.toNat).kind = 3 then
          (if (srcIs P.length W p.toNat (askedOf (insAt P S p.toNat) peer)).2 = 0 then (⟨3, askedOf (insAt P S p.toNat) peer, (rd (rd W ((askedOf (insAt P S p.toNat) peer).toNat * P.length + p.toNat)) 0).v⟩, 0) else (⟨0, 0, 0⟩, (srcIs P.length W p.toNat (askedOf (insAt P S p.toNat) peer)).2))
        else (wantsOf P S p.toNat, 0))
    else (⟨0, 0, 0⟩, 6))
  else (⟨0, 0, 0⟩, 2)
def stepW (n : Nat) (W : List (List Item)) (p : Nat) (e : Event) : List (List Item) :=
  if e.kind = 2 then W.set (p * n + e.peer.toNat) (rd W (p * n + e.peer.toNat) ++ [⟨false, e.v⟩]) else if e.kind = 3 then W.set (e.peer.toNat * n + p) ((rd W (e.peer.toNat * n + p)).drop 1) else W
def stepS (P : List (List Ins)) (S : List State) (W : List (List Item)) (H : List (List Event)) (p : Nat) (e : Event) : Sys :=
  ⟨P, S.set p (did (rd P p) (rd S p) e), stepW P.length W p e, H.set p (rd H p ++ [e])⟩
def stepIs (P : List (List Ins)) (S : List State) (W : List (List Item)) (H : List (List Event)) (p peer : Int) : Sys × Int :=
  if (comingIs P S W H p peer).2 = 0 then (stepS P S W H p.toNat (comingIs P S W H p peer).1, 0) else (⟨P, S, W, H⟩, (comingIs P S W H p peer).2)
structure ComesAt (P : List (List Ins)) (S : List State) (W : List (List Item)) (H : List (List Event)) (p : Nat) (e : Event) : Prop where
  lt : p < P.length
  code : (rd S p).code = 0
  few : (rd H p).length < 200
  comes : comes e (next (rd P p) (rd S p)) = true
  send : e.kind = 2 → (0 ≤ e.peer ∧ e.peer.toNat < P.length) ∧ (rd W (p * P.length + e.peer.toNat)).length < 12
  take : e.kind = 3 → (0 ≤ e.peer ∧ e.peer.toNat < P.length) ∧ 0 < (rd W (e.peer.toNat * P.length + p)).length ∧ (rd (rd W (e.peer.toNat * P.length + p)) 0).mark = false ∧ e.v = (rd (rd W (e.peer.toNat * P.length + p)) 0).v
theorem next_kind {l : List Ins} {s : State} : (next l s).kind = 2 ∧ (rd l s.at_.toNat).op = 6 ∧ (next l s).peer = (rd l s.at_.toNat).n ∨ (next l s).kind = 3 ∧ (rd l s.at_.toNat).op = 7 ∧ next l s = ⟨3, (rd l s.at_.toNat).n, 0⟩ ∨ (next l s).kind ≠ 2 ∧ (next l s).kind ≠ 3 := by
  unfold next
  by_cases h6 : (rd l s.at_.toNat).op = 6
  · left; simp [h6]
  · by_cases h7 : (rd l s.at_.toNat).op = 7
    · right; left; simp [h7]
    · right; right
      by_cases h8 : (rd l s.at_.toNat).op = 8 <;> simp [h6, h7, h8]
theorem insOk_peer {x : Ins} {m n : Int} (h : insOk x m n = true) (h6 : x.op = 6) : 0 ≤ x.n ∧ x.n ≤ n - 1 := by
  simp only [insOk, h6, inB, Bool.and_eq_true, decide_eq_true_eq] at h
  simp at h
  omega
theorem comes_self {w : Event} (h : w.kind ≠ 3) : comes w w = true := by rw [comes_other h]; simp
theorem coming_comes {P : List (List Ins)} {S : List State} {W : List (List Item)} {H : List (List Event)} {p peer : Int} (hs : sysOk P S W H = true) (h : (comingIs P S W H p peer).2 = 0) : 0 ≤ p ∧ ComesAt P S W H p.toNat (comingIs P S W H p peer).1 := by
  simp only [sysOk, sizesOk, inB, Bool.and_eq_true, decide_eq_true_eq, allBelow_eq, List.all_eq_true] at hs
  obtain ⟨⟨a1, a2, a3, a4⟩, b1, b2, b3, b4⟩ := hs
  unfold comingIs at h ⊢
  by_cases c1 : 0 ≤ p ∧ p ≤ (P.length : Int) - 1
  · rw [if_pos c1] at h ⊢
    refine ⟨c1.1, ?_⟩
    have hp : p.toNat < P.length := by omega
    have hpr := b2 p.toNat hp
    simp only [procOk, Bool.and_eq_true] at hpr
    obtain ⟨e1, e2, e3, e4, e5⟩ := stood_evOk hpr.2.2
    have hat0 := e2.at0
    have hat1 := e2.at1
    have hio := progOk_iok e3 (i := (rd S p.toNat).at_.toNat) (by omega)
    by_cases c2 : (rd S p.toNat).code = 0
    · rw [if_pos c2] at h ⊢
      by_cases c3 : (200 : Int) ≤ ((rd H p.toNat).length : Int)
      · rw [if_pos c3] at h; exact absurd h (by show ¬ (4 : Int) = 0; decide)
      · rw [if_neg c3] at h ⊢
        by_cases c4 : (wantsOf P S p.toNat).kind = 2
        · rw [if_pos c4] at h ⊢
          by_cases c5 : (12 : Int) ≤ ((rd W (p.toNat * P.length + (wantsOf P S p.toNat).peer.toNat)).length : Int)
          · rw [if_pos c5] at h; exact absurd h (by show ¬ (4 : Int) = 0; decide)
          · rw [if_neg c5] at h ⊢
            have hk := @next_kind (rd P p.toNat) (rd S p.toNat)
            have hpe : 0 ≤ (wantsOf P S p.toNat).peer ∧ (wantsOf P S p.toNat).peer ≤ (P.length : Int) - 1 := by
              rcases hk with hk | hk | hk
              · have h6 := hk.2.1
                have hx : insOk (rd (rd P p.toNat) (rd S p.toNat).at_.toNat) (rd P p.toNat).length P.length = true := by
                  have h1 := hpr.1
                  simp only [progOk, Bool.and_eq_true, List.all_eq_true] at h1
                  exact h1.2 _ (rd_mem (by omega))
                show 0 ≤ (next _ _).peer ∧ (next _ _).peer ≤ _
                rw [hk.2.2]
                exact insOk_peer hx h6
              · exact absurd hk.1 (by show ¬ (wantsOf P S p.toNat).kind = 3; omega)
              · exact absurd c4 hk.1
            exact ⟨hp, c2, by omega, comes_self (by show (wantsOf P S p.toNat).kind ≠ 3; omega), fun _ => ⟨⟨hpe.1, by show (wantsOf P S p.toNat).peer.toNat < _; omega⟩, by show (rd W (p.toNat * P.length + (wantsOf P S p.toNat).peer.toNat)).length < 12; omega⟩, fun h3 => absurd h3 (by show ¬ (wantsOf P S p.toNat).kind = 3; omega)⟩
        · rw [if_neg c4] at h ⊢
          by_cases c6 : (wantsOf P S p.toNat).kind = 3
          · rw [if_pos c6] at h ⊢
            generalize hq : askedOf (insAt P S p.toNat) peer = q at h ⊢
            by_cases c7 : (srcIs P.length W p.toNat q).2 = 0
            · rw [if_pos c7] at h ⊢
              unfold srcIs at c7
              by_cases d1 : 0 ≤ q ∧ q ≤ (P.length : Int) - 1
              · rw [if_pos d1] at c7
                by_cases d2 : (rd W (q.toNat * P.length + p.toNat)).length = 0
                · rw [if_pos d2] at c7; exact absurd c7 (by show ¬ (3 : Int) = 0; decide)
                · rw [if_neg d2] at c7
                  by_cases d3 : (rd (rd W (q.toNat * P.length + p.toNat)) 0).mark = true
                  · rw [if_pos d3] at c7; exact absurd c7 (by show ¬ (5 : Int) = 0; decide)
                  · have hpl := place_lt (n := P.length) (a := q.toNat) (b := p.toNat) (by omega) hp
                    have hw := b1 (rd W (q.toNat * P.length + p.toNat)) (rd_mem (by omega))
                    simp only [wayOk, Bool.and_eq_true, List.all_eq_true] at hw
                    have hit := hw.2 (rd (rd W (q.toNat * P.length + p.toNat)) 0) (rd_mem (by omega))
                    simp only [itemOk, numOk, Bool.and_eq_true, decide_eq_true_eq] at hit
                    have hk := @next_kind (rd P p.toNat) (rd S p.toNat)
                    have h7 : (rd (rd P p.toNat) (rd S p.toNat).at_.toNat).op = 7 ∧ next (rd P p.toNat) (rd S p.toNat) = ⟨3, (rd (rd P p.toNat) (rd S p.toNat).at_.toNat).n, 0⟩ := by
                      rcases hk with hk | hk | hk
                      · exact absurd hk.1 c4
                      · exact hk.2
                      · exact absurd c6 hk.2
                    have htk := hio.take h7.1
                    refine ⟨hp, c2, by omega, ?_, fun h3 => absurd h3 (by show ¬ (3 : Int) = 2; decide), fun _ => ⟨⟨d1.1, by show q.toNat < _; omega⟩, by show 0 < (rd W (q.toNat * P.length + p.toNat)).length; omega, by simpa using d3, rfl⟩⟩
                    rw [h7.2, comes_take]
                    refine ⟨rfl, hit.1, ?_⟩
                    show q = _ ∧ _ ∨ _ ∧ 0 ≤ q ∧ q ≤ 3
                    rw [← hq]
                    unfold askedOf insAt
                    by_cases h9 : (rd (rd P p.toNat) (rd S p.toNat).at_.toNat).n = 9
                    · right
                      rw [if_pos h9]
                      refine ⟨h9, ?_⟩
                      have : q = peer := by rw [← hq, askedOf, insAt, if_pos h9]
                      omega
                    · left
                      rw [if_neg h9]
                      exact ⟨rfl, h9⟩
              · rw [if_neg d1] at c7; exact absurd c7 (by show ¬ (2 : Int) = 0; decide)
            · rw [if_neg c7] at h; exact absurd h c7
          · rw [if_neg c6] at h ⊢
            exact ⟨hp, c2, by omega, comes_self c6, fun h3 => absurd h3 c4, fun h3 => absurd h3 c6⟩
    · rw [if_neg c2] at h; exact absurd h (by show ¬ (6 : Int) = 0; decide)
  · rw [if_neg c1] at h; exact absurd h (by show ¬ (2 : Int) = 0; decide)
theorem rd_put {α : Type} [Inhabited α] {l : List α} {b q : Nat} (x : α) (hb : b < l.length) : rd (l.set b x) q = if q = b then x else rd l q := by
  simp only [rd, List.getD_eq_getElem?_getD, List.getElem?_set]
  by_cases h : b = q
  · subst h; simp [hb]
  · rw [if_neg h, if_neg (fun e => h e.symm)]
theorem vals_end (es : List Event) (e : Event) (x y : Int) : vals (es ++ [e]) x y = vals es x y ++ (if isEv x y e = true then [e.v] else []) := by
  simp only [vals, List.filter_append, List.map_append]
  by_cases h : isEv x y e = true
  · rw [if_pos h]; simp [h]
  · rw [if_neg h]; simp [h]
theorem numbers_end (w : List Item) (v : Int) : numbersOf (w ++ [⟨false, v⟩]) = numbersOf w ++ [v] := by simp [numbersOf]
theorem numbers_drop {w : List Item} (h : 0 < w.length) (hm : (rd w 0).mark = false) : numbersOf w = (rd w 0).v :: numbersOf (w.drop 1) := by
  cases w with
  | nil => simp at h
  | cons x w =>
    have e : rd (x :: w) 0 = x := rfl
    rw [e] at hm ⊢
    simp [numbersOf, hm]
theorem reach_more {H : List (List Event)} {p : Nat} {e : Event} (hP : PeersIn H) (hp : p < H.length) {f : List Int} {n : Nat} (h : Reach H f n) : Reach (H.set p (rd H p ++ [e])) f n := by
  have hr : ∀ q, rd (H.set p (rd H p ++ [e])) q = if q = p then rd H p ++ [e] else rd H q := fun q => rd_put _ hp
  have hpre : ∀ q (k : Nat), k ≤ (rd H q).length → (rd (H.set p (rd H p ++ [e])) q).take k = (rd H q).take k := fun q k hk => by
    rw [hr]
    split
    · rename_i hq; subst hq; rw [List.take_append_of_le_length hk]
    · rfl
  have hel : ∀ q (k : Nat), k < (rd H q).length → rd (rd (H.set p (rd H p ++ [e])) q) k = rd (rd H q) k := fun q k hk => by
    rw [hr]
    split
    · rename_i hq; subst hq; simp only [rd, List.getD_eq_getElem?_getD] at hk ⊢; rw [List.getElem?_append_left hk]
    · rfl
  induction h with
  | zero =>
    have := @Reach.zero (H.set p (rd H p ++ [e]))
    rwa [List.length_set] at this
  | @step f n q h hq hc ih =>
    have hf := h.fok
    have hlt := can_lt hf hq hc
    have h0 := (hf.rng q hq).1
    refine ih.step (by rw [List.length_set]; exact hq) ?_
    unfold canCome at hc ⊢
    rw [hel q _ (by omega), hpre q _ (by omega)]
    simp only [Bool.and_eq_true, Bool.not_eq_true', Bool.and_eq_false_iff, decide_eq_true_eq, decide_eq_false_iff_not] at hc ⊢
    refine ⟨?_, ?_⟩
    · rw [hr]
      split
      · rename_i hq'; subst hq'; simp; omega
      · exact hc.1
    · rcases hc.2 with h1 | h1
      · exact .inl h1
      · by_cases hk : (rd (rd H q) (rd f q).toNat).kind = 3
        · right
          have hpe := hP q hq (rd f q).toNat (by omega) hk
          have hfr := hf.rng (rd (rd H q) (rd f q).toNat).peer.toNat (by omega)
          rw [hpre _ _ (by omega)]
          exact h1
        · exact .inl hk
theorem allEv_set : ∀ {H : List (List Event)} {p : Nat} {e : Event}, p < H.length → allEv (H.set p (rd H p ++ [e])) = allEv H + 1
  | h :: H, 0, e, _ => by simp [allEv, rd]; omega
  | h :: H, p + 1, e, hp => by
    have := allEv_set (H := H) (p := p) (e := e) (by simpa using hp)
    simp only [allEv, List.set_cons_succ, List.map_cons, List.sum_cons] at this ⊢
    rw [show rd (h :: H) (p + 1) = rd H p from rfl, this]
    omega

theorem step_fits {P : List (List Ins)} {S : List State} {W : List (List Item)} {H : List (List Event)} {p : Nat} {e : Event} (hh : H.length = P.length) (hwl : W.length = P.length * P.length) (hc : ComesAt P S W H p e) {a b : Nat} (ha : a < P.length) (hb : b < P.length) (h : fits P.length W H a b = true) : fits P.length (stepW P.length W p e) (H.set p (rd H p ++ [e])) a b = true := by
  have hp := hc.lt
  have hr : ∀ q, rd (H.set p (rd H p ++ [e])) q = if q = p then rd H p ++ [e] else rd H q := fun q => rd_put _ (by omega)
  have hv : ∀ q (x y : Int), vals (rd (H.set p (rd H p ++ [e])) q) x y = vals (rd H q) x y ++ (if q = p ∧ isEv x y e = true then [e.v] else []) := fun q x y => by
    rw [hr]
    by_cases hq : q = p
    · subst hq
      rw [if_pos rfl, vals_end]
      by_cases hi : isEv x y e = true
      · rw [if_pos hi, if_pos ⟨rfl, hi⟩]
      · rw [if_neg hi, if_neg (fun h => hi h.2)]
    · rw [if_neg hq, if_neg (fun h => hq h.1), List.append_nil]
  simp only [fits, decide_eq_true_eq] at h ⊢
  rw [hv, hv]
  unfold stepW
  by_cases k2 : e.kind = 2
  · have hs := hc.send k2
    rw [if_pos k2, if_neg (show ¬ (b = p ∧ isEv 3 a e = true) by simp [isEv, k2]), List.append_nil]
    have hpl := place_lt hp hs.1.2
    rw [rd_put _ (by omega)]
    by_cases hab : a = p ∧ b = e.peer.toNat
    · obtain ⟨rfl, rfl⟩ := hab
      rw [if_pos rfl, if_pos ⟨rfl, by simp [isEv, k2]; omega⟩, numbers_end, ← List.append_assoc, h]
    · have hne : ¬ a * P.length + b = p * P.length + e.peer.toNat := fun he => by
        have h1 := place_div (n := P.length) (a := a) hb
        have h2 := place_div (n := P.length) (a := p) hs.1.2
        rw [he] at h1
        exact hab ⟨by rw [← h1.1, h2.1], by rw [← h1.2, h2.2]⟩
      rw [if_neg hne, if_neg (fun h3 => hab ⟨h3.1, by have := h3.2; simp [isEv, k2] at this; omega⟩), List.append_nil, h]
  · rw [if_neg k2, if_neg (show ¬ (a = p ∧ isEv 2 b e = true) by simp [isEv, k2]), List.append_nil]
    by_cases k3 : e.kind = 3
    · have ht := hc.take k3
      rw [if_pos k3]
      have hpl := place_lt ht.1.2 hp
      rw [rd_put _ (by omega)]
      by_cases hab : a = e.peer.toNat ∧ b = p
      · obtain ⟨rfl, rfl⟩ := hab
        rw [if_pos rfl, if_pos ⟨rfl, by simp [isEv, k3]; omega⟩, ht.2.2.2, ← h, numbers_drop ht.2.1 ht.2.2.1]
        simp
      · have hne : ¬ a * P.length + b = e.peer.toNat * P.length + p := fun he => by
          have h1 := place_div (n := P.length) (a := a) hb
          have h2 := place_div (n := P.length) (a := e.peer.toNat) hp
          rw [he] at h1
          exact hab ⟨by rw [← h1.1, h2.1], by rw [← h1.2, h2.2]⟩
        rw [if_neg hne, if_neg (fun h3 => hab ⟨by have := h3.2; simp [isEv, k3] at this; omega, h3.1⟩), List.append_nil, h]
    · rw [if_neg k3, if_neg (show ¬ (b = p ∧ isEv 3 a e = true) by simp [isEv, k3]), List.append_nil, h]
theorem step_row {P : List (List Ins)} {S : List State} {W : List (List Item)} {H : List (List Event)} {p : Nat} {e : Event} (hs : sysOk P S W H = true) (hc : ComesAt P S W H p e) : inRow (H.set p (rd H p ++ [e])) = true := by
  obtain ⟨hI, hP, hS, h200⟩ := sysOk_facts hs
  simp only [sysOk, Bool.and_eq_true, allBelow_eq] at hs
  obtain ⟨_, _, _, b3, b4⟩ := hs
  have hHl := hI.h
  have hp := hc.lt
  have hpH : p < H.length := by omega
  simp only [inRow, decide_eq_true_eq] at b4 ⊢
  obtain ⟨g, k, h1, h2, h3⟩ := greedy_reach (H := H) (allEv H) .zero (by omega)
  have e1 : k = allEv H := by unfold rowOf at b4; omega
  have hg := (sum_le H g h1.fok.len fun q hq => (h1.fok.rng q hq).2).2 (by rw [h1.sum, e1])
  have hr : ∀ q, rd (H.set p (rd H p ++ [e])) q = if q = p then rd H p ++ [e] else rd H q := fun q => rd_put _ hpH
  have h4 := reach_more (e := e) hP hpH h1
  have hPI : PeersIn (H.set p (rd H p ++ [e])) := by
    intro q hq i hi hk
    rw [List.length_set] at hq ⊢
    rw [hr] at hi hk ⊢
    split at hi
    · rename_i hqp; subst hqp
      rw [if_pos rfl] at hk ⊢
      rw [List.length_append, List.length_singleton] at hi
      by_cases hil : i < (rd H q).length
      · have e0 : rd (rd H q ++ [e]) i = rd (rd H q) i := by simp only [rd, List.getD_eq_getElem?_getD] at hil ⊢; rw [List.getElem?_append_left hil]
        rw [e0] at hk ⊢
        exact hP q hq i hil hk
      · have e0 : rd (rd H q ++ [e]) i = e := by
          have : i = (rd H q).length := by omega
          rw [this]; simp [rd]
        rw [e0] at hk ⊢
        have := (hc.take hk).1
        omega
    · rename_i hqp
      rw [if_neg hqp] at hk ⊢
      exact hP q hq i hi hk
  have hcan : canCome (H.set p (rd H p ++ [e])) g p = true := by
    unfold canCome
    have hgp := hg p hpH
    rw [hr, if_pos rfl, hgp]
    have e0 : rd (rd H p ++ [e]) (((rd H p).length : Int).toNat) = e := by simp [rd]
    rw [e0]
    simp only [Bool.and_eq_true, Bool.not_eq_true', Bool.and_eq_false_iff, decide_eq_true_eq, decide_eq_false_iff_not]
    refine ⟨by rw [List.length_append, List.length_singleton]; omega, ?_⟩
    by_cases k3 : e.kind = 3
    · right
      have ht := hc.take k3
      have hz : e.peer.toNat < H.length := by omega
      have hgz := hg _ hz
      have e5 : (rd (H.set p (rd H p ++ [e])) e.peer.toNat).take (rd g e.peer.toNat).toNat = rd H e.peer.toNat := by
        rw [hr, hgz]
        split
        · rename_i hq; rw [hq]; simp
        · simp
      have e6 : (rd H p ++ [e]).take (((rd H p).length : Int).toNat) = rd H p := by simp
      rw [e5, e6]
      have hf := b3 e.peer.toNat (by omega) p hp
      simp only [fits, decide_eq_true_eq] at hf
      have h5 := congrArg List.length hf
      rw [List.length_append, numbers_drop ht.2.1 ht.2.2.1, List.length_cons] at h5
      rw [show ((e.peer.toNat : Nat) : Int) = e.peer by omega] at h5
      simp only [cnt]
      omega
    · exact .inl k3
  have h6 := h4.step (by rw [List.length_set]; exact hpH) hcan
  have ha := allEv_set (e := e) hpH
  rw [ha]
  have hfull := h6.full (by omega)
  rw [row_len hPI h6 hfull, e1]
theorem replay_more {l : List Ins} {es : List Event} {s : State} {e : Event} (h : stoodAs l es s = true) (hc : s.code = 0) (hn : es.length < 200) (hk : comes e (next l s) = true) : stoodAs l (es ++ [e]) (did l s e) = true := by
  obtain ⟨_, _, h3, h4, h5⟩ := stood_evOk h
  have e1 : replayAll l (es ++ [e]) = some (did l s e) := by
    unfold replayAll
    rw [if_pos ⟨h3, by rw [List.length_append, List.length_singleton]; omega⟩, replay_append, h5]
    show replay l s [e] = _
    rw [replay, if_pos ⟨hc, hk⟩, replay]
  simp only [stoodAs, e1, Option.isSome_some, Bool.true_and, decide_eq_true_eq]
  rfl
theorem step_sysOk {P : List (List Ins)} {S : List State} {W : List (List Item)} {H : List (List Event)} {p : Nat} {e : Event} (hs : sysOk P S W H = true) (hc : ComesAt P S W H p e) :
    sysOk P (S.set p (did (rd P p) (rd S p) e)) (stepW P.length W p e) (H.set p (rd H p ++ [e])) = true := by
  have hrow := step_row hs hc
  simp only [sysOk, sizesOk, inB, Bool.and_eq_true, decide_eq_true_eq, allBelow_eq, List.all_eq_true] at hs ⊢
  obtain ⟨⟨a1, a2, a3, a4⟩, b1, b2, b3, b4⟩ := hs
  have hp := hc.lt
  have hpr := b2 p hp
  simp only [procOk, Bool.and_eq_true] at hpr
  obtain ⟨e1, e2, e3, e4, e5⟩ := stood_evOk hpr.2.2
  have hat0 := e2.at0
  have hat1 := e2.at1
  have hio := progOk_iok e3 (i := (rd S p).at_.toNat) (by omega)
  have hev := comes_evOk e2 hio hc.comes
  have hwl : (stepW P.length W p e).length = W.length := by
    unfold stepW
    split
    · rw [List.length_set]
    · split
      · rw [List.length_set]
      · rfl
  refine ⟨⟨a1, by rw [List.length_set]; exact a2, by rw [List.length_set]; exact a3, by rw [hwl]; exact a4⟩, ?_, ?_, fun a ha b hb => step_fits a3 a4 hc ha hb (b3 a ha b hb), hrow⟩
  · intro w hw
    unfold stepW at hw
    split at hw
    · rename_i k2
      have hsd := hc.send k2
      have hpl := place_lt hp hsd.1.2
      rcases List.mem_or_eq_of_mem_set hw with h | h
      · exact b1 w h
      · have h1 := b1 _ (rd_mem (l := W) (n := p * P.length + e.peer.toNat) (by omega))
        have hnum := comes_num e2 hio hc.comes k2
        rw [h]
        simp only [wayOk, Bool.and_eq_true, decide_eq_true_eq, List.all_append] at h1 ⊢
        refine ⟨by rw [List.length_append, List.length_singleton]; omega, h1.2, ?_⟩
        simp [itemOk, numOk, hnum]
    · split at hw
      · rename_i k3
        have ht := hc.take k3
        have hpl := place_lt ht.1.2 hp
        rcases List.mem_or_eq_of_mem_set hw with h | h
        · exact b1 w h
        · have h1 := b1 _ (rd_mem (l := W) (n := e.peer.toNat * P.length + p) (by omega))
          rw [h]
          simp only [wayOk, Bool.and_eq_true, decide_eq_true_eq, List.all_eq_true] at h1 ⊢
          exact ⟨by rw [List.length_drop]; omega, fun x hx => h1.2 x (List.mem_of_mem_drop hx)⟩
      · exact b1 w hw
  · intro q hq
    have h1 := b2 q hq
    simp only [procOk, Bool.and_eq_true] at h1 ⊢
    rw [rd_put _ (show p < H.length by omega), rd_put _ (show p < S.length by omega)]
    by_cases hqp : q = p
    · subst hqp
      rw [if_pos rfl, if_pos rfl]
      refine ⟨h1.1, ?_, replay_more h1.2.2 hc.code hc.few hc.comes⟩
      simp only [peersOk, List.all_append, Bool.and_eq_true] at h1 ⊢
      refine ⟨h1.2.1, ?_⟩
      simp only [List.all_cons, List.all_nil, Bool.and_true, peerOk, Bool.not_eq_true', Bool.and_eq_false_iff, Bool.or_eq_false_iff, decide_eq_false_iff_not, inB, Bool.not_eq_false', decide_eq_true_eq]
      by_cases k2 : e.kind = 2
      · right; have := (hc.send k2).1; omega
      · by_cases k3 : e.kind = 3
        · right; have := (hc.take k3).1; omega
        · left; exact ⟨k2, k3⟩
    · rw [if_neg hqp, if_neg hqp]
      exact h1
theorem stepIs_sysOk {P : List (List Ins)} {S : List State} {W : List (List Item)} {H : List (List Event)} {p peer : Int} (hs : sysOk P S W H = true) : sysOk (stepIs P S W H p peer).1.progs (stepIs P S W H p peer).1.states (stepIs P S W H p peer).1.ways (stepIs P S W H p peer).1.hist = true := by
  unfold stepIs
  split
  · rename_i h
    exact step_sysOk hs (coming_comes hs h).2
  · exact hs

theorem ok_impl_wayAt_no (k : Nat) (P : List (List Ins)) (S : List State) (W : List (List Item)) (H : List (List Event)) (a b : Int) (hp : P.length ≤ 100000000000) (h : ¬ (0 ≤ a ∧ a ≤ (P.length : Int) - 1)) :
    callE PR C (k + 2) 171 [aSys 0 P S W H, i64 a, i64 b] [tInsSS P, tStateS S, tItemSS W, tEventSS H] = some ⟨i64 (-1), [], [none, none, none, none]⟩ := by
  have q1 := fun k => ok_impl_in k a 0 ((P.length : Int) - 1)
  rw [decide_eq_false h] at q1
  (refine fnI [ResultVar.tmp 6] Tryz.func171 ?_; conv => whnf)
  repeat' ((with_reducible (first | refine sCall.of (q1 _) ?_|refine st16 ?_|refine fG.split (fun _ => ?_) (fun _ => ?_)|refine fG.bool (fun _ => ?_) (fun _ => ?_))) <;> (try (conv => whnf)))
  all_goals rfl
set_option maxHeartbeats 4000000 in
theorem ok_impl_source (k : Nat) (P : List (List Ins)) (S : List State) (W : List (List Item)) (H : List (List Event)) (p : Nat) (peer : Int) (x : Ins) (hb : SysB 100000000000 P S W H) (hI : SysIs P S W H) (hp : p < P.length) :
    callE PR C (k + 3) 245 [aSys 0 P S W H, i64 (p : Nat), i64 peer, aIns x] [tInsSS P, tStateS S, tItemSS W, tEventSS H] = some ⟨.tu [i64 (srcIs P.length W p (askedOf x peer)).1, i64 (srcIs P.length W p (askedOf x peer)).2], [], [none, none, none, none]⟩ := by
  have hN := hI.n
  have hw := hI.w
  generalize hq : askedOf x peer = q
  by_cases d1 : 0 ≤ q ∧ q ≤ (P.length : Int) - 1
  · obtain ⟨q, rfl⟩ : ∃ n : Nat, q = (n : Int) := ⟨q.toNat, by omega⟩
    have q1 := fun k => ok_impl_wayAt k P S W H q p hb (by omega) hp hN.2 hw
    have hpl := place_lt (n := P.length) (a := q) (b := p) (by omega) hp
    have hwb := hb.ww (q * P.length + p) (by omega)
    obtain ⟨ix, hix⟩ : ∃ ix, ix = q * P.length + p := ⟨_, rfl⟩
    have hsrc : srcIs P.length W p q = (if (rd W ix).length = 0 then (0, 3) else if (rd (rd W ix) 0).mark = true then (0, 5) else ((q : Int), 0)) := by
      unfold srcIs
      rw [if_pos d1, hix]
      rfl
    rw [← hix] at q1 hpl hwb
    rw [hsrc]
    clear hsrc hix
    have e4 : (List.map rItem (rd W ix)).length = (rd W ix).length := by simp
    by_cases c9 : x.n = 9
    · rw [askedOf, if_pos c9] at hq
      subst hq
      by_cases d2 : (rd W ix).length = 0
      · rw [if_pos d2]
        (refine fnI [ResultVar.tmp 8, ResultVar.tmp 9] Tryz.func245 ?_; conv => whnf)
        repeat' ((with_reducible (first | refine sCall.of (q1 _) ?_|refine st16 ?_|refine fG.split (fun _ => ?_) (fun _ => ?_)|refine fG.bool (fun _ => ?_) (fun _ => ?_))) <;> (try (conv => whnf)))
      · rw [if_neg d2]
        cases d3 : (rd (rd W ix) 0).mark
        all_goals
          (refine fnI [ResultVar.tmp 8, ResultVar.tmp 9] Tryz.func245 ?_; conv => whnf)
          repeat' ((with_reducible (first | refine sCall.of (q1 _) ?_|refine st16 ?_|refine fG.split (fun _ => ?_) (fun _ => ?_)|refine fG.bool (fun _ => ?_) (fun _ => ?_))) <;> (try (conv => whnf)))
        all_goals rfl
    · rw [askedOf, if_neg c9] at hq
      by_cases d2 : (rd W ix).length = 0
      · rw [if_pos d2]
        rw [← hq] at q1
        (refine fnI [ResultVar.tmp 8, ResultVar.tmp 9] Tryz.func245 ?_; conv => whnf)
        repeat' ((with_reducible (first | refine sCall.of (q1 _) ?_|refine st16 ?_|refine fG.split (fun _ => ?_) (fun _ => ?_)|refine fG.bool (fun _ => ?_) (fun _ => ?_))) <;> (try (conv => whnf)))
      · rw [if_neg d2]
        cases d3 : (rd (rd W ix) 0).mark
        all_goals
          rw [← hq] at q1 ⊢
          (refine fnI [ResultVar.tmp 8, ResultVar.tmp 9] Tryz.func245 ?_; conv => whnf)
          repeat' ((with_reducible (first | refine sCall.of (q1 _) ?_|refine st16 ?_|refine fG.split (fun _ => ?_) (fun _ => ?_)|refine fG.bool (fun _ => ?_) (fun _ => ?_))) <;> (try (conv => whnf)))
        all_goals rfl
  · have q1 := fun k => ok_impl_wayAt_no k P S W H q p (by omega) d1
    rw [show srcIs P.length W p q = (0, 2) by unfold srcIs; rw [if_neg d1]]
    by_cases c9 : x.n = 9
    · rw [askedOf, if_pos c9] at hq
      subst hq
      (refine fnI [ResultVar.tmp 8, ResultVar.tmp 9] Tryz.func245 ?_; conv => whnf)
      repeat' ((with_reducible (first | refine sCall.of (q1 _) ?_|refine st16 ?_|refine fG.split (fun _ => ?_) (fun _ => ?_)|refine fG.bool (fun _ => ?_) (fun _ => ?_))) <;> (try (conv => whnf)))
    · rw [askedOf, if_neg c9] at hq
      rw [← hq] at q1
      (refine fnI [ResultVar.tmp 8, ResultVar.tmp 9] Tryz.func245 ?_; conv => whnf)
      repeat' ((with_reducible (first | refine sCall.of (q1 _) ?_|refine st16 ?_|refine fG.split (fun _ => ?_) (fun _ => ?_)|refine fG.bool (fun _ => ?_) (fun _ => ?_))) <;> (try (conv => whnf)))

theorem srcIs_ok {n : Nat} {W : List (List Item)} {p : Nat} {q : Int} (h : (srcIs n W p q).2 = 0) : (0 ≤ q ∧ q ≤ (n : Int) - 1) ∧ 0 < (rd W (q.toNat * n + p)).length ∧ (rd (rd W (q.toNat * n + p)) 0).mark = false ∧ srcIs n W p q = (q, 0) := by
  unfold srcIs at h ⊢
  by_cases d1 : 0 ≤ q ∧ q ≤ (n : Int) - 1
  · rw [if_pos d1] at h ⊢
    by_cases d2 : (rd W (q.toNat * n + p)).length = 0
    · rw [if_pos d2] at h; exact absurd h (by show ¬ (3 : Int) = 0; decide)
    · rw [if_neg d2] at h ⊢
      by_cases d3 : (rd (rd W (q.toNat * n + p)) 0).mark = true
      · rw [if_pos d3] at h; exact absurd h (by show ¬ (5 : Int) = 0; decide)
      · rw [if_neg d3]; exact ⟨d1, by omega, by simpa using d3, rfl⟩
  · rw [if_neg d1] at h; exact absurd h (by show ¬ (2 : Int) = 0; decide)
structure ProcF (P : List (List Ins)) (S : List State) (H : List (List Event)) (p : Nat) : Prop where
  ok : SOk (rd P p).length (rd S p)
  io : IOk (rd P p).length (rd (rd P p) (rd S p).at_.toNat)
  pl : (rd P p).length ≤ 30
  peer : (next (rd P p) (rd S p)).kind = 2 → 0 ≤ (next (rd P p) (rd S p)).peer ∧ (next (rd P p) (rd S p)).peer ≤ (P.length : Int) - 1
theorem procF_of {P : List (List Ins)} {S : List State} {W : List (List Item)} {H : List (List Event)} {p : Nat} (hs : sysOk P S W H = true) (hp : p < P.length) : ProcF P S H p := by
  simp only [sysOk, Bool.and_eq_true, allBelow_eq] at hs
  have hpr := hs.2.2.1 p hp
  simp only [procOk, Bool.and_eq_true] at hpr
  obtain ⟨e1, e2, e3, e4, e5⟩ := stood_evOk hpr.2.2
  have hat0 := e2.at0
  have hat1 := e2.at1
  refine ⟨e2, progOk_iok e3 (by omega), (progOk_len e3).2, fun h => ?_⟩
  rcases @next_kind (rd P p) (rd S p) with hk | hk | hk
  · rw [hk.2.2]
    have h1 := hpr.1
    simp only [progOk, Bool.and_eq_true, List.all_eq_true] at h1
    exact insOk_peer (h1.2 _ (rd_mem (by omega))) hk.2.1
  · omega
  · exact absurd h hk.1
set_option maxRecDepth 20000 in
set_option maxHeartbeats 8000000 in
theorem ok_impl_coming (k : Nat) (P : List (List Ins)) (S : List State) (W : List (List Item)) (H : List (List Event)) (p peer : Int) (hb : SysB 10000000000 P S W H) (hs : sysOk P S W H = true) :
    callE PR C (k + 4) 176 [aSys 0 P S W H, i64 p, i64 peer] [tInsSS P, tStateS S, tItemSS W, tEventSS H] = some ⟨.tu [aEvent (comingIs P S W H p peer).1, i64 (comingIs P S W H p peer).2], [], [none, none, none, none]⟩ := by
  obtain ⟨hI, hP, hS', h200⟩ := sysOk_facts hs
  have hN := hI.n
  have hsl := hI.s
  have hwl := hI.w
  have hHl := hI.h
  have q1 := fun k => ok_impl_in k p 0 ((P.length : Int) - 1)
  by_cases c1 : 0 ≤ p ∧ p ≤ (P.length : Int) - 1
  · rw [decide_eq_true c1] at q1
    obtain ⟨p, rfl⟩ : ∃ n : Nat, p = (n : Int) := ⟨p.toNat, by omega⟩
    have hp : p < P.length := by omega
    obtain ⟨f1, f2, f3, f4⟩ := procF_of hs hp
    have hh := h200 p (by omega)
    have e4 : (List.map rEvent (rd H p)).length = (rd H p).length := by simp
    have hat0 := f1.at0
    have hat1 := f1.at1
    by_cases c2 : (rd S p).code = 0
    · by_cases c3 : (200 : Int) ≤ ((rd H p).length : Int)
      · have hc : comingIs P S W H p peer = (⟨0, 0, 0⟩, 4) := by unfold comingIs; rw [if_pos c1, Int.toNat_natCast, if_pos c2, if_pos c3]
        rw [hc]
        (refine fnI [ResultVar.cell 6 96, ResultVar.tmp 7] Tryz.func176 ?_; conv => whnf)
        repeat' ((with_reducible (first | refine sCall.of (q1 _) ?_|refine st16 ?_|refine fG.split (fun _ => ?_) (fun _ => ?_)|refine fG.bool (fun _ => ?_) (fun _ => ?_)|refine gD 7 [(1, 11), (4, 11), (6, 11), (9, 11), (10, 11)] ?_|refine gD 10 [(1, 6)] ?_|refine gDn 13 ?_|refine gD 17 [(1, 5)] ?_)) <;> (try (conv => whnf)))
        all_goals rfl
      · have q2 := fun k => ok_impl_next k (rd P p) (rd S p).at_ (rd S p).regs (rd S p).out (rd S p).code (by omega) f1 f2
        rcases @next_kind (rd P p) (rd S p) with hk | hk | hk
        · have hpe := f4 hk.1
          obtain ⟨b, hbq⟩ : ∃ b : Nat, (next (rd P p) (rd S p)).peer = (b : Int) := ⟨_, (Int.toNat_of_nonneg hpe.1).symm⟩
          have q3 := fun k => ok_impl_wayAt k P S W H p b (hb.mono (by decide)) hp (by omega) hN.2 hwl
          have hpl := place_lt hp (show b < P.length by omega)
          have hk2 := hk.1
          have hc : comingIs P S W H p peer = (if (12 : Int) ≤ ((rd W (p * P.length + b)).length : Int) then (⟨0, 0, 0⟩, 4) else (next (rd P p) (rd S p), 0)) := by
            unfold comingIs
            rw [if_pos c1, Int.toNat_natCast, if_pos c2, if_neg c3, if_pos (show (wantsOf P S p).kind = 2 from hk2), show (wantsOf P S p).peer = (b : Int) from hbq, Int.toNat_natCast]
            rfl
          rw [hc]
          clear hc hk f4 hpe
          have q2 : ∀ k, callE PR C (k + 1) 244 [hIns 0 (rd P p), aState 1 (rd S p).at_ (rd S p).regs (rd S p).out (rd S p).code] [tIns (rd P p), tI (rd S p).regs, tI (rd S p).out] = some ⟨aEvent (next (rd P p) (rd S p)), [], [none, none, none]⟩ := q2
          generalize next (rd P p) (rd S p) = w at *
          rw [← hbq] at q3
          obtain ⟨ix, hix⟩ : ∃ ix, ix = p * P.length + b := ⟨_, rfl⟩
          rw [← hix] at q3 hpl ⊢
          have e5 : (List.map rItem (rd W ix)).length = (rd W ix).length := by simp
          by_cases c5 : (12 : Int) ≤ ((rd W ix).length : Int)
          · rw [if_pos c5]
            (refine fnI [ResultVar.cell 6 96, ResultVar.tmp 7] Tryz.func176 ?_; conv => whnf)
            repeat' ((with_reducible (first | refine sCall.of (q1 _) ?_|refine sCall.of (q2 _) ?_|refine sCall.of (q3 _) ?_|refine st16 ?_|refine fG.split (fun _ => ?_) (fun _ => ?_)|refine fG.bool (fun _ => ?_) (fun _ => ?_)|refine gD 7 [(1, 11), (4, 11), (6, 11), (9, 11), (10, 11)] ?_|refine gD 10 [(1, 6)] ?_|refine gDn 13 ?_|refine gD 17 [(1, 5)] ?_)) <;> (try (conv => whnf)))
            all_goals rfl
          · rw [if_neg c5]
            (refine fnI [ResultVar.cell 6 96, ResultVar.tmp 7] Tryz.func176 ?_; conv => whnf)
            repeat' ((with_reducible (first | refine sCall.of (q1 _) ?_|refine sCall.of (q2 _) ?_|refine sCall.of (q3 _) ?_|refine st16 ?_|refine fG.split (fun _ => ?_) (fun _ => ?_)|refine fG.bool (fun _ => ?_) (fun _ => ?_)|refine gD 7 [(1, 11), (4, 11), (6, 11), (9, 11), (10, 11)] ?_|refine gD 10 [(1, 6)] ?_|refine gDn 13 ?_|refine gD 17 [(1, 5)] ?_)) <;> (try (conv => whnf)))
            all_goals rfl
        · have q2 : ∀ k, callE PR C (k + 1) 244 [hIns 0 (rd P p), aState 1 (rd S p).at_ (rd S p).regs (rd S p).out (rd S p).code] [tIns (rd P p), tI (rd S p).regs, tI (rd S p).out] = some ⟨aEvent ⟨3, (rd (rd P p) (rd S p).at_.toNat).n, 0⟩, [], [none, none, none]⟩ := fun k => by rw [← hk.2.2]; exact q2 k
          have q3 := fun k => ok_impl_source k P S W H p peer (rd (rd P p) (rd S p).at_.toNat) (hb.mono (by decide)) hI hp
          have hw3 : (wantsOf P S p).kind = 3 := hk.1
          by_cases c7 : (srcIs P.length W p (askedOf (insAt P S p) peer)).2 = 0
          · obtain ⟨d1, d2, d3, d4⟩ := srcIs_ok c7
            have d4' : srcIs P.length W p (askedOf (rd (rd P p) (rd S p).at_.toNat) peer) = (askedOf (insAt P S p) peer, 0) := d4
            simp only [d4'] at q3
            have hc : comingIs P S W H p peer = (⟨3, askedOf (insAt P S p) peer, (rd (rd W ((askedOf (insAt P S p) peer).toNat * P.length + p)) 0).v⟩, 0) := by
              unfold comingIs
              rw [if_pos c1, Int.toNat_natCast, if_pos c2, if_neg c3, if_neg (by omega), if_pos hw3, if_pos c7]
            rw [hc]
            clear hc c7 d4 d4'
            generalize askedOf (insAt P S p) peer = q at *
            obtain ⟨q, rfl⟩ : ∃ n : Nat, q = (n : Int) := ⟨q.toNat, by omega⟩
            rw [Int.toNat_natCast] at d2 d3 ⊢
            have q4 := fun k => ok_impl_wayAt k P S W H q p (hb.mono (by decide)) (by omega) hp hN.2 hwl
            have hpl := place_lt (show q < P.length by omega) hp
            obtain ⟨ix, hix⟩ : ∃ ix, ix = q * P.length + p := ⟨_, rfl⟩
            rw [← hix] at q4 hpl d2 d3 ⊢
            have e5 : (List.map rItem (rd W ix)).length = (rd W ix).length := by simp
            (refine fnI [ResultVar.cell 6 96, ResultVar.tmp 7] Tryz.func176 ?_; conv => whnf)
            repeat' ((with_reducible (first | refine sCall.of (q1 _) ?_|refine sCall.of (q2 _) ?_|refine sCall.of (q3 _) ?_|refine sCall.of (q4 _) ?_|refine st16 ?_|refine fG.split (fun _ => ?_) (fun _ => ?_)|refine fG.bool (fun _ => ?_) (fun _ => ?_)|refine gD 7 [(1, 11), (4, 11), (6, 11), (9, 11), (10, 11)] ?_|refine gD 10 [(1, 6)] ?_|refine gDn 13 ?_|refine gD 17 [(1, 5)] ?_)) <;> (try (conv => whnf)))
            all_goals rfl
          · have hc : comingIs P S W H p peer = (⟨0, 0, 0⟩, (srcIs P.length W p (askedOf (insAt P S p) peer)).2) := by
              unfold comingIs
              rw [if_pos c1, Int.toNat_natCast, if_pos c2, if_neg c3, if_neg (by omega), if_pos hw3, if_neg c7]
            rw [hc]
            have q3 : ∀ k, callE PR C (k + 3) 245 [aSys 0 P S W H, i64 (p : Nat), i64 peer, aIns (rd (rd P p) (rd S p).at_.toNat)] [tInsSS P, tStateS S, tItemSS W, tEventSS H] = some ⟨.tu [i64 (srcIs P.length W p (askedOf (insAt P S p) peer)).1, i64 (srcIs P.length W p (askedOf (insAt P S p) peer)).2], [], [none, none, none, none]⟩ := q3
            generalize srcIs P.length W p (askedOf (insAt P S p) peer) = r at *
            (refine fnI [ResultVar.cell 6 96, ResultVar.tmp 7] Tryz.func176 ?_; conv => whnf)
            repeat' ((with_reducible (first | refine sCall.of (q1 _) ?_|refine sCall.of (q2 _) ?_|refine sCall.of (q3 _) ?_|refine st16 ?_|refine fG.split (fun _ => ?_) (fun _ => ?_)|refine fG.bool (fun _ => ?_) (fun _ => ?_)|refine gD 7 [(1, 11), (4, 11), (6, 11), (9, 11), (10, 11)] ?_|refine gD 10 [(1, 6)] ?_|refine gDn 13 ?_|refine gD 17 [(1, 5)] ?_)) <;> (try (conv => whnf)))
            all_goals rfl
        · have hc : comingIs P S W H p peer = (next (rd P p) (rd S p), 0) := by
            unfold comingIs
            rw [if_pos c1, Int.toNat_natCast, if_pos c2, if_neg c3, if_neg (show ¬ (wantsOf P S p).kind = 2 from hk.1), if_neg (show ¬ (wantsOf P S p).kind = 3 from hk.2)]
            rfl
          rw [hc]
          have hk2 := hk.1
          have hk3 := hk.2
          clear hc hk f4
          have q2 : ∀ k, callE PR C (k + 1) 244 [hIns 0 (rd P p), aState 1 (rd S p).at_ (rd S p).regs (rd S p).out (rd S p).code] [tIns (rd P p), tI (rd S p).regs, tI (rd S p).out] = some ⟨aEvent (next (rd P p) (rd S p)), [], [none, none, none]⟩ := q2
          generalize next (rd P p) (rd S p) = w at *
          (refine fnI [ResultVar.cell 6 96, ResultVar.tmp 7] Tryz.func176 ?_; conv => whnf)
          repeat' ((with_reducible (first | refine sCall.of (q1 _) ?_|refine sCall.of (q2 _) ?_|refine st16 ?_|refine fG.split (fun _ => ?_) (fun _ => ?_)|refine fG.bool (fun _ => ?_) (fun _ => ?_)|refine gD 7 [(1, 11), (4, 11), (6, 11), (9, 11), (10, 11)] ?_|refine gD 10 [(1, 6)] ?_|refine gDn 13 ?_|refine gD 17 [(1, 5)] ?_)) <;> (try (conv => whnf)))
          all_goals rfl
    · have hc : comingIs P S W H p peer = (⟨0, 0, 0⟩, 6) := by unfold comingIs; rw [if_pos c1, Int.toNat_natCast, if_neg c2]
      rw [hc]
      (refine fnI [ResultVar.cell 6 96, ResultVar.tmp 7] Tryz.func176 ?_; conv => whnf)
      repeat' ((with_reducible (first | refine sCall.of (q1 _) ?_|refine st16 ?_|refine fG.split (fun _ => ?_) (fun _ => ?_)|refine fG.bool (fun _ => ?_) (fun _ => ?_)|refine gD 7 [(1, 11), (4, 11), (6, 11), (9, 11), (10, 11)] ?_|refine gD 10 [(1, 6)] ?_|refine gDn 13 ?_|refine gD 17 [(1, 5)] ?_)) <;> (try (conv => whnf)))
      all_goals rfl
  · rw [decide_eq_false c1] at q1
    have hc : comingIs P S W H p peer = (⟨0, 0, 0⟩, 2) := by unfold comingIs; rw [if_neg c1]
    rw [hc]
    (refine fnI [ResultVar.cell 6 96, ResultVar.tmp 7] Tryz.func176 ?_; conv => whnf)
    repeat' ((with_reducible (first | refine sCall.of (q1 _) ?_|refine st16 ?_|refine fG.split (fun _ => ?_) (fun _ => ?_)|refine fG.bool (fun _ => ?_) (fun _ => ?_)|refine gD 7 [(1, 11), (4, 11), (6, 11), (9, 11), (10, 11)] ?_|refine gD 10 [(1, 6)] ?_|refine gDn 13 ?_|refine gD 17 [(1, 5)] ?_)) <;> (try (conv => whnf)))
    all_goals rfl

theorem sysOk_G {P : List (List Ins)} {S : List State} {W : List (List Item)} {H : List (List Event)} (h : sysOk P S W H = true) : SysG ⟨P, S, W, H⟩ := by
  obtain ⟨hI, hP, hS, h200⟩ := sysOk_facts h
  have hN := hI.n
  have hsl := hI.s
  have hwl := hI.w
  have hHl := hI.h
  have hnn : P.length * P.length ≤ 4 * 4 := Nat.mul_le_mul hN.2 hN.2
  have h' := h
  simp only [sysOk, Bool.and_eq_true, List.all_eq_true] at h'
  refine sysG_of ⟨by show P.length ≤ _; omega, fun j hj => ?_, by show S.length ≤ _; omega, fun j hj => ?_, by show W.length ≤ _; omega, fun j hj => ?_, by show H.length ≤ _; omega, fun j hj => ?_⟩ hN.2 (by show S.length ≤ _; omega) (by show W.length ≤ _; omega) (by show H.length ≤ _; omega)
  · have hj : j < P.length := hj
    have := (procF_of h hj).pl
    show (rd P j).length ≤ _
    omega
  · have hj : j < S.length := hj
    have h1 := (procF_of (p := j) h (by omega)).ok
    have h2 := h1.regs
    have h3 := h1.out
    show (rd S j).regs.length ≤ _ ∧ (rd S j).out.length ≤ _
    omega
  · have hj : j < W.length := hj
    have h1 := h'.2.1 _ (rd_mem hj)
    simp only [wayOk, Bool.and_eq_true, decide_eq_true_eq] at h1
    show (rd W j).length ≤ _
    omega
  · have hj : j < H.length := hj
    have := h200 j hj
    show (rd H j).length ≤ _
    omega

end Go.Proofs.YtldndahfnkbngaaGreat.Abs
namespace Go.Proofs.YtldndahfnkbngaaGreat.Abs
open Go Go.Proofs
set_option linter.unusedVariables false
set_option linter.unusedSimpArgs false
attribute [local irreducible] callE
theorem gRec {a v : AV} {F : Bool → Prop} (h : F true) (e : isRecut a v = true := by simp [isRecut]) : sBool (isRecut a v) F := sBool.eq e h
set_option maxRecDepth 20000 in
set_option maxHeartbeats 8000000 in
theorem ok_impl_step (k : Nat) (P : List (List Ins)) (S : List State) (W : List (List Item)) (H : List (List Event)) (p peer : Int) (hb : SysB 10000000000 P S W H) (hs : sysOk P S W H = true) :
    callE PR C (k + 5) 97 [aSys 0 P S W H, i64 p, i64 peer] [tInsSS P, tStateS S, tItemSS W, tEventSS H] = some (sysRes (stepIs P S W H p peer).1 (stepIs P S W H p peer).2 [none, none, none, none]) := by
  obtain ⟨hI, hP, hS', h200⟩ := sysOk_facts hs
  have hN := hI.n
  have hsl := hI.s
  have hwl := hI.w
  have hHl := hI.h
  have q1 := fun k => ok_impl_cloneSys k P S W H (hb.mono (by decide)) hI.some
  have q2 := fun k => ok_impl_coming k P S W H p peer hb hs
  unfold stepIs
  by_cases c0 : (comingIs P S W H p peer).2 = 0
  · rw [if_pos c0]
    obtain ⟨hp0, hc⟩ := coming_comes hs c0
    generalize comingIs P S W H p peer = ec at *
    obtain ⟨e, n⟩ := ec
    dsimp only at c0 hc ⊢
    subst c0
    obtain ⟨p, rfl⟩ : ∃ n : Nat, p = (n : Int) := ⟨p.toNat, by omega⟩
    rw [Int.toNat_natCast] at hc ⊢
    have hp := hc.lt
    obtain ⟨f1, f2, f3, f4⟩ := procF_of hs hp
    have hh := h200 p (by omega)
    have e4 : (List.map rEvent (rd H p)).length = (rd H p).length := by simp
    have hat0 := f1.at0
    have hat1 := f1.at1
    have q3 : ∀ k, callE PR C (k + 4) 191 [hIns 0 (rd P p), aState 1 (rd S p).at_ (rd S p).regs (rd S p).out (rd S p).code, aEvent e] [tIns (rd P p), tI (rd S p).regs, tI (rd S p).out] = some ⟨nSt 0 (did (rd P p) (rd S p) e), [tI9 (did (rd P p) (rd S p) e).regs, tI9 (did (rd P p) (rd S p) e).out], [none, none, none]⟩ := fun k => ok_impl_did k (rd P p) (rd S p).at_ (rd S p).regs (rd S p).out (rd S p).code e (by omega) f1 f2
    by_cases k2 : e.kind = 2
    · have hsd := hc.send k2
      obtain ⟨b, hbq⟩ : ∃ b : Nat, e.peer = (b : Int) := ⟨_, (Int.toNat_of_nonneg hsd.1.1).symm⟩
      have hbl : b < P.length := by have := hsd.1.2; omega
      have hfew : (rd W (p * P.length + b)).length < 12 := by have := hsd.2; rw [hbq] at this; exact this
      have q4 := fun k => ok_impl_wayAt k P S W H p b (hb.mono (by decide)) hp hbl hN.2 hwl
      have hpl := place_lt hp hbl
      have hW : stepW P.length W p e = W.set (p * P.length + b) (rd W (p * P.length + b) ++ [⟨false, e.v⟩]) := by
        unfold stepW
        rw [if_pos k2, hbq]
        rfl
      simp only [sysRes, stepS, hW, nSys, List.length_set]
      rw [← hbq] at q4
      obtain ⟨ix, hix⟩ : ∃ ix, ix = p * P.length + b := ⟨_, rfl⟩
      rw [← hix] at q4 hpl hfew ⊢
      clear hW hix hsd f4
      (refine fnI [ResultVar.cell 6 36, ResultVar.tmp 7] Tryz.func97 ?_; conv => whnf)
      repeat' ((with_reducible (first | refine sCall.of (q1 _) ?_|refine sCall.of (q2 _) ?_|refine sCall.of (q3 _) ?_|refine sCall.of (q4 _) ?_|refine gHole ?_|refine gRec ?_|refine st16 ?_|refine fG.split (fun _ => ?_) (fun _ => ?_)|refine fG.bool (fun _ => ?_) (fun _ => ?_)|refine gD 5 [(1, 14)] ?_|refine gD 6 [(1, 9), (4, 9), (7, 9), (1, 10)] ?_|refine gD 10 [(1, 11), (4, 11), (7, 11), (1, 12)] ?_|refine gDn 13 ?_)) <;> (try (conv => whnf)))
      all_goals rfl
    · by_cases k3 : e.kind = 3
      · have htk := hc.take k3
        obtain ⟨b, hbq⟩ : ∃ b : Nat, e.peer = (b : Int) := ⟨_, (Int.toNat_of_nonneg htk.1.1).symm⟩
        have hbl : b < P.length := by have := htk.1.2; omega
        have hsome : 0 < (rd W (b * P.length + p)).length := by have := htk.2.1; rw [hbq] at this; exact this
        have q4 := fun k => ok_impl_wayAt k P S W H b p (hb.mono (by decide)) hbl hp hN.2 hwl
        have hpl := place_lt hbl hp
        have hwx := hb.ww (b * P.length + p) (by omega)
        have hW : stepW P.length W p e = W.set (b * P.length + p) ((rd W (b * P.length + p)).drop 1) := by
          unfold stepW
          rw [if_neg k2, if_pos k3, hbq]
          rfl
        simp only [sysRes, stepS, hW, nSys, List.length_set]
        rw [← hbq] at q4
        obtain ⟨ix, hix⟩ : ∃ ix, ix = b * P.length + p := ⟨_, rfl⟩
        rw [← hix] at q4 hpl hsome hwx ⊢
        have e5 : (List.map rItem (rd W ix)).length = (rd W ix).length := by simp
        have et : List.take ((rd W ix).length - 1) (List.drop 1 (rd W ix)) = List.drop 1 (rd W ix) := List.take_of_length_le (by simp)
        clear hW hix htk f4
        (refine fnI [ResultVar.cell 6 36, ResultVar.tmp 7] Tryz.func97 ?_; conv => whnf)
        repeat' ((with_reducible (first | refine sCall.of (q1 _) ?_|refine sCall.of (q2 _) ?_|refine sCall.of (q3 _) ?_|refine sCall.of (q4 _) ?_|refine gHole ?_|refine gRec ?_|refine st16 ?_|refine fG.split (fun _ => ?_) (fun _ => ?_)|refine fG.bool (fun _ => ?_) (fun _ => ?_)|refine gD 5 [(1, 14)] ?_|refine gD 6 [(1, 9), (4, 9), (7, 9), (1, 10)] ?_|refine gD 10 [(1, 11), (4, 11), (7, 11), (1, 12)] ?_|refine gDn 13 ?_)) <;> (try (conv => whnf)))
        all_goals (try rw [et])
        all_goals rfl
      · have hW : stepW P.length W p e = W := by
          unfold stepW
          rw [if_neg k2, if_neg k3]
        simp only [sysRes, stepS, hW, nSys, List.length_set]
        clear hW f4
        (refine fnI [ResultVar.cell 6 36, ResultVar.tmp 7] Tryz.func97 ?_; conv => whnf)
        repeat' ((with_reducible (first | refine sCall.of (q1 _) ?_|refine sCall.of (q2 _) ?_|refine sCall.of (q3 _) ?_|refine gHole ?_|refine gRec ?_|refine st16 ?_|refine fG.split (fun _ => ?_) (fun _ => ?_)|refine fG.bool (fun _ => ?_) (fun _ => ?_)|refine gD 5 [(1, 14)] ?_|refine gD 6 [(1, 9), (4, 9), (7, 9), (1, 10)] ?_|refine gD 10 [(1, 11), (4, 11), (7, 11), (1, 12)] ?_|refine gDn 13 ?_)) <;> (try (conv => whnf)))
        all_goals rfl
  · rw [if_neg c0]
    generalize comingIs P S W H p peer = ec at *
    obtain ⟨e, n⟩ := ec
    dsimp only at c0 q2 ⊢
    simp only [sysRes]
    (refine fnI [ResultVar.cell 6 36, ResultVar.tmp 7] Tryz.func97 ?_; conv => whnf)
    repeat' ((with_reducible (first | refine sCall.of (q1 _) ?_|refine sCall.of (q2 _) ?_|refine st16 ?_|refine fG.split (fun _ => ?_) (fun _ => ?_)|refine fG.bool (fun _ => ?_) (fun _ => ?_)|refine gD 5 [(1, 14)] ?_|refine gD 6 [(1, 9), (4, 9), (7, 9), (1, 10)] ?_|refine gD 10 [(1, 11), (4, 11), (7, 11), (1, 12)] ?_|refine gDn 13 ?_)) <;> (try (conv => whnf)))
    all_goals rfl

theorem dropLim {l : List Item} {t n m : Nat} (h : l.length ≤ 10000000000) (hm : m ≤ 16) : (0 + (List.map rItem (List.take t (List.drop n l))).length) * m ≤ 140737488355328 ∧ 0 + (List.map rItem (List.take t (List.drop n l))).length ≤ 140737488355328 := by
  have h1 : 0 + (List.map rItem (List.take t (List.drop n l))).length ≤ 10000000000 := by simp; omega
  have h2 := Nat.mul_le_mul h1 hm
  exact ⟨by omega, by omega⟩
theorem step_no {P : List (List Ins)} {S : List State} {W : List (List Item)} {H : List (List Event)} {p peer n : Int} {e : Event} (h : comingIs P S W H p peer = (e, n)) (hn : ¬ n = 0) : stepIs P S W H p peer = (⟨P, S, W, H⟩, n) := by
  unfold stepIs; rw [h, if_neg hn]
theorem step_yes {P : List (List Ins)} {S : List State} {W : List (List Item)} {H : List (List Event)} {p : Nat} {peer : Int} {e : Event} (h : comingIs P S W H p peer = (e, 0)) : stepIs P S W H p peer = (stepS P S W H p e, 0) := by
  unfold stepIs; rw [h, if_pos rfl]; rfl
theorem coming_peer {P : List (List Ins)} {S : List State} {W : List (List Item)} {H : List (List Event)} {p : Nat} {peer : Int} (c1 : 0 ≤ (p : Int) ∧ (p : Int) ≤ (P.length : Int) - 1) (c2 : (rd S p).code = 0) (c3 : ¬ (200 : Int) ≤ ((rd H p).length : Int)) (hk : (next (rd P p) (rd S p)).kind = 3) :
    comingIs P S W H p peer = (if (srcIs P.length W p (askedOf (insAt P S p) peer)).2 = 0 then (⟨3, askedOf (insAt P S p) peer, (rd (rd W ((askedOf (insAt P S p) peer).toNat * P.length + p)) 0).v⟩, 0) else (⟨0, 0, 0⟩, (srcIs P.length W p (askedOf (insAt P S p) peer)).2)) := by
  have hw3 : (wantsOf P S p).kind = 3 := hk
  unfold comingIs
  rw [if_pos c1, Int.toNat_natCast, if_pos c2, if_neg c3, if_neg (by omega), if_pos hw3]
theorem coming_send {P : List (List Ins)} {S : List State} {W : List (List Item)} {H : List (List Event)} {p b : Nat} {peer : Int} (c1 : 0 ≤ (p : Int) ∧ (p : Int) ≤ (P.length : Int) - 1) (c2 : (rd S p).code = 0) (c3 : ¬ (200 : Int) ≤ ((rd H p).length : Int)) (hk : (next (rd P p) (rd S p)).kind = 2) (hbq : (next (rd P p) (rd S p)).peer = (b : Int)) :
    comingIs P S W H p peer = (if (12 : Int) ≤ ((rd W (p * P.length + b)).length : Int) then (⟨0, 0, 0⟩, 4) else (next (rd P p) (rd S p), 0)) := by
  unfold comingIs
  rw [if_pos c1, Int.toNat_natCast, if_pos c2, if_neg c3, if_pos (show (wantsOf P S p).kind = 2 from hk), show (wantsOf P S p).peer = (b : Int) from hbq, Int.toNat_natCast]
  rfl
theorem coming_else {P : List (List Ins)} {S : List State} {W : List (List Item)} {H : List (List Event)} {p : Nat} {peer : Int} (c1 : 0 ≤ (p : Int) ∧ (p : Int) ≤ (P.length : Int) - 1) (c2 : (rd S p).code = 0) (c3 : ¬ (200 : Int) ≤ ((rd H p).length : Int)) (hk2 : (next (rd P p) (rd S p)).kind ≠ 2) (hk3 : (next (rd P p) (rd S p)).kind ≠ 3) :
    comingIs P S W H p peer = (next (rd P p) (rd S p), 0) := by
  unfold comingIs
  rw [if_pos c1, Int.toNat_natCast, if_pos c2, if_neg c3, if_neg (show ¬ (wantsOf P S p).kind = 2 from hk2), if_neg (show ¬ (wantsOf P S p).kind = 3 from hk3)]
  rfl
set_option maxRecDepth 20000 in
set_option maxHeartbeats 8000000 in
theorem ok_spec_l5Step (k : Nat) (P : List (List Ins)) (S : List State) (W : List (List Item)) (H : List (List Event)) (p peer : Int) (hb : SysB 10000000000 P S W H) (hs : sysOk P S W H = true) :
    callE PR C (k + 6) 90 [aSys 0 P S W H, i64 p, i64 peer] [tInsSS9 P, tStateS9 S, tItemSS9 W, tEventSS9 H] = some (sysRes (stepIs P S W H p peer).1 (stepIs P S W H p peer).2 [some .dead, some .dead, some .dead, some .dead]) := by
  obtain ⟨hI, hP, hS', h200⟩ := sysOk_facts hs
  have hN := hI.n
  have hsl := hI.s
  have hwl := hI.w
  have hHl := hI.h
  have q1 := fun k => ok_spec_l1In k p 0 ((P.length : Int) - 1)
  by_cases c1 : 0 ≤ p ∧ p ≤ (P.length : Int) - 1
  · rw [decide_eq_true c1] at q1
    obtain ⟨p, rfl⟩ : ∃ n : Nat, p = (n : Int) := ⟨p.toNat, by omega⟩
    have hp : p < P.length := by omega
    obtain ⟨f1, f2, f3, f4⟩ := procF_of hs hp
    have hh := h200 p (by omega)
    have e4 : (List.map rEvent (rd H p)).length = (rd H p).length := by simp
    have hat0 := f1.at0
    have hat1 := f1.at1
    by_cases c2 : (rd S p).code = 0
    · by_cases c3 : (200 : Int) ≤ ((rd H p).length : Int)
      · have hc : comingIs P S W H p peer = (⟨0, 0, 0⟩, 4) := by unfold comingIs; rw [if_pos c1, Int.toNat_natCast, if_pos c2, if_pos c3]
        rw [step_no hc (by decide)]
        (refine fnI [ResultVar.cell 6 36, ResultVar.tmp 7] Tryz.func90 ?_; conv => whnf)
        repeat' ((with_reducible (first | refine sCall.of (q1 _) ?_|refine st16 ?_|refine fG.split (fun _ => ?_) (fun _ => ?_)|refine fG.bool (fun _ => ?_) (fun _ => ?_)|refine gD 8 [(1, 11), (4, 11), (6, 11), (9, 11), (10, 11)] ?_|refine gD 14 [(1, 11), (4, 11), (7, 11), (1, 12)] ?_|refine gD 26 [(1, 8), (3, 8), (1, 11), (3, 11)] ?_|refine gD 27 [(1, 14)] ?_|refine gD 28 [(1, 9), (4, 9), (7, 9), (1, 10)] ?_)) <;> (try (conv => whnf)))
        all_goals rfl
      · have q2 : ∀ k, callE PR C (k + 1) 183 [hIns 0 (rd P p), aState 1 (rd S p).at_ (rd S p).regs (rd S p).out (rd S p).code] [tIns (rd P p), tI (rd S p).regs, tI (rd S p).out] = some ⟨aEvent (next (rd P p) (rd S p)), [], [none, none, none]⟩ := fun k => ok_spec_l2Next k (rd P p) (rd S p).at_ (rd S p).regs (rd S p).out (rd S p).code (by omega) f1 f2
        have q3 : ∀ e : Event, comes e (next (rd P p) (rd S p)) = true → ∀ k, callE PR C (k + 4) 184 [hIns 0 (rd P p), aState 1 (rd S p).at_ (rd S p).regs (rd S p).out (rd S p).code, aEvent e] [tIns (rd P p), tI (rd S p).regs, tI (rd S p).out] = some ⟨.tu [nSt 0 (did (rd P p) (rd S p) e), bl true], [tI9 (did (rd P p) (rd S p) e).regs, tI9 (did (rd P p) (rd S p) e).out], [none, none, none]⟩ := fun e he k => by
          rw [ok_spec_l2Do k (rd P p) (rd S p).at_ (rd S p).regs (rd S p).out (rd S p).code e (by omega) f1 f2]
          exact congrArg some (doRes_true (l := rd P p) (a := (rd S p).at_) (r := (rd S p).regs) (o := (rd S p).out) (c := (rd S p).code) he)
        rcases @next_kind (rd P p) (rd S p) with hk | hk | hk
        · have hpe := f4 hk.1
          obtain ⟨b, hbq⟩ : ∃ b : Nat, (next (rd P p) (rd S p)).peer = (b : Int) := ⟨_, (Int.toNat_of_nonneg hpe.1).symm⟩
          have hbl : b < P.length := by omega
          have hpl := place_lt hp hbl
          have hk2 := hk.1
          have hc := coming_send (W := W) (peer := peer) c1 c2 c3 hk2 hbq
          have q4 := q3 _ (comes_self (w := next (rd P p) (rd S p)) (by omega))
          have hwok : (rd W (p * P.length + b)).length ≤ 12 := by
            simp only [sysOk, Bool.and_eq_true, List.all_eq_true] at hs
            have h1 := hs.2.1 _ (rd_mem (l := W) (n := p * P.length + b) (by omega))
            simp only [wayOk, Bool.and_eq_true, decide_eq_true_eq] at h1
            exact h1.1
          have wm : IntKind.i64.wrap ((p : Int) * (P.length : Int)) = ((p * P.length : Nat) : Int) := by
            have := Nat.mul_le_mul (show p ≤ 4 by omega) hN.2
            rw [show (p : Int) * (P.length : Int) = ((p * P.length : Nat) : Int) by simp]; exact wrap_i64 _ (by omega) (by omega)
          have wa : IntKind.i64.wrap (((p * P.length : Nat) : Int) + (next (rd P p) (rd S p)).peer) = ((p * P.length + b : Nat) : Int) := by
            have := Nat.mul_le_mul (show p ≤ 4 by omega) hN.2
            rw [hbq, wrap_i64 _ (by omega) (by omega)]; simp
          by_cases c5 : (12 : Int) ≤ ((rd W (p * P.length + b)).length : Int)
          · rw [if_pos c5] at hc
            rw [step_no hc (by decide)]
            clear hc hk f4 hpe q3 q4
            generalize next (rd P p) (rd S p) = w at *
            obtain ⟨ix, hix⟩ : ∃ ix, ix = p * P.length + b := ⟨_, rfl⟩
            rw [← hix] at hpl hwok c5 wa
            clear hix
            generalize p * P.length = pm at *
            have e5 : (List.map rItem (rd W ix)).length = (rd W ix).length := by simp
            (refine fnI [ResultVar.cell 6 36, ResultVar.tmp 7] Tryz.func90 ?_; conv => whnf)
            repeat' ((with_reducible (first | refine sCall.of (q1 _) ?_|refine sCall.of (q2 _) ?_|refine sW.eq (wm) ?_|refine sW.eq (wa) ?_|refine st16 ?_|refine fG.split (fun _ => ?_) (fun _ => ?_)|refine fG.bool (fun _ => ?_) (fun _ => ?_)|refine gD 8 [(1, 11), (4, 11), (6, 11), (9, 11), (10, 11)] ?_|refine gD 14 [(1, 11), (4, 11), (7, 11), (1, 12)] ?_|refine gD 26 [(1, 8), (3, 8), (1, 11), (3, 11)] ?_|refine gD 27 [(1, 14)] ?_|refine gD 28 [(1, 9), (4, 9), (7, 9), (1, 10)] ?_)) <;> (try (conv => whnf)))
            all_goals rfl
          · rw [if_neg c5] at hc
            rw [step_yes hc]
            have hW : stepW P.length W p (next (rd P p) (rd S p)) = W.set (p * P.length + b) (rd W (p * P.length + b) ++ [⟨false, (next (rd P p) (rd S p)).v⟩]) := by
              unfold stepW
              rw [if_pos hk2, hbq]
              rfl
            simp only [sysRes, stepS, hW, nSys, List.length_set]
            clear hW hc hk f4 hpe q3
            generalize next (rd P p) (rd S p) = w at *
            obtain ⟨ix, hix⟩ : ∃ ix, ix = p * P.length + b := ⟨_, rfl⟩
            rw [← hix] at hpl hwok c5 wa ⊢
            clear hix
            generalize p * P.length = pm at *
            have e5 : (List.map rItem (rd W ix)).length = (rd W ix).length := by simp
            (refine fnI [ResultVar.cell 6 36, ResultVar.tmp 7] Tryz.func90 ?_; conv => whnf)
            repeat' ((with_reducible (first | refine sCall.of (q1 _) ?_|refine sCall.of (q2 _) ?_|refine sCall.of (q4 _) ?_|refine sW.eq (wm) ?_|refine sW.eq (wa) ?_|refine gHole ?_|refine st16 ?_|refine fG.split (fun _ => ?_) (fun _ => ?_)|refine fG.bool (fun _ => ?_) (fun _ => ?_)|refine gD 8 [(1, 11), (4, 11), (6, 11), (9, 11), (10, 11)] ?_|refine gD 14 [(1, 11), (4, 11), (7, 11), (1, 12)] ?_|refine gD 26 [(1, 8), (3, 8), (1, 11), (3, 11)] ?_|refine gD 27 [(1, 14)] ?_|refine gD 28 [(1, 9), (4, 9), (7, 9), (1, 10)] ?_)) <;> (try (conv => whnf)))
            all_goals rfl
        · have hc := coming_peer (W := W) (peer := peer) c1 c2 c3 hk.1
          have hcs : sysOk P S W H = true := hs
          have q2 : ∀ k, callE PR C (k + 1) 183 [hIns 0 (rd P p), aState 1 (rd S p).at_ (rd S p).regs (rd S p).out (rd S p).code] [tIns (rd P p), tI (rd S p).regs, tI (rd S p).out] = some ⟨aEvent ⟨3, (insAt P S p).n, 0⟩, [], [none, none, none]⟩ := fun k => by rw [show (⟨3, (insAt P S p).n, 0⟩ : Event) = next (rd P p) (rd S p) from hk.2.2.symm]; exact q2 k
          generalize hq : askedOf (insAt P S p) peer = q at hc
          have qI := fun k => ok_spec_l1In k q 0 ((P.length : Int) - 1)
          have hq9 : (insAt P S p).n = 9 ∧ q = peer ∨ ¬ (insAt P S p).n = 9 ∧ (insAt P S p).n = q := by
            unfold askedOf at hq
            by_cases h9 : (insAt P S p).n = 9
            · rw [if_pos h9] at hq; exact .inl ⟨h9, hq.symm⟩
            · rw [if_neg h9] at hq; exact .inr ⟨h9, hq⟩
          generalize (insAt P S p).n = xn at *
          by_cases d1 : 0 ≤ q ∧ q ≤ (P.length : Int) - 1
          · rw [decide_eq_true d1] at qI
            obtain ⟨b, rfl⟩ : ∃ n : Nat, q = (n : Int) := ⟨q.toNat, by omega⟩
            have hbl : b < P.length := by omega
            have hpl := place_lt hbl hp
            have hwx := hb.ww (b * P.length + p) (by omega)
            have wm : IntKind.i64.wrap ((b : Int) * (P.length : Int)) = ((b * P.length : Nat) : Int) := by
              have := Nat.mul_le_mul (show b ≤ 4 by omega) hN.2
              rw [show (b : Int) * (P.length : Int) = ((b * P.length : Nat) : Int) by simp]; exact wrap_i64 _ (by omega) (by omega)
            have wa : IntKind.i64.wrap (((b * P.length : Nat) : Int) + (p : Int)) = ((b * P.length + p : Nat) : Int) := by
              have := Nat.mul_le_mul (show b ≤ 4 by omega) hN.2
              rw [wrap_i64 _ (by omega) (by omega)]; simp
            have hsrc : srcIs P.length W p (b : Int) = (if (rd W (b * P.length + p)).length = 0 then (0, 3) else if (rd (rd W (b * P.length + p)) 0).mark = true then (0, 5) else ((b : Int), 0)) := by
              unfold srcIs
              rw [if_pos d1]
              rfl
            rw [hsrc, Int.toNat_natCast] at hc
            by_cases d2 : (rd W (b * P.length + p)).length = 0
            · rw [if_pos d2, if_neg (by decide)] at hc
              rw [step_no hc (by decide)]
              obtain ⟨ix, hix⟩ : ∃ ix, ix = b * P.length + p := ⟨_, rfl⟩
              rw [← hix] at hpl hwx d2 wa
              clear hc hsrc hix
              generalize b * P.length = pm at *
              have e5 : (List.map rItem (rd W ix)).length = (rd W ix).length := by simp
              rcases hq9 with ⟨h9, h9'⟩ | ⟨h9, h9'⟩
              · rw [← h9'] at *
                (refine fnI [ResultVar.cell 6 36, ResultVar.tmp 7] Tryz.func90 ?_; conv => whnf)
                repeat' ((with_reducible (first | refine sCall.of (q1 _) ?_|refine sCall.of (q2 _) ?_|refine sCall.of (qI _) ?_|refine sW.eq (wm) ?_|refine sW.eq (wa) ?_|refine st16 ?_|refine fG.split (fun _ => ?_) (fun _ => ?_)|refine fG.bool (fun _ => ?_) (fun _ => ?_)|refine gD 8 [(1, 11), (4, 11), (6, 11), (9, 11), (10, 11)] ?_|refine gD 14 [(1, 11), (4, 11), (7, 11), (1, 12)] ?_|refine gD 26 [(1, 8), (3, 8), (1, 11), (3, 11)] ?_|refine gD 27 [(1, 14)] ?_|refine gD 28 [(1, 9), (4, 9), (7, 9), (1, 10)] ?_)) <;> (try (conv => whnf)))
                all_goals rfl
              · rw [h9'] at q2 h9
                (refine fnI [ResultVar.cell 6 36, ResultVar.tmp 7] Tryz.func90 ?_; conv => whnf)
                repeat' ((with_reducible (first | refine sCall.of (q1 _) ?_|refine sCall.of (q2 _) ?_|refine sCall.of (qI _) ?_|refine sW.eq (wm) ?_|refine sW.eq (wa) ?_|refine st16 ?_|refine fG.split (fun _ => ?_) (fun _ => ?_)|refine fG.bool (fun _ => ?_) (fun _ => ?_)|refine gD 8 [(1, 11), (4, 11), (6, 11), (9, 11), (10, 11)] ?_|refine gD 14 [(1, 11), (4, 11), (7, 11), (1, 12)] ?_|refine gD 26 [(1, 8), (3, 8), (1, 11), (3, 11)] ?_|refine gD 27 [(1, 14)] ?_|refine gD 28 [(1, 9), (4, 9), (7, 9), (1, 10)] ?_)) <;> (try (conv => whnf)))
                all_goals rfl
            · rw [if_neg d2] at hc
              cases d3 : (rd (rd W (b * P.length + p)) 0).mark with
              | true =>
                rw [if_pos d3, if_neg (by decide)] at hc
                rw [step_no hc (by decide)]
                obtain ⟨ix, hix⟩ : ∃ ix, ix = b * P.length + p := ⟨_, rfl⟩
                rw [← hix] at hpl hwx d2 d3 wa
                clear hc hsrc hix
                generalize b * P.length = pm at *
                have e5 : (List.map rItem (rd W ix)).length = (rd W ix).length := by simp
                rcases hq9 with ⟨h9, h9'⟩ | ⟨h9, h9'⟩
                · rw [← h9'] at *
                  (refine fnI [ResultVar.cell 6 36, ResultVar.tmp 7] Tryz.func90 ?_; conv => whnf)
                  repeat' ((with_reducible (first | refine sCall.of (q1 _) ?_|refine sCall.of (q2 _) ?_|refine sCall.of (qI _) ?_|refine sW.eq (wm) ?_|refine sW.eq (wa) ?_|refine st16 ?_|refine fG.split (fun _ => ?_) (fun _ => ?_)|refine fG.bool (fun _ => ?_) (fun _ => ?_)|refine gD 8 [(1, 11), (4, 11), (6, 11), (9, 11), (10, 11)] ?_|refine gD 14 [(1, 11), (4, 11), (7, 11), (1, 12)] ?_|refine gD 26 [(1, 8), (3, 8), (1, 11), (3, 11)] ?_|refine gD 27 [(1, 14)] ?_|refine gD 28 [(1, 9), (4, 9), (7, 9), (1, 10)] ?_)) <;> (try (conv => whnf)))
                  all_goals rfl
                · rw [h9'] at q2 h9
                  (refine fnI [ResultVar.cell 6 36, ResultVar.tmp 7] Tryz.func90 ?_; conv => whnf)
                  repeat' ((with_reducible (first | refine sCall.of (q1 _) ?_|refine sCall.of (q2 _) ?_|refine sCall.of (qI _) ?_|refine sW.eq (wm) ?_|refine sW.eq (wa) ?_|refine st16 ?_|refine fG.split (fun _ => ?_) (fun _ => ?_)|refine fG.bool (fun _ => ?_) (fun _ => ?_)|refine gD 8 [(1, 11), (4, 11), (6, 11), (9, 11), (10, 11)] ?_|refine gD 14 [(1, 11), (4, 11), (7, 11), (1, 12)] ?_|refine gD 26 [(1, 8), (3, 8), (1, 11), (3, 11)] ?_|refine gD 27 [(1, 14)] ?_|refine gD 28 [(1, 9), (4, 9), (7, 9), (1, 10)] ?_)) <;> (try (conv => whnf)))
                  all_goals rfl
              | false =>
                rw [if_neg (show ¬ (rd (rd W (b * P.length + p)) 0).mark = true by rw [d3]; decide), if_pos rfl] at hc
                have hcc := (coming_comes (peer := peer) hs (by rw [hc])).2
                rw [hc, Int.toNat_natCast] at hcc
                dsimp only at hcc
                have q4 := q3 _ hcc.comes
                rw [step_yes hc]
                have hW : stepW P.length W p ⟨3, (b : Int), (rd (rd W (b * P.length + p)) 0).v⟩ = W.set (b * P.length + p) ((rd W (b * P.length + p)).drop 1) := by
                  unfold stepW
                  rw [if_neg (show ¬ (3 : Int) = 2 by decide), if_pos rfl]
                  rfl
                simp only [sysRes, stepS, hW, nSys, List.length_set]
                obtain ⟨ix, hix⟩ : ∃ ix, ix = b * P.length + p := ⟨_, rfl⟩
                rw [← hix] at hpl hwx d2 d3 wa q4 ⊢
                clear hc hsrc hix hcc hW q3
                generalize b * P.length = pm at *
                have e5 : (List.map rItem (rd W ix)).length = (rd W ix).length := by simp
                have hdl := dropLim (t := (rd W ix).length - 1) (n := 1) (m := 15 + 1) hwx (by decide)
                have et : List.take ((rd W ix).length - 1) (List.drop 1 (rd W ix)) = List.drop 1 (rd W ix) := List.take_of_length_le (by simp)
                rcases hq9 with ⟨h9, h9'⟩ | ⟨h9, h9'⟩
                · rw [← h9'] at *
                  (refine fnI [ResultVar.cell 6 36, ResultVar.tmp 7] Tryz.func90 ?_; conv => whnf)
                  repeat' ((with_reducible (first | refine sCall.of (q1 _) ?_|refine sCall.of (q2 _) ?_|refine sCall.of (qI _) ?_|refine sCall.of (q4 _) ?_|refine sW.eq (wm) ?_|refine sW.eq (wa) ?_|refine gHole ?_|refine sI.mk hdl ?_|refine st16 ?_|refine fG.split (fun _ => ?_) (fun _ => ?_)|refine fG.bool (fun _ => ?_) (fun _ => ?_)|refine gD 8 [(1, 11), (4, 11), (6, 11), (9, 11), (10, 11)] ?_|refine gD 14 [(1, 11), (4, 11), (7, 11), (1, 12)] ?_|refine gD 26 [(1, 8), (3, 8), (1, 11), (3, 11)] ?_|refine gD 27 [(1, 14)] ?_|refine gD 28 [(1, 9), (4, 9), (7, 9), (1, 10)] ?_)) <;> (try (conv => whnf)))
                  all_goals (try rw [et])
                  all_goals rfl
                · rw [h9'] at q2 h9
                  (refine fnI [ResultVar.cell 6 36, ResultVar.tmp 7] Tryz.func90 ?_; conv => whnf)
                  repeat' ((with_reducible (first | refine sCall.of (q1 _) ?_|refine sCall.of (q2 _) ?_|refine sCall.of (qI _) ?_|refine sCall.of (q4 _) ?_|refine sW.eq (wm) ?_|refine sW.eq (wa) ?_|refine gHole ?_|refine sI.mk hdl ?_|refine st16 ?_|refine fG.split (fun _ => ?_) (fun _ => ?_)|refine fG.bool (fun _ => ?_) (fun _ => ?_)|refine gD 8 [(1, 11), (4, 11), (6, 11), (9, 11), (10, 11)] ?_|refine gD 14 [(1, 11), (4, 11), (7, 11), (1, 12)] ?_|refine gD 26 [(1, 8), (3, 8), (1, 11), (3, 11)] ?_|refine gD 27 [(1, 14)] ?_|refine gD 28 [(1, 9), (4, 9), (7, 9), (1, 10)] ?_)) <;> (try (conv => whnf)))
                  all_goals (try rw [et])
                  all_goals rfl
          · rw [decide_eq_false d1] at qI
            rw [show srcIs P.length W p q = (0, 2) by unfold srcIs; rw [if_neg d1], if_neg (by decide)] at hc
            rw [step_no hc (by decide)]
            clear hc
            rcases hq9 with ⟨h9, h9'⟩ | ⟨h9, h9'⟩
            · rw [← h9'] at *
              (refine fnI [ResultVar.cell 6 36, ResultVar.tmp 7] Tryz.func90 ?_; conv => whnf)
              repeat' ((with_reducible (first | refine sCall.of (q1 _) ?_|refine sCall.of (q2 _) ?_|refine sCall.of (qI _) ?_|refine st16 ?_|refine fG.split (fun _ => ?_) (fun _ => ?_)|refine fG.bool (fun _ => ?_) (fun _ => ?_)|refine gD 8 [(1, 11), (4, 11), (6, 11), (9, 11), (10, 11)] ?_|refine gD 14 [(1, 11), (4, 11), (7, 11), (1, 12)] ?_|refine gD 26 [(1, 8), (3, 8), (1, 11), (3, 11)] ?_|refine gD 27 [(1, 14)] ?_|refine gD 28 [(1, 9), (4, 9), (7, 9), (1, 10)] ?_)) <;> (try (conv => whnf)))
              all_goals rfl
            · rw [h9'] at q2 h9
              (refine fnI [ResultVar.cell 6 36, ResultVar.tmp 7] Tryz.func90 ?_; conv => whnf)
              repeat' ((with_reducible (first | refine sCall.of (q1 _) ?_|refine sCall.of (q2 _) ?_|refine sCall.of (qI _) ?_|refine st16 ?_|refine fG.split (fun _ => ?_) (fun _ => ?_)|refine fG.bool (fun _ => ?_) (fun _ => ?_)|refine gD 8 [(1, 11), (4, 11), (6, 11), (9, 11), (10, 11)] ?_|refine gD 14 [(1, 11), (4, 11), (7, 11), (1, 12)] ?_|refine gD 26 [(1, 8), (3, 8), (1, 11), (3, 11)] ?_|refine gD 27 [(1, 14)] ?_|refine gD 28 [(1, 9), (4, 9), (7, 9), (1, 10)] ?_)) <;> (try (conv => whnf)))
              all_goals rfl
        · have hk2 := hk.1
          have hk3 := hk.2
          have hc := coming_else (W := W) (peer := peer) c1 c2 c3 hk2 hk3
          have q4 := q3 _ (comes_self (w := next (rd P p) (rd S p)) hk3)
          rw [step_yes hc]
          have hW : stepW P.length W p (next (rd P p) (rd S p)) = W := by
            unfold stepW
            rw [if_neg hk2, if_neg hk3]
          simp only [sysRes, stepS, hW, nSys, List.length_set]
          clear hW hc hk f4 q3
          generalize next (rd P p) (rd S p) = w at *
          (refine fnI [ResultVar.cell 6 36, ResultVar.tmp 7] Tryz.func90 ?_; conv => whnf)
          repeat' ((with_reducible (first | refine sCall.of (q1 _) ?_|refine sCall.of (q2 _) ?_|refine sCall.of (q4 _) ?_|refine gHole ?_|refine st16 ?_|refine fG.split (fun _ => ?_) (fun _ => ?_)|refine fG.bool (fun _ => ?_) (fun _ => ?_)|refine gD 8 [(1, 11), (4, 11), (6, 11), (9, 11), (10, 11)] ?_|refine gD 14 [(1, 11), (4, 11), (7, 11), (1, 12)] ?_|refine gD 26 [(1, 8), (3, 8), (1, 11), (3, 11)] ?_|refine gD 27 [(1, 14)] ?_|refine gD 28 [(1, 9), (4, 9), (7, 9), (1, 10)] ?_)) <;> (try (conv => whnf)))
          all_goals rfl
    · have hc : comingIs P S W H p peer = (⟨0, 0, 0⟩, 6) := by unfold comingIs; rw [if_pos c1, Int.toNat_natCast, if_neg c2]
      rw [step_no hc (by decide)]
      (refine fnI [ResultVar.cell 6 36, ResultVar.tmp 7] Tryz.func90 ?_; conv => whnf)
      repeat' ((with_reducible (first | refine sCall.of (q1 _) ?_|refine st16 ?_|refine fG.split (fun _ => ?_) (fun _ => ?_)|refine fG.bool (fun _ => ?_) (fun _ => ?_)|refine gD 8 [(1, 11), (4, 11), (6, 11), (9, 11), (10, 11)] ?_|refine gD 14 [(1, 11), (4, 11), (7, 11), (1, 12)] ?_|refine gD 26 [(1, 8), (3, 8), (1, 11), (3, 11)] ?_|refine gD 27 [(1, 14)] ?_|refine gD 28 [(1, 9), (4, 9), (7, 9), (1, 10)] ?_)) <;> (try (conv => whnf)))
      all_goals rfl
  · rw [decide_eq_false c1] at q1
    have hc : comingIs P S W H p peer = (⟨0, 0, 0⟩, 2) := by unfold comingIs; rw [if_neg c1]
    rw [step_no hc (by decide)]
    (refine fnI [ResultVar.cell 6 36, ResultVar.tmp 7] Tryz.func90 ?_; conv => whnf)
    repeat' ((with_reducible (first | refine sCall.of (q1 _) ?_|refine st16 ?_|refine fG.split (fun _ => ?_) (fun _ => ?_)|refine fG.bool (fun _ => ?_) (fun _ => ?_)|refine gD 8 [(1, 11), (4, 11), (6, 11), (9, 11), (10, 11)] ?_|refine gD 14 [(1, 11), (4, 11), (7, 11), (1, 12)] ?_|refine gD 26 [(1, 8), (3, 8), (1, 11), (3, 11)] ?_|refine gD 27 [(1, 14)] ?_|refine gD 28 [(1, 9), (4, 9), (7, 9), (1, 10)] ?_)) <;> (try (conv => whnf)))
    all_goals rfl

end Go.Proofs.YtldndahfnkbngaaGreat.Abs
namespace Go.Proofs.YtldndahfnkbngaaGreat.Abs
open Go Go.Proofs
set_option linter.unusedVariables false
set_option linter.unusedSimpArgs false
attribute [local irreducible] callE
theorem ok_laws_szPickS (k : Nat) (l : List Who) (m : Int) (h0 : 0 ≤ m) (h1 : m ≤ 1048576) (hl : l.length ≤ 140737488355328) : callE PR C (k + 1) 27 [(.h 1000000 0 0 [] 2 0 l.length), i64 m] [(.tree 0 (.sl 2 (l.map rWho)))] = some ⟨i64 (left m l.length), [], [none]⟩ := by
  (refine fnI [ResultVar.tmp 4] Tryz.func27 ?_; conv => whnf)
  repeat' ((with_reducible (first | refine st16 ?_|refine fG.split (fun _ => ?_) (fun _ => ?_)|refine fG.bool (fun _ => ?_) (fun _ => ?_))) <;> (try (conv => whnf)))
  all_goals (simp only [left, *, if_true, if_false]; done)
set_option maxRecDepth 10000 in
theorem ok_laws_toPick (k : Nat) (a : Int) (b : Int) : callE PR C (k + 1) 113 [.ag [i64 a, i64 b]] [] = some ⟨.ag [i64 a, i64 b], [], []⟩ := by
  (refine fnI [ResultVar.cell 2 80] Tryz.func113 ?_; conv => whnf)
  repeat' ((with_reducible (first | refine st16 ?_|refine fG.split (fun _ => ?_) (fun _ => ?_)|refine fG.bool (fun _ => ?_) (fun _ => ?_))) <;> (try (conv => whnf)))
theorem ok_laws_eqPick (k : Nat) (a : Int) (b : Int) : callE PR C (k + 1) 116 [.ag [i64 a, i64 b], .ag [i64 a, i64 b]] [] = some ⟨bl true, [], []⟩ := by
  all_goals (refine fnI [ResultVar.tmp 4] Tryz.func116 ?_; conv => whnf)
  all_goals repeat' ((with_reducible (first | refine st16 ?_|refine fG.split (fun _ => ?_) (fun _ => ?_)|refine fG.bool (fun _ => ?_) (fun _ => ?_))) <;> (try (conv => whnf)))
theorem ok_laws_toPickS (k : Nat) (l : List Who) (hl : l.length ≤ 100000000000) : callE PR C (k + 2) 29 [(.h 1000000 0 0 [] 2 0 l.length)] [(.tree 0 (.sl 2 (l.map rWho)))] = some ⟨.h 2000000 1 0 [] 2 0 l.length, [(.tree 9 (.sl 2 (l.map rWho)))], [none]⟩ := by
  (refine fnI [ResultVar.tmp 2] Tryz.func29 ?_; conv => whnf)
  repeat' ((with_reducible (first | refine st16 ?_|refine fG.split (fun _ => ?_) (fun _ => ?_)|refine fG.bool (fun _ => ?_) (fun _ => ?_))) <;> (try (conv => whnf)))
  refine loop_rule (ι := TL Who) (fun x => [(0, (.h 1000000 0 0 [] 2 0 l.length)), (3, .h 7 1 0 [] 2 0 l.length), (4, i64 (x.j : Nat))])
    (fun x => [(1000000, ⟨0, 0, false, (.tree 0 (.sl 2 (l.map rWho)))⟩), (7, ⟨1, x.g, x.d, .tree 9 (.sl 2 (x.l.map rWho))⟩)])
    (fun x => l.length - x.j) (fun x => x.j ≤ l.length ∧ x.l = fill l x.j) ⟨0, List.replicate l.length default, 0, false⟩ fitOk ⟨Nat.zero_le _, (fill_zero l).symm⟩ (by simp [C]; omega) ?_
  rintro ⟨j, out, g, d⟩ sl ob ⟨hj, hout⟩
  dsimp only at hj hout
  have hlen : out.length = l.length := by rw [hout, fill_len]
  (try dsimp only [cond_true, cond_false])
  (conv => whnf)
  repeat' ((with_reducible (first | refine sCall.of (ok_laws_toPick _ _ _) ?_|refine st16 ?_|refine fG.split (fun _ => ?_) (fun _ => ?_)|refine fG.bool (fun _ => ?_) (fun _ => ?_))) <;> (try (conv => whnf)))
  case' refine_1 h =>
    refine ⟨⟨⟨j + 1, out.set j (rd l j), _, _⟩, fitOk, ?_, ?_⟩⟩
    · exact ⟨by show j + 1 ≤ _; omega, by show _ = _; rw [hout]; exact fill_set l j (by omega)⟩
    · show l.length - (j + 1) < l.length - j; omega
  case refine_2 h =>
    have : j = l.length := by omega
    rw [hout, this, fill_all, List.take_length]
theorem ok_laws_eqPickS (k : Nat) (l : List Who) (hl : l.length ≤ 100000000000) : callE PR C (k + 2) 32 [(.h 1000000 0 0 [] 2 0 l.length), (.h 1000001 0 0 [] 2 0 l.length)] [(.tree 0 (.sl 2 (l.map rWho))), (.tree 0 (.sl 2 (l.map rWho)))] = some ⟨bl true, [], [none, none]⟩ := by
  (refine fnI [ResultVar.tmp 4] Tryz.func32 ?_; conv => whnf)
  repeat' ((with_reducible (first | refine st16 ?_|refine fG.split (fun _ => ?_) (fun _ => ?_)|refine fG.bool (fun _ => ?_) (fun _ => ?_)|refine gDn 6 ?_)) <;> (try (conv => whnf)))
  refine loop_rule (ι := Nat) (fun j => [(0, (.h 1000000 0 0 [] 2 0 l.length)), (1, (.h 1000001 0 0 [] 2 0 l.length)), (5, i64 (j : Nat))])
    (fun x => [(1000000, ⟨0, 0, false, (.tree 0 (.sl 2 (l.map rWho)))⟩), (1000001, ⟨0, 0, false, (.tree 0 (.sl 2 (l.map rWho)))⟩)])
    (fun j => l.length - j) (fun j => j ≤ l.length) 0 fitOk (Nat.zero_le _) (by simp [C]; omega) ?_
  rintro j sl ob hj
  (try dsimp only [cond_true, cond_false])
  (conv => whnf)
  repeat' ((with_reducible (first | refine sCall.of (ok_laws_eqPick _ _ _) ?_|refine st16 ?_|refine fG.split (fun _ => ?_) (fun _ => ?_)|refine fG.bool (fun _ => ?_) (fun _ => ?_)|refine gDn 6 ?_)) <;> (try (conv => whnf)))
  case' refine_1 h =>
    refine ⟨⟨j + 1, fitOk, ?_, ?_⟩⟩
    · show j + 1 ≤ _; omega
    · show l.length - (j + 1) < l.length - j; omega
theorem ok_laws_markPickS9 (k : Nat) (l : List Who) (m : Int) (hl : l.length ≤ 100000000000) (h0 : 0 ≤ m) (h1 : m ≤ 100000000000) : callE PR C (k + 1) 33 [(.h 1000000 0 0 [] 2 0 l.length), i64 m] [(.tree 9 (.sl 2 (l.map rWho)))] = some ⟨i64 (m + 2 * l.length), [], [some (.tree 9 (.sl 2 ((marks mWho wWho m l).map rWho)))]⟩ := by
  (refine fnI [ResultVar.tmp 4] Tryz.func33 ?_; conv => whnf)
  repeat' ((with_reducible (first | refine st16 ?_|refine fG.split (fun _ => ?_) (fun _ => ?_)|refine fG.bool (fun _ => ?_) (fun _ => ?_))) <;> (try (conv => whnf)))
  refine loop_rule (ι := TM Who) (fun x => [(0, (.h 1000000 0 0 [] 2 0 l.length)), (1, i64 x.m), (5, i64 (x.j : Nat))])
    (fun x => [(1000000, ⟨0, x.g, x.d, .tree 9 (.sl 2 (x.l.map rWho))⟩)])
    (fun x => l.length - x.j) (fun x => x.j ≤ l.length ∧ x.l = half mWho wWho m l x.j ∧ x.m = m + 2 * x.j) ⟨0, m, l, 0, false⟩ fitOk ⟨Nat.zero_le _, (half_zero _ _ m l).symm, by simp⟩ (by simp [C]; omega) ?_
  rintro ⟨j, n, out, g, d⟩ sl ob ⟨hj, hout, hn⟩
  dsimp only at hj hout hn
  have hlen : out.length = l.length := by rw [hout, half_len]
  have hz : n.tmod 3 = n.tmod 3 := rfl
  (try dsimp only [cond_true, cond_false])
  (conv => whnf)
  repeat' ((with_reducible (first | refine sZ.eq (hz) ?_|refine st16 ?_|refine fG.split (fun _ => ?_) (fun _ => ?_)|refine fG.bool (fun _ => ?_) (fun _ => ?_))) <;> (try (conv => whnf)))
  case' refine_1 h =>
    refine ⟨⟨⟨j + 1, n + 1 + 1, out.set j (mWho n (rd out j)), _, _⟩, fitOk, ?_, ?_⟩⟩
    · refine ⟨by show j + 1 ≤ _; omega, ?_, by show _ = _; push_cast; omega⟩
      show _ = _
      rw [← half_set _ _ m l j (by omega), hout, hn]
      simp only [wts_wWho, List.length_take, mWho, show min j l.length = j by omega, Int.natCast_mul]
      rfl
    · show l.length - (j + 1) < l.length - j; omega
  case refine_2 h =>
    have : j = l.length := by omega
    rw [hout, hn, this, half_all]

def stopOk (P : List (List Ins)) (S : List State) (W : List (List Item)) (H : List (List Event)) (p kind : Int) : Bool := sysOk P S W H && (inB p 0 ((P.length : Int) - 1) && inB kind 1 3)
abbrev aStop (p kind v : Int) : AV := .ag [i64 p, i64 kind, i64 v]
theorem ok_impl_StopOk (k : Nat) (P : List (List Ins)) (S : List State) (W : List (List Item)) (H : List (List Event)) (p kind v : Int) (hb : SysB 10000000000 P S W H) :
    callE PR C (k + 12) 54 [aSys 0 P S W H, aStop p kind v] [tInsSS P, tStateS S, tItemSS W, tEventSS H] = some ⟨bl (stopOk P S W H p kind), [], [none, none, none, none]⟩ := by
  have b1 := hb.p
  have q1 := fun k => ok_impl_SysOk k P S W H hb
  unfold stopOk
  cases e : sysOk P S W H with
  | false =>
    simp only [e] at q1
    (refine fnI [ResultVar.tmp 4] Tryz.func54 ?_; conv => whnf)
    repeat' ((with_reducible (first | refine sCall.of (q1 _) ?_|refine st16 ?_|refine fG.split (fun _ => ?_) (fun _ => ?_)|refine fG.bool (fun _ => ?_) (fun _ => ?_))) <;> (try (conv => whnf)))
    all_goals rfl
  | true =>
    simp only [e] at q1
    (refine fnI [ResultVar.tmp 4] Tryz.func54 ?_; conv => whnf)
    repeat' ((with_reducible (first | refine sCall.of (q1 _) ?_|refine sCall.of (ok_impl_in _ _ _ _) ?_|refine st16 ?_|refine fG.split (fun _ => ?_) (fun _ => ?_)|refine fG.bool (fun _ => ?_) (fun _ => ?_))) <;> (try (conv => whnf)))
    all_goals simp [inB, *]
theorem ok_spec_StopOk (k : Nat) (P : List (List Ins)) (S : List State) (W : List (List Item)) (H : List (List Event)) (p kind v : Int) (hb : SysB 10000000000 P S W H) :
    callE PR C (k + 8) 55 [aSys 0 P S W H, aStop p kind v] [tInsSS P, tStateS S, tItemSS W, tEventSS H] = some ⟨bl (stopOk P S W H p kind), [], [none, none, none, none]⟩ := by
  have b1 := hb.p
  have q1 := fun k => ok_spec_SysOk k P S W H hb
  unfold stopOk
  cases e : sysOk P S W H with
  | false =>
    simp only [e] at q1
    (refine fnI [ResultVar.tmp 4] Tryz.func55 ?_; conv => whnf)
    repeat' ((with_reducible (first | refine sCall.of (q1 _) ?_|refine st16 ?_|refine fG.split (fun _ => ?_) (fun _ => ?_)|refine fG.bool (fun _ => ?_) (fun _ => ?_))) <;> (try (conv => whnf)))
    all_goals rfl
  | true =>
    simp only [e] at q1
    (refine fnI [ResultVar.tmp 4] Tryz.func55 ?_; conv => whnf)
    repeat' ((with_reducible (first | refine sCall.of (q1 _) ?_|refine sCall.of (ok_spec_l1In _ _ _ _) ?_|refine st16 ?_|refine fG.split (fun _ => ?_) (fun _ => ?_)|refine fG.bool (fun _ => ?_) (fun _ => ?_))) <;> (try (conv => whnf)))
    all_goals simp [inB, *]
set_option maxRecDepth 20000 in
theorem ok_laws_toStop (k : Nat) (p kind v : Int) : callE PR C (k + 1) 30 [aStop p kind v] [] = some ⟨aStop p kind v, [], []⟩ := by
  (refine fnI [ResultVar.cell 2 55] Tryz.func30 ?_; conv => whnf)
  repeat' ((with_reducible (first | refine st16 ?_|refine fG.split (fun _ => ?_) (fun _ => ?_)|refine fG.bool (fun _ => ?_) (fun _ => ?_))) <;> (try (conv => whnf)))
def holdsB (kind v a : Int) (o : List Int) (es : List Event) : Bool :=
  if kind = 1 then decide (a = v) else if kind = 2 then decide (0 < (o.length : Int)) && decide (rd o ((o.length : Int) - 1).toNat = v)
  else !decide ((es.length : Int) = 0) && (decide ((rd es ((es.length : Int) - 1).toNat).kind = 3) && decide ((rd es ((es.length : Int) - 1).toNat).v = v))
set_option maxRecDepth 20000 in
theorem ok_impl_holds (k : Nat) (p kind v a : Int) (r o : List Int) (c : Int) (es : List Event) (hr : r.length ≤ 100000000000) (ho : o.length ≤ 100000000000) (he : es.length ≤ 100000000000) :
    callE PR C (k + 1) 115 [aStop p kind v, aState 0 a r o c, hEvent 2 es] [tI r, tI o, tEvent es] = some ⟨bl (holdsB kind v a o es), [], [none, none, none]⟩ := by
  unfold holdsB
  by_cases c1 : kind = 1
  · rw [if_pos c1]
    (refine fnI [ResultVar.tmp 6] Tryz.func115 ?_; conv => whnf)
    repeat' ((with_reducible (first | refine st16 ?_|refine fG.split (fun _ => ?_) (fun _ => ?_)|refine fG.bool (fun _ => ?_) (fun _ => ?_)|refine gDn 5 ?_)) <;> (try (conv => whnf)))
    all_goals rfl
  · rw [if_neg c1]
    by_cases c2 : kind = 2
    · rw [if_pos c2]
      (refine fnI [ResultVar.tmp 6] Tryz.func115 ?_; conv => whnf)
      repeat' ((with_reducible (first | refine st16 ?_|refine fG.split (fun _ => ?_) (fun _ => ?_)|refine fG.bool (fun _ => ?_) (fun _ => ?_)|refine gDn 5 ?_)) <;> (try (conv => whnf)))
      all_goals first
        | rfl
        | (simp only [holdsB, *, decide_true, decide_false, decide_not, Bool.and_assoc, Bool.or_assoc, Bool.true_and, Bool.false_and, Bool.and_true, Bool.and_false, Bool.true_or, Bool.false_or, Bool.or_true, Bool.or_false, Bool.not_true, Bool.not_false, Bool.not_not, if_true, if_false, reduceIte, true_and, and_true, false_and, and_false, true_or, or_true, or_false, false_or, and_self, or_self, not_true_eq_false, not_false_eq_true, Int.reduceEq, Int.reduceNe, Int.reduceLT, Int.reduceLE, Int.reduceNeg, ↓reduceIte]; done)
        | (simp [*]; done)
        | (simp [*]; intros; omega)
    · rw [if_neg c2]
      (refine fnI [ResultVar.tmp 6] Tryz.func115 ?_; conv => whnf)
      repeat' ((with_reducible (first | refine st16 ?_|refine fG.split (fun _ => ?_) (fun _ => ?_)|refine fG.bool (fun _ => ?_) (fun _ => ?_)|refine gDn 5 ?_)) <;> (try (conv => whnf)))
      all_goals first
        | rfl
        | (simp only [holdsB, *, decide_true, decide_false, decide_not, Bool.and_assoc, Bool.or_assoc, Bool.true_and, Bool.false_and, Bool.and_true, Bool.and_false, Bool.true_or, Bool.false_or, Bool.or_true, Bool.or_false, Bool.not_true, Bool.not_false, Bool.not_not, if_true, if_false, reduceIte, true_and, and_true, false_and, and_false, true_or, or_true, or_false, false_or, and_self, or_self, not_true_eq_false, not_false_eq_true, Int.reduceEq, Int.reduceNe, Int.reduceLT, Int.reduceLE, Int.reduceNeg, ↓reduceIte]; done)
        | (simp [*]; done)
        | (simp [*]; intros; omega)
set_option maxRecDepth 20000 in
theorem ok_spec_l12Holds (k : Nat) (p kind v a : Int) (r o : List Int) (c : Int) (es : List Event) (hr : r.length ≤ 100000000000) (ho : o.length ≤ 100000000000) (he : es.length ≤ 100000000000) :
    callE PR C (k + 1) 134 [aState 0 a r o c, hEvent 2 es, aStop p kind v] [tI r, tI o, tEvent es] = some ⟨bl (holdsB kind v a o es), [], [none, none, none]⟩ := by
  unfold holdsB
  by_cases c1 : kind = 1
  · rw [if_pos c1]
    (refine fnI [ResultVar.tmp 6] Tryz.func134 ?_; conv => whnf)
    repeat' ((with_reducible (first | refine st16 ?_|refine fG.split (fun _ => ?_) (fun _ => ?_)|refine fG.bool (fun _ => ?_) (fun _ => ?_)|refine gDn 5 ?_)) <;> (try (conv => whnf)))
    all_goals rfl
  · rw [if_neg c1]
    by_cases c2 : kind = 2
    · rw [if_pos c2]
      (refine fnI [ResultVar.tmp 6] Tryz.func134 ?_; conv => whnf)
      repeat' ((with_reducible (first | refine st16 ?_|refine fG.split (fun _ => ?_) (fun _ => ?_)|refine fG.bool (fun _ => ?_) (fun _ => ?_)|refine gDn 5 ?_)) <;> (try (conv => whnf)))
      all_goals first
        | rfl
        | (simp only [holdsB, *, decide_true, decide_false, decide_not, Bool.and_assoc, Bool.or_assoc, Bool.true_and, Bool.false_and, Bool.and_true, Bool.and_false, Bool.true_or, Bool.false_or, Bool.or_true, Bool.or_false, Bool.not_true, Bool.not_false, Bool.not_not, if_true, if_false, reduceIte, true_and, and_true, false_and, and_false, true_or, or_true, or_false, false_or, and_self, or_self, not_true_eq_false, not_false_eq_true, Int.reduceEq, Int.reduceNe, Int.reduceLT, Int.reduceLE, Int.reduceNeg, ↓reduceIte]; done)
        | (simp [*]; done)
        | (simp [*]; intros; omega)
    · rw [if_neg c2]
      (refine fnI [ResultVar.tmp 6] Tryz.func134 ?_; conv => whnf)
      repeat' ((with_reducible (first | refine st16 ?_|refine fG.split (fun _ => ?_) (fun _ => ?_)|refine fG.bool (fun _ => ?_) (fun _ => ?_)|refine gDn 5 ?_)) <;> (try (conv => whnf)))
      all_goals first
        | rfl
        | (simp only [holdsB, *, decide_true, decide_false, decide_not, Bool.and_assoc, Bool.or_assoc, Bool.true_and, Bool.false_and, Bool.and_true, Bool.and_false, Bool.true_or, Bool.false_or, Bool.or_true, Bool.or_false, Bool.not_true, Bool.not_false, Bool.not_not, if_true, if_false, reduceIte, true_and, and_true, false_and, and_false, true_or, or_true, or_false, false_or, and_self, or_self, not_true_eq_false, not_false_eq_true, Int.reduceEq, Int.reduceNe, Int.reduceLT, Int.reduceLE, Int.reduceNeg, ↓reduceIte]; done)
        | (simp [*]; done)
        | (simp [*]; intros; omega)
theorem stopOk_facts {P : List (List Ins)} {S : List State} {W : List (List Item)} {H : List (List Event)} {p kind : Int} (h : stopOk P S W H p kind = true) : SysIs P S W H ∧ 0 ≤ p ∧ p.toNat < P.length := by
  simp only [stopOk, inB, Bool.and_eq_true, decide_eq_true_eq] at h
  obtain ⟨h1, h2, h3⟩ := h
  simp only [sysOk, sizesOk, inB, Bool.and_eq_true, decide_eq_true_eq] at h1
  obtain ⟨⟨a1, a2, a3, a4⟩, _⟩ := h1
  exact ⟨⟨by omega, a2, a3, a4⟩, h2.1, by omega⟩
def stopHolds (P : List (List Ins)) (S : List State) (W : List (List Item)) (H : List (List Event)) (p kind v : Int) : Bool := stopOk P S W H p kind && holdsB kind v (rd S p.toNat).at_ (rd S p.toNat).out (rd H p.toNat)
theorem ok_spec_Holds (k : Nat) (P : List (List Ins)) (S : List State) (W : List (List Item)) (H : List (List Event)) (p kind v : Int) (hb : SysB 10000000000 P S W H) :
    callE PR C (k + 9) 53 [aSys 0 P S W H, aStop p kind v] [tInsSS P, tStateS S, tItemSS W, tEventSS H] = some ⟨bl (stopHolds P S W H p kind v), [], [none, none, none, none]⟩ := by
  have q1 := fun k => ok_spec_StopOk k P S W H p kind v hb
  unfold stopHolds
  cases e : stopOk P S W H p kind with
  | false =>
    simp only [e] at q1
    (refine fnI [ResultVar.tmp 4] Tryz.func53 ?_; conv => whnf)
    repeat' ((with_reducible (first | refine sCall.of (q1 _) ?_|refine st16 ?_|refine fG.split (fun _ => ?_) (fun _ => ?_)|refine fG.bool (fun _ => ?_) (fun _ => ?_)|refine gDn 1 ?_)) <;> (try (conv => whnf)))
    all_goals rfl
  | true =>
    simp only [e] at q1
    obtain ⟨hI, h0, h1⟩ := stopOk_facts e
    have d1 := hI.s
    have d2 := hI.h
    have b1 := hb.ss p.toNat (by omega)
    have b2 := hb.hh p.toNat (by omega)
    have q2 := fun k => ok_spec_l12Holds k p kind v (rd S p.toNat).at_ (rd S p.toNat).regs (rd S p.toNat).out (rd S p.toNat).code (rd H p.toNat) (by omega) (by omega) (by omega)
    cases e2 : holdsB kind v (rd S p.toNat).at_ (rd S p.toNat).out (rd H p.toNat)
    all_goals
      simp only [e2] at q2
      (refine fnI [ResultVar.tmp 4] Tryz.func53 ?_; conv => whnf)
      repeat' ((with_reducible (first | refine sCall.of (q1 _) ?_|refine sCall.of (q2 _) ?_|refine st16 ?_|refine fG.split (fun _ => ?_) (fun _ => ?_)|refine fG.bool (fun _ => ?_) (fun _ => ?_)|refine gDn 1 ?_)) <;> (try (conv => whnf)))
    all_goals rfl

def lastIs (f : Nat → Bool) : Nat → Int
  | 0 => if f 0 = true then 0 else -1
  | n + 1 => if f (n + 1) = true then ((n + 1 : Nat) : Int) else lastIs f n
def heldAt (l : List Ins) (es : List Event) (kind v : Int) (n : Nat) : Bool := holdsB kind v (stOf (replayAll l (es.take n))).at_ (stOf (replayAll l (es.take n))).out (es.take n)
def lastMo (P : List (List Ins)) (S : List State) (W : List (List Item)) (H : List (List Event)) (p kind v : Int) : Int := if stopOk P S W H p kind = true then lastIs (heldAt (rd P p.toNat) (rd H p.toNat) kind v) (rd H p.toNat).length else -1
structure LA where
  n : Int
  d : Nat
end Go.Proofs.YtldndahfnkbngaaGreat.Abs
namespace Go.Proofs.YtldndahfnkbngaaGreat.Abs
open Go Go.Proofs
set_option linter.unusedVariables false
set_option linter.unusedSimpArgs false
attribute [local irreducible] callE
set_option maxRecDepth 20000 in
set_option maxHeartbeats 4000000 in
theorem ok_spec_Step (k : Nat) (P : List (List Ins)) (S : List State) (W : List (List Item)) (H : List (List Event)) (p peer : Int) (hb : SysB 10000000000 P S W H) (hs : sysOk P S W H = true) :
    callE PR C (k + 8) 112 [aSys 0 P S W H, i64 p, i64 peer] [tInsSS P, tStateS S, tItemSS W, tEventSS H] = some (sysRes (stepIs P S W H p peer).1 (stepIs P S W H p peer).2 [none, none, none, none]) := by
  have q1 := fun k => ok_spec_SysOk k P S W H hb
  simp only [hs] at q1
  have hI := (sysOk_facts hs).1
  have q2 := fun k => ok_spec_l4Copy k P S W H (hb.mono (by decide)) hI.some
  have q3 := fun k => ok_spec_l5Step k P S W H p peer hb hs
  have hno : ¬ (stepIs P S W H p peer).2 = 0 → (stepIs P S W H p peer).1 = ⟨P, S, W, H⟩ := fun h => by
    unfold stepIs at h ⊢
    split
    · rename_i h2; rw [if_pos h2] at h; exact absurd rfl h
    · rfl
  by_cases c0 : (stepIs P S W H p peer).2 = 0
  · generalize stepIs P S W H p peer = X at *
    obtain ⟨⟨P', S', W', H'⟩, n⟩ := X
    dsimp only at c0
    simp only [sysRes] at q3 ⊢
    (refine fnI [ResultVar.cell 6 36, ResultVar.tmp 7] Tryz.func112 ?_; conv => whnf)
    repeat' ((with_reducible (first | refine sCall.of (q1 _) ?_|refine sCall.of (q2 _) ?_|refine sCall.of (q3 _) ?_|refine st16 ?_|refine fG.split (fun _ => ?_) (fun _ => ?_)|refine fG.bool (fun _ => ?_) (fun _ => ?_))) <;> (try (conv => whnf)))
    all_goals rfl
  · have h1 := hno c0
    generalize stepIs P S W H p peer = X at *
    obtain ⟨X, n⟩ := X
    dsimp only at c0 h1
    subst h1
    simp only [sysRes] at q3 ⊢
    (refine fnI [ResultVar.cell 6 36, ResultVar.tmp 7] Tryz.func112 ?_; conv => whnf)
    repeat' ((with_reducible (first | refine sCall.of (q1 _) ?_|refine sCall.of (q2 _) ?_|refine sCall.of (q3 _) ?_|refine st16 ?_|refine fG.split (fun _ => ?_) (fun _ => ?_)|refine fG.bool (fun _ => ?_) (fun _ => ?_))) <;> (try (conv => whnf)))
    all_goals rfl
def heldIn (X : Sys) (q : Nat) (kind v : Int) : Bool := holdsB kind v (rd X.states q).at_ (rd X.states q).out (rd X.hist q)
def stepX (X : Sys) (w : Who) : Sys × Int := stepIs X.progs X.states X.ways X.hist w.p w.i
def untilGo (q : Nat) (kind v : Int) : Nat → List Who → Sys → Sys × Int
  | i, [], X => (X, (i : Int))
  | i, w :: r, X => if (stepX X w).2 = 0 ∧ heldIn (stepX X w).1 q kind v = true then ((stepX X w).1, ((i + 1 : Nat) : Int)) else untilGo q kind v (i + 1) r (stepX X w).1
def untilIs (P : List (List Ins)) (S : List State) (W : List (List Item)) (H : List (List Event)) (l : List Who) (p kind v : Int) : Sys × Int :=
  if stopOk P S W H p kind = true ∧ (l.length : Int) ≤ 200 then untilGo p.toNat kind v 0 l ⟨P, S, W, H⟩ else (⟨[], [], [], []⟩, -1)
structure Along (n : Nat) (X : Sys) : Prop where
  ok : sysOk X.progs X.states X.ways X.hist = true
  n : X.progs.length = n
theorem along_step {n : Nat} {X : Sys} (h : Along n X) (w : Who) : Along n (stepX X w).1 := by
  refine ⟨stepIs_sysOk h.ok, ?_⟩
  have := h.n
  unfold stepX stepIs
  split
  · exact this
  · exact this
theorem untilGo_along {n q : Nat} {kind v : Int} : ∀ (l : List Who) (i : Nat) {X : Sys}, Along n X → Along n (untilGo q kind v i l X).1
  | [], _, _, h => h
  | w :: r, i, X, h => by
    rw [untilGo]
    split
    · exact along_step h w
    · exact untilGo_along r (i + 1) (along_step h w)
theorem untilGo_drop {q : Nat} {kind v : Int} {l : List Who} {j : Nat} {X : Sys} (hj : j < l.length) : untilGo q kind v j (l.drop j) X = if (stepX X (rd l j)).2 = 0 ∧ heldIn (stepX X (rd l j)).1 q kind v = true then ((stepX X (rd l j)).1, ((j + 1 : Nat) : Int)) else untilGo q kind v (j + 1) (l.drop (j + 1)) (stepX X (rd l j)).1 := by
  rw [drop_rd hj, untilGo]
structure US where
  j : Nat
  X : Sys
  o : Nat
  b0 : Nat
  b1 : Nat
  b2 : Nat
  b3 : Nat
  dd : Bool
set_option maxRecDepth 20000 in
set_option maxHeartbeats 8000000 in
theorem ok_impl_Until (k : Nat) (P : List (List Ins)) (S : List State) (W : List (List Item)) (H : List (List Event)) (l : List Who) (p kind v : Int) (hb : SysB 1000000000 P S W H) (hl : l.length ≤ 1000000000) :
    callE PR C (k + 13) 31 [aSys 0 P S W H, .h 1000004 0 0 [] 2 0 l.length, aStop p kind v] [tInsSS P, tStateS S, tItemSS W, tEventSS H, tWho l] = some (sysRes (untilIs P S W H l p kind v).1 (untilIs P S W H l p kind v).2 [none, none, none, none, none]) := by
  have q1 := fun k => ok_impl_StopOk k P S W H p kind v (hb.mono (by decide))
  unfold untilIs
  cases e : stopOk P S W H p kind with
  | false =>
    simp only [e] at q1
    rw [if_neg (by simp)]
    (refine fnI [ResultVar.cell 6 36, ResultVar.tmp 7] Tryz.func31 ?_; conv => whnf)
    repeat' ((with_reducible (first | refine sCall.of (q1 _) ?_|refine st16 ?_|refine fG.split (fun _ => ?_) (fun _ => ?_)|refine fG.bool (fun _ => ?_) (fun _ => ?_)|refine gDn 9 ?_)) <;> (try (conv => whnf)))
    all_goals rfl
  | true =>
    simp only [e] at q1
    by_cases cl : (l.length : Int) ≤ 200
    · rw [if_pos ⟨rfl, cl⟩]
      obtain ⟨hI, hp0, hpl⟩ := stopOk_facts e
      have f1 : sysOk P S W H = true := by simp only [stopOk, Bool.and_eq_true] at e; exact e.1
      have hA : Along P.length ⟨P, S, W, H⟩ := ⟨f1, rfl⟩
      obtain ⟨p, rfl⟩ : ∃ n : Nat, p = (n : Int) := ⟨p.toNat, by omega⟩
      rw [Int.toNat_natCast] at hpl ⊢
      have q2 := fun k => ok_impl_cloneSys k P S W H (hb.mono (by decide)) hI.some
      generalize hR : untilGo p kind v 0 l ⟨P, S, W, H⟩ = R
      (refine fnI [ResultVar.cell 6 36, ResultVar.tmp 7] Tryz.func31 ?_; conv => whnf)
      repeat' ((with_reducible (first | refine sCall.of (q1 _) ?_|refine sCall.of (q2 _) ?_|refine st16 ?_|refine fG.split (fun _ => ?_) (fun _ => ?_)|refine fG.bool (fun _ => ?_) (fun _ => ?_)|refine gDn 9 ?_)) <;> (try (conv => whnf)))
      refine loop_rule (ι := US) (fun z => [(1, .h 1000004 0 0 [] 2 0 l.length), (5, .pt 5 1 0 [] 0 0), (6, .pt 6 1 0 [] 0 0), (8, .pt 8 1 0 [] 0 0), (25, .h 1000004 0 0 [] 2 0 l.length), (26, i64 l.length), (27, i64 (z.j : Nat))])
        (fun z => [(1000000, ⟨0, 0, false, tInsSS P⟩), (1000001, ⟨0, 0, false, tStateS S⟩), (1000002, ⟨0, 0, false, tItemSS W⟩), (1000003, ⟨0, 0, false, tEventSS H⟩), (1000004, ⟨0, 0, false, tWho l⟩), (5, ⟨1, 0, false, .box [i64 (p : Nat), i64 kind, i64 v]⟩), (6, ⟨1, 0, false, .box [.nl 1, .nl 4, .nl 1, .nl 1]⟩), (8, ⟨1, 0, z.dd, .box [.h (z.o + 10000) z.b0 0 [] 1 0 z.X.progs.length, .h (z.o + 20000) z.b1 0 [] 4 0 z.X.states.length, .h (z.o + 30000) z.b2 0 [] 1 0 z.X.ways.length, .h (z.o + 40000) z.b3 0 [] 1 0 z.X.hist.length]⟩), (z.o + 10000, ⟨z.b0, 0, false, tInsSS9 z.X.progs⟩), (z.o + 20000, ⟨z.b1, 0, false, tStateS9 z.X.states⟩), (z.o + 30000, ⟨z.b2, 0, false, tItemSS9 z.X.ways⟩), (z.o + 40000, ⟨z.b3, 0, false, tEventSS9 z.X.hist⟩)])
        (fun z => l.length - z.j) (fun z => z.j ≤ l.length ∧ Along P.length z.X ∧ untilGo p kind v z.j (l.drop z.j) z.X = R ∧ (z.o = 24 ∨ z.o = 38)) ⟨0, ⟨P, S, W, H⟩, 24, 1, 1, 1, 1, _⟩ fitOk ⟨Nat.zero_le _, hA, hR, .inl rfl⟩ (by simp [C]; omega) ?_
      clear q1 q2 hR e f1 hA
      rintro ⟨j, ⟨P1, S1, W1, H1⟩, o, b0, b1, b2, b3, dd⟩ sl ob ⟨hj, hA, hR, ho⟩
      dsimp only at hj hA hR ho
      by_cases hjl : j < l.length
      · rw [untilGo_drop hjl] at hR
        have hA' := along_step hA (rd l j)
        have hB := (sysOk_G hA.ok).b
        have hB' := (sysOk_G hA'.ok).b
        have hI' := (sysOk_facts hA'.ok).1
        have q3 : ∀ k, callE PR C (k + 5) 97 [aSys 0 P1 S1 W1 H1, i64 (rd l j).p, i64 (rd l j).i] [tInsSS P1, tStateS S1, tItemSS W1, tEventSS H1] = some (sysRes (stepX ⟨P1, S1, W1, H1⟩ (rd l j)).1 (stepX ⟨P1, S1, W1, H1⟩ (rd l j)).2 [none, none, none, none]) := fun k => ok_impl_step k P1 S1 W1 H1 (rd l j).p (rd l j).i (hB.mono (by decide)) hA.ok
        generalize stepX ⟨P1, S1, W1, H1⟩ (rd l j) = Y at *
        obtain ⟨⟨P2, S2, W2, H2⟩, n⟩ := Y
        dsimp only at hR hA' hB' hI'
        simp only [sysRes] at q3
        have hn2 := hA'.n
        have hs2 := hI'.s
        have hh2 := hI'.h
        try dsimp only at hn2 hs2 hh2
        have hx1 := hB'.ss p (by show p < S2.length; omega)
        have hx2 := hB'.hh p (by show p < H2.length; omega)
        try dsimp only at hx1 hx2
        have q4 := fun k => ok_impl_holds k (p : Int) kind v (rd S2 p).at_ (rd S2 p).regs (rd S2 p).out (rd S2 p).code (rd H2 p) (by omega) (by omega) (by omega)
        by_cases c0 : n = 0
        · cases hh : holdsB kind v (rd S2 p).at_ (rd S2 p).out (rd H2 p) with
          | true =>
            simp only [hh] at q4
            rw [if_pos ⟨c0, hh⟩] at hR
            rw [← hR]
            rcases ho with rfl | rfl
            all_goals (try dsimp only [cond_true, cond_false])
            all_goals (conv => whnf)
            all_goals repeat' ((with_reducible (first | refine sCall.of (q3 _) ?_|refine sCall.of (q4 _) ?_|refine st16 ?_|refine fG.split (fun _ => ?_) (fun _ => ?_)|refine fG.bool (fun _ => ?_) (fun _ => ?_)|refine gDn 9 ?_)) <;> (try (conv => whnf)))
            all_goals rfl
          | false =>
            simp only [hh] at q4
            rw [if_neg (by unfold heldIn; rw [hh]; simp)] at hR
            rcases ho with rfl | rfl
            all_goals (try dsimp only [cond_true, cond_false])
            all_goals (conv => whnf)
            all_goals repeat' ((with_reducible (first | refine sCall.of (q3 _) ?_|refine sCall.of (q4 _) ?_|refine st16 ?_|refine fG.split (fun _ => ?_) (fun _ => ?_)|refine fG.bool (fun _ => ?_) (fun _ => ?_)|refine gDn 9 ?_)) <;> (try (conv => whnf)))
            all_goals
              refine ⟨⟨⟨j + 1, ⟨P2, S2, W2, H2⟩, 38, _, _, _, _, _⟩, fitOk, ?_, ?_⟩⟩
              · exact ⟨by show j + 1 ≤ _; omega, hA', hR, .inr rfl⟩
              · show l.length - (j + 1) < l.length - j; omega
        · rw [if_neg (fun h => c0 h.1)] at hR
          rcases ho with rfl | rfl
          all_goals (try dsimp only [cond_true, cond_false])
          all_goals (conv => whnf)
          all_goals repeat' ((with_reducible (first | refine sCall.of (q3 _) ?_|refine st16 ?_|refine fG.split (fun _ => ?_) (fun _ => ?_)|refine fG.bool (fun _ => ?_) (fun _ => ?_)|refine gDn 9 ?_)) <;> (try (conv => whnf)))
          all_goals
            refine ⟨⟨⟨j + 1, ⟨P2, S2, W2, H2⟩, 38, _, _, _, _, _⟩, fitOk, ?_, ?_⟩⟩
            · exact ⟨by show j + 1 ≤ _; omega, hA', hR, .inr rfl⟩
            · show l.length - (j + 1) < l.length - j; omega
      · rw [List.drop_eq_nil_of_le (by omega), untilGo, show j = l.length by omega] at hR
        rw [← hR]
        rcases ho with rfl | rfl
        all_goals (try dsimp only [cond_true, cond_false])
        all_goals (conv => whnf)
        all_goals repeat' ((with_reducible (first | refine st16 ?_|refine fG.split (fun _ => ?_) (fun _ => ?_)|refine fG.bool (fun _ => ?_) (fun _ => ?_)|refine gDn 9 ?_)) <;> (try (conv => whnf)))
        all_goals rfl
    · rw [if_neg (fun h => cl h.2)]
      (refine fnI [ResultVar.cell 6 36, ResultVar.tmp 7] Tryz.func31 ?_; conv => whnf)
      repeat' ((with_reducible (first | refine sCall.of (q1 _) ?_|refine st16 ?_|refine fG.split (fun _ => ?_) (fun _ => ?_)|refine fG.bool (fun _ => ?_) (fun _ => ?_)|refine gDn 9 ?_)) <;> (try (conv => whnf)))
      all_goals rfl

def whoOk (H : List (List Event)) (f : List Int) (w : Who) : Bool := inB w.p 0 ((H.length : Int) - 1) && (decide (w.i = rd f w.p.toNat) && canCome H f w.p.toNat)
def rowGo (H : List (List Event)) : List Who → List Int → Bool
  | [], _ => true
  | w :: r, f => whoOk H f w && rowGo H r (goOn f w.p.toNat)
def rowOkB (P : List (List Ins)) (S : List State) (W : List (List Item)) (H : List (List Event)) (row : List Who) : Bool := sysOk P S W H && (decide (row.length = allEv H) && rowGo H row (List.replicate H.length 0))
structure RO where
  j : Nat
  f : List Int
  g : Nat
  d : Bool
theorem snoc_new (l : List State) : l.map rState ++ [[.v (.int .i64 0), .sl 1 ((List.replicate 4 0).map rI), .sl 1 [], .v (.int .i64 0)]] = (l ++ [newState]).map rState := by simp [rState, newState]
theorem gI17 {p A : Prop} (h : A) (e : p := by first | with_reducible assumption | omega | (simp only [Nat.zero_add, Nat.add_zero, Nat.sub_zero, Int.toNat_natCast, Int.toNat_zero, Int.toNat_one, List.length_map, List.length_nil, Int.reduceToNat, Nat.reduceAdd, Nat.reduceSub, Int.sub_zero, Int.reduceAdd, Int.reduceSub, Nat.sub_self, Int.toNat_natCast_add_one, marks_len, bs_len, List.length_append, List.length_cons, List.length_set, List.length_replicate, List.length_range]; first | done | omega)) : sI p A := sI.mk e h
theorem gNum17 {r r' : Nat} {F : Nat → Prop} (h : F r') (e : r = r' := by first | (simp only [Nat.zero_add, Nat.add_zero, Nat.sub_zero, Int.toNat_natCast, Int.toNat_zero, Int.toNat_one, List.length_map, List.length_nil, Int.reduceToNat, Nat.reduceAdd, Nat.reduceSub, Int.sub_zero, Int.reduceAdd, Int.reduceSub, Nat.sub_self, Int.toNat_natCast_add_one, marks_len, bs_len]; rfl) | rfl) : sN r F := sN.eq e h
theorem gRow17 {r r' : List (List T)} {F : List (List T) → Prop} (h : F r') (e : r = r' := by first | (simp only [Nat.add_zero, Nat.zero_add, Nat.reduceAdd, List.drop_zero, List.take_succ_cons, List.take_nil, List.drop_succ_cons, List.drop_nil, List.take_zero, List.nil_append, List.append_nil, List.map_nil, drop_suf, take_pre, drop_map, List.take_length, take_len_set, take_len_app, List.set_set, List.length_map, snoc_new, snoc_rItem, snoc_rInsL, snoc_rItemL, snoc_rEventL, snoc_rState, set_rWho, rep_rWho, snoc_rWho, set_rState, rep_rState, set_rInsL, rep_rInsL, set_rItemL, rep_rItemL, set_rEventL, rep_rEventL, set_rItem, rep_rItem, rep_rKept, marks_take, set_rKept, set_rIns, rep_rIns, set_rEvent, rep_rEvent, snoc_rKept, snoc_rEvent, snoc_rIns, bytesT_bs, snoc_rI, snoc_rB, snoc_rBool, set_rI, set_rBool, rep_rI, rep_rBool, map_app]; rfl) | rfl) : sR r F := sR.eq e h
theorem st17 {P Q : Prop} (h : Q) (e : Q → P := by with_reducible first | exact fun h => gP h | exact fun h => gN h | exact fun h => fG.not h | exact fun h => gY h | exact fun h => gF h | exact fun h => fG.yes (flat_map (fun _ => rfl) _) h | exact fun h => gS64 h | exact fun h => gU8 h | exact fun h => gI17 h | exact fun h => fE.of rfl h | exact fun h => gNum17 h | exact fun h => gSet h | exact fun h => gRd h | exact fun h => gLk h | exact fun h => gRow17 h | exact fun h => gRf4 h) : P := e h
def newSys (P : List (List Ins)) : Sys := ⟨P, List.replicate P.length newState, List.replicate (P.length * P.length) default, List.replicate P.length default⟩
structure NS where
  j : Nat
  lp : List (List Ins)
  ls : List State
  v0 : AV
  v1 : AV
  b0 : Nat
  b1 : Nat
  c0 : Cont
  c1 : Cont
  dd : Bool
def NS.ok (P : List (List Ins)) (n0 n1 : Nat) (z : NS) : Prop :=
  (z.lp = P.take z.j ∧ z.ls = (List.replicate P.length newState).take z.j) ∧
  ((z.j = 0 ∧ (z.v0 = .nl 1 ∧ z.v1 = .nl 4) ∧ (z.b0 = 0 ∧ z.b1 = 0) ∧ (z.c0 = .dead ∧ z.c1 = .dead)) ∨
   (0 < z.j ∧ (z.v0 = .h n0 z.b0 0 [] 1 0 z.lp.length ∧ z.v1 = .h n1 z.b1 0 [] 4 0 z.ls.length) ∧ (z.c0 = tInsSS9 z.lp ∧ z.c1 = tStateS9 z.ls)))
def newRes (P : List (List Ins)) : Res := ⟨.tu [nSys 0 P (List.replicate P.length newState) (List.replicate (P.length * P.length) default) (List.replicate P.length default), bl true], [tInsSS9 P, tStateS9 (List.replicate P.length newState), tItemSS9 (List.replicate (P.length * P.length) default), tEventSS9 (List.replicate P.length default)], [none]⟩
end Go.Proofs.YtldndahfnkbngaaGreat.Abs
namespace Go.Proofs.YtldndahfnkbngaaGreat.Abs
open Go Go.Proofs
set_option linter.unusedVariables false
set_option linter.unusedSimpArgs false
attribute [local irreducible] callE
def redoX (H : List (List Event)) (X : Sys) (w : Who) : Sys × Int := stepIs X.progs X.states X.ways X.hist w.p (rd (rd H w.p.toNat) w.i.toNat).peer
def redoGo (H : List (List Event)) : List Who → Sys → Sys × Bool
  | [], X => (X, true)
  | w :: r, X => if (redoX H X w).2 = 0 then redoGo H r (redoX H X w).1 else (⟨[], [], [], []⟩, false)
def redoIs (P : List (List Ins)) (S : List State) (W : List (List Item)) (H : List (List Event)) (l : List Who) : Sys × Bool := if rowOkB P S W H l = true then redoGo H l (newSys P) else (⟨[], [], [], []⟩, false)
def redoRes (X : Sys × Bool) (b : List (Option Cont)) : Res := ⟨.tu [nSys 0 X.1.progs X.1.states X.1.ways X.1.hist, bl X.2], [tInsSS9 X.1.progs, tStateS9 X.1.states, tItemSS9 X.1.ways, tEventSS9 X.1.hist], b⟩
end Go.Proofs.YtldndahfnkbngaaGreat.Abs
namespace Go.Proofs.YtldndahfnkbngaaGreat.Abs
open Go Go.Proofs
set_option linter.unusedVariables false
set_option linter.unusedSimpArgs false
attribute [local irreducible] callE
theorem stepX_no {X : Sys} {w : Who} (h : (stepX X w).2 ≠ 0) : (stepX X w).1 = X := by
  unfold stepX stepIs at h ⊢
  split
  · rename_i h2; rw [if_pos h2] at h; exact absurd rfl h
  · rfl
set_option maxRecDepth 20000 in
set_option maxHeartbeats 8000000 in
theorem ok_spec_Until (k : Nat) (P : List (List Ins)) (S : List State) (W : List (List Item)) (H : List (List Event)) (l : List Who) (p kind v : Int) (hb : SysB 1000000000 P S W H) (hl : l.length ≤ 1000000000) :
    callE PR C (k + 13) 28 [aSys 0 P S W H, .h 1000004 0 0 [] 2 0 l.length, aStop p kind v] [tInsSS P, tStateS S, tItemSS W, tEventSS H, tWho l] = some (sysRes (untilIs P S W H l p kind v).1 (untilIs P S W H l p kind v).2 [none, none, none, none, none]) := by
  have q1 := fun k => ok_spec_StopOk k P S W H p kind v (hb.mono (by decide))
  unfold untilIs
  cases e : stopOk P S W H p kind with
  | false =>
    simp only [e] at q1
    rw [if_neg (by simp)]
    (refine fnI [ResultVar.cell 6 36, ResultVar.tmp 7] Tryz.func28 ?_; conv => whnf)
    repeat' ((with_reducible (first | refine sCall.of (q1 _) ?_|refine st17 ?_|refine fG.split (fun _ => ?_) (fun _ => ?_)|refine fG.bool (fun _ => ?_) (fun _ => ?_)|refine gD 7 [(0, 15), (5, 15), (10, 15), (11, 15)] ?_)) <;> (try (conv => whnf)))
    all_goals rfl
  | true =>
    simp only [e] at q1
    by_cases cl : (l.length : Int) ≤ 200
    · rw [if_pos ⟨rfl, cl⟩]
      obtain ⟨hI, hp0, hpl⟩ := stopOk_facts e
      have f1 : sysOk P S W H = true := by simp only [stopOk, Bool.and_eq_true] at e; exact e.1
      have hA : Along P.length ⟨P, S, W, H⟩ := ⟨f1, rfl⟩
      have hkd : ∀ P' S' W' H', sysOk P' S' W' H' = true → P'.length = P.length → stopOk P' S' W' H' p kind = true := by
        intro P' S' W' H' h1 h2
        simp only [stopOk, Bool.and_eq_true, h1, h2] at e ⊢
        exact ⟨trivial, e.2⟩
      obtain ⟨p, rfl⟩ : ∃ n : Nat, p = (n : Int) := ⟨p.toNat, by omega⟩
      rw [Int.toNat_natCast] at hpl ⊢
      have q2 := fun k => ok_spec_l4Copy k P S W H (hb.mono (by decide)) hI.some
      generalize hR : untilGo p kind v 0 l ⟨P, S, W, H⟩ = R
      (refine fnI [ResultVar.cell 6 36, ResultVar.tmp 7] Tryz.func28 ?_; conv => whnf)
      repeat' ((with_reducible (first | refine sCall.of (q1 _) ?_|refine sCall.of (q2 _) ?_|refine st17 ?_|refine fG.split (fun _ => ?_) (fun _ => ?_)|refine fG.bool (fun _ => ?_) (fun _ => ?_)|refine gD 7 [(0, 15), (5, 15), (10, 15), (11, 15)] ?_)) <;> (try (conv => whnf)))
      refine loop_rule (ι := US) (fun z => [(1, .h 1000004 0 0 [] 2 0 l.length), (5, .pt 5 1 0 [] 0 0), (6, .pt 6 1 0 [] 0 0), (8, .pt 8 1 0 [] 0 0), (9, i64 (z.j : Nat))])
        (fun z => [(1000000, ⟨0, 0, false, tInsSS P⟩), (1000001, ⟨0, 0, false, tStateS S⟩), (1000002, ⟨0, 0, false, tItemSS W⟩), (1000003, ⟨0, 0, false, tEventSS H⟩), (1000004, ⟨0, 0, false, tWho l⟩), (5, ⟨1, 0, false, .box [i64 (p : Nat), i64 kind, i64 v]⟩), (6, ⟨1, 0, false, .box [.nl 1, .nl 4, .nl 1, .nl 1]⟩), (8, ⟨1, 0, z.dd, .box [.h (z.o + 10000) z.b0 0 [] 1 0 z.X.progs.length, .h (z.o + 20000) z.b1 0 [] 4 0 z.X.states.length, .h (z.o + 30000) z.b2 0 [] 1 0 z.X.ways.length, .h (z.o + 40000) z.b3 0 [] 1 0 z.X.hist.length]⟩), (z.o + 10000, ⟨z.b0, 0, false, tInsSS9 z.X.progs⟩), (z.o + 20000, ⟨z.b1, 0, false, tStateS9 z.X.states⟩), (z.o + 30000, ⟨z.b2, 0, false, tItemSS9 z.X.ways⟩), (z.o + 40000, ⟨z.b3, 0, false, tEventSS9 z.X.hist⟩)])
        (fun z => l.length - z.j) (fun z => z.j ≤ l.length ∧ Along P.length z.X ∧ untilGo p kind v z.j (l.drop z.j) z.X = R ∧ (z.o = 23 ∨ z.o = 42 ∨ z.o = 5042)) ⟨0, ⟨P, S, W, H⟩, 23, 1, 1, 1, 1, _⟩ fitOk ⟨Nat.zero_le _, hA, hR, .inl rfl⟩ (by simp [C]; omega) ?_
      clear q1 q2 hR f1 hA
      rintro ⟨j, ⟨P1, S1, W1, H1⟩, o, b0, b1, b2, b3, dd⟩ sl ob ⟨hj, hA, hR, ho⟩
      dsimp only at hj hA hR ho
      by_cases hjl : j < l.length
      · rw [untilGo_drop hjl] at hR
        have hA' := along_step hA (rd l j)
        have hB := (sysOk_G hA.ok).b
        have hB' := (sysOk_G hA'.ok).b
        have q3 : ∀ k, callE PR C (k + 8) 112 [aSys 0 P1 S1 W1 H1, i64 (rd l j).p, i64 (rd l j).i] [tInsSS P1, tStateS S1, tItemSS W1, tEventSS H1] = some (sysRes (stepX ⟨P1, S1, W1, H1⟩ (rd l j)).1 (stepX ⟨P1, S1, W1, H1⟩ (rd l j)).2 [none, none, none, none]) := fun k => ok_spec_Step k P1 S1 W1 H1 (rd l j).p (rd l j).i (hB.mono (by decide)) hA.ok
        have hk : ∀ X : Sys, stepX ⟨P1, S1, W1, H1⟩ (rd l j) = (X, (stepX ⟨P1, S1, W1, H1⟩ (rd l j)).2) → (stepX ⟨P1, S1, W1, H1⟩ (rd l j)).2 ≠ 0 → X = ⟨P1, S1, W1, H1⟩ := by
          intro X h1 h2
          have := stepX_no h2
          rw [h1] at this
          exact this
        generalize stepX ⟨P1, S1, W1, H1⟩ (rd l j) = Y at *
        obtain ⟨⟨P2, S2, W2, H2⟩, n⟩ := Y
        dsimp only at hR hA' hB' hk
        simp only [sysRes] at q3
        have q4 := fun k => ok_spec_Holds k P2 S2 W2 H2 (p : Int) kind v (hB'.mono (by decide))
        rw [show stopHolds P2 S2 W2 H2 (p : Int) kind v = heldIn ⟨P2, S2, W2, H2⟩ p kind v by unfold stopHolds; rw [hkd _ _ _ _ hA'.ok hA'.n, Bool.true_and]; rfl] at q4
        by_cases c0 : n = 0
        · cases hh : heldIn ⟨P2, S2, W2, H2⟩ p kind v with
          | true =>
            simp only [hh] at q4
            rw [if_pos ⟨c0, hh⟩] at hR
            rw [← hR]
            rcases ho with rfl | rfl | rfl
            all_goals (try dsimp only [cond_true, cond_false])
            all_goals (conv => whnf)
            all_goals repeat' ((with_reducible (first | refine sCall.of (q3 _) ?_|refine sCall.of (q4 _) ?_|refine st17 ?_|refine fG.split (fun _ => ?_) (fun _ => ?_)|refine fG.bool (fun _ => ?_) (fun _ => ?_)|refine gD 7 [(0, 15), (5, 15), (10, 15), (11, 15)] ?_)) <;> (try (conv => whnf)))
            all_goals rfl
          | false =>
            simp only [hh] at q4
            rw [if_neg (by rw [hh]; simp)] at hR
            rcases ho with rfl | rfl | rfl
            all_goals (try dsimp only [cond_true, cond_false])
            all_goals (conv => whnf)
            all_goals repeat' ((with_reducible (first | refine sCall.of (q3 _) ?_|refine sCall.of (q4 _) ?_|refine st17 ?_|refine fG.split (fun _ => ?_) (fun _ => ?_)|refine fG.bool (fun _ => ?_) (fun _ => ?_)|refine gD 7 [(0, 15), (5, 15), (10, 15), (11, 15)] ?_)) <;> (try (conv => whnf)))
            case' inl | inr.inr =>
              refine ⟨⟨⟨j + 1, ⟨P2, S2, W2, H2⟩, 42, _, _, _, _, _⟩, fitOk, ?_, ?_⟩⟩
              · exact ⟨by show j + 1 ≤ _; omega, hA', hR, .inr (.inl rfl)⟩
              · show l.length - (j + 1) < l.length - j; omega
            case' inr.inl =>
              refine ⟨⟨⟨j + 1, ⟨P2, S2, W2, H2⟩, 5042, _, _, _, _, _⟩, fitOk, ?_, ?_⟩⟩
              · exact ⟨by show j + 1 ≤ _; omega, hA', hR, .inr (.inr rfl)⟩
              · show l.length - (j + 1) < l.length - j; omega
        · rw [if_neg (fun h => c0 h.1)] at hR
          have hR' := hk _ rfl c0
          cases hR'
          rcases ho with rfl | rfl | rfl
          all_goals (try dsimp only [cond_true, cond_false])
          all_goals (conv => whnf)
          all_goals repeat' ((with_reducible (first | refine sCall.of (q3 _) ?_|refine st17 ?_|refine fG.split (fun _ => ?_) (fun _ => ?_)|refine fG.bool (fun _ => ?_) (fun _ => ?_)|refine gD 7 [(0, 15), (5, 15), (10, 15), (11, 15)] ?_)) <;> (try (conv => whnf)))
          case' inl =>
            refine ⟨⟨⟨j + 1, ⟨P1, S1, W1, H1⟩, 23, _, _, _, _, _⟩, fitOk, ?_, ?_⟩⟩
            · exact ⟨by show j + 1 ≤ _; omega, hA', hR, .inl rfl⟩
            · show l.length - (j + 1) < l.length - j; omega
          case' inr.inl =>
            refine ⟨⟨⟨j + 1, ⟨P1, S1, W1, H1⟩, 42, _, _, _, _, _⟩, fitOk, ?_, ?_⟩⟩
            · exact ⟨by show j + 1 ≤ _; omega, hA', hR, .inr (.inl rfl)⟩
            · show l.length - (j + 1) < l.length - j; omega
          case' inr.inr =>
            refine ⟨⟨⟨j + 1, ⟨P1, S1, W1, H1⟩, 5042, _, _, _, _, _⟩, fitOk, ?_, ?_⟩⟩
            · exact ⟨by show j + 1 ≤ _; omega, hA', hR, .inr (.inr rfl)⟩
            · show l.length - (j + 1) < l.length - j; omega
      · rw [List.drop_eq_nil_of_le (by omega), untilGo, show j = l.length by omega] at hR
        rw [← hR]
        rcases ho with rfl | rfl | rfl
        all_goals (try dsimp only [cond_true, cond_false])
        all_goals (conv => whnf)
        all_goals repeat' ((with_reducible (first | refine st17 ?_|refine fG.split (fun _ => ?_) (fun _ => ?_)|refine fG.bool (fun _ => ?_) (fun _ => ?_)|refine gD 7 [(0, 15), (5, 15), (10, 15), (11, 15)] ?_)) <;> (try (conv => whnf)))
        all_goals rfl
    · rw [if_neg (fun h => cl h.2)]
      (refine fnI [ResultVar.cell 6 36, ResultVar.tmp 7] Tryz.func28 ?_; conv => whnf)
      repeat' ((with_reducible (first | refine sCall.of (q1 _) ?_|refine st17 ?_|refine fG.split (fun _ => ?_) (fun _ => ?_)|refine fG.bool (fun _ => ?_) (fun _ => ?_)|refine gD 7 [(0, 15), (5, 15), (10, 15), (11, 15)] ?_)) <;> (try (conv => whnf)))
      all_goals rfl

theorem untilIs_G {P : List (List Ins)} {S : List State} {W : List (List Item)} {H : List (List Event)} (l : List Who) (p kind v : Int) : SysG (untilIs P S W H l p kind v).1 := by
  unfold untilIs
  split
  · rename_i e
    have e1 := e.1
    simp only [stopOk, Bool.and_eq_true] at e1
    have := (untilGo_along (n := P.length) (q := p.toNat) (kind := kind) (v := v) l 0 (X := ⟨P, S, W, H⟩) ⟨e1.1, rfl⟩).ok
    generalize (untilGo p.toNat kind v 0 l ⟨P, S, W, H⟩).1 = X at this
    obtain ⟨P, S, W, H⟩ := X
    exact sysOk_G this
  · exact sysG_empty
set_option maxRecDepth 20000 in
set_option maxHeartbeats 8000000 in
theorem ok_laws_FnExactUntil (k : Nat) (P : List (List Ins)) (S : List State) (W : List (List Item)) (H : List (List Event)) (l : List Who) (p kind v : Int) (hb : SysB 140737488355328 P S W H) (hl : l.length ≤ 140737488355328) :
    callE PR C (k + 15) 4 [aSys 0 P S W H, .h 1000004 0 0 [] 2 0 l.length, aStop p kind v] [tInsSS P, tStateS S, tItemSS W, tEventSS H, tWho l] = some ⟨bl true, [], [none, none, none, none, none]⟩ := by
  have q0 := fun k => ok_laws_szSys k P S W H 1048576 (by omega) (by omega) hb
  by_cases c : left 1048576 (sysSz P S W H) < 0
  · rw [left_m1 c] at q0
    (refine fnI [ResultVar.tmp 6] Tryz.func4 ?_; conv => whnf)
    repeat' ((with_reducible (first | refine sCall.of (q0 _) ?_|refine st17 ?_|refine fG.split (fun _ => ?_) (fun _ => ?_)|refine fG.bool (fun _ => ?_) (fun _ => ?_)|refine gD 8 [(1, 4), (3, 4), (0, 10), (1, 10), (3, 10), (4, 10), (5, 10), (6, 10)] ?_|refine gD 11 [(0, 3), (0, 8), (2, 8), (3, 8), (4, 8)] ?_|refine gD 14 [(0, 2)] ?_|refine gD 31 [(1, 4), (3, 4), (0, 10), (1, 10), (3, 10), (4, 10), (5, 10), (6, 10)] ?_)) <;> (try (conv => whnf)))
  · obtain ⟨c1, c2⟩ := left_pos c
    have q9 := fun k => ok_laws_szPickS k l (left 1048576 (sysSz P S W H)) (by omega) (by omega) hl
    by_cases d : left (left 1048576 (sysSz P S W H)) l.length < 0
    · rw [left_m1 d] at q9
      (refine fnI [ResultVar.tmp 6] Tryz.func4 ?_; conv => whnf)
      repeat' ((with_reducible (first | refine sCall.of (q0 _) ?_|refine sCall.of (q9 _) ?_|refine st17 ?_|refine fG.split (fun _ => ?_) (fun _ => ?_)|refine fG.bool (fun _ => ?_) (fun _ => ?_)|refine gD 8 [(1, 4), (3, 4), (0, 10), (1, 10), (3, 10), (4, 10), (5, 10), (6, 10)] ?_|refine gD 11 [(0, 3), (0, 8), (2, 8), (3, 8), (4, 8)] ?_|refine gD 14 [(0, 2)] ?_|refine gD 31 [(1, 4), (3, 4), (0, 10), (1, 10), (3, 10), (4, 10), (5, 10), (6, 10)] ?_)) <;> (try (conv => whnf)))
    · obtain ⟨d1, d2⟩ := left_pos d
      have hB : SysB 1048576 P S W H := sysB_of (by omega)
      have hw := sysW_le P S W H
      have hl' : l.length ≤ 1048576 := by omega
      have q1 := fun k => ok_laws_toSys k P S W H (hB.mono (by decide))
      have q2 := fun k => ok_laws_eqSys k P S W H (hB.mono (by decide))
      have q3 := fun k => ok_impl_Until k P S W H l p kind v (hB.mono (by decide)) (by omega)
      have q4 := fun k => ok_spec_Until k P S W H l p kind v (hB.mono (by decide)) (by omega)
      have q6 := fun k => ok_laws_markSys k P S W H 1 hB (by omega) (by omega)
      have q10 := fun k => ok_laws_toPickS k l (by omega)
      have q11 := fun k => ok_laws_eqPickS k l (by omega)
      have q13 := fun k => ok_laws_toStop k p kind v
      have q12 := fun k => ok_laws_markPickS9 k l (1 + sysW P S W H) (by omega) (by omega) (by omega)
      have e1 : (mkP 1 P).length = P.length := marks_len _ _ _ _
      have e2 : (mkS 1 P S).length = S.length := marks_len _ _ _ _
      have e3 : (mkW 1 P S W).length = W.length := marks_len _ _ _ _
      have e4 : (mkH 1 P S W H).length = H.length := marks_len _ _ _ _
      have hG := untilIs_G (P := P) (S := S) (W := W) (H := H) l p kind v
      generalize untilIs P S W H l p kind v = X at hG q3 q4
      obtain ⟨⟨P', S', W', H'⟩, t⟩ := X
      obtain ⟨hB', hw'⟩ := hG
      dsimp only at hB' hw' q3 q4
      simp only [sysRes] at q3 q4
      have q5 := fun k => ok_laws_eqSys k P' S' W' H' (hB'.mono (by decide))
      have q7 := fun k => ok_laws_markSys k P' S' W' H' 1 hB' (by omega) (by omega)
      have q8 := fun k => ok_laws_heldSys k P' S' W' H' (mkP 1 P') (mkS 1 P' S') (mkW 1 P' S' W') (mkH 1 P' S' W' H') 1 (hB'.mono (by decide)) (by omega) (by omega) rfl rfl rfl rfl
      simp only [mkP, mkS, mkW, mkH] at q7
      simp only [aSys, mkP, mkS, mkW, mkH, marks_len] at q8
      have e5 := marks_len mInsL wInsL P' 1
      have e6 := marks_len mState wState S' (1 + wts wInsL P')
      have e7 := marks_len mItemL wItemL W' (1 + wts wInsL P' + wts wState S')
      have e8 := marks_len mEventL wEventL H' (1 + wts wInsL P' + wts wState S' + wts wItemL W')
      clear hb hB hB' c
      all_goals
        (refine fnI [ResultVar.tmp 6] Tryz.func4 ?_; conv => whnf)
        repeat' ((with_reducible (first | refine sCall.of (q0 _) ?_|refine sCall.of (q1 _) ?_|refine sCall.of (q2 _) ?_|refine sCall.of (q3 _) ?_|refine sCall.of (q4 _) ?_|refine sCall.of (q5 _) ?_|refine sCall.of (q6 _) ?_|refine sCall.of (q7 _) ?_|refine sCall.of (q8 _) ?_|refine sCall.of (q9 _) ?_|refine sCall.of (q10 _) ?_|refine sCall.of (q11 _) ?_|refine sCall.of (q12 _) ?_|refine sCall.of (q13 _) ?_|refine st17 ?_|refine fG.split (fun _ => ?_) (fun _ => ?_)|refine fG.bool (fun _ => ?_) (fun _ => ?_)|refine gD 8 [(1, 4), (3, 4), (0, 10), (1, 10), (3, 10), (4, 10), (5, 10), (6, 10)] ?_|refine gD 11 [(0, 3), (0, 8), (2, 8), (3, 8), (4, 8)] ?_|refine gD 14 [(0, 2)] ?_|refine gD 31 [(1, 4), (3, 4), (0, 10), (1, 10), (3, 10), (4, 10), (5, 10), (6, 10)] ?_)) <;> (try (conv => whnf)))

end Go.Proofs.YtldndahfnkbngaaGreat.Abs
namespace Go.Proofs.YtldndahfnkbngaaGreat.Abs
open Go
set_option linter.unusedVariables false

def Opens (P : Program) (t : TypeId) (n : Nat) (M : List T → Prop) : Prop :=
  ∀ (H : Type) (enc : TypeId × Value → H) (w : World) (base : Nat) (sp : Nat → Bool) (held : Bool) (fuel : Nat) (cs : List Value) (x : DataW H × List MemPlace),
    DataW.trod enc P w base sp held fuel t cs = some x → (∀ m ∈ x.1.weights P t, m ≤ reachBytes) →
      cs.length = n ∧ ∃ ts : List T, ts.length = n ∧ M ts ∧ ∀ (i : Nat) v t', cs[i]? = some v → ts[i]? = some t' → Ow (fun k => k < w.heap.size) w 0 v t' none_
theorem Opens.mono {P : Program} {t : TypeId} {n : Nat} {M M' : List T → Prop} (h : Opens P t n M) (hm : ∀ ts, M ts → M' ts) : Opens P t n M' := by
  intro H enc w base sp held fuel cs x hx hw
  obtain ⟨h1, ts, h2, h3, h4⟩ := h H enc w base sp held fuel cs x hx hw
  exact ⟨h1, ts, h2, hm _ h3, h4⟩
theorem one_ow {w : World} {v0 : Value} {t0 : T} (h : Ow (fun k => k < w.heap.size) w 0 v0 t0 none_) : ∀ (i : Nat) v t', [v0][i]? = some v → [t0][i]? = some t' → Ow (fun k => k < w.heap.size) w 0 v t' none_ := by
  rintro (_ | i) v t' h1 h2
  · simp at h1 h2; subst h1; subst h2; exact h
  · simp at h1
theorem Opens.int {P : Program} {t : TypeId} {k : IntKind} (ht : P.underlying t = some (.int k)) : Opens P t 1 (fun ts => ∃ n, (Lit.int k n).wf = true ∧ ts = [.v (.int k n)]) := by
  intro H enc w base sp held fuel cs x hx hw
  obtain ⟨n, rfl, rfl, h⟩ := DataW.trod_int ht hx
  exact ⟨rfl, _, rfl, ⟨n, h, rfl⟩, one_ow (.v rfl)⟩
theorem Opens.bool {P : Program} {t : TypeId} (ht : P.underlying t = some .bool) : Opens P t 1 (fun ts => ∃ b, ts = [.v (.bool b)]) := by
  intro H enc w base sp held fuel cs x hx hw
  obtain ⟨b, rfl, rfl⟩ := DataW.trod_bool ht hx
  exact ⟨rfl, _, rfl, ⟨b, rfl⟩, one_ow (.v rfl)⟩
theorem Opens.str {P : Program} {t : TypeId} (ht : P.underlying t = some .string) : Opens P t 1 (fun ts => ∃ s : ByteArray, s.size ≤ reachBytes ∧ ts = [.v (.string s)]) := by
  intro H enc w base sp held fuel cs x hx hw
  obtain ⟨s, rfl, rfl, h⟩ := DataW.trod_string ht hx
  refine ⟨rfl, _, rfl, ⟨s, ?_, rfl⟩, one_ow (.v rfl)⟩
  have := hw s.data.toList.length (by simp [DataW.weights])
  simpa using this
def Parts (P : Program) : List Field → Nat → Nat → (List T → Prop) → Prop
  | [], _, n, M => n = 0 ∧ M []
  | f :: r, off, n, M => f.offset = off ∧ ∃ n1 n2 M1 M2, P.cellsOf f.type = n1 ∧ Opens P f.type n1 M1 ∧ Parts P r (off + n1) n2 M2 ∧ n = n1 + n2 ∧ ∀ a b, M1 a → M2 b → M (a ++ b)
theorem weights_part {P : Program} {H : Type} {ts : List TypeId} : ∀ {ds : List (DataW H)} {R : Nat}, (∀ m ∈ DataW.weightsEach P ts ds, m ≤ R) → ∀ (j : Nat) t d, ts[j]? = some t → ds[j]? = some d → ∀ m ∈ d.weights P t, m ≤ R :=
  fun h j t d ht hd m hm => h m (DataW.weights_mem_each ht hd m hm)
theorem Parts.opens {P : Program} {H : Type} {enc : TypeId × Value → H} {w : World} {base : Nat} {sp : Nat → Bool} {held : Bool} {fuel : Nat} {cs : List Value} : ∀ {fs : List Field} {off n : Nat} {M : List T → Prop}, Parts P fs off n M → off + n = cs.length →
    (∀ f ∈ fs, ∃ x, DataW.trod enc P w base sp held fuel f.type ((cs.drop f.offset).take (P.cellsOf f.type)) = some x ∧ (∀ m ∈ x.1.weights P f.type, m ≤ reachBytes)) →
    ∃ ts : List T, ts.length = n ∧ M ts ∧ ∀ (i : Nat) v t', cs[off + i]? = some v → ts[i]? = some t' → Ow (fun k => k < w.heap.size) w 0 v t' none_ := by
  intro fs
  induction fs with
  | nil =>
    intro off n M h hl _
    exact ⟨[], h.1.symm, h.2, fun i v t' _ h2 => by simp at h2⟩
  | cons f r ih =>
    intro off n M h hl hx
    obtain ⟨rfl, n1, n2, M1, M2, h1, h2, h3, rfl, h4⟩ := h
    obtain ⟨x, hx1, hx2⟩ := hx f (by simp)
    rw [h1] at hx1
    obtain ⟨k1, t1, k2, k3, k4⟩ := h2 H enc w base sp held fuel _ x hx1 hx2
    obtain ⟨t2, q1, q2, q3⟩ := ih h3 (by omega) fun g hg => hx g (by simp [hg])
    refine ⟨t1 ++ t2, by simp [k2, q1], h4 _ _ k3 q2, fun i v t' hv ht' => ?_⟩
    by_cases hi : i < n1
    · rw [List.getElem?_append_left (by omega)] at ht'
      exact k4 i v t' (by rw [List.getElem?_take, if_pos hi, List.getElem?_drop]; exact hv) ht'
    · rw [List.getElem?_append_right (by omega), k2] at ht'
      exact q3 (i - n1) v t' (by rw [show f.offset + n1 + (i - n1) = f.offset + i by omega]; exact hv) ht'
theorem Opens.struct {P : Program} {t : TypeId} {fs : Array Field} {n : Nat} {M : List T → Prop} (ht : P.underlying t = some (.struct fs)) (hc : P.cellsOf t = n) (hp : Parts P fs.toList 0 n M) : Opens P t n M := by
  intro H enc w base sp held fuel cs x hx hw
  obtain ⟨xs, m, _, rfl, hl, hlen, hf⟩ := DataW.trod_struct ht hx
  have hl' : cs.length = n := hl.trans hc
  obtain ⟨ts, h1, h2, h3⟩ := hp.opens (enc := enc) (w := w) (base := base) (sp := sp) (held := held) (fuel := m) (cs := cs) (by omega) (by
    intro f hfm
    obtain ⟨i, hi⟩ := List.getElem?_of_mem hfm
    have hi' : fs[i]? = some f := by simpa using hi
    have hlt : i < xs.length := by rw [hlen]; exact (Array.getElem?_eq_some_iff.1 hi').1
    have hy : xs[i]? = some xs[i] := List.getElem?_eq_getElem hlt
    refine ⟨xs[i], (hf i f hi').trans hy, ?_⟩
    refine weights_part (ts := fs.toList.map (·.type)) (ds := xs.map (·.1)) ?_ i f.type xs[i].1 (by simp [hi']) (by rw [List.getElem?_map, hy]; rfl)
    intro q hq
    refine hw q ?_
    simpa [DataW.weights, ht] using hq)
  exact ⟨hl', ts, h1, h2, fun i v t' hv ht' => h3 i v t' (by simpa using hv) ht'⟩
def IntsM (n : Nat) (ts : List T) : Prop := ∃ zs : List Int, zs.length = n ∧ ts = zs.map fun z => T.v (.int .i64 z)
theorem Parts.nil {P : Program} {off : Nat} : Parts P [] off 0 (IntsM 0) := ⟨rfl, [], rfl, rfl⟩
theorem Parts.int {P : Program} {f : Field} {r : List Field} {off n : Nat} (ho : f.offset = off) (hc : P.cellsOf f.type = 1) (ht : P.underlying f.type = some (.int .i64)) (h : Parts P r (off + 1) n (IntsM n)) :
    Parts P (f :: r) off (1 + n) (IntsM (1 + n)) := by
  refine ⟨ho, 1, n, _, _, hc, Opens.int ht, h, rfl, ?_⟩
  rintro a b ⟨z, _, rfl⟩ ⟨zs, hz, rfl⟩
  exact ⟨z :: zs, by simp [hz]; omega, rfl⟩
def Ms : List (List T → Prop) → List T → Prop
  | [], ts => ts = []
  | M :: r, ts => ∃ a b, ts = a ++ b ∧ M a ∧ Ms r b
theorem Parts.mnil {P : Program} {off : Nat} : Parts P [] off 0 (Ms []) := ⟨rfl, rfl⟩
theorem Parts.mcons {P : Program} {f : Field} {r : List Field} {off n1 n : Nat} {M : List T → Prop} {l : List (List T → Prop)} (ho : f.offset = off) (hc : P.cellsOf f.type = n1) (ht : Opens P f.type n1 M) (h : Parts P r (off + n1) n (Ms l)) :
    Parts P (f :: r) off (n1 + n) (Ms (M :: l)) :=
  ⟨ho, n1, n, _, _, hc, ht, h, rfl, fun a b ha hb => ⟨a, b, rfl, ha, hb⟩⟩

theorem rows_map {α : Type} {f : α → List T} {p : α → Prop} {rows : List (List T)} (h : ∀ r ∈ rows, ∃ x, p x ∧ r = f x) : ∃ l : List α, rows = l.map f ∧ ∀ x ∈ l, p x := by
  induction rows with
  | nil => exact ⟨[], rfl, by simp⟩
  | cons r rows ih =>
    obtain ⟨x, hx, rfl⟩ := h r (by simp)
    obtain ⟨l, rfl, hl⟩ := ih fun q hq => h q (by simp [hq])
    exact ⟨x :: l, rfl, by simpa using ⟨hx, hl⟩⟩
theorem weights_all {P : Program} {H : Type} {e : TypeId} {d : DataW H} : ∀ {l : List (DataW H)}, d ∈ l → ∀ m ∈ d.weights P e, m ∈ DataW.weightsAll P e l
  | a :: r, hd, m, hm => by
    simp only [DataW.weightsAll, List.mem_append]
    rcases List.mem_cons.1 hd with rfl | hd
    · exact .inl hm
    · exact .inr (weights_all hd m hm)
theorem Opens.slice {P : Program} {t e : TypeId} {sz B : Nat} {M : List T → Prop} (ht : P.underlying t = some (.slice e)) (hc : P.cellsOf e = sz) (hB : P.bytesOf e = B) (hsz : 0 < sz) (hE : Opens P e sz M) :
    Opens P t 1 (fun ts => ∃ rows, ts = [.sl sz rows] ∧ (∀ x ∈ rows, M x) ∧ rows.length * B ≤ reachBytes) := by
  intro H enc w base sp held fuel cs0 x hx hw
  rcases DataW.trod_slice ht hx with ⟨rfl, _⟩ | ⟨a, len, cap, elems, rest, n, _, rfl, rfl, _, hl, _, hlen, hel, _⟩
  · exact ⟨rfl, _, rfl, ⟨[], rfl, by simp, by simp⟩, one_ow .nil⟩
  · have hw1 : (elems.length + rest.length) * B ≤ reachBytes := by
      have := hw ((elems.length + rest.length) * P.bytesOf e) (by simp [DataW.weights, ht])
      rwa [hB] at this
    have hcell : ∀ i : Nat, ∃ q : List Value × List T, i < len → q.1.length = sz ∧ q.2.length = sz ∧ M q.2 ∧ (∀ j, j < sz → w.cell? ((a.add (i * sz)).add j) = q.1[j]?) ∧
        ∀ (j : Nat) v t', q.1[j]? = some v → q.2[j]? = some t' → Ow (fun k => k < w.heap.size) w 0 v t' none_ := by
      intro i
      by_cases hi : i < len
      · have hy : elems[i]? = some (elems[i]'(by omega)) := List.getElem?_eq_getElem (by omega)
        have h1 := hel i hi
        rw [hy, hc, Option.bind_eq_some_iff] at h1
        obtain ⟨cs, hcs, htr⟩ := h1
        obtain ⟨k1, ts, k2, k3, k4⟩ := hE H enc w base sp held n cs _ htr (by
          intro m hm
          refine hw m ?_
          have := weights_all (P := P) (e := e) (l := elems.map (·.1)) (List.mem_map_of_mem (List.getElem_mem (by omega : i < elems.length))) m hm
          simp [DataW.weights, ht, this])
        obtain ⟨_, g1, g2⟩ := World.cells?_some hcs
        exact ⟨(cs, ts), fun _ => ⟨k1, k2, k3, g2, k4⟩⟩
      · exact ⟨([], []), fun h => absurd h hi⟩
    obtain ⟨c, hc2⟩ := Classical.axiomOfChoice hcell
    have hblk : 0 < len → a.block < w.heap.size := by
      intro h0
      obtain ⟨k1, k2, k3, k4, k5⟩ := hc2 0 h0
      have h1 := k4 0 hsz
      have h2 : (c 0).1[0]? = some ((c 0).1[0]'(by omega)) := List.getElem?_eq_getElem (by omega)
      rw [h2] at h1
      by_cases hlt : a.block < w.heap.size
      · exact hlt
      · unfold World.cell? at h1
        rw [add_block, add_block, Array.getElem?_eq_none (by omega)] at h1
        simp at h1
    have hat : ∀ i j t', cellT ((List.range len).map fun i => (c i).2) i j = some t' → i < len ∧ (c i).2[j]? = some t' := by
      intro i j t' h'
      unfold cellT at h'
      rw [List.getElem?_map] at h'
      by_cases hi : i < len
      · have hr : (List.range len)[i]? = some i := by simp [hi]
        rw [hr] at h'
        exact ⟨hi, by simpa using h'⟩
      · have hr : (List.range len)[i]? = none := by simp; omega
        rw [hr] at h'
        simp at h'
    refine ⟨rfl, [.sl sz ((List.range len).map fun i => (c i).2)], rfl, ⟨_, rfl, ?_, ?_⟩, one_ow ?_⟩
    · intro x hx
      obtain ⟨i, hi, rfl⟩ := List.mem_map.1 hx
      exact (hc2 i (List.mem_range.1 hi)).2.2.1
    · rw [List.length_map, List.length_range]
      exact Nat.le_trans (Nat.mul_le_mul_right _ (by omega)) hw1
    · have hro := Ow.ro (Z := fun k => k < w.heap.size) (w := w) (a := a) (c := cap) (rows := (List.range len).map fun i => (c i).2) (sz := sz) (fun i j => (c i).1.getD j undef) (by simpa using hl)
        (by
          intro r hr
          obtain ⟨i, hi, rfl⟩ := List.mem_map.1 hr
          exact (hc2 i (List.mem_range.1 hi)).2.1) (fun hne => hblk (by
            rcases Nat.eq_zero_or_pos len with h0 | h0
            · subst h0; exact absurd rfl hne
            · exact h0))
        (by
          intro i j t' h'
          obtain ⟨hi, hj⟩ := hat i j t' h'
          obtain ⟨k1, k2, k3, k4, k5⟩ := hc2 i hi
          have hj' : j < sz := by rw [← k2]; exact (List.getElem?_eq_some_iff.1 hj).1
          rw [← Addr.add_add, k4 j hj', List.getElem?_eq_getElem (by omega)]
          simp [List.getD, show j < (c i).1.length by omega])
        (by
          intro i j t' h'
          obtain ⟨hi, hj⟩ := hat i j t' h'
          obtain ⟨k1, k2, k3, k4, k5⟩ := hc2 i hi
          have hj' : j < sz := by rw [← k2]; exact (List.getElem?_eq_some_iff.1 hj).1
          refine k5 j _ t' ?_ hj
          rw [List.getElem?_eq_getElem (by omega)]
          simp [List.getD, show j < (c i).1.length by omega])
      simpa using hro
theorem Opens.one {P : Program} {t : TypeId} {M : List T → Prop} (h : Opens P t 1 M) {H : Type} {enc : TypeId × Value → H} {w : World} {base : Nat} {sp : Nat → Bool} {held : Bool} {v : Value} {d : DataW H} {ps : List MemPlace}
    (hv : v.cells.toList = [v]) (hd : DataW.Trod enc P w base sp held t v d ps) (hw : ∀ m ∈ d.weights P t, m ≤ reachBytes) : ∃ t', M [t'] ∧ Ow (fun k => k < w.heap.size) w 0 v t' none_ := by
  obtain ⟨fuel, hf⟩ := hd
  rw [hv] at hf
  obtain ⟨_, ts, h1, h2, h3⟩ := h H enc w base sp held fuel _ _ hf hw
  obtain ⟨t', rfl⟩ := List.length_eq_one_iff.1 h1
  exact ⟨t', h2, h3 0 v t' rfl rfl⟩
end Go.Proofs.YtldndahfnkbngaaGreat.Abs
namespace Go.Proofs.YtldndahfnkbngaaGreat.Abs
open Go Go.RowKit
set_option linter.unusedVariables false

theorem Ow.slice_inv {Z : Fp} {w : World} {v : Value} {sz : Nat} {rows : List (List T)} {F : Fp} {l : Nat} (h : Ow Z w l v (.sl sz rows) F) :
    (v = .slice none 0 0 ∧ rows = []) ∨ ∃ a c, v = .slice (some a) rows.length c ∧ rows.length ≤ c := by
  cases h with
  | nil => exact .inl ⟨rfl, rfl⟩
  | ro xs hc hs hz hx ht => exact .inr ⟨_, _, rfl, hc⟩
  | own xs F hb hfr hc hoff hmax hs hx ht hF hnb hd => exact .inr ⟨_, _, rfl, hc⟩
theorem arg_slice {Z : Fp} {w : World} {ob : Objs} {ρ : Nat → Value} {o sz : Nat} {rows : List (List T)} {v : Value} (h1 : ob o = ⟨0, 0, false, .tree 0 (.sl sz rows)⟩) (h2 : ρ o = v) (h3 : Ow Z w 0 v (.sl sz rows) none_) :
    AVR w ob ρ (.h o 0 0 [] sz 0 rows.length) v := by
  have hin := h3.slice_inv
  refine .h ?_ ?_ fun _ => ?_
  · rw [h1]; exact ⟨Nat.le_refl _, fun _ h => absurd rfl h⟩
  · rcases hin with ⟨rfl, rfl⟩ | ⟨a, c, rfl, hc⟩
    · exact ⟨none, 0, rfl, Nat.le_refl _, fun _ => rfl⟩
    · exact ⟨some a, c, rfl, hc, fun h => by cases h⟩
  · rw [h1, h2]
    refine ⟨fun cells h => by (dsimp only at h; cases h), fun lvl t hc => ?_⟩
    dsimp only at hc
    cases hc
    refine ⟨v, rows, .here, by omega, ?_⟩
    rcases hin with ⟨rfl, rfl⟩ | ⟨a, c, rfl, hc⟩
    · exact .inl ⟨rfl, rfl, rfl, rfl⟩
    · refine .inr ⟨a, rows.length, c, 0, c, rfl, ?_, hc, by omega, Nat.le_refl _, fun _ => rfl⟩
      rw [Nat.zero_mul]
      cases a with
      | mk b off s => cases s <;> simp [Addr.add]
theorem FnOk.outside {P : Program} {W : World} {f : FuncId} {args : List AV} {conts : List Cont} {r : Res} (h : FnOk P f args conts r) (vals : List Value)
    (ho : ∀ (i : Nat) c, conts[i]? = some c → ∃ t v, c = .tree 0 t ∧ vals[i]? = some v ∧ Ow (fun k => k < W.heap.size) W 0 v t none_) (vs : Array Value) (hs : vs.size = args.length)
    (hA : ∀ (i : Nat) x, args[i]? = some x → AVR W (obIn conts) (fun o => vals.getD (o - 1000000) undef) x (vs.getD i undef)) :
    Calls P f vs W (fun e w' => ∃ v, e = .returned v ∧ Below W.heap.size W w' ∧ ∃ ob' ρ', AVR w' ob' ρ' r.v v) := by
  have hI : OInv W none_ (obIn conts) W (fun o => vals.getD (o - 1000000) undef) (fun _ => none_) (fun k => k < W.heap.size) := by
    refine ⟨Keep.refl _ _, fun k hk _ => hk, fun k hk => hk, fun o k hk => hk.elim, fun o o' k hk => hk.elim, fun o k hk => hk.elim, fun o => ?_⟩
    unfold ObOk
    by_cases h1 : 1000000 ≤ o
    · simp only [obIn, h1, if_true]
      cases hc : conts[o - 1000000]? with
      | none =>
        have e : conts.getD (o - 1000000) .dead = .dead := by simp [List.getD, hc]
        rw [e]
        exact fun k hk => hk
      | some c =>
        obtain ⟨t, v, rfl, hv, how⟩ := ho _ _ hc
        have e : conts.getD (o - 1000000) .dead = .tree 0 t := by simp [List.getD, hc]
        have e2 : vals.getD (o - 1000000) undef = v := by simp [List.getD, hv]
        rw [e, e2]
        exact how
    · simp only [obIn, h1, if_false]
      exact fun k hk => hk
  have hr := h.run W none_ _ _ _ vs hI (fun k _ hk => hk) hs hA
  intro cs
  obtain ⟨e, w', fr, hR, hC, hfn, hl⟩ := hr cs
  refine ⟨e, w', fr, ?_, hC, hfn, hl⟩
  cases e with
  | returned v =>
    obtain ⟨ρ', φ', Z', hst, hav⟩ := hR
    exact ⟨v, rfl, ⟨hst.inv.keep.os, hst.inv.keep.tape, hst.inv.keep.output, hst.inv.keep.size, fun k hk => hst.inv.keep.block k hk id⟩, _, _, hav⟩
  | _ => exact hR.elim
theorem AVR.bool_inv {w : World} {ob : Objs} {ρ : Nat → Value} {b : Bool} {v : Value} (h : AVR w ob ρ (.s (.bool b)) v) : v = .bool b := by
  cases h; rfl
end Go.Proofs.YtldndahfnkbngaaGreat.Abs
namespace Go.Proofs.YtldndahfnkbngaaGreat.Abs
open Go Go.Proofs Go.RowKit
set_option linter.unusedVariables false
set_option linter.unusedSimpArgs false
attribute [local irreducible] callE
theorem ints_Ins {ts : List T} (h : IntsM 5 ts) : ∃ x : Ins, True ∧ ts = rIns x := by
  obtain ⟨zs, hz, rfl⟩ := h
  match zs, hz with
  | [a, b, c, d, e], _ => exact ⟨⟨a, b, c, d, e⟩, trivial, rfl⟩
theorem ints_Event {ts : List T} (h : IntsM 3 ts) : ∃ x : Event, True ∧ ts = rEvent x := by
  obtain ⟨zs, hz, rfl⟩ := h
  match zs, hz with
  | [a, b, c], _ => exact ⟨⟨a, b, c⟩, trivial, rfl⟩
set_option maxRecDepth 20000 in
theorem opens_Ins : Opens Tryz.prog 239 5 (fun ts => ∃ x : Ins, True ∧ ts = rIns x) :=
  (Opens.struct Tryz.underlying239 (by kernel_rfl) (.int rfl (by kernel_rfl) Tryz.underlying3 (.int rfl (by kernel_rfl) Tryz.underlying3 (.int rfl (by kernel_rfl) Tryz.underlying3 (.int rfl (by kernel_rfl) Tryz.underlying3 (.int rfl (by kernel_rfl) Tryz.underlying3 .nil)))))).mono fun _ => ints_Ins
set_option maxRecDepth 20000 in
theorem opens_Event : Opens Tryz.prog 243 3 (fun ts => ∃ x : Event, True ∧ ts = rEvent x) :=
  (Opens.struct Tryz.underlying243 (by kernel_rfl) (.int rfl (by kernel_rfl) Tryz.underlying3 (.int rfl (by kernel_rfl) Tryz.underlying3 (.int rfl (by kernel_rfl) Tryz.underlying3 .nil)))).mono fun _ => ints_Event
set_option maxRecDepth 20000 in
theorem opens_InsS : Opens Tryz.prog 185 1 (fun ts => ∃ l : List Ins, l.length ≤ 140737488355328 ∧ ts = [.sl 5 (l.map rIns)]) :=
  (Opens.slice (sz := 5) (B := 40) Tryz.underlying185 (by kernel_rfl) (by kernel_rfl) (by decide) opens_Ins).mono fun ts h => by
    obtain ⟨rows, rfl, h1, h2⟩ := h
    obtain ⟨l, rfl, hl⟩ := rows_map h1
    rw [List.length_map] at h2
    have := reachBytes_lt
    exact ⟨l, by omega, rfl⟩
set_option maxRecDepth 20000 in
theorem opens_EventS : Opens Tryz.prog 191 1 (fun ts => ∃ l : List Event, l.length ≤ 140737488355328 ∧ ts = [.sl 3 (l.map rEvent)]) :=
  (Opens.slice (sz := 3) (B := 24) Tryz.underlying191 (by kernel_rfl) (by kernel_rfl) (by decide) opens_Event).mono fun ts h => by
    obtain ⟨rows, rfl, h1, h2⟩ := h
    obtain ⟨l, rfl, hl⟩ := rows_map h1
    rw [List.length_map] at h2
    have := reachBytes_lt
    exact ⟨l, by omega, rfl⟩
set_option maxRecDepth 20000 in
theorem opens_ints : Opens Tryz.prog 64 1 (fun ts => ∃ l : List Int, l.length ≤ 140737488355328 ∧ ts = [.sl 1 (l.map rI)]) :=
  (Opens.slice (sz := 1) (B := 8) Tryz.underlying64 (by kernel_rfl) (by kernel_rfl) (by decide) (Opens.int Tryz.underlying3)).mono fun ts h => by
    obtain ⟨rows, rfl, h1, h2⟩ := h
    obtain ⟨l, rfl, _⟩ := rows_map (f := rI) (p := fun _ => True) (fun r hr => by obtain ⟨n, _, rfl⟩ := h1 r hr; exact ⟨n, trivial, rfl⟩)
    rw [List.length_map] at h2
    have := reachBytes_lt
    exact ⟨l, by omega, rfl⟩
set_option maxRecDepth 20000 in
theorem opens_State : Opens Tryz.prog 187 4 (fun ts => ∃ x : State, (x.regs.length ≤ 140737488355328 ∧ x.out.length ≤ 140737488355328) ∧ ts = rState x) :=
  (Opens.struct Tryz.underlying187 (by kernel_rfl) (.mcons rfl (by kernel_rfl) (Opens.int Tryz.underlying3) (.mcons rfl (by kernel_rfl) opens_ints (.mcons rfl (by kernel_rfl) opens_ints (.mcons rfl (by kernel_rfl) (Opens.int Tryz.underlying3) .mnil))))).mono fun ts h => by
    obtain ⟨_, _, rfl, ⟨a, _, rfl⟩, _, _, rfl, ⟨r, hr, rfl⟩, _, _, rfl, ⟨o, ho, rfl⟩, _, _, rfl, ⟨c, _, rfl⟩, rfl⟩ := h
    exact ⟨⟨a, r, o, c⟩, ⟨hr, ho⟩, rfl⟩
set_option maxRecDepth 20000 in
theorem opens_StateS : Opens Tryz.prog 23 1 (fun ts => ∃ l : List State, (l.length ≤ 140737488355328 ∧ ∀ j : Nat, j < l.length → (rd l j).regs.length ≤ 140737488355328 ∧ (rd l j).out.length ≤ 140737488355328) ∧ ts = [.sl 4 (l.map rState)]) :=
  (Opens.slice (sz := 4) (B := 64) Tryz.underlying23 (by kernel_rfl) (by kernel_rfl) (by decide) opens_State).mono fun ts h => by
    obtain ⟨rows, rfl, h1, h2⟩ := h
    obtain ⟨l, rfl, hl⟩ := rows_map h1
    rw [List.length_map] at h2
    have := reachBytes_lt
    exact ⟨l, ⟨by omega, fun j hj => hl _ (rd_mem hj)⟩, rfl⟩
set_option maxRecDepth 20000 in
theorem opens_Item : Opens Tryz.prog 241 2 (fun ts => ∃ x : Item, True ∧ ts = rItem x) :=
  (Opens.struct Tryz.underlying241 (by kernel_rfl) (.mcons rfl (by kernel_rfl) (Opens.bool Tryz.underlying4) (.mcons rfl (by kernel_rfl) (Opens.int Tryz.underlying3) .mnil))).mono fun ts h => by
    obtain ⟨_, _, rfl, ⟨a, rfl⟩, _, _, rfl, ⟨r, _, rfl⟩, rfl⟩ := h
    exact ⟨⟨a, r⟩, trivial, rfl⟩
set_option maxRecDepth 20000 in
theorem opens_ItemS : Opens Tryz.prog 189 1 (fun ts => ∃ l : List Item, l.length ≤ 140737488355328 ∧ ts = [.sl 2 (l.map rItem)]) :=
  (Opens.slice (sz := 2) (B := 16) Tryz.underlying189 (by kernel_rfl) (by kernel_rfl) (by decide) opens_Item).mono fun ts h => by
    obtain ⟨rows, rfl, h1, h2⟩ := h
    obtain ⟨l, rfl, hl⟩ := rows_map h1
    rw [List.length_map] at h2
    have := reachBytes_lt
    exact ⟨l, by omega, rfl⟩
theorem opens_SS {α : Type} {t e : TypeId} {f : α → List T} {sz : Nat} (ht : (Tryz.prog).underlying t = some (.slice e)) (hc : (Tryz.prog).cellsOf e = 1) (hB : (Tryz.prog).bytesOf e = 24)
    (h : Opens Tryz.prog e 1 (fun ts => ∃ l : List α, l.length ≤ 140737488355328 ∧ ts = [.sl sz (l.map f)])) :
    Opens Tryz.prog t 1 (fun ts => ∃ l : List (List α), (l.length ≤ 140737488355328 ∧ ∀ j : Nat, j < l.length → (rd l j).length ≤ 140737488355328) ∧ ts = [.sl 1 (l.map fun x => [T.sl sz (x.map f)])]) :=
  (Opens.slice (sz := 1) (B := 24) ht hc hB (by decide) h).mono fun ts h => by
    obtain ⟨rows, rfl, h1, h2⟩ := h
    obtain ⟨l, rfl, hl⟩ := rows_map h1
    rw [List.length_map] at h2
    have := reachBytes_lt
    exact ⟨l, ⟨by omega, fun j hj => hl _ (rd_mem hj)⟩, rfl⟩
set_option maxRecDepth 20000 in
theorem opens_Sys : Opens Tryz.prog 27 4 (fun ts => ∃ X : Sys, SysB 140737488355328 X.progs X.states X.ways X.hist ∧ ts = [.sl 1 (X.progs.map rInsL), .sl 4 (X.states.map rState), .sl 1 (X.ways.map rItemL), .sl 1 (X.hist.map rEventL)]) :=
  (Opens.struct Tryz.underlying27 (by kernel_rfl) (.mcons rfl (by kernel_rfl) (opens_SS Tryz.underlying22 (by kernel_rfl) (by kernel_rfl) opens_InsS) (.mcons rfl (by kernel_rfl) opens_StateS (.mcons rfl (by kernel_rfl) (opens_SS Tryz.underlying24 (by kernel_rfl) (by kernel_rfl) opens_ItemS) (.mcons rfl (by kernel_rfl) (opens_SS Tryz.underlying25 (by kernel_rfl) (by kernel_rfl) opens_EventS) .mnil))))).mono fun ts h => by
    obtain ⟨_, _, rfl, ⟨P, hP, rfl⟩, _, _, rfl, ⟨S, hS, rfl⟩, _, _, rfl, ⟨W, hW, rfl⟩, _, _, rfl, ⟨X, hX, rfl⟩, rfl⟩ := h
    exact ⟨⟨P, S, W, X⟩, ⟨hP.1, hP.2, hS.1, hS.2, hW.1, hW.2, hX.1, hX.2⟩, rfl⟩
def SysAt (w : World) (v : Value) (X : Sys) : Prop := ∃ a0 a1 a2 a3, v = .agg #[a0, a1, a2, a3] ∧ Ow (fun k => k < w.heap.size) w 0 a0 (.sl 1 (X.progs.map rInsL)) none_ ∧ Ow (fun k => k < w.heap.size) w 0 a1 (.sl 4 (X.states.map rState)) none_ ∧
  Ow (fun k => k < w.heap.size) w 0 a2 (.sl 1 (X.ways.map rItemL)) none_ ∧ Ow (fun k => k < w.heap.size) w 0 a3 (.sl 1 (X.hist.map rEventL)) none_
theorem four {α : Type} {l : Array α} (h : l.size = 4) : ∃ a b c d, l = #[a, b, c, d] := by
  obtain ⟨l⟩ := l
  match l, h with
  | [a, b, c, d], _ => exact ⟨a, b, c, d, rfl⟩
theorem three {α : Type} {l : Array α} (h : l.size = 3) : ∃ a b c, l = #[a, b, c] := by
  obtain ⟨l⟩ := l
  match l, h with
  | [a, b, c], _ => exact ⟨a, b, c, rfl⟩
set_option maxRecDepth 20000 in
theorem open_Sys {H : Type} {enc : TypeId × Value → H} {w : World} {base : Nat} {sp : Nat → Bool} {held : Bool} {v : Value} {d : DataW H} {ps : List MemPlace} {r : Go.Reach} {b0 : Nat}
    (hval : Value.okWide Tryz.prog w r b0 27 v) (h : DataW.Trod enc Tryz.prog w base sp held 27 v d ps) (hw : ∀ m ∈ d.weights Tryz.prog 27, m ≤ reachBytes) :
    ∃ X : Sys, SysB 140737488355328 X.progs X.states X.ways X.hist ∧ SysAt w v X := by
  obtain ⟨cs, rfl, hsz⟩ := Go.WideShapes.okWide_struct Tryz.underlying27 hval
  have hsz4 : cs.size = 4 := hsz.trans (by kernel_rfl)
  obtain ⟨a0, a1, a2, a3, rfl⟩ := four hsz4
  obtain ⟨fuel, hf⟩ := h
  obtain ⟨_, ts, h1, ⟨X, hX, rfl⟩, h3⟩ := opens_Sys H enc w base sp held fuel _ _ hf hw
  exact ⟨X, hX, a0, a1, a2, a3, rfl, h3 0 _ _ rfl rfl, h3 1 _ _ rfl rfl, h3 2 _ _ rfl rfl, h3 3 _ _ rfl rfl⟩
structure Stop where
  p : Int
  kind : Int
  v : Int
set_option maxRecDepth 20000 in
theorem opens_Stop : Opens Tryz.prog 49 3 (fun ts => ∃ x : Stop, True ∧ ts = [.v (.int .i64 x.p), .v (.int .i64 x.kind), .v (.int .i64 x.v)]) :=
  (Opens.struct Tryz.underlying49 (by kernel_rfl) (.int rfl (by kernel_rfl) Tryz.underlying3 (.int rfl (by kernel_rfl) Tryz.underlying3 (.int rfl (by kernel_rfl) Tryz.underlying3 .nil)))).mono fun _ h => by
    obtain ⟨x, _, rfl⟩ := ints_Event h
    exact ⟨⟨x.kind, x.peer, x.v⟩, trivial, rfl⟩
set_option maxRecDepth 20000 in
theorem open_Stop {H : Type} {enc : TypeId × Value → H} {w : World} {base : Nat} {sp : Nat → Bool} {held : Bool} {v : Value} {d : DataW H} {ps : List MemPlace} {r : Go.Reach} {b0 : Nat}
    (hval : Value.okWide Tryz.prog w r b0 49 v) (h : DataW.Trod enc Tryz.prog w base sp held 49 v d ps) (hw : ∀ m ∈ d.weights Tryz.prog 49, m ≤ reachBytes) :
    ∃ X : Stop, True ∧ v = .agg #[.int .i64 X.p, .int .i64 X.kind, .int .i64 X.v] := by
  obtain ⟨cs, rfl, hsz⟩ := Go.WideShapes.okWide_struct Tryz.underlying49 hval
  have hsz4 : cs.size = 3 := hsz.trans (by kernel_rfl)
  obtain ⟨a0, a1, a2, rfl⟩ := three hsz4
  obtain ⟨fuel, hf⟩ := h
  obtain ⟨_, ts, h1, ⟨X, _, rfl⟩, h3⟩ := opens_Stop H enc w base sp held fuel _ _ hf hw
  have g : ∀ {v : Value} {x : Value} {Z : Fp} {l : Nat}, Ow Z w l v (.v x) none_ → v = x := by
    intro v x Z l h
    cases h
    rfl
  refine ⟨X, trivial, ?_⟩
  rw [g (h3 0 _ _ rfl rfl), g (h3 1 _ _ rfl rfl), g (h3 2 _ _ rfl rfl)]
theorem arg_Sys {Z : Fp} {w : World} {ob : Objs} {ρ : Nat → Value} {j : Nat} {P : List (List Ins)} {S : List State} {W : List (List Item)} {H : List (List Event)} {a0 a1 a2 a3 : Value}
    (g0 : Ow Z w 0 a0 (.sl 1 (P.map rInsL)) none_) (g1 : Ow Z w 0 a1 (.sl 4 (S.map rState)) none_) (g2 : Ow Z w 0 a2 (.sl 1 (W.map rItemL)) none_) (g3 : Ow Z w 0 a3 (.sl 1 (H.map rEventL)) none_)
    (e0 : ob (1000000 + j) = ⟨0, 0, false, tInsSS P⟩) (e1 : ob (1000001 + j) = ⟨0, 0, false, tStateS S⟩) (e2 : ob (1000002 + j) = ⟨0, 0, false, tItemSS W⟩) (e3 : ob (1000003 + j) = ⟨0, 0, false, tEventSS H⟩)
    (r0 : ρ (1000000 + j) = a0) (r1 : ρ (1000001 + j) = a1) (r2 : ρ (1000002 + j) = a2) (r3 : ρ (1000003 + j) = a3) : AVR w ob ρ (aSys j P S W H) (.agg #[a0, a1, a2, a3]) := by
  have h0 := arg_slice e0 r0 g0
  have h1 := arg_slice e1 r1 g1
  have h2 := arg_slice e2 r2 g2
  have h3 := arg_slice e3 r3 g3
  rw [List.length_map] at h0 h1 h2 h3
  refine .ag rfl ?_
  rintro (_ | _ | _ | _ | i) y hy
  · cases hy; exact h0
  · cases hy; exact h1
  · cases hy; exact h2
  · cases hy; exact h3
  · simp at hy

set_option maxRecDepth 20000 in
theorem opens_Pick : Opens Tryz.prog 135 2 (fun ts => ∃ x : Who, True ∧ ts = rWho x) :=
  (Opens.struct Tryz.underlying135 (by kernel_rfl) (.mcons rfl (by kernel_rfl) (Opens.int Tryz.underlying3) (.mcons rfl (by kernel_rfl) (Opens.int Tryz.underlying3) .mnil))).mono fun ts h => by
    obtain ⟨_, _, rfl, ⟨a, _, rfl⟩, _, _, rfl, ⟨r, _, rfl⟩, rfl⟩ := h
    exact ⟨⟨a, r⟩, trivial, rfl⟩
set_option maxRecDepth 20000 in
theorem opens_PickS : Opens Tryz.prog 47 1 (fun ts => ∃ l : List Who, l.length ≤ 140737488355328 ∧ ts = [.sl 2 (l.map rWho)]) :=
  (Opens.slice (sz := 2) (B := 16) Tryz.underlying47 (by kernel_rfl) (by kernel_rfl) (by decide) opens_Pick).mono fun ts h => by
    obtain ⟨rows, rfl, h1, h2⟩ := h
    obtain ⟨l, rfl, hl⟩ := rows_map h1
    rw [List.length_map] at h2
    have := reachBytes_lt
    exact ⟨l, by omega, rfl⟩
set_option maxRecDepth 20000 in
theorem open_PickS {H : Type} {enc : TypeId × Value → H} {w : World} {base : Nat} {sp : Nat → Bool} {held : Bool} {v : Value} {d : DataW H} {ps : List MemPlace} {r : Go.Reach} {b0 : Nat}
    (hval : Value.okWide Tryz.prog w r b0 47 v) (h : DataW.Trod enc Tryz.prog w base sp held 47 v d ps) (hw : ∀ m ∈ d.weights Tryz.prog 47, m ≤ reachBytes) :
    ∃ l : List Who, l.length ≤ 140737488355328 ∧ Ow (fun k => k < w.heap.size) w 0 v (.sl 2 (l.map rWho)) none_ := by
  obtain ⟨a0, len0, cap0, rfl⟩ := Go.WideShapes.okWide_slice Tryz.underlying47 hval
  obtain ⟨t', ⟨l, h1, h2⟩, h3⟩ := opens_PickS.one rfl h hw
  cases h2
  exact ⟨l, h1, h3⟩

theorem walk_FnExactUntil {W : World} {v0 v1 v2 : Value} {X0 : Sys} {l1 : List Who} {x2 : Stop} (h0 : SysB 140737488355328 X0.progs X0.states X0.ways X0.hist) (h1 : l1.length ≤ 140737488355328) (h2 : True)
    (o0 : SysAt W v0 X0) (o1 : Ow (fun k => k < W.heap.size) W 0 v1 (.sl 2 (l1.map rWho)) none_) (o2 : v2 = .agg #[.int .i64 x2.p, .int .i64 x2.kind, .int .i64 x2.v]) :
    Calls PR 4 #[v0, v1, v2] W (fun e w' => e = .returned (.bool true) ∧ Below W.heap.size W w') := by
  have hF := callE_sound (C := C) tys_ok prims_ok _ _ _ _ _ (ok_laws_FnExactUntil 0 X0.progs X0.states X0.ways X0.hist l1 x2.p x2.kind x2.v h0 h1)
  obtain ⟨a0_0, a0_1, a0_2, a0_3, rfl, g0_0, g0_1, g0_2, g0_3⟩ := o0
  subst o2
  refine (hF.outside [a0_0, a0_1, a0_2, a0_3, v1] ?_ #[_, _, _] rfl ?_).mono ?_
  · rintro (_ | _ | _ | _ | _ | i) c hc
    · cases hc; exact ⟨_, _, rfl, rfl, g0_0⟩
    · cases hc; exact ⟨_, _, rfl, rfl, g0_1⟩
    · cases hc; exact ⟨_, _, rfl, rfl, g0_2⟩
    · cases hc; exact ⟨_, _, rfl, rfl, g0_3⟩
    · cases hc; exact ⟨_, _, rfl, rfl, o1⟩
    · simp at hc
  · rintro (_ | _ | _ | i) x hx
    · cases hx
      exact arg_Sys g0_0 g0_1 g0_2 g0_3 rfl rfl rfl rfl rfl rfl rfl rfl
    · cases hx
      have := arg_slice (ob := obIn [tInsSS X0.progs, tStateS X0.states, tItemSS X0.ways, tEventSS X0.hist, tWho l1]) (ρ := fun o => [a0_0, a0_1, a0_2, a0_3, v1].getD (o - 1000000) undef) (o := 1000004) (by rfl) (by rfl) o1
      rwa [List.length_map] at this
    · cases hx
      refine .ag rfl ?_
      rintro (_ | _ | _ | i) y hy
      · cases hy; exact .s rfl
      · cases hy; exact .s rfl
      · cases hy; exact .s rfl
      · simp at hy
    · simp at hx
  · rintro e w' ⟨v, rfl, hb, ob', ρ', hv⟩
    exact ⟨by rw [hv.bool_inv], hb⟩

end Go.Proofs.YtldndahfnkbngaaGreat.Abs
namespace Go.Proofs.YtldndahfnkbngaaGreat.fnExactUntil
open Go Go.Proofs Go.ChangeShapes Go.WideShapes Go.RowKit Go.Proofs.YtldndahfnkbngaaGreat.Abs
set_option linter.unusedVariables false
theorem own : ownKnob Tryz.prog.godebug = none := by kernel_rfl
theorem laidOut : laidOutB Tryz.prog = true := by kernel_rfl
set_option maxRecDepth 100000 in
theorem lifted (os : Os) (started : os.Started) (H : Type) (enc : TypeId × Value → H) :
    ReturnsInHanded {} Tryz.checked os 4 .any (Rows.fnExactUntilSpec.pre6 enc Tryz.prog Tryz.f4 Rows.fnExactUntilRow.domain false) (Rows.fnExactUntilSpec.post enc Tryz.prog Tryz.f4 false true false false) := by
  refine returnsInHanded_of_change_sized (C := Tryz.checked) own started (by kernel_rfl) Tryz.func4
    (ChangeSpec.witness6 (enc := enc) (C := Tryz.checked) false ⟨#[], #[.agg #[.slice none 0 0, .slice none 0 0, .slice none 0 0, .slice none 0 0], .slice none 0 0, .agg #[.int .i64 0, .int .i64 0, .int .i64 0]], []⟩ 8 (by kernel_rfl) (by kernel_rfl) (by kernel_rfl) (by kernel_rfl)) ?_
  intro W base args ds gs before hval0 hW hcnd hsz0 _
  have hsz : (DataW.weightsEach Tryz.prog (Tryz.f4.params.toList ++ Rows.fnExactUntilSpec.plain.varTypes Tryz.prog) (ds ++ gs)).all (· ≤ reachBytes) = true := hsz0
  have hval : ∀ (j : Nat) t v, Tryz.f4.params[j]? = some t → args[j]? = some v → Value.okWide Tryz.prog W .any base t v := hval0
  have hW' := hW
  obtain ⟨p, q, hA0, hV, rfl, hfz, hnd⟩ := hW
  have hA : DataW.TrodAll enc Tryz.prog W 0 (fun _ => true) true Tryz.f4.params.toList args.toList ds p := hA0
  rw [Tryz.params4] at hA hval hsz
  obtain ⟨v0, vs0, d0, ds0, p0, q0, hargs, rfl, rfl, h0, r0⟩ := trodAll_cons hA
  obtain ⟨v1, vs1, d1, ds1, p1, q1, rfl, rfl, rfl, h1, r1⟩ := trodAll_cons r0
  obtain ⟨v2, vs2, d2, ds2, p2, q2, rfl, rfl, rfl, h2, r2⟩ := trodAll_cons r1
  obtain ⟨rfl, rfl, rfl⟩ := trodAll_nil r2
  obtain rfl : args = #[v0, v1, v2] := by cases args; simp_all
  obtain ⟨rfl, rfl⟩ := trodVars_none hV
  have hwt : ∀ (j : Nat) t d, [27, 47, 49][j]? = some t → [d0, d1, d2][j]? = some d → ∀ m ∈ d.weights Tryz.prog t, m ≤ reachBytes := by
    intro j t d ht hd m hm
    have := List.all_eq_true.1 hsz m (DataW.weights_mem_each (j := j) (t := t) (d := d) ht hd m hm)
    simpa using this
  have k0 := h0
  have lt0 : ∀ x ∈ p0, x.block < W.heap.size := by obtain ⟨m, hm⟩ := k0; exact DataW.trod_lt m _ _ _ hm
  obtain ⟨l0, s0, o0⟩ := open_Sys (hval 0 27 v0 rfl rfl) h0 (hwt 0 _ _ rfl rfl)
  have k1 := h1
  have lt1 : ∀ x ∈ p1, x.block < W.heap.size := by obtain ⟨m, hm⟩ := k1; exact DataW.trod_lt m _ _ _ hm
  obtain ⟨l1, s1, o1⟩ := open_PickS (hval 1 47 v1 rfl rfl) h1 (hwt 1 _ _ rfl rfl)
  have k2 := h2
  have lt2 : ∀ x ∈ p2, x.block < W.heap.size := by obtain ⟨m, hm⟩ := k2; exact DataW.trod_lt m _ _ _ hm
  obtain ⟨l2, s2, o2⟩ := open_Stop (hval 2 49 v2 rfl rfl) h2 (hwt 2 _ _ rfl rfl)
  clear hA0 hval0 hsz0 hsz hwt
  refine (walk_FnExactUntil s0 s1 s2 o0 o1 o2).mono fun e W' ⟨he, bel⟩ => ?_
  subst he
  exact ⟨_, rfl, _, _, _, [], _, [], hW', trodAll_mk1 (shut_bool Tryz.underlying4 _), (trodAll_cons_mk (Below.trod laidOut (by kernel_rfl) (of_decide_eq_true (by kernel_rfl)) k0 bel lt0) (trodAll_cons_mk (Below.trod laidOut (by kernel_rfl) (of_decide_eq_true (by kernel_rfl)) k1 bel lt1) (trodAll_cons_mk (Below.trod laidOut (by kernel_rfl) (of_decide_eq_true (by kernel_rfl)) k2 bel lt2) trodAll_mk0))), rfl, bel.frame _, fun h => by cases h⟩
theorem andT {a b : Bool} (h1 : a = true) (h2 : b = true) : (a && b) = true := by rw [h1, h2]; rfl
theorem j0 : Rows.fnExactUntilRow.wf (OpenSpec.ofChange Rows.fnExactUntilSpec) = true := by kernel_rfl
theorem j1 : laidOutB Tryz.prog = true := by kernel_rfl
theorem j2 : mapsRowed Tryz.prog = true := by kernel_rfl
theorem j3 : Tryz.f4.params.all (Tryz.prog.readableRec ·) = true := by kernel_rfl
theorem j4 : namedTie Tryz.prog Rows.fnExactUntilRow.named Rows.fnExactUntilSpec.vars = true := by kernel_rfl
theorem j5 : (Rows.fnExactUntilRow.stops == []) = true := by kernel_rfl
theorem j6 : (Tryz.prog.stops == []) = true := by kernel_rfl
theorem j7 : (Rows.fnExactUntilRow.knobs == []) = true := by kernel_rfl
theorem j8 : (Tryz.prog.stopKnobs == []) = true := by kernel_rfl
theorem j9 : (Rows.fnExactUntilRow.inPlace == Tryz.prog.inPlace 4) = true := by kernel_rfl
theorem j10 : (Rows.fnExactUntilRow.unfollowed == Tryz.prog.unfollowed 4) = true := by kernel_rfl
theorem j11 : (Rows.fnExactUntilRow.recurses == Tryz.prog.recurses 4) = true := by kernel_rfl
theorem j12 : (Rows.fnExactUntilRow.named == Tryz.prog.varsNamed 4) = true := by kernel_rfl
theorem j13 : (Rows.fnExactUntilRow.maps == (Tryz.f4.params.toList ++ Rows.fnExactUntilSpec.plain.varTypes Tryz.prog).any (Tryz.prog.mapsRec ·)) = true := by kernel_rfl
theorem j14 : (Rows.fnExactUntilRow.ifaces == (Tryz.f4.params.toList ++ Rows.fnExactUntilSpec.plain.varTypes Tryz.prog).any (Tryz.prog.ifacesRec ·)) = true := by kernel_rfl
theorem j15 : (Rows.fnExactUntilRow.mapsOut == Tryz.prog.mapsAmong Tryz.f4.resultTypes.toList) = true := by kernel_rfl
theorem j16 : (Rows.fnExactUntilRow.loops == (Tryz.f4.params.toList ++ Rows.fnExactUntilSpec.plain.varTypes Tryz.prog).any (Tryz.prog.loopsFrom ·)) = true := by kernel_rfl
theorem j17 : (Rows.fnExactUntilRow.wideKeys == (Tryz.f4.params.toList ++ Rows.fnExactUntilSpec.plain.varTypes Tryz.prog ++ Tryz.f4.resultTypes.toList).any (Tryz.prog.wideKeysFrom ·)) = true := by kernel_rfl
theorem j18 : Rows.fnExactUntilSpec.vars.all (Tryz.prog.varReadable ·) = true := by kernel_rfl
theorem j19 : Tryz.f4.resultTypes.all (fun t => Tryz.prog.readableRec t && decide (t < Tryz.prog.types.size)) = true := by kernel_rfl
theorem j20 : (Rows.fnExactUntilRow.ifacesOut == Tryz.f4.resultTypes.toList.any (Tryz.prog.ifacesRec ·)) = true := by kernel_rfl
theorem j21 : (Rows.fnExactUntilRow.loopsOut == Tryz.f4.resultTypes.toList.any (Tryz.prog.loopsFrom ·)) = true := by kernel_rfl
theorem j22 : (Rows.fnExactUntilRow.plainKeys == Tryz.prog.plainKeys) = true := by kernel_rfl
theorem j23 : Rows.fnExactUntilRow.shortTexts.isNone = true := by kernel_rfl
theorem j24 : Tryz.prog.stopsHeard = true := by kernel_rfl
theorem j25 : Tryz.prog.mayEnter = true := by kernel_rfl
theorem j26 : (Rows.fnExactUntilRow.lifted == Tryz.prog.liftsFinal) = true := by kernel_rfl
theorem j27 : (Tryz.prog.make == some Rows.fnExactUntilRow.make) = true := by kernel_rfl
theorem j28 : (Rows.fnExactUntilRow.kinds == (if Rows.fnExactUntilRow.domain.isEmpty then [] else Tryz.f4.params.toList.map fun t => match Tryz.prog.underlying t with | some (.int k) => some k | _ => none)) = true := by kernel_rfl
theorem j29 : (Rows.fnExactUntilRow.pinned == Rows.fnExactUntilRow.pinnedBy) = true := by kernel_rfl
theorem j30 : (Rows.fnExactUntilRow.veiled == (Tryz.f4.params.toList ++ Rows.fnExactUntilSpec.plain.varTypes Tryz.prog ++ Tryz.f4.resultTypes.toList).any (Tryz.prog.veiledRec ·)) = true := by kernel_rfl
theorem j31 : Rows.fnExactUntilRow.veiledFits Tryz.prog Tryz.f4.params.toList (Tryz.f4.params.toList ++ Rows.fnExactUntilSpec.plain.varTypes Tryz.prog ++ Tryz.f4.resultTypes.toList) = true := by kernel_rfl
set_option maxRecDepth 100000 in
theorem joined : joinedFacts Tryz.prog 4 Tryz.f4 Rows.fnExactUntilSpec Rows.fnExactUntilRow = true := by
  unfold joinedFacts
  exact andT (andT (andT (andT (andT (andT (andT (andT (andT (andT (andT (andT (andT (andT (andT (andT (andT (andT (andT (andT (andT (andT (andT (andT (andT (andT (andT (andT (andT (andT (andT j0 j1) j2) j3) j4) j5) j6) j7) j8) j9) j10) j11) j12) j13) j14) j15) j16) j17) j18) j19) j20) j21) j22) j23) j24) j25) j26) j27) j28) j29) j30) j31
theorem over : Rows.fnExactUntilRow.holds Tryz.pinned (OpenSpec.ofChange Rows.fnExactUntilSpec) :=
  OpenClaim.holds_of_wide 4 Tryz.f4 rfl rfl rfl rfl rfl rfl rfl ⟨rfl, rfl, rfl, rfl, rfl⟩ rfl rfl rfl rfl rfl (by kernel_rfl) Tryz.func4 joined
    (of_decide_eq_true (by kernel_rfl)) (by unfold Func.isWrapper; first | (rw [if_pos (by decide +kernel)]; kernel_rfl) | (rw [if_neg (by decide +kernel)]; exact ⟨rfl, rfl⟩))
    (fun os started H enc _ => lifted os started H enc)
theorem proved : Rows.FnExactUntilSaid := over
#print axioms proved
end Go.Proofs.YtldndahfnkbngaaGreat.fnExactUntil
namespace Go.Proofs.YtldndahfnkbngaaGreat
theorem fnExactUntil_holds : Rows.FnExactUntilSaid := fnExactUntil.proved
end Go.Proofs.YtldndahfnkbngaaGreat

