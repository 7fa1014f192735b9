/- Part 6 of the words by which the law is followed: an interpreter over data trees, proved of the machine, and what functions of this program come to by it. No condition. -/
import Derived.Test.YtlobpiebphnkiaaGreatJD5
namespace Go.Proofs.YtlobpiebphnkiaaGreat.Abs
open Go Go.Proofs
set_option linter.unusedVariables false
set_option linter.unusedSimpArgs false
attribute [local irreducible] callE
def zeroRes (b : List (Option Cont)) : Res := ⟨.tu [nSys 0 [] [] [] [], bl false], [tInsSS9 [], tStateS9 [], tItemSS9 [], tEventSS9 []], b⟩
def atRes (P : List (List Ins)) (H : List (List Event)) (b : List (Option Cont)) : Res := ⟨.tu [nSys 0 P (stsOf P H) (waysOf H P.length) H, bl true], [tInsSS9 P, tStateS9 (stsOf P H), tItemSS9 (waysOf H P.length), tEventSS9 H], b⟩
structure AT where
  j : Nat
  l : List (List Event)
  o : Nat
  b : Nat
  lv : Nat
end Go.Proofs.YtlobpiebphnkiaaGreat.Abs
namespace Go.Proofs.YtlobpiebphnkiaaGreat.Abs
open Go Go.Proofs
set_option linter.unusedVariables false
set_option linter.unusedSimpArgs false
attribute [local irreducible] callE
def hasCut (H : List (List Event)) (p i : Int) : Bool := decide (0 ≤ p ∧ p ≤ (H.length : Int) - 1) && decide (0 ≤ i ∧ i ≤ ((rd H p.toNat).length : Int))
noncomputable def backCutOf (H : List (List Event)) (p i : Int) : List Int := closeOf H ((lensOf H).set p.toNat i)
def atSys (P : List (List Ins)) (H : List (List Event)) : Sys := ⟨P, stsOf P H, waysOf H P.length, H⟩
noncomputable def backIs (P : List (List Ins)) (S : List State) (W : List (List Item)) (H : List (List Event)) (p i : Int) : Sys × Int :=
  if sysOk P S W H = true then (if hasCut H p i = true then (if waysFit (cutH H (backCutOf H p i)) P.length = true then (atSys P (cutH H (backCutOf H p i)), 0) else (⟨P, S, W, H⟩, 3)) else (⟨P, S, W, H⟩, 2)) else (⟨[], [], [], []⟩, 1)
def sysRes (X : Sys) (n : Int) (b : List (Option Cont)) : Res := ⟨.tu [nSys 0 X.progs X.states X.ways X.hist, i64 n], [tInsSS9 X.progs, tStateS9 X.states, tItemSS9 X.ways, tEventSS9 X.hist], b⟩
noncomputable def undoneIs (P : List (List Ins)) (S : List State) (W : List (List Item)) (H : List (List Event)) (p i : Int) : List Int := if (backIs P S W H p i).2 = 0 then (List.range H.length).map fun q => ((rd H q).length : Int) - ((rd (backIs P S W H p i).1.hist q).length : Int) else []
def lastOf (H : List (List Event)) (p : Int) : Int := if 0 ≤ p ∧ p ≤ (H.length : Int) - 1 then ((rd H p.toNat).length : Int) - 1 else -1
end Go.Proofs.YtlobpiebphnkiaaGreat.Abs
namespace Go.Proofs.YtlobpiebphnkiaaGreat.Abs
open Go Go.Proofs
set_option linter.unusedVariables false
set_option linter.unusedSimpArgs false
attribute [local irreducible] callE
theorem ok_laws_markIntS9 (k : Nat) (l : List Int) (m : Int) (hl : l.length ≤ 100000000000) (h0 : 0 ≤ m) (h1 : m ≤ 100000000000) : callE PR C (k + 1) 29 [.h 1000000 0 0 [] 1 0 l.length, i64 m] [tI9 l] = some ⟨i64 (m + l.length), [], [some (tI9 (marksI m l))]⟩ := by
  (refine fnI [ResultVar.tmp 4] Tryz.func29 ?_; conv => whnf)
  repeat' ((with_reducible (first | refine st16 ?_|refine fG.split (fun _ => ?_) (fun _ => ?_)|refine fG.bool (fun _ => ?_) (fun _ => ?_))) <;> (try (conv => whnf)))
  refine loop_rule (ι := TM Int) (fun x => [(0, .h 1000000 0 0 [] 1 0 l.length), (1, i64 x.m), (5, i64 (x.j : Nat))])
    (fun x => [(1000000, ⟨0, x.g, x.d, tI9 x.l⟩)])
    (fun x => l.length - x.j) (fun x => x.j ≤ l.length ∧ x.l = half mInt wInt m l x.j ∧ x.m = m + x.j) ⟨0, m, l, 0, false⟩ fitOk ⟨Nat.zero_le _, (half_zero _ _ m l).symm, by simp⟩ (by simp [C]; omega) ?_
  rintro ⟨j, n, out, g, d⟩ sl ob ⟨hj, hout, hn⟩
  dsimp only at hj hout hn
  have hlen : out.length = l.length := by rw [hout, half_len]
  (try dsimp only [cond_true, cond_false])
  (conv => whnf)
  repeat' ((with_reducible (first | refine st16 ?_|refine fG.split (fun _ => ?_) (fun _ => ?_)|refine fG.bool (fun _ => ?_) (fun _ => ?_))) <;> (try (conv => whnf)))
  case' refine_1 h =>
    refine ⟨⟨⟨j + 1, n + 1, out.set j n, _, _⟩, fitOk, ?_, ?_⟩⟩
    · refine ⟨by show j + 1 ≤ _; omega, ?_, by show _ = _; push_cast; omega⟩
      show _ = _
      rw [← half_set _ _ m l j (by omega), hout, hn]
      simp only [wts_wInt, List.length_take, mInt, show min j l.length = j by omega]
    · show l.length - (j + 1) < l.length - j; omega
  case refine_2 h =>
    have : j = l.length := by omega
    rw [hout, hn, this, half_all]
def mItem (m : Int) (x : Item) : Item := ⟨decide (m.tmod 3 = 0), m + 1⟩
def wItem (x : Item) : Nat := 2
theorem wts_wItem (l : List Item) : wts wItem l = 2 * l.length := wts_const 2 l
def mWho (m : Int) (x : Who) : Who := ⟨m, m + 1⟩
def wWho (x : Who) : Nat := 2
theorem ok_laws_markInsS8 (k : Nat) (l : List Ins) (m : Int) (hl : l.length ≤ 100000000000) (h0 : 0 ≤ m) (h1 : m ≤ 100000000000) : callE PR C (k + 1) 166 [(.h 1000000 0 0 [] 5 0 l.length), i64 m] [(.tree 8 (.sl 5 (l.map rIns)))] = some ⟨i64 (m + 5 * l.length), [], [some (.tree 8 (.sl 5 ((marks mIns wIns m l).map rIns)))]⟩ := by
  (refine fnI [ResultVar.tmp 4] Tryz.func166 ?_; conv => whnf)
  repeat' ((with_reducible (first | refine st16 ?_|refine fG.split (fun _ => ?_) (fun _ => ?_)|refine fG.bool (fun _ => ?_) (fun _ => ?_))) <;> (try (conv => whnf)))
  refine loop_rule (ι := TM Ins) (fun x => [(0, (.h 1000000 0 0 [] 5 0 l.length)), (1, i64 x.m), (5, i64 (x.j : Nat))])
    (fun x => [(1000000, ⟨0, x.g, x.d, .tree 8 (.sl 5 (x.l.map rIns))⟩)])
    (fun x => l.length - x.j) (fun x => x.j ≤ l.length ∧ x.l = half mIns wIns m l x.j ∧ x.m = m + 5 * x.j) ⟨0, m, l, 0, false⟩ fitOk ⟨Nat.zero_le _, (half_zero _ _ m l).symm, by simp⟩ (by simp [C]; omega) ?_
  rintro ⟨j, n, out, g, d⟩ sl ob ⟨hj, hout, hn⟩
  dsimp only at hj hout hn
  have hlen : out.length = l.length := by rw [hout, half_len]
  have hz : n.tmod 3 = n.tmod 3 := rfl
  (try dsimp only [cond_true, cond_false])
  (conv => whnf)
  repeat' ((with_reducible (first | refine sZ.eq (hz) ?_|refine st16 ?_|refine fG.split (fun _ => ?_) (fun _ => ?_)|refine fG.bool (fun _ => ?_) (fun _ => ?_))) <;> (try (conv => whnf)))
  case' refine_1 h =>
    refine ⟨⟨⟨j + 1, n + 1 + 1 + 1 + 1 + 1, out.set j (mIns n (rd out j)), _, _⟩, fitOk, ?_, ?_⟩⟩
    · refine ⟨by show j + 1 ≤ _; omega, ?_, by show _ = _; push_cast; omega⟩
      show _ = _
      rw [← half_set _ _ m l j (by omega), hout, hn]
      simp only [wts_wIns, List.length_take, mIns, show min j l.length = j by omega, Int.natCast_mul]
      rfl
    · show l.length - (j + 1) < l.length - j; omega
  case refine_2 h =>
    have : j = l.length := by omega
    rw [hout, hn, this, half_all]
theorem ok_laws_markItemS8 (k : Nat) (l : List Item) (m : Int) (hl : l.length ≤ 100000000000) (h0 : 0 ≤ m) (h1 : m ≤ 100000000000) : callE PR C (k + 1) 167 [(.h 1000000 0 0 [] 2 0 l.length), i64 m] [(.tree 8 (.sl 2 (l.map rItem)))] = some ⟨i64 (m + 2 * l.length), [], [some (.tree 8 (.sl 2 ((marks mItem wItem m l).map rItem)))]⟩ := by
  (refine fnI [ResultVar.tmp 4] Tryz.func167 ?_; conv => whnf)
  repeat' ((with_reducible (first | refine st16 ?_|refine fG.split (fun _ => ?_) (fun _ => ?_)|refine fG.bool (fun _ => ?_) (fun _ => ?_))) <;> (try (conv => whnf)))
  refine loop_rule (ι := TM Item) (fun x => [(0, (.h 1000000 0 0 [] 2 0 l.length)), (1, i64 x.m), (5, i64 (x.j : Nat))])
    (fun x => [(1000000, ⟨0, x.g, x.d, .tree 8 (.sl 2 (x.l.map rItem))⟩)])
    (fun x => l.length - x.j) (fun x => x.j ≤ l.length ∧ x.l = half mItem wItem m l x.j ∧ x.m = m + 2 * x.j) ⟨0, m, l, 0, false⟩ fitOk ⟨Nat.zero_le _, (half_zero _ _ m l).symm, by simp⟩ (by simp [C]; omega) ?_
  rintro ⟨j, n, out, g, d⟩ sl ob ⟨hj, hout, hn⟩
  dsimp only at hj hout hn
  have hlen : out.length = l.length := by rw [hout, half_len]
  have hz : n.tmod 3 = n.tmod 3 := rfl
  (try dsimp only [cond_true, cond_false])
  (conv => whnf)
  repeat' ((with_reducible (first | refine sZ.eq (hz) ?_|refine st16 ?_|refine fG.split (fun _ => ?_) (fun _ => ?_)|refine fG.bool (fun _ => ?_) (fun _ => ?_))) <;> (try (conv => whnf)))
  case' refine_1 h =>
    refine ⟨⟨⟨j + 1, n + 1 + 1, out.set j (mItem n (rd out j)), _, _⟩, fitOk, ?_, ?_⟩⟩
    · refine ⟨by show j + 1 ≤ _; omega, ?_, by show _ = _; push_cast; omega⟩
      show _ = _
      rw [← half_set _ _ m l j (by omega), hout, hn]
      simp only [wts_wItem, List.length_take, mItem, show min j l.length = j by omega, Int.natCast_mul]
      rfl
    · show l.length - (j + 1) < l.length - j; omega
  case refine_2 h =>
    have : j = l.length := by omega
    rw [hout, hn, this, half_all]
theorem ok_laws_markEventS8 (k : Nat) (l : List Event) (m : Int) (hl : l.length ≤ 100000000000) (h0 : 0 ≤ m) (h1 : m ≤ 100000000000) : callE PR C (k + 1) 168 [(.h 1000000 0 0 [] 3 0 l.length), i64 m] [(.tree 8 (.sl 3 (l.map rEvent)))] = some ⟨i64 (m + 3 * l.length), [], [some (.tree 8 (.sl 3 ((marks mEvent wEvent m l).map rEvent)))]⟩ := by
  (refine fnI [ResultVar.tmp 4] Tryz.func168 ?_; conv => whnf)
  repeat' ((with_reducible (first | refine st16 ?_|refine fG.split (fun _ => ?_) (fun _ => ?_)|refine fG.bool (fun _ => ?_) (fun _ => ?_))) <;> (try (conv => whnf)))
  refine loop_rule (ι := TM Event) (fun x => [(0, (.h 1000000 0 0 [] 3 0 l.length)), (1, i64 x.m), (5, i64 (x.j : Nat))])
    (fun x => [(1000000, ⟨0, x.g, x.d, .tree 8 (.sl 3 (x.l.map rEvent))⟩)])
    (fun x => l.length - x.j) (fun x => x.j ≤ l.length ∧ x.l = half mEvent wEvent m l x.j ∧ x.m = m + 3 * x.j) ⟨0, m, l, 0, false⟩ fitOk ⟨Nat.zero_le _, (half_zero _ _ m l).symm, by simp⟩ (by simp [C]; omega) ?_
  rintro ⟨j, n, out, g, d⟩ sl ob ⟨hj, hout, hn⟩
  dsimp only at hj hout hn
  have hlen : out.length = l.length := by rw [hout, half_len]
  have hz : n.tmod 3 = n.tmod 3 := rfl
  (try dsimp only [cond_true, cond_false])
  (conv => whnf)
  repeat' ((with_reducible (first | refine sZ.eq (hz) ?_|refine st16 ?_|refine fG.split (fun _ => ?_) (fun _ => ?_)|refine fG.bool (fun _ => ?_) (fun _ => ?_))) <;> (try (conv => whnf)))
  case' refine_1 h =>
    refine ⟨⟨⟨j + 1, n + 1 + 1 + 1, out.set j (mEvent n (rd out j)), _, _⟩, fitOk, ?_, ?_⟩⟩
    · refine ⟨by show j + 1 ≤ _; omega, ?_, by show _ = _; push_cast; omega⟩
      show _ = _
      rw [← half_set _ _ m l j (by omega), hout, hn]
      simp only [wts_wEvent, List.length_take, mEvent, show min j l.length = j by omega, Int.natCast_mul]
      rfl
    · show l.length - (j + 1) < l.length - j; omega
  case refine_2 h =>
    have : j = l.length := by omega
    rw [hout, hn, this, half_all]
def mInsL (m : Int) (x : List Ins) : List Ins := marks mIns wIns m x
def wInsL (x : List Ins) : Nat := 5 * x.length
theorem ok_laws_markInsSS (k : Nat) (l : List (List Ins)) (m : Int) (hl : l.length ≤ 100000000000) (h0 : 0 ≤ m) (h1 : m + wts wInsL l ≤ 10000000000) (hx : ∀ j : Nat, j < l.length → (rd l j).length ≤ 10000000000) :
    callE PR C (k + 2) 84 [.h 1000000 0 0 [] 1 0 l.length, i64 m] [.tree 9 (.sl 1 (l.map rInsL))] = some ⟨i64 (m + wts wInsL l), [], [some (.tree 9 (.sl 1 ((marks mInsL wInsL m l).map rInsL)))]⟩ := by
  (refine fnI [ResultVar.tmp 4] Tryz.func84 ?_; conv => whnf)
  repeat' ((with_reducible (first | refine st16 ?_|refine fG.split (fun _ => ?_) (fun _ => ?_)|refine fG.bool (fun _ => ?_) (fun _ => ?_))) <;> (try (conv => whnf)))
  refine loop_rule (ι := TM (List Ins)) (fun x => [(0, .h 1000000 0 0 [] 1 0 l.length), (1, i64 x.m), (5, i64 (x.j : Nat))])
    (fun x => [(1000000, ⟨0, x.g, x.d, .tree 9 (.sl 1 (x.l.map rInsL))⟩)])
    (fun x => l.length - x.j) (fun x => x.j ≤ l.length ∧ x.l = half mInsL wInsL m l x.j ∧ x.m = m + wts wInsL (l.take x.j)) ⟨0, m, l, 0, false⟩ fitOk ⟨Nat.zero_le _, (half_zero _ _ m l).symm, by simp [wts]⟩ (by simp [C]; omega) ?_
  rintro ⟨j, n, out, g, d⟩ sl ob ⟨hj, hout, hn⟩
  dsimp only at hj hout hn
  have hlen : out.length = l.length := by rw [hout, half_len]
  have hn1 : n ≤ 10000000000 := by have := wts_le wInsL l j; omega
  have hn0 : 0 ≤ n := by omega
  have hrd : j < l.length → rd out j = rd l j := fun h => by rw [hout]; exact half_rd _ _ m l j h
  (try dsimp only [cond_true, cond_false])
  (conv => whnf)
  by_cases hjl : j < l.length
  · have hx1 : (rd out j).length ≤ 10000000000 := by rw [hrd hjl]; exact hx j hjl
    have hq : ∀ k, callE PR C (k + 1) 166 [.h 1000000 0 0 [] 5 0 ((rd out j).map rIns).length, i64 n] [.tree 8 (.sl 5 ((rd out j).map rIns))] = some ⟨i64 (n + 5 * (rd out j).length), [], [some (.tree 8 (.sl 5 ((marks mIns wIns n (rd out j)).map rIns)))]⟩ := by
      intro k
      rw [List.length_map]
      exact ok_laws_markInsS8 k (rd out j) n (by omega) (by omega) (by omega)
    repeat' ((with_reducible (first | refine sCall.of (hq _) ?_|refine st16 ?_|refine fG.split (fun _ => ?_) (fun _ => ?_)|refine fG.bool (fun _ => ?_) (fun _ => ?_))) <;> (try (conv => whnf)))
    refine ⟨⟨⟨j + 1, n + 5 * (rd out j).length, out.set j (mInsL n (rd out j)), _, _⟩, fitOk, ?_, ?_⟩⟩
    · have e := wts_take wInsL l j hjl
      refine ⟨by show j + 1 ≤ _; omega, ?_, ?_⟩
      · show _ = _
        rw [← half_set _ _ m l j hjl, hrd hjl, hout, hn]
      · show _ = _
        rw [e, hrd hjl]
        simp only [wInsL]
        omega
    · show l.length - (j + 1) < l.length - j; omega
  · have : j = l.length := by omega
    repeat' ((with_reducible (first | refine st16 ?_|refine fG.split (fun _ => ?_) (fun _ => ?_)|refine fG.bool (fun _ => ?_) (fun _ => ?_))) <;> (try (conv => whnf)))
    rw [hout, hn, this, half_all, List.take_length]
def mItemL (m : Int) (x : List Item) : List Item := marks mItem wItem m x
def wItemL (x : List Item) : Nat := 2 * x.length
theorem ok_laws_markItemSS (k : Nat) (l : List (List Item)) (m : Int) (hl : l.length ≤ 100000000000) (h0 : 0 ≤ m) (h1 : m + wts wItemL l ≤ 10000000000) (hx : ∀ j : Nat, j < l.length → (rd l j).length ≤ 10000000000) :
    callE PR C (k + 2) 86 [.h 1000000 0 0 [] 1 0 l.length, i64 m] [.tree 9 (.sl 1 (l.map rItemL))] = some ⟨i64 (m + wts wItemL l), [], [some (.tree 9 (.sl 1 ((marks mItemL wItemL m l).map rItemL)))]⟩ := by
  (refine fnI [ResultVar.tmp 4] Tryz.func86 ?_; conv => whnf)
  repeat' ((with_reducible (first | refine st16 ?_|refine fG.split (fun _ => ?_) (fun _ => ?_)|refine fG.bool (fun _ => ?_) (fun _ => ?_))) <;> (try (conv => whnf)))
  refine loop_rule (ι := TM (List Item)) (fun x => [(0, .h 1000000 0 0 [] 1 0 l.length), (1, i64 x.m), (5, i64 (x.j : Nat))])
    (fun x => [(1000000, ⟨0, x.g, x.d, .tree 9 (.sl 1 (x.l.map rItemL))⟩)])
    (fun x => l.length - x.j) (fun x => x.j ≤ l.length ∧ x.l = half mItemL wItemL m l x.j ∧ x.m = m + wts wItemL (l.take x.j)) ⟨0, m, l, 0, false⟩ fitOk ⟨Nat.zero_le _, (half_zero _ _ m l).symm, by simp [wts]⟩ (by simp [C]; omega) ?_
  rintro ⟨j, n, out, g, d⟩ sl ob ⟨hj, hout, hn⟩
  dsimp only at hj hout hn
  have hlen : out.length = l.length := by rw [hout, half_len]
  have hn1 : n ≤ 10000000000 := by have := wts_le wItemL l j; omega
  have hn0 : 0 ≤ n := by omega
  have hrd : j < l.length → rd out j = rd l j := fun h => by rw [hout]; exact half_rd _ _ m l j h
  (try dsimp only [cond_true, cond_false])
  (conv => whnf)
  by_cases hjl : j < l.length
  · have hx1 : (rd out j).length ≤ 10000000000 := by rw [hrd hjl]; exact hx j hjl
    have hq : ∀ k, callE PR C (k + 1) 167 [.h 1000000 0 0 [] 2 0 ((rd out j).map rItem).length, i64 n] [.tree 8 (.sl 2 ((rd out j).map rItem))] = some ⟨i64 (n + 2 * (rd out j).length), [], [some (.tree 8 (.sl 2 ((marks mItem wItem n (rd out j)).map rItem)))]⟩ := by
      intro k
      rw [List.length_map]
      exact ok_laws_markItemS8 k (rd out j) n (by omega) (by omega) (by omega)
    repeat' ((with_reducible (first | refine sCall.of (hq _) ?_|refine st16 ?_|refine fG.split (fun _ => ?_) (fun _ => ?_)|refine fG.bool (fun _ => ?_) (fun _ => ?_))) <;> (try (conv => whnf)))
    refine ⟨⟨⟨j + 1, n + 2 * (rd out j).length, out.set j (mItemL n (rd out j)), _, _⟩, fitOk, ?_, ?_⟩⟩
    · have e := wts_take wItemL l j hjl
      refine ⟨by show j + 1 ≤ _; omega, ?_, ?_⟩
      · show _ = _
        rw [← half_set _ _ m l j hjl, hrd hjl, hout, hn]
      · show _ = _
        rw [e, hrd hjl]
        simp only [wItemL]
        omega
    · show l.length - (j + 1) < l.length - j; omega
  · have : j = l.length := by omega
    repeat' ((with_reducible (first | refine st16 ?_|refine fG.split (fun _ => ?_) (fun _ => ?_)|refine fG.bool (fun _ => ?_) (fun _ => ?_))) <;> (try (conv => whnf)))
    rw [hout, hn, this, half_all, List.take_length]
def mEventL (m : Int) (x : List Event) : List Event := marks mEvent wEvent m x
def wEventL (x : List Event) : Nat := 3 * x.length
theorem ok_laws_markEventSS (k : Nat) (l : List (List Event)) (m : Int) (hl : l.length ≤ 100000000000) (h0 : 0 ≤ m) (h1 : m + wts wEventL l ≤ 10000000000) (hx : ∀ j : Nat, j < l.length → (rd l j).length ≤ 10000000000) :
    callE PR C (k + 2) 87 [.h 1000000 0 0 [] 1 0 l.length, i64 m] [.tree 9 (.sl 1 (l.map rEventL))] = some ⟨i64 (m + wts wEventL l), [], [some (.tree 9 (.sl 1 ((marks mEventL wEventL m l).map rEventL)))]⟩ := by
  (refine fnI [ResultVar.tmp 4] Tryz.func87 ?_; conv => whnf)
  repeat' ((with_reducible (first | refine st16 ?_|refine fG.split (fun _ => ?_) (fun _ => ?_)|refine fG.bool (fun _ => ?_) (fun _ => ?_))) <;> (try (conv => whnf)))
  refine loop_rule (ι := TM (List Event)) (fun x => [(0, .h 1000000 0 0 [] 1 0 l.length), (1, i64 x.m), (5, i64 (x.j : Nat))])
    (fun x => [(1000000, ⟨0, x.g, x.d, .tree 9 (.sl 1 (x.l.map rEventL))⟩)])
    (fun x => l.length - x.j) (fun x => x.j ≤ l.length ∧ x.l = half mEventL wEventL m l x.j ∧ x.m = m + wts wEventL (l.take x.j)) ⟨0, m, l, 0, false⟩ fitOk ⟨Nat.zero_le _, (half_zero _ _ m l).symm, by simp [wts]⟩ (by simp [C]; omega) ?_
  rintro ⟨j, n, out, g, d⟩ sl ob ⟨hj, hout, hn⟩
  dsimp only at hj hout hn
  have hlen : out.length = l.length := by rw [hout, half_len]
  have hn1 : n ≤ 10000000000 := by have := wts_le wEventL l j; omega
  have hn0 : 0 ≤ n := by omega
  have hrd : j < l.length → rd out j = rd l j := fun h => by rw [hout]; exact half_rd _ _ m l j h
  (try dsimp only [cond_true, cond_false])
  (conv => whnf)
  by_cases hjl : j < l.length
  · have hx1 : (rd out j).length ≤ 10000000000 := by rw [hrd hjl]; exact hx j hjl
    have hq : ∀ k, callE PR C (k + 1) 168 [.h 1000000 0 0 [] 3 0 ((rd out j).map rEvent).length, i64 n] [.tree 8 (.sl 3 ((rd out j).map rEvent))] = some ⟨i64 (n + 3 * (rd out j).length), [], [some (.tree 8 (.sl 3 ((marks mEvent wEvent n (rd out j)).map rEvent)))]⟩ := by
      intro k
      rw [List.length_map]
      exact ok_laws_markEventS8 k (rd out j) n (by omega) (by omega) (by omega)
    repeat' ((with_reducible (first | refine sCall.of (hq _) ?_|refine st16 ?_|refine fG.split (fun _ => ?_) (fun _ => ?_)|refine fG.bool (fun _ => ?_) (fun _ => ?_))) <;> (try (conv => whnf)))
    refine ⟨⟨⟨j + 1, n + 3 * (rd out j).length, out.set j (mEventL n (rd out j)), _, _⟩, fitOk, ?_, ?_⟩⟩
    · have e := wts_take wEventL l j hjl
      refine ⟨by show j + 1 ≤ _; omega, ?_, ?_⟩
      · show _ = _
        rw [← half_set _ _ m l j hjl, hrd hjl, hout, hn]
      · show _ = _
        rw [e, hrd hjl]
        simp only [wEventL]
        omega
    · show l.length - (j + 1) < l.length - j; omega
  · have : j = l.length := by omega
    repeat' ((with_reducible (first | refine st16 ?_|refine fG.split (fun _ => ?_) (fun _ => ?_)|refine fG.bool (fun _ => ?_) (fun _ => ?_))) <;> (try (conv => whnf)))
    rw [hout, hn, this, half_all, List.take_length]

theorem wts_mul {α : Type} (n : Nat) (l : List (List α)) : wts (fun x => n * x.length) l = n * wts List.length l := by
  induction l with
  | nil => rfl
  | cons a l ih => simp only [wts] at ih ⊢; rw [ih, Nat.mul_add]
def mState (m : Int) (x : State) : State := ⟨m, marksI (m + 1) x.regs, marksI (m + 1 + x.regs.length) x.out, m + 1 + x.regs.length + x.out.length⟩
def wState (x : State) : Nat := 2 + x.regs.length + x.out.length
theorem wts_wState (l : List State) : wts wState l = 2 * l.length + wts wSt l := by
  induction l with
  | nil => rfl
  | cons a l ih => simp only [wts, List.length_cons, wState, wSt] at ih ⊢; omega
set_option maxHeartbeats 4000000 in
theorem ok_laws_markStateS (k : Nat) (l : List State) (m : Int) (hl : l.length ≤ 100000000000) (h0 : 0 ≤ m) (h1 : m + wts wState l ≤ 10000000000) (hx : ∀ j : Nat, j < l.length → (rd l j).regs.length ≤ 10000000000 ∧ (rd l j).out.length ≤ 10000000000) :
    callE PR C (k + 2) 85 [.h 1000000 0 0 [] 4 0 l.length, i64 m] [tStateS9 l] = some ⟨i64 (m + wts wState l), [], [some (tStateS9 (marks mState wState m l))]⟩ := by
  (refine fnI [ResultVar.tmp 4] Tryz.func85 ?_; conv => whnf)
  repeat' ((with_reducible (first | refine st16 ?_|refine fG.split (fun _ => ?_) (fun _ => ?_)|refine fG.bool (fun _ => ?_) (fun _ => ?_))) <;> (try (conv => whnf)))
  refine loop_rule (ι := TM State) (fun x => [(0, .h 1000000 0 0 [] 4 0 l.length), (1, i64 x.m), (5, i64 (x.j : Nat))])
    (fun x => [(1000000, ⟨0, x.g, x.d, tStateS9 x.l⟩)])
    (fun x => l.length - x.j) (fun x => x.j ≤ l.length ∧ x.l = half mState wState m l x.j ∧ x.m = m + wts wState (l.take x.j)) ⟨0, m, l, 0, false⟩ fitOk ⟨Nat.zero_le _, (half_zero _ _ m l).symm, by simp [wts]⟩ (by simp [C]; omega) ?_
  rintro ⟨j, n, out, g, d⟩ sl ob ⟨hj, hout, hn⟩
  dsimp only at hj hout hn
  have hlen : out.length = l.length := by rw [hout, half_len]
  have hn1 : n ≤ 10000000000 := by have := wts_le wState l j; omega
  have hn0 : 0 ≤ n := by omega
  have hrd : j < l.length → rd out j = rd l j := fun h => by rw [hout]; exact half_rd _ _ m l j h
  have hx' : j < l.length → (rd out j).regs.length ≤ 10000000000 ∧ (rd out j).out.length ≤ 10000000000 := fun h => by rw [hrd h]; exact hx j h
  (try dsimp only [cond_true, cond_false])
  (conv => whnf)
  by_cases hjl : j < l.length
  · have hx1 := (hx' hjl).1
    have hx2 := (hx' hjl).2
    have hq1 := fun k => ok_laws_markIntS' k (rd out j).regs (n + 1) (by omega) (by omega) (by omega)
    have hq2 := fun k => ok_laws_markIntS' k (rd out j).out (n + 1 + (rd out j).regs.length) (by omega) (by omega) (by omega)
    repeat' ((with_reducible (first | refine sCall.of (hq1 _) ?_|refine sCall.of (hq2 _) ?_|refine st16 ?_|refine fG.split (fun _ => ?_) (fun _ => ?_)|refine fG.bool (fun _ => ?_) (fun _ => ?_))) <;> (try (conv => whnf)))
    refine ⟨⟨⟨j + 1, n + 1 + (rd out j).regs.length + (rd out j).out.length + 1, out.set j (mState n (rd out j)), _, _⟩, fitOk, ?_, ?_⟩⟩
    · have e := wts_take wState l j hjl
      refine ⟨by show j + 1 ≤ _; omega, ?_, ?_⟩
      · show _ = _
        rw [← half_set _ _ m l j hjl, hrd hjl, hout, hn]
      · show _ = _
        rw [e, hrd hjl]
        simp only [wState]
        omega
    · show l.length - (j + 1) < l.length - j; omega
  · have : j = l.length := by omega
    repeat' ((with_reducible (first | refine st16 ?_|refine fG.split (fun _ => ?_) (fun _ => ?_)|refine fG.bool (fun _ => ?_) (fun _ => ?_))) <;> (try (conv => whnf)))
    rw [hout, hn, this, half_all, List.take_length]
def sysW (P : List (List Ins)) (S : List State) (W : List (List Item)) (H : List (List Event)) : Nat := wts wInsL P + (wts wState S + (wts wItemL W + wts wEventL H))
theorem sysW_le (P : List (List Ins)) (S : List State) (W : List (List Item)) (H : List (List Event)) : sysW P S W H ≤ 5 * sysSz P S W H := by
  have h1 : wts wInsL P = 5 * wts List.length P := wts_mul 5 P
  have h2 := wts_wState S
  have h3 : wts wItemL W = 2 * wts List.length W := wts_mul 2 W
  have h4 : wts wEventL H = 3 * wts List.length H := wts_mul 3 H
  unfold sysW sysSz
  omega
def mkP (m : Int) (P : List (List Ins)) : List (List Ins) := marks mInsL wInsL m P
def mkS (m : Int) (P : List (List Ins)) (S : List State) : List State := marks mState wState (m + wts wInsL P) S
def mkW (m : Int) (P : List (List Ins)) (S : List State) (W : List (List Item)) : List (List Item) := marks mItemL wItemL (m + wts wInsL P + wts wState S) W
def mkH (m : Int) (P : List (List Ins)) (S : List State) (W : List (List Item)) (H : List (List Event)) : List (List Event) := marks mEventL wEventL (m + wts wInsL P + wts wState S + wts wItemL W) H
theorem ok_laws_markSys (k : Nat) (P : List (List Ins)) (S : List State) (W : List (List Item)) (H : List (List Event)) (m : Int) (hb : SysB 1048576 P S W H) (h0 : 0 ≤ m) (h1 : m + sysW P S W H ≤ 1000000000) :
    callE PR C (k + 3) 28 [aSys 0 P S W H, i64 m] [tInsSS9 P, tStateS9 S, tItemSS9 W, tEventSS9 H] = some ⟨i64 (m + sysW P S W H), [], [some (tInsSS9 (mkP m P)), some (tStateS9 (mkS m P S)), some (tItemSS9 (mkW m P S W)), some (tEventSS9 (mkH m P S W H))]⟩ := by
  rw [show m + ((sysW P S W H : Nat) : Int) = m + wts wInsL P + wts wState S + wts wItemL W + wts wEventL H by simp only [sysW]; omega]
  unfold sysW at h1
  unfold mkP mkS mkW mkH
  have b1 := hb.p
  have b2 := hb.s
  have b3 := hb.w
  have b4 := hb.h
  have q1 := fun k => ok_laws_markInsSS k P m (by omega) h0 (by omega) (fun j hj => by have := hb.pp j hj; omega)
  have q2 := fun k => ok_laws_markStateS k S (m + wts wInsL P) (by omega) (by omega) (by omega) (fun j hj => by have := hb.ss j hj; omega)
  have q3 := fun k => ok_laws_markItemSS k W (m + wts wInsL P + wts wState S) (by omega) (by omega) (by omega) (fun j hj => by have := hb.ww j hj; omega)
  have q4 := fun k => ok_laws_markEventSS k H (m + wts wInsL P + wts wState S + wts wItemL W) (by omega) (by omega) (by omega) (fun j hj => by have := hb.hh j hj; omega)
  have e1 := marks_len mInsL wInsL P m
  have e2 := marks_len mState wState S (m + wts wInsL P)
  have e3 := marks_len mItemL wItemL W (m + wts wInsL P + wts wState S)
  have e4 := marks_len mEventL wEventL H (m + wts wInsL P + wts wState S + wts wItemL W)
  (refine fnI [ResultVar.tmp 4] Tryz.func28 ?_; conv => whnf)
  repeat' ((with_reducible (first | refine sCall.of (q1 _) ?_|refine sCall.of (q2 _) ?_|refine sCall.of (q3 _) ?_|refine sCall.of (q4 _) ?_|refine st16 ?_|refine fG.split (fun _ => ?_) (fun _ => ?_)|refine fG.bool (fun _ => ?_) (fun _ => ?_))) <;> (try (conv => whnf)))

theorem gBeq {a b : Bool} {A B : Prop} (h : B) (e : a = b := by with_reducible assumption) : fG (!(a == b)) A B := by subst e; cases a <;> exact h
theorem ok_laws_heldInsS (k : Nat) (x l : List Ins) (m : Int) (hl : l.length ≤ 1000000000) (h0 : 0 ≤ m) (h1 : m ≤ 10000000000) (e : x = marks mIns wIns m l) : callE PR C (k + 1) 188 [.h 1000000 0 0 [] 5 0 x.length, i64 m] [.tree 0 (.sl 5 (x.map rIns))] = some ⟨i64 (m + 5 * l.length), [], [none]⟩ := by
  have hxl : x.length = l.length := by rw [e, marks_len]
  (refine fnI [ResultVar.tmp 4] Tryz.func188 ?_; conv => whnf)
  repeat' ((with_reducible (first | refine st16 ?_|refine fG.split (fun _ => ?_) (fun _ => ?_)|refine fG.bool (fun _ => ?_) (fun _ => ?_))) <;> (try (conv => whnf)))
  refine loop_rule (ι := TH) (fun z => [(0, .h 1000000 0 0 [] 5 0 x.length), (1, i64 z.m), (5, i64 (z.j : Nat))])
    (fun z => [(1000000, ⟨0, 0, false, .tree 0 (.sl 5 (x.map rIns))⟩)])
    (fun z => l.length - z.j) (fun z => z.j ≤ l.length ∧ z.m = m + 5 * z.j) ⟨0, m⟩ fitOk ⟨Nat.zero_le _, by simp⟩ (by simp [C]; omega) ?_
  rintro ⟨j, n⟩ sl ob ⟨hj, hn⟩
  dsimp only at hj hn
  (try dsimp only [cond_true, cond_false])
  (conv => whnf)
  by_cases hjl : j < l.length
  · have hr : rd x j = mIns n (rd l j) := by
      rw [e, marks_rd _ _ _ _ _ hjl, wts_wIns, List.length_take, hn]
      rw [show min j l.length = j by omega]
      simp
    have hr1 : (rd x j).op = n := by rw [hr]; rfl
    have hr2 : (rd x j).r = n + 1 := by rw [hr]; rfl
    have hr3 : (rd x j).a = n + 1 + 1 := by rw [hr]; rfl
    have hr4 : (rd x j).b = n + 1 + 1 + 1 := by rw [hr]; rfl
    have hr5 : (rd x j).n = n + 1 + 1 + 1 + 1 := by rw [hr]; rfl
    clear hr e
    repeat' ((with_reducible (first | refine st16 ?_|refine fG.split (fun _ => ?_) (fun _ => ?_)|refine fG.bool (fun _ => ?_) (fun _ => ?_))) <;> (try (conv => whnf)))
    refine ⟨⟨⟨j + 1, n + 1 + 1 + 1 + 1 + 1⟩, fitOk, ?_, ?_⟩⟩
    · exact ⟨by show j + 1 ≤ _; omega, by show _ = _; push_cast; omega⟩
    · show l.length - (j + 1) < l.length - j; omega
  · have : j = l.length := by omega
    repeat' ((with_reducible (first | refine st16 ?_|refine fG.split (fun _ => ?_) (fun _ => ?_)|refine fG.bool (fun _ => ?_) (fun _ => ?_))) <;> (try (conv => whnf)))
    rw [hn, this]
theorem ok_laws_heldItemS (k : Nat) (x l : List Item) (m : Int) (hl : l.length ≤ 1000000000) (h0 : 0 ≤ m) (h1 : m ≤ 10000000000) (e : x = marks mItem wItem m l) : callE PR C (k + 1) 189 [.h 1000000 0 0 [] 2 0 x.length, i64 m] [.tree 0 (.sl 2 (x.map rItem))] = some ⟨i64 (m + 2 * l.length), [], [none]⟩ := by
  have hxl : x.length = l.length := by rw [e, marks_len]
  (refine fnI [ResultVar.tmp 4] Tryz.func189 ?_; conv => whnf)
  repeat' ((with_reducible (first | refine st16 ?_|refine fG.split (fun _ => ?_) (fun _ => ?_)|refine fG.bool (fun _ => ?_) (fun _ => ?_))) <;> (try (conv => whnf)))
  refine loop_rule (ι := TH) (fun z => [(0, .h 1000000 0 0 [] 2 0 x.length), (1, i64 z.m), (5, i64 (z.j : Nat))])
    (fun z => [(1000000, ⟨0, 0, false, .tree 0 (.sl 2 (x.map rItem))⟩)])
    (fun z => l.length - z.j) (fun z => z.j ≤ l.length ∧ z.m = m + 2 * z.j) ⟨0, m⟩ fitOk ⟨Nat.zero_le _, by simp⟩ (by simp [C]; omega) ?_
  rintro ⟨j, n⟩ sl ob ⟨hj, hn⟩
  dsimp only at hj hn
  (try dsimp only [cond_true, cond_false])
  (conv => whnf)
  by_cases hjl : j < l.length
  · have hr : rd x j = mItem n (rd l j) := by
      rw [e, marks_rd _ _ _ _ _ hjl, wts_wItem, List.length_take, hn]
      rw [show min j l.length = j by omega]
      simp
    have hr1 : (rd x j).mark = decide (Int.tmod (n) 3 = 0) := by rw [hr]; rfl
    have hr2 : (rd x j).v = n + 1 := by rw [hr]; rfl
    clear hr e
    have hz : n.tmod 3 = n.tmod 3 := rfl
    repeat' ((with_reducible (first | refine sZ.eq (hz) ?_|refine gBeq ?_|refine st16 ?_|refine fG.split (fun _ => ?_) (fun _ => ?_)|refine fG.bool (fun _ => ?_) (fun _ => ?_))) <;> (try (conv => whnf)))
    refine ⟨⟨⟨j + 1, n + 1 + 1⟩, fitOk, ?_, ?_⟩⟩
    · exact ⟨by show j + 1 ≤ _; omega, by show _ = _; push_cast; omega⟩
    · show l.length - (j + 1) < l.length - j; omega
  · have : j = l.length := by omega
    repeat' ((with_reducible (first | refine st16 ?_|refine fG.split (fun _ => ?_) (fun _ => ?_)|refine fG.bool (fun _ => ?_) (fun _ => ?_))) <;> (try (conv => whnf)))
    rw [hn, this]
theorem ok_laws_heldEventS (k : Nat) (x l : List Event) (m : Int) (hl : l.length ≤ 1000000000) (h0 : 0 ≤ m) (h1 : m ≤ 10000000000) (e : x = marks mEvent wEvent m l) : callE PR C (k + 1) 190 [.h 1000000 0 0 [] 3 0 x.length, i64 m] [.tree 0 (.sl 3 (x.map rEvent))] = some ⟨i64 (m + 3 * l.length), [], [none]⟩ := by
  have hxl : x.length = l.length := by rw [e, marks_len]
  (refine fnI [ResultVar.tmp 4] Tryz.func190 ?_; conv => whnf)
  repeat' ((with_reducible (first | refine st16 ?_|refine fG.split (fun _ => ?_) (fun _ => ?_)|refine fG.bool (fun _ => ?_) (fun _ => ?_))) <;> (try (conv => whnf)))
  refine loop_rule (ι := TH) (fun z => [(0, .h 1000000 0 0 [] 3 0 x.length), (1, i64 z.m), (5, i64 (z.j : Nat))])
    (fun z => [(1000000, ⟨0, 0, false, .tree 0 (.sl 3 (x.map rEvent))⟩)])
    (fun z => l.length - z.j) (fun z => z.j ≤ l.length ∧ z.m = m + 3 * z.j) ⟨0, m⟩ fitOk ⟨Nat.zero_le _, by simp⟩ (by simp [C]; omega) ?_
  rintro ⟨j, n⟩ sl ob ⟨hj, hn⟩
  dsimp only at hj hn
  (try dsimp only [cond_true, cond_false])
  (conv => whnf)
  by_cases hjl : j < l.length
  · have hr : rd x j = mEvent n (rd l j) := by
      rw [e, marks_rd _ _ _ _ _ hjl, wts_wEvent, List.length_take, hn]
      rw [show min j l.length = j by omega]
      simp
    have hr1 : (rd x j).kind = n := by rw [hr]; rfl
    have hr2 : (rd x j).peer = n + 1 := by rw [hr]; rfl
    have hr3 : (rd x j).v = n + 1 + 1 := by rw [hr]; rfl
    clear hr e
    repeat' ((with_reducible (first | refine st16 ?_|refine fG.split (fun _ => ?_) (fun _ => ?_)|refine fG.bool (fun _ => ?_) (fun _ => ?_))) <;> (try (conv => whnf)))
    refine ⟨⟨⟨j + 1, n + 1 + 1 + 1⟩, fitOk, ?_, ?_⟩⟩
    · exact ⟨by show j + 1 ≤ _; omega, by show _ = _; push_cast; omega⟩
    · show l.length - (j + 1) < l.length - j; omega
  · have : j = l.length := by omega
    repeat' ((with_reducible (first | refine st16 ?_|refine fG.split (fun _ => ?_) (fun _ => ?_)|refine fG.bool (fun _ => ?_) (fun _ => ?_))) <;> (try (conv => whnf)))
    rw [hn, this]
theorem ok_laws_heldInsSS (k : Nat) (x l : List (List Ins)) (m : Int) (hl : l.length ≤ 1000000000) (h0 : 0 ≤ m) (h1 : m + wts wInsL l ≤ 10000000000) (hx : ∀ j : Nat, j < l.length → (rd l j).length ≤ 1000000000) (e : x = marks mInsL wInsL m l) :
    callE PR C (k + 2) 98 [.h 1000000 0 0 [] 1 0 x.length, i64 m] [.tree 0 (.sl 1 (x.map rInsL))] = some ⟨i64 (m + wts wInsL l), [], [none]⟩ := by
  have hxl : x.length = l.length := by rw [e, marks_len]
  (refine fnI [ResultVar.tmp 4] Tryz.func98 ?_; conv => whnf)
  repeat' ((with_reducible (first | refine st16 ?_|refine fG.split (fun _ => ?_) (fun _ => ?_)|refine fG.bool (fun _ => ?_) (fun _ => ?_))) <;> (try (conv => whnf)))
  refine loop_rule (ι := TH) (fun z => [(0, .h 1000000 0 0 [] 1 0 x.length), (1, i64 z.m), (5, i64 (z.j : Nat))])
    (fun z => [(1000000, ⟨0, 0, false, .tree 0 (.sl 1 (x.map rInsL))⟩)])
    (fun z => l.length - z.j) (fun z => z.j ≤ l.length ∧ z.m = m + wts wInsL (l.take z.j)) ⟨0, m⟩ fitOk ⟨Nat.zero_le _, by simp [wts]⟩ (by simp [C]; omega) ?_
  rintro ⟨j, n⟩ sl ob ⟨hj, hn⟩
  dsimp only at hj hn
  have hn1 : n ≤ 10000000000 := by have := wts_le wInsL l j; omega
  (try dsimp only [cond_true, cond_false])
  (conv => whnf)
  by_cases hjl : j < l.length
  · have hr : rd x j = marks mIns wIns n (rd l j) := by rw [e, marks_rd _ _ _ _ _ hjl, hn]; rfl
    have hln : (rd x j).length = (rd l j).length := by rw [hr, marks_len]
    have hw := wts_take wInsL l j hjl
    have hw2 := wts_le wInsL l (j + 1)
    have hwj : wInsL (rd l j) = 5 * (rd l j).length := rfl
    have hq := fun k => ok_laws_heldInsS k (rd x j) (rd l j) n (hx j hjl) (by omega) hn1 hr
    clear hr e
    repeat' ((with_reducible (first | refine sCall.of (hq _) ?_|refine st16 ?_|refine fG.split (fun _ => ?_) (fun _ => ?_)|refine fG.bool (fun _ => ?_) (fun _ => ?_))) <;> (try (conv => whnf)))
    refine ⟨⟨⟨j + 1, n + 5 * (rd l j).length⟩, fitOk, ?_, ?_⟩⟩
    · exact ⟨by show j + 1 ≤ _; omega, by show _ = _; rw [hw, hwj]; push_cast; omega⟩
    · show l.length - (j + 1) < l.length - j; omega
  · have : j = l.length := by omega
    repeat' ((with_reducible (first | refine st16 ?_|refine fG.split (fun _ => ?_) (fun _ => ?_)|refine fG.bool (fun _ => ?_) (fun _ => ?_))) <;> (try (conv => whnf)))
    rw [hn, this, List.take_length]
theorem ok_laws_heldItemSS (k : Nat) (x l : List (List Item)) (m : Int) (hl : l.length ≤ 1000000000) (h0 : 0 ≤ m) (h1 : m + wts wItemL l ≤ 10000000000) (hx : ∀ j : Nat, j < l.length → (rd l j).length ≤ 1000000000) (e : x = marks mItemL wItemL m l) :
    callE PR C (k + 2) 100 [.h 1000000 0 0 [] 1 0 x.length, i64 m] [.tree 0 (.sl 1 (x.map rItemL))] = some ⟨i64 (m + wts wItemL l), [], [none]⟩ := by
  have hxl : x.length = l.length := by rw [e, marks_len]
  (refine fnI [ResultVar.tmp 4] Tryz.func100 ?_; conv => whnf)
  repeat' ((with_reducible (first | refine st16 ?_|refine fG.split (fun _ => ?_) (fun _ => ?_)|refine fG.bool (fun _ => ?_) (fun _ => ?_))) <;> (try (conv => whnf)))
  refine loop_rule (ι := TH) (fun z => [(0, .h 1000000 0 0 [] 1 0 x.length), (1, i64 z.m), (5, i64 (z.j : Nat))])
    (fun z => [(1000000, ⟨0, 0, false, .tree 0 (.sl 1 (x.map rItemL))⟩)])
    (fun z => l.length - z.j) (fun z => z.j ≤ l.length ∧ z.m = m + wts wItemL (l.take z.j)) ⟨0, m⟩ fitOk ⟨Nat.zero_le _, by simp [wts]⟩ (by simp [C]; omega) ?_
  rintro ⟨j, n⟩ sl ob ⟨hj, hn⟩
  dsimp only at hj hn
  have hn1 : n ≤ 10000000000 := by have := wts_le wItemL l j; omega
  (try dsimp only [cond_true, cond_false])
  (conv => whnf)
  by_cases hjl : j < l.length
  · have hr : rd x j = marks mItem wItem n (rd l j) := by rw [e, marks_rd _ _ _ _ _ hjl, hn]; rfl
    have hln : (rd x j).length = (rd l j).length := by rw [hr, marks_len]
    have hw := wts_take wItemL l j hjl
    have hw2 := wts_le wItemL l (j + 1)
    have hwj : wItemL (rd l j) = 2 * (rd l j).length := rfl
    have hq := fun k => ok_laws_heldItemS k (rd x j) (rd l j) n (hx j hjl) (by omega) hn1 hr
    clear hr e
    repeat' ((with_reducible (first | refine sCall.of (hq _) ?_|refine st16 ?_|refine fG.split (fun _ => ?_) (fun _ => ?_)|refine fG.bool (fun _ => ?_) (fun _ => ?_))) <;> (try (conv => whnf)))
    refine ⟨⟨⟨j + 1, n + 2 * (rd l j).length⟩, fitOk, ?_, ?_⟩⟩
    · exact ⟨by show j + 1 ≤ _; omega, by show _ = _; rw [hw, hwj]; push_cast; omega⟩
    · show l.length - (j + 1) < l.length - j; omega
  · have : j = l.length := by omega
    repeat' ((with_reducible (first | refine st16 ?_|refine fG.split (fun _ => ?_) (fun _ => ?_)|refine fG.bool (fun _ => ?_) (fun _ => ?_))) <;> (try (conv => whnf)))
    rw [hn, this, List.take_length]
theorem ok_laws_heldEventSS (k : Nat) (x l : List (List Event)) (m : Int) (hl : l.length ≤ 1000000000) (h0 : 0 ≤ m) (h1 : m + wts wEventL l ≤ 10000000000) (hx : ∀ j : Nat, j < l.length → (rd l j).length ≤ 1000000000) (e : x = marks mEventL wEventL m l) :
    callE PR C (k + 2) 101 [.h 1000000 0 0 [] 1 0 x.length, i64 m] [.tree 0 (.sl 1 (x.map rEventL))] = some ⟨i64 (m + wts wEventL l), [], [none]⟩ := by
  have hxl : x.length = l.length := by rw [e, marks_len]
  (refine fnI [ResultVar.tmp 4] Tryz.func101 ?_; conv => whnf)
  repeat' ((with_reducible (first | refine st16 ?_|refine fG.split (fun _ => ?_) (fun _ => ?_)|refine fG.bool (fun _ => ?_) (fun _ => ?_))) <;> (try (conv => whnf)))
  refine loop_rule (ι := TH) (fun z => [(0, .h 1000000 0 0 [] 1 0 x.length), (1, i64 z.m), (5, i64 (z.j : Nat))])
    (fun z => [(1000000, ⟨0, 0, false, .tree 0 (.sl 1 (x.map rEventL))⟩)])
    (fun z => l.length - z.j) (fun z => z.j ≤ l.length ∧ z.m = m + wts wEventL (l.take z.j)) ⟨0, m⟩ fitOk ⟨Nat.zero_le _, by simp [wts]⟩ (by simp [C]; omega) ?_
  rintro ⟨j, n⟩ sl ob ⟨hj, hn⟩
  dsimp only at hj hn
  have hn1 : n ≤ 10000000000 := by have := wts_le wEventL l j; omega
  (try dsimp only [cond_true, cond_false])
  (conv => whnf)
  by_cases hjl : j < l.length
  · have hr : rd x j = marks mEvent wEvent n (rd l j) := by rw [e, marks_rd _ _ _ _ _ hjl, hn]; rfl
    have hln : (rd x j).length = (rd l j).length := by rw [hr, marks_len]
    have hw := wts_take wEventL l j hjl
    have hw2 := wts_le wEventL l (j + 1)
    have hwj : wEventL (rd l j) = 3 * (rd l j).length := rfl
    have hq := fun k => ok_laws_heldEventS k (rd x j) (rd l j) n (hx j hjl) (by omega) hn1 hr
    clear hr e
    repeat' ((with_reducible (first | refine sCall.of (hq _) ?_|refine st16 ?_|refine fG.split (fun _ => ?_) (fun _ => ?_)|refine fG.bool (fun _ => ?_) (fun _ => ?_))) <;> (try (conv => whnf)))
    refine ⟨⟨⟨j + 1, n + 3 * (rd l j).length⟩, fitOk, ?_, ?_⟩⟩
    · exact ⟨by show j + 1 ≤ _; omega, by show _ = _; rw [hw, hwj]; push_cast; omega⟩
    · show l.length - (j + 1) < l.length - j; omega
  · have : j = l.length := by omega
    repeat' ((with_reducible (first | refine st16 ?_|refine fG.split (fun _ => ?_) (fun _ => ?_)|refine fG.bool (fun _ => ?_) (fun _ => ?_))) <;> (try (conv => whnf)))
    rw [hn, this, List.take_length]
set_option maxHeartbeats 4000000 in
theorem ok_laws_heldStateS (k : Nat) (x l : List State) (m : Int) (hl : l.length ≤ 1000000000) (h0 : 0 ≤ m) (h1 : m + wts wState l ≤ 10000000000) (hx : ∀ j : Nat, j < l.length → (rd l j).regs.length ≤ 1000000000 ∧ (rd l j).out.length ≤ 1000000000) (e : x = marks mState wState m l) :
    callE PR C (k + 2) 99 [.h 1000000 0 0 [] 4 0 x.length, i64 m] [tStateS x] = some ⟨i64 (m + wts wState l), [], [none]⟩ := by
  have hxl : x.length = l.length := by rw [e, marks_len]
  (refine fnI [ResultVar.tmp 4] Tryz.func99 ?_; conv => whnf)
  repeat' ((with_reducible (first | refine st16 ?_|refine fG.split (fun _ => ?_) (fun _ => ?_)|refine fG.bool (fun _ => ?_) (fun _ => ?_))) <;> (try (conv => whnf)))
  refine loop_rule (ι := TH) (fun z => [(0, .h 1000000 0 0 [] 4 0 x.length), (1, i64 z.m), (5, i64 (z.j : Nat))])
    (fun z => [(1000000, ⟨0, 0, false, tStateS x⟩)])
    (fun z => l.length - z.j) (fun z => z.j ≤ l.length ∧ z.m = m + wts wState (l.take z.j)) ⟨0, m⟩ fitOk ⟨Nat.zero_le _, by simp [wts]⟩ (by simp [C]; omega) ?_
  rintro ⟨j, n⟩ sl ob ⟨hj, hn⟩
  dsimp only at hj hn
  have hn1 : n ≤ 10000000000 := by have := wts_le wState l j; omega
  (try dsimp only [cond_true, cond_false])
  (conv => whnf)
  by_cases hjl : j < l.length
  · have hx1 := (hx j hjl).1
    have hx2 := (hx j hjl).2
    have hw := wts_take wState l j hjl
    have hw2 := wts_le wState l (j + 1)
    have er : rd x j = mState n (rd l j) := by rw [e, hn]; exact marks_rd _ _ m l j hjl
    have e2 : (rd x j).at_ = n := by rw [er]; rfl
    have e3 : (rd x j).regs = marksI (n + 1) (rd l j).regs := by rw [er]; rfl
    have e4 : (rd x j).out = marksI (n + 1 + (rd x j).regs.length) (rd l j).out := by rw [e3, marksI_len, er]; rfl
    have l1 : (rd x j).regs.length = (rd l j).regs.length := by rw [e3, marksI_len]
    have l2 : (rd x j).out.length = (rd l j).out.length := by rw [e4, marksI_len]
    have e5 : (rd x j).code = n + 1 + (rd x j).regs.length + (rd x j).out.length := by rw [l1, l2, er]; rfl
    have hwj : wState (rd l j) = 2 + (rd x j).regs.length + (rd x j).out.length := by rw [l1, l2]; rfl
    have hq1 := fun k => ok_laws_heldIntS k (rd x j).regs (n + 1) (by omega) (by omega) (by omega) (fun i hi => by rw [e3] at hi ⊢; exact marksI_rd _ _ i hi)
    have hq2 := fun k => ok_laws_heldIntS k (rd x j).out (n + 1 + (rd x j).regs.length) (by omega) (by omega) (by omega) (fun i hi => by rw [e4] at hi ⊢; exact marksI_rd _ _ i hi)
    clear e3 e4 er e
    repeat' ((with_reducible (first | refine sCall.of (hq1 _) ?_|refine sCall.of (hq2 _) ?_|refine st16 ?_|refine fG.split (fun _ => ?_) (fun _ => ?_)|refine fG.bool (fun _ => ?_) (fun _ => ?_))) <;> (try (conv => whnf)))
    refine ⟨⟨⟨j + 1, n + 1 + (rd x j).regs.length + (rd x j).out.length + 1⟩, fitOk, ?_, ?_⟩⟩
    · exact ⟨by show j + 1 ≤ _; omega, by show _ = _; rw [hw, hwj]; push_cast; omega⟩
    · show l.length - (j + 1) < l.length - j; omega
  · have : j = l.length := by omega
    repeat' ((with_reducible (first | refine st16 ?_|refine fG.split (fun _ => ?_) (fun _ => ?_)|refine fG.bool (fun _ => ?_) (fun _ => ?_))) <;> (try (conv => whnf)))
    rw [hn, this, List.take_length]
theorem ok_laws_heldSys (k : Nat) (P : List (List Ins)) (S : List State) (W : List (List Item)) (H : List (List Event)) (P' : List (List Ins)) (S' : List State) (W' : List (List Item)) (H' : List (List Event)) (m : Int) (hb : SysB 1000000000 P S W H) (h0 : 0 ≤ m) (h1 : m + sysW P S W H ≤ 10000000000)
    (e1 : P' = mkP m P) (e2 : S' = mkS m P S) (e3 : W' = mkW m P S W) (e4 : H' = mkH m P S W H) :
    callE PR C (k + 3) 37 [aSys 0 P' S' W' H', i64 m] [tInsSS P', tStateS S', tItemSS W', tEventSS H'] = some ⟨i64 (m + sysW P S W H), [], [none, none, none, none]⟩ := by
  rw [show m + ((sysW P S W H : Nat) : Int) = m + wts wInsL P + wts wState S + wts wItemL W + wts wEventL H by simp only [sysW]; omega]
  unfold sysW at h1
  have b1 := hb.p
  have b2 := hb.s
  have b3 := hb.w
  have b4 := hb.h
  have q1 := fun k => ok_laws_heldInsSS k P' P m (by omega) h0 (by omega) hb.pp e1
  have q2 := fun k => ok_laws_heldStateS k S' S (m + wts wInsL P) (by omega) (by omega) (by omega) hb.ss e2
  have q3 := fun k => ok_laws_heldItemSS k W' W (m + wts wInsL P + wts wState S) (by omega) (by omega) (by omega) hb.ww e3
  have q4 := fun k => ok_laws_heldEventSS k H' H (m + wts wInsL P + wts wState S + wts wItemL W) (by omega) (by omega) (by omega) hb.hh e4
  clear e1 e2 e3 e4
  (refine fnI [ResultVar.tmp 4] Tryz.func37 ?_; conv => whnf)
  repeat' ((with_reducible (first | refine sCall.of (q1 _) ?_|refine sCall.of (q2 _) ?_|refine sCall.of (q3 _) ?_|refine sCall.of (q4 _) ?_|refine st16 ?_|refine fG.split (fun _ => ?_) (fun _ => ?_)|refine fG.bool (fun _ => ?_) (fun _ => ?_))) <;> (try (conv => whnf)))

end Go.Proofs.YtlobpiebphnkiaaGreat.Abs
namespace Go.Proofs.YtlobpiebphnkiaaGreat.Abs
open Go Go.Proofs
set_option linter.unusedVariables false
set_option linter.unusedSimpArgs false
attribute [local irreducible] callE
structure SysG (X : Sys) : Prop where
  b : SysB 1048576 X.progs X.states X.ways X.hist
  w : sysW X.progs X.states X.ways X.hist ≤ 500000000
theorem sysG_empty : SysG ⟨[], [], [], []⟩ := by
  refine ⟨⟨by simp, fun j hj => by simp at hj, by simp, fun j hj => by simp at hj, by simp, fun j hj => by simp at hj, by simp, fun j hj => by simp at hj⟩, by simp [sysW, wts]⟩
theorem sysG_self (P : List (List Ins)) (S : List State) (W : List (List Item)) (H : List (List Event)) (h : sysSz P S W H ≤ 1048576) : SysG ⟨P, S, W, H⟩ := by
  have := sysW_le P S W H
  exact ⟨sysB_of h, by show sysW P S W H ≤ _; omega⟩
theorem sysG_of {X : Sys} (hB : SysB 1048576 X.progs X.states X.ways X.hist) (n1 : X.progs.length ≤ 4) (n2 : X.states.length ≤ 4) (n3 : X.ways.length ≤ 16) (n4 : X.hist.length ≤ 4) : SysG X := by
  refine ⟨hB, ?_⟩
  have h1 := wts_bound wInsL 5242880 X.progs fun j hj => by have := hB.pp j hj; unfold wInsL; omega
  have h2 := wts_bound wState 2097154 X.states fun j hj => by have := hB.ss j hj; unfold wState; omega
  have h3 := wts_bound wItemL 2097152 X.ways fun j hj => by have := hB.ww j hj; unfold wItemL; omega
  have h4 := wts_bound wEventL 3145728 X.hist fun j hj => by have := hB.hh j hj; unfold wEventL; omega
  unfold sysW
  omega
end Go.Proofs.YtlobpiebphnkiaaGreat.Abs
namespace Go.Proofs.YtlobpiebphnkiaaGreat.Abs
open Go Go.Proofs
set_option linter.unusedVariables false
set_option linter.unusedSimpArgs false
attribute [local irreducible] callE
abbrev tBool (l : List Bool) : Cont := .tree 0 (.sl 1 (l.map rBool))
abbrev tBool9 (l : List Bool) : Cont := .tree 9 (.sl 1 (l.map rBool))
abbrev tIntSS (l : List (List Int)) : Cont := .tree 0 (.sl 1 (l.map rIntL))
abbrev tIntSS9 (l : List (List Int)) : Cont := .tree 9 (.sl 1 (l.map rIntL))
theorem set_rIntL (l : List (List Int)) (n : Nat) (x : List Int) : (l.map rIntL).set n [.sl 1 (x.map rI)] = (l.set n x).map rIntL := by simp [rIntL, List.map_set]
theorem rep_rIntL (n : Nat) : List.replicate n [T.sl 1 []] = (List.replicate n (default : List Int)).map rIntL := by simp [rIntL, default, instInhabitedList]
theorem gI17 {p A : Prop} (h : A) (e : p := by first | with_reducible assumption | omega | (simp only [Nat.zero_add, Nat.add_zero, Nat.sub_zero, Int.toNat_natCast, Int.toNat_zero, Int.toNat_one, List.length_map, List.length_nil, Int.reduceToNat, Nat.reduceAdd, Nat.reduceSub, Int.sub_zero, Int.reduceAdd, Int.reduceSub, Nat.sub_self, Int.toNat_natCast_add_one, marks_len, bs_len, List.length_append, List.length_cons, List.length_set, List.length_replicate, List.length_range]; first | done | omega)) : sI p A := sI.mk e h
theorem gNum17 {r r' : Nat} {F : Nat → Prop} (h : F r') (e : r = r' := by first | (simp only [Nat.zero_add, Nat.add_zero, Nat.sub_zero, Int.toNat_natCast, Int.toNat_zero, Int.toNat_one, List.length_map, List.length_nil, Int.reduceToNat, Nat.reduceAdd, Nat.reduceSub, Int.sub_zero, Int.reduceAdd, Int.reduceSub, Nat.sub_self, Int.toNat_natCast_add_one, marks_len, bs_len]; rfl) | rfl) : sN r F := sN.eq e h
theorem gRow17 {r r' : List (List T)} {F : List (List T) → Prop} (h : F r') (e : r = r' := by first | (simp only [Nat.add_zero, Nat.zero_add, Nat.reduceAdd, List.drop_zero, List.take_succ_cons, List.take_nil, List.drop_succ_cons, List.drop_nil, List.take_zero, List.nil_append, List.append_nil, List.map_nil, drop_suf, take_pre, drop_map, List.take_length, take_len_set, take_len_app, List.set_set, List.length_map, set_rIntL, rep_rIntL, snoc_rItem, snoc_rInsL, snoc_rItemL, snoc_rEventL, snoc_rState, set_rWho, rep_rWho, snoc_rWho, set_rState, rep_rState, set_rInsL, rep_rInsL, set_rItemL, rep_rItemL, set_rEventL, rep_rEventL, set_rItem, rep_rItem, rep_rKept, marks_take, set_rKept, set_rIns, rep_rIns, set_rEvent, rep_rEvent, snoc_rKept, snoc_rEvent, snoc_rIns, bytesT_bs, snoc_rI, snoc_rB, snoc_rBool, set_rI, set_rBool, rep_rI, rep_rBool, map_app]; rfl) | rfl) : sR r F := sR.eq e h
theorem gRf5 {b : Bool} {A : Prop} (h : A) (e : b = true := by first | exact Nat.beq_refl _ | exact wide_map (fun _ => rfl) _ | exact full_map (fun _ => rfl) _ | exact full_map (fun x => full_rKept x) _ | exact full_map (fun x => full_rInsL x) _ | exact full_map (fun x => full_rItemL x) _ | exact full_map (fun x => full_rEventL x) _ | exact full_map (fun x => full_rState x) _ | exact full_map (fun x => full_rIntL x) _ | exact full_map (fun x => full_rIntL x) _ | rfl | (simp only [full_map, wide_map]; done)) : fB b A := fB.of e h
theorem st17 {P Q : Prop} (h : Q) (e : Q → P := by with_reducible first | exact fun h => gP h | exact fun h => gN h | exact fun h => fG.not h | exact fun h => gY h | exact fun h => gF h | exact fun h => fG.yes (flat_map (fun _ => rfl) _) h | exact fun h => gS64 h | exact fun h => gU8 h | exact fun h => gI17 h | exact fun h => fE.of rfl h | exact fun h => gNum17 h | exact fun h => gSet h | exact fun h => gRd h | exact fun h => gLk h | exact fun h => gRow17 h | exact fun h => gRf5 h) : P := e h
abbrev aLive (j : Nat) (P : List (List Ins)) (S : List State) (W : List (List Item)) (H : List (List Event)) (on : Bool) (cut : List Int) (opn : List Bool) (kept : List (List Int)) : AV :=
  .ag [.h (1000000 + j) 0 0 [] 1 0 P.length, .h (1000001 + j) 0 0 [] 4 0 S.length, .h (1000002 + j) 0 0 [] 1 0 W.length, .h (1000003 + j) 0 0 [] 1 0 H.length, bl on, .h (1000004 + j) 0 0 [] 1 0 cut.length, .h (1000005 + j) 0 0 [] 1 0 opn.length, .h (1000006 + j) 0 0 [] 1 0 kept.length]
abbrev nLive (j : Nat) (P : List (List Ins)) (S : List State) (W : List (List Item)) (H : List (List Event)) (on : Bool) (cut : List Int) (opn : List Bool) (kept : List (List Int)) : AV :=
  .ag [.h (2000000 + j) 1 0 [] 1 0 P.length, .h (2000001 + j) 1 0 [] 4 0 S.length, .h (2000002 + j) 1 0 [] 1 0 W.length, .h (2000003 + j) 1 0 [] 1 0 H.length, bl on, .h (2000004 + j) 1 0 [] 1 0 cut.length, .h (2000005 + j) 1 0 [] 1 0 opn.length, .h (2000006 + j) 1 0 [] 1 0 kept.length]
abbrev aShot (j : Nat) (on : Bool) (cut : List Int) (opn : List Bool) (kept : List (List Int)) : AV :=
  .ag [bl on, .h (1000000 + j) 0 0 [] 1 0 cut.length, .h (1000001 + j) 0 0 [] 1 0 opn.length, .h (1000002 + j) 0 0 [] 1 0 kept.length]
abbrev nShot (j : Nat) (on : Bool) (cut : List Int) (opn : List Bool) (kept : List (List Int)) : AV :=
  .ag [bl on, .h (2000000 + j) 1 0 [] 1 0 cut.length, .h (2000001 + j) 1 0 [] 1 0 opn.length, .h (2000002 + j) 1 0 [] 1 0 kept.length]
theorem ok_laws_szBoolS (k : Nat) (l : List Bool) (m : Int) (h0 : 0 ≤ m) (h1 : m ≤ 1048576) (hl : l.length ≤ 140737488355328) : callE PR C (k + 1) 129 [.h 1000000 0 0 [] 1 0 l.length, i64 m] [tBool l] = some ⟨i64 (left m l.length), [], [none]⟩ := by
  (refine fnI [ResultVar.tmp 4] Tryz.func129 ?_; conv => whnf)
  repeat' ((with_reducible (first | refine st17 ?_|refine fG.split (fun _ => ?_) (fun _ => ?_)|refine fG.bool (fun _ => ?_) (fun _ => ?_))) <;> (try (conv => whnf)))
  all_goals (simp only [left, *, if_true, if_false]; done)
theorem ok_laws_toBoolS (k : Nat) (l : List Bool) (hl : l.length ≤ 100000000000) : callE PR C (k + 1) 138 [.h 1000000 0 0 [] 1 0 l.length] [tBool l] = some ⟨.h 2000000 1 0 [] 1 0 l.length, [tBool9 l], [none]⟩ := by
  (refine fnI [ResultVar.tmp 2] Tryz.func138 ?_; conv => whnf)
  repeat' ((with_reducible (first | refine st17 ?_|refine fG.split (fun _ => ?_) (fun _ => ?_)|refine fG.bool (fun _ => ?_) (fun _ => ?_))) <;> (try (conv => whnf)))
  refine loop_rule (ι := TL Bool) (fun x => [(0, .h 1000000 0 0 [] 1 0 l.length), (3, .h 7 1 0 [] 1 0 l.length), (4, i64 (x.j : Nat))])
    (fun x => [(1000000, ⟨0, 0, false, tBool l⟩), (7, ⟨1, x.g, x.d, tBool9 x.l⟩)])
    (fun x => l.length - x.j) (fun x => x.j ≤ l.length ∧ x.l = fill l x.j) ⟨0, List.replicate l.length false, 0, false⟩ fitOk ⟨Nat.zero_le _, (fill_zero l).symm⟩ (by simp [C]; omega) ?_
  rintro ⟨j, out, g, d⟩ sl ob ⟨hj, hout⟩
  dsimp only at hj hout
  have hlen : out.length = l.length := by rw [hout, fill_len]
  (try dsimp only [cond_true, cond_false])
  (conv => whnf)
  repeat' ((with_reducible (first | refine st17 ?_|refine fG.split (fun _ => ?_) (fun _ => ?_)|refine fG.bool (fun _ => ?_) (fun _ => ?_))) <;> (try (conv => whnf)))
  case' refine_1 h =>
    refine ⟨⟨⟨j + 1, out.set j (rd l j), _, _⟩, fitOk, ?_, ?_⟩⟩
    · exact ⟨by show j + 1 ≤ _; omega, by show _ = _; rw [hout]; exact fill_set l j (by omega)⟩
    · show l.length - (j + 1) < l.length - j; omega
  case refine_2 h =>
    have : j = l.length := by omega
    rw [hout, this, fill_all, List.take_length]
theorem ok_laws_eqBoolS (k : Nat) (l : List Bool) (hl : l.length ≤ 100000000000) : callE PR C (k + 1) 150 [.h 1000000 0 0 [] 1 0 l.length, .h 1000001 0 0 [] 1 0 l.length] [tBool l, tBool l] = some ⟨bl true, [], [none, none]⟩ := by
  (refine fnI [ResultVar.tmp 4] Tryz.func150 ?_; conv => whnf)
  repeat' ((with_reducible (first | refine st17 ?_|refine fG.split (fun _ => ?_) (fun _ => ?_)|refine fG.bool (fun _ => ?_) (fun _ => ?_)|refine gDn 6 ?_)) <;> (try (conv => whnf)))
  refine loop_rule (ι := Nat) (fun j => [(0, .h 1000000 0 0 [] 1 0 l.length), (1, .h 1000001 0 0 [] 1 0 l.length), (5, i64 (j : Nat))])
    (fun x => [(1000000, ⟨0, 0, false, tBool l⟩), (1000001, ⟨0, 0, false, tBool l⟩)])
    (fun j => l.length - j) (fun j => j ≤ l.length) 0 fitOk (Nat.zero_le _) (by simp [C]; omega) ?_
  rintro j sl ob hj
  (try dsimp only [cond_true, cond_false])
  (conv => whnf)
  by_cases hjl : j < l.length
  · cases e : rd l j
    all_goals
      repeat' ((with_reducible (first | refine st17 ?_|refine fG.split (fun _ => ?_) (fun _ => ?_)|refine fG.bool (fun _ => ?_) (fun _ => ?_)|refine gDn 6 ?_)) <;> (try (conv => whnf)))
      all_goals first
        | (exfalso; simp_all; done)
        | (refine ⟨⟨j + 1, fitOk, ?_, ?_⟩⟩
           · show j + 1 ≤ _; omega
           · show l.length - (j + 1) < l.length - j; omega)
  · repeat' ((with_reducible (first | refine st17 ?_|refine fG.split (fun _ => ?_) (fun _ => ?_)|refine fG.bool (fun _ => ?_) (fun _ => ?_)|refine gDn 6 ?_)) <;> (try (conv => whnf)))
theorem ok_laws_szIntSS (k : Nat) (l : List (List Int)) (m : Int) (h0 : 0 ≤ m) (h1 : m ≤ 1048576) (hl : l.length ≤ 140737488355328) (hx : ∀ j : Nat, j < l.length → (rd l j).length ≤ 140737488355328) :
    callE PR C (k + 2) 130 [(.h 1000000 0 0 [] 1 0 l.length), i64 m] [(.tree 0 (.sl 1 (l.map rIntL)))] = some ⟨i64 (left m (l.length + wts List.length l : Nat)), [], [none]⟩ := by
  by_cases c1 : m - l.length < 0
  · rw [show left m (l.length + wts List.length l : Nat) = -1 from by unfold left; rw [if_pos (by omega)]]
    (refine fnI [ResultVar.tmp 4] Tryz.func130 ?_; conv => whnf)
    repeat' ((with_reducible (first | refine st17 ?_|refine fG.split (fun _ => ?_) (fun _ => ?_)|refine fG.bool (fun _ => ?_) (fun _ => ?_))) <;> (try (conv => whnf)))
  · (refine fnI [ResultVar.tmp 4] Tryz.func130 ?_; conv => whnf)
    repeat' ((with_reducible (first | refine st17 ?_|refine fG.split (fun _ => ?_) (fun _ => ?_)|refine fG.bool (fun _ => ?_) (fun _ => ?_))) <;> (try (conv => whnf)))
    refine loop_rule (ι := TH) (fun x => [(0, (.h 1000000 0 0 [] 1 0 l.length)), (1, i64 x.m), (5, i64 (x.j : Nat))])
      (fun x => [(1000000, ⟨0, 0, false, (.tree 0 (.sl 1 (l.map rIntL)))⟩)])
      (fun x => l.length - x.j) (fun x => x.j ≤ l.length ∧ x.m = m - l.length - wts List.length (l.take x.j) ∧ 0 ≤ x.m) ⟨0, m - l.length⟩ fitOk ⟨Nat.zero_le _, by simp [wts], by show 0 ≤ m - (l.length : Int); omega⟩ (by simp [C]; omega) ?_
    rintro ⟨j, n⟩ sl ob ⟨hj, hn, hn0⟩
    dsimp only at hj hn hn0
    have hn1 : n ≤ 1048576 := by omega
    (try dsimp only [cond_true, cond_false])
    (conv => whnf)
    by_cases hjl : j < l.length
    · have hxj := hx j hjl
      have e := wts_take List.length l j hjl
      have e2 := wts_le List.length l (j + 1)
      have hq := fun k => ok_laws_szIntS k (rd l j) n hn0 hn1 hxj
      (try simp only [List.length_map] at e)
      by_cases c2 : n - ((rd l j).length : Int) < 0
      · have e3 : left n ((rd l j).length : Int) = -1 := by unfold left; rw [if_pos c2]
        rw [e3] at hq
        rw [show left m (l.length + wts List.length l : Nat) = -1 from by unfold left; rw [if_pos (by omega)]]
        repeat' ((with_reducible (first | refine sCall.of (hq _) ?_|refine st17 ?_|refine fG.split (fun _ => ?_) (fun _ => ?_)|refine fG.bool (fun _ => ?_) (fun _ => ?_))) <;> (try (conv => whnf)))
      · have e3 : left n ((rd l j).length : Int) = n - ((rd l j).length : Int) := by unfold left; rw [if_neg c2]
        rw [e3] at hq
        repeat' ((with_reducible (first | refine sCall.of (hq _) ?_|refine st17 ?_|refine fG.split (fun _ => ?_) (fun _ => ?_)|refine fG.bool (fun _ => ?_) (fun _ => ?_))) <;> (try (conv => whnf)))
        refine ⟨⟨⟨j + 1, n - ((rd l j).length : Int)⟩, fitOk, ?_, ?_⟩⟩
        · refine ⟨by show j + 1 ≤ _; omega, ?_, by show (0 : Int) ≤ n - ((rd l j).length : Int); omega⟩
          show n - ((rd l j).length : Int) = m - l.length - (wts List.length (l.take (j + 1)) : Nat)
          omega
        · show l.length - (j + 1) < l.length - j; omega
    · have hjj : j = l.length := by omega
      rw [hjj, List.take_length] at hn
      rw [show left m (l.length + wts List.length l : Nat) = n from by unfold left; rw [if_neg (by omega)]; omega]
      repeat' ((with_reducible (first | refine st17 ?_|refine fG.split (fun _ => ?_) (fun _ => ?_)|refine fG.bool (fun _ => ?_) (fun _ => ?_))) <;> (try (conv => whnf)))
theorem ok_laws_toIntSS (k : Nat) (l : List (List Int)) (hl : l.length ≤ 100000000000) (hx : ∀ j : Nat, j < l.length → (rd l j).length ≤ 100000000000) : callE PR C (k + 2) 139 [(.h 1000000 0 0 [] 1 0 l.length)] [(.tree 0 (.sl 1 (l.map rIntL)))] = some ⟨.h 2000000 1 0 [] 1 0 l.length, [(.tree 9 (.sl 1 (l.map rIntL)))], [none]⟩ := by
  (refine fnI [ResultVar.tmp 2] Tryz.func139 ?_; conv => whnf)
  repeat' ((with_reducible (first | refine st17 ?_|refine fG.split (fun _ => ?_) (fun _ => ?_)|refine fG.bool (fun _ => ?_) (fun _ => ?_))) <;> (try (conv => whnf)))
  refine loop_rule (ι := TL (List Int)) (fun x => [(0, (.h 1000000 0 0 [] 1 0 l.length)), (3, .h 7 1 0 [] 1 0 l.length), (4, i64 (x.j : Nat))])
    (fun x => [(1000000, ⟨0, 0, false, (.tree 0 (.sl 1 (l.map rIntL)))⟩), (7, ⟨1, x.g, x.d, .tree 9 (.sl 1 (x.l.map rIntL))⟩)])
    (fun x => l.length - x.j) (fun x => x.j ≤ l.length ∧ x.l = fill l x.j) ⟨0, List.replicate l.length default, 0, false⟩ fitOk ⟨Nat.zero_le _, (fill_zero l).symm⟩ (by simp [C]; omega) ?_
  rintro ⟨j, out, g, d⟩ sl ob ⟨hj, hout⟩
  dsimp only at hj hout
  have hlen : out.length = l.length := by rw [hout, fill_len]
  (try dsimp only [cond_true, cond_false])
  (conv => whnf)
  by_cases hjl : j < l.length
  · have hxj := hx j hjl
    have hq := fun k => ok_laws_toIntS k (rd l j) hxj
    repeat' ((with_reducible (first | refine sCall.of (hq _) ?_|refine st17 ?_|refine fG.split (fun _ => ?_) (fun _ => ?_)|refine fG.bool (fun _ => ?_) (fun _ => ?_))) <;> (try (conv => whnf)))
    refine ⟨⟨⟨j + 1, out.set j (rd l j), _, _⟩, fitOk, ?_, ?_⟩⟩
    · exact ⟨by show j + 1 ≤ _; omega, by show _ = _; rw [hout]; exact fill_set l j (by omega)⟩
    · show l.length - (j + 1) < l.length - j; omega
  · have : j = l.length := by omega
    repeat' ((with_reducible (first | refine st17 ?_|refine fG.split (fun _ => ?_) (fun _ => ?_)|refine fG.bool (fun _ => ?_) (fun _ => ?_))) <;> (try (conv => whnf)))
    rw [hout, this, fill_all, List.take_length]
theorem ok_laws_eqIntSS (k : Nat) (l : List (List Int)) (hl : l.length ≤ 100000000000) (hx : ∀ j : Nat, j < l.length → (rd l j).length ≤ 100000000000) : callE PR C (k + 2) 151 [(.h 1000000 0 0 [] 1 0 l.length), (.h 1000001 0 0 [] 1 0 l.length)] [(.tree 0 (.sl 1 (l.map rIntL))), (.tree 0 (.sl 1 (l.map rIntL)))] = some ⟨bl true, [], [none, none]⟩ := by
  (refine fnI [ResultVar.tmp 4] Tryz.func151 ?_; conv => whnf)
  repeat' ((with_reducible (first | refine st17 ?_|refine fG.split (fun _ => ?_) (fun _ => ?_)|refine fG.bool (fun _ => ?_) (fun _ => ?_)|refine gDn 6 ?_)) <;> (try (conv => whnf)))
  refine loop_rule (ι := Nat) (fun j => [(0, (.h 1000000 0 0 [] 1 0 l.length)), (1, (.h 1000001 0 0 [] 1 0 l.length)), (5, i64 (j : Nat))])
    (fun x => [(1000000, ⟨0, 0, false, (.tree 0 (.sl 1 (l.map rIntL)))⟩), (1000001, ⟨0, 0, false, (.tree 0 (.sl 1 (l.map rIntL)))⟩)])
    (fun j => l.length - j) (fun j => j ≤ l.length) 0 fitOk (Nat.zero_le _) (by simp [C]; omega) ?_
  rintro j sl ob hj
  (try dsimp only [cond_true, cond_false])
  (conv => whnf)
  by_cases hjl : j < l.length
  · have hxj := hx j hjl
    have hq := fun k => ok_laws_eqIntS k (rd l j) hxj
    repeat' ((with_reducible (first | refine sCall.of (hq _) ?_|refine st17 ?_|refine fG.split (fun _ => ?_) (fun _ => ?_)|refine fG.bool (fun _ => ?_) (fun _ => ?_)|refine gDn 6 ?_)) <;> (try (conv => whnf)))
    refine ⟨⟨j + 1, fitOk, ?_, ?_⟩⟩
    · show j + 1 ≤ _; omega
    · show l.length - (j + 1) < l.length - j; omega
  · repeat' ((with_reducible (first | refine st17 ?_|refine fG.split (fun _ => ?_) (fun _ => ?_)|refine fG.bool (fun _ => ?_) (fun _ => ?_)|refine gDn 6 ?_)) <;> (try (conv => whnf)))
structure ShotB (B : Nat) (cut : List Int) (opn : List Bool) (kept : List (List Int)) : Prop where
  c : cut.length ≤ B
  o : opn.length ≤ B
  k : kept.length ≤ B
  kk : ∀ j : Nat, j < kept.length → (rd kept j).length ≤ B
def shotSz (cut : List Int) (opn : List Bool) (kept : List (List Int)) : Nat := cut.length + (opn.length + (kept.length + wts List.length kept))
theorem shotB_of {B : Nat} {cut : List Int} {opn : List Bool} {kept : List (List Int)} (h : shotSz cut opn kept ≤ B) : ShotB B cut opn kept := by
  unfold shotSz at h
  refine ⟨by omega, by omega, by omega, fun j hj => ?_⟩
  have := wts_one List.length kept j hj
  omega
theorem ShotB.mono {B B' : Nat} {cut : List Int} {opn : List Bool} {kept : List (List Int)} (h : ShotB B cut opn kept) (hb : B ≤ B') : ShotB B' cut opn kept :=
  ⟨by have := h.c; omega, by have := h.o; omega, by have := h.k; omega, fun j hj => by have := h.kk j hj; omega⟩
theorem left_add {m : Int} {a b : Nat} (h : ¬ left m a < 0) : left (left m a) b = left m ((a + b : Nat)) := by
  obtain ⟨h1, h2⟩ := left_pos h
  rw [h1]
  unfold left
  by_cases c : m - a - (b : Int) < 0
  · rw [if_pos c, if_pos (by omega)]
  · rw [if_neg c, if_neg (by omega)]; omega
theorem left_any {m : Int} {a b : Nat} (h : left m a < 0) (h0 : 0 ≤ m) : left m ((a + b : Nat)) = -1 := by
  unfold left at h ⊢
  split at h <;> rw [if_pos (by omega)]
theorem ok_laws_szShot (k : Nat) (on : Bool) (cut : List Int) (opn : List Bool) (kept : List (List Int)) (m : Int) (h0 : 0 ≤ m) (h1 : m ≤ 1048576) (hb : ShotB 140737488355328 cut opn kept) :
    callE PR C (k + 3) 61 [aShot 0 on cut opn kept, i64 m] [tI cut, tBool opn, tIntSS kept] = some ⟨i64 (left m (shotSz cut opn kept)), [], [none, none, none]⟩ := by
  have q1 := fun k => ok_laws_szIntS k cut m h0 h1 hb.c
  unfold shotSz
  generalize hk : kept.length + wts List.length kept = kk
  by_cases c1 : left m cut.length < 0
  · rw [left_any c1 h0]
    rw [left_m1 c1] at q1
    (refine fnI [ResultVar.tmp 4] Tryz.func61 ?_; conv => whnf)
    repeat' ((with_reducible (first | refine sCall.of (q1 _) ?_|refine st17 ?_|refine fG.split (fun _ => ?_) (fun _ => ?_)|refine fG.bool (fun _ => ?_) (fun _ => ?_))) <;> (try (conv => whnf)))
  · obtain ⟨d1, d2⟩ := left_pos c1
    rw [← left_add c1]
    have q2 := fun k => ok_laws_szBoolS k opn (left m cut.length) (by omega) (by omega) hb.o
    by_cases c2 : left (left m cut.length) opn.length < 0
    · rw [left_any c2 (by omega)]
      rw [left_m1 c2] at q2
      (refine fnI [ResultVar.tmp 4] Tryz.func61 ?_; conv => whnf)
      repeat' ((with_reducible (first | refine sCall.of (q1 _) ?_|refine sCall.of (q2 _) ?_|refine st17 ?_|refine fG.split (fun _ => ?_) (fun _ => ?_)|refine fG.bool (fun _ => ?_) (fun _ => ?_))) <;> (try (conv => whnf)))
    · obtain ⟨d3, d4⟩ := left_pos c2
      rw [← left_add c2]
      have q3 := fun k => ok_laws_szIntSS k kept (left (left m cut.length) opn.length) (by omega) (by omega) hb.k hb.kk
      rw [hk] at q3
      by_cases c3 : left (left (left m cut.length) opn.length) kk < 0
      · rw [left_m1 c3] at q3 ⊢
        (refine fnI [ResultVar.tmp 4] Tryz.func61 ?_; conv => whnf)
        repeat' ((with_reducible (first | refine sCall.of (q1 _) ?_|refine sCall.of (q2 _) ?_|refine sCall.of (q3 _) ?_|refine st17 ?_|refine fG.split (fun _ => ?_) (fun _ => ?_)|refine fG.bool (fun _ => ?_) (fun _ => ?_))) <;> (try (conv => whnf)))
      · obtain ⟨d5, d6⟩ := left_pos c3
        (refine fnI [ResultVar.tmp 4] Tryz.func61 ?_; conv => whnf)
        repeat' ((with_reducible (first | refine sCall.of (q1 _) ?_|refine sCall.of (q2 _) ?_|refine sCall.of (q3 _) ?_|refine st17 ?_|refine fG.split (fun _ => ?_) (fun _ => ?_)|refine fG.bool (fun _ => ?_) (fun _ => ?_))) <;> (try (conv => whnf)))
theorem ok_laws_szLive (k : Nat) (P : List (List Ins)) (S : List State) (W : List (List Item)) (H : List (List Event)) (on : Bool) (cut : List Int) (opn : List Bool) (kept : List (List Int)) (m : Int) (h0 : 0 ≤ m) (h1 : m ≤ 1048576) (hb : SysB 140737488355328 P S W H) (hs : ShotB 140737488355328 cut opn kept) :
    callE PR C (k + 5) 15 [aLive 0 P S W H on cut opn kept, i64 m] [tInsSS P, tStateS S, tItemSS W, tEventSS H, tI cut, tBool opn, tIntSS kept] = some ⟨i64 (left m ((sysSz P S W H + shotSz cut opn kept : Nat))), [], [none, none, none, none, none, none, none]⟩ := by
  have q1 := fun k => ok_laws_szSys k P S W H m h0 h1 hb
  by_cases c1 : left m (sysSz P S W H) < 0
  · rw [left_any c1 h0]
    rw [left_m1 c1] at q1
    (refine fnI [ResultVar.tmp 4] Tryz.func15 ?_; conv => whnf)
    repeat' ((with_reducible (first | refine sCall.of (q1 _) ?_|refine st17 ?_|refine fG.split (fun _ => ?_) (fun _ => ?_)|refine fG.bool (fun _ => ?_) (fun _ => ?_))) <;> (try (conv => whnf)))
  · obtain ⟨d1, d2⟩ := left_pos c1
    rw [← left_add c1]
    have q2 := fun k => ok_laws_szShot k on cut opn kept (left m (sysSz P S W H)) (by omega) (by omega) hs
    by_cases c2 : left (left m (sysSz P S W H)) (shotSz cut opn kept) < 0
    · rw [left_m1 c2] at q2 ⊢
      (refine fnI [ResultVar.tmp 4] Tryz.func15 ?_; conv => whnf)
      repeat' ((with_reducible (first | refine sCall.of (q1 _) ?_|refine sCall.of (q2 _) ?_|refine st17 ?_|refine fG.split (fun _ => ?_) (fun _ => ?_)|refine fG.bool (fun _ => ?_) (fun _ => ?_))) <;> (try (conv => whnf)))
    · obtain ⟨d3, d4⟩ := left_pos c2
      (refine fnI [ResultVar.tmp 4] Tryz.func15 ?_; conv => whnf)
      repeat' ((with_reducible (first | refine sCall.of (q1 _) ?_|refine sCall.of (q2 _) ?_|refine st17 ?_|refine fG.split (fun _ => ?_) (fun _ => ?_)|refine fG.bool (fun _ => ?_) (fun _ => ?_))) <;> (try (conv => whnf)))
set_option maxRecDepth 10000 in
theorem ok_laws_toShot (k : Nat) (on : Bool) (cut : List Int) (opn : List Bool) (kept : List (List Int)) (hb : ShotB 100000000000 cut opn kept) :
    callE PR C (k + 3) 65 [aShot 0 on cut opn kept] [tI cut, tBool opn, tIntSS kept] = some ⟨nShot 0 on cut opn kept, [tI9 cut, tBool9 opn, tIntSS9 kept], [none, none, none]⟩ := by
  have q1 := fun k => ok_laws_toIntS k cut hb.c
  have q2 := fun k => ok_laws_toBoolS k opn hb.o
  have q3 := fun k => ok_laws_toIntSS k kept hb.k hb.kk
  (refine fnI [ResultVar.cell 2 43] Tryz.func65 ?_; conv => whnf)
  repeat' ((with_reducible (first | refine sCall.of (q1 _) ?_|refine sCall.of (q2 _) ?_|refine sCall.of (q3 _) ?_|refine st17 ?_|refine fG.split (fun _ => ?_) (fun _ => ?_)|refine fG.bool (fun _ => ?_) (fun _ => ?_))) <;> (try (conv => whnf)))
set_option maxRecDepth 10000 in
theorem ok_laws_eqShot (k : Nat) (on : Bool) (cut : List Int) (opn : List Bool) (kept : List (List Int)) (hb : ShotB 100000000000 cut opn kept) :
    callE PR C (k + 3) 69 [aShot 0 on cut opn kept, aShot 3 on cut opn kept] [tI cut, tBool opn, tIntSS kept, tI cut, tBool opn, tIntSS kept] = some ⟨bl true, [], [none, none, none, none, none, none]⟩ := by
  have q1 := fun k => ok_laws_eqIntS k cut hb.c
  have q2 := fun k => ok_laws_eqBoolS k opn hb.o
  have q3 := fun k => ok_laws_eqIntSS k kept hb.k hb.kk
  cases on
  all_goals
    (refine fnI [ResultVar.tmp 4] Tryz.func69 ?_; conv => whnf)
    repeat' ((with_reducible (first | refine sCall.of (q1 _) ?_|refine sCall.of (q2 _) ?_|refine sCall.of (q3 _) ?_|refine st17 ?_|refine fG.split (fun _ => ?_) (fun _ => ?_)|refine fG.bool (fun _ => ?_) (fun _ => ?_))) <;> (try (conv => whnf)))
set_option maxRecDepth 20000 in
theorem ok_laws_toLive (k : Nat) (P : List (List Ins)) (S : List State) (W : List (List Item)) (H : List (List Event)) (on : Bool) (cut : List Int) (opn : List Bool) (kept : List (List Int)) (hb : SysB 100000000000 P S W H) (hs : ShotB 100000000000 cut opn kept) :
    callE PR C (k + 5) 17 [aLive 0 P S W H on cut opn kept] [tInsSS P, tStateS S, tItemSS W, tEventSS H, tI cut, tBool opn, tIntSS kept] = some ⟨nLive 0 P S W H on cut opn kept, [tInsSS9 P, tStateS9 S, tItemSS9 W, tEventSS9 H, tI9 cut, tBool9 opn, tIntSS9 kept], [none, none, none, none, none, none, none]⟩ := by
  have q1 := fun k => ok_laws_toSys k P S W H hb
  have q2 := fun k => ok_laws_toShot k on cut opn kept hs
  (refine fnI [ResultVar.cell 2 45] Tryz.func17 ?_; conv => whnf)
  repeat' ((with_reducible (first | refine sCall.of (q1 _) ?_|refine sCall.of (q2 _) ?_|refine st17 ?_|refine fG.split (fun _ => ?_) (fun _ => ?_)|refine fG.bool (fun _ => ?_) (fun _ => ?_))) <;> (try (conv => whnf)))
set_option maxRecDepth 20000 in
theorem ok_laws_eqLive (k : Nat) (P : List (List Ins)) (S : List State) (W : List (List Item)) (H : List (List Event)) (on : Bool) (cut : List Int) (opn : List Bool) (kept : List (List Int)) (hb : SysB 100000000000 P S W H) (hs : ShotB 100000000000 cut opn kept) :
    callE PR C (k + 5) 19 [aLive 0 P S W H on cut opn kept, aLive 7 P S W H on cut opn kept] [tInsSS P, tStateS S, tItemSS W, tEventSS H, tI cut, tBool opn, tIntSS kept, tInsSS P, tStateS S, tItemSS W, tEventSS H, tI cut, tBool opn, tIntSS kept] = some ⟨bl true, [], [none, none, none, none, none, none, none, none, none, none, none, none, none, none]⟩ := by
  have q1 := fun k => ok_laws_eqSys k P S W H hb
  have q2 := fun k => ok_laws_eqShot k on cut opn kept hs
  (refine fnI [ResultVar.tmp 4] Tryz.func19 ?_; conv => whnf)
  repeat' ((with_reducible (first | refine sCall.of (q1 _) ?_|refine sCall.of (q2 _) ?_|refine st17 ?_|refine fG.split (fun _ => ?_) (fun _ => ?_)|refine fG.bool (fun _ => ?_) (fun _ => ?_))) <;> (try (conv => whnf)))

def markedB (w : List Item) : Bool := w.any (·.mark)
def marksB (W : List (List Item)) : Bool := W.any markedB
theorem ok_impl_marked11 (k : Nat) (x : Item) : callE PR C (k + 1) 149 [.ag [bl x.mark, i64 x.v]] [] = some ⟨bl x.mark, [], []⟩ := by
  (refine fnI [ResultVar.tmp 2] Tryz.func149 ?_; conv => whnf)
  repeat' ((with_reducible (first | refine st17 ?_|refine fG.split (fun _ => ?_) (fun _ => ?_)|refine fG.bool (fun _ => ?_) (fun _ => ?_))) <;> (try (conv => whnf)))
theorem ok_IndexFunc_Mark (k : Nat) (w : List Item) (hw : w.length ≤ 100000000000) :
    callE PR C (k + 2) 217 [.h 1000000 0 0 [] 2 0 w.length, .fn 149 []] [tItem w] = some ⟨i64 (idxP (·.mark) w), [], [none]⟩ := by
  (refine fnI [ResultVar.tmp 4] Tryz.func217 ?_; conv => whnf)
  refine loop_rule (ι := Nat) (fun i => [(0, .h 1000000 0 0 [] 2 0 w.length), (1, .fn 149 []), (7, i64 w.length), (8, i64 (i : Nat))]) (fun i => [(1000000, ⟨0, 0, false, tItem w⟩)])
    (fun i => w.length - i) (fun i => i ≤ w.length ∧ w.findIdx? (·.mark) = ((w.drop i).findIdx? (·.mark)).map (· + i)) 0 fitOk (by simp) (by simp [C]; omega) ?_
  rintro i sl ob ⟨hi, hall⟩
  (conv => whnf)
  repeat' ((with_reducible (first | refine sCall.of (ok_impl_marked11 _ _) ?_|refine st17 ?_|refine fG.split (fun _ => ?_) (fun _ => ?_)|refine fG.bool (fun _ => ?_) (fun _ => ?_))) <;> (try (conv => whnf)))
  case refine_1.refine_2 h hx =>
    refine ⟨⟨i + 1, fitOk, ?_, ?_⟩⟩
    · exact ⟨by show i + 1 ≤ _; omega, findIdx_step (by omega) hall hx⟩
    · show w.length - (i + 1) < w.length - i; omega
  case refine_1.refine_1 h hx => rw [findIdx_here (by omega) hall hx]
  case refine_2 h => rw [findIdx_none (by omega) hall]
theorem ok_ContainsFunc_Mark (k : Nat) (w : List Item) (hw : w.length ≤ 100000000000) :
    callE PR C (k + 3) 148 [.h 1000000 0 0 [] 2 0 w.length, .fn 149 []] [tItem w] = some ⟨bl (markedB w), [], [none]⟩ := by
  unfold markedB
  rw [← idxP_any]
  (refine fnI [ResultVar.tmp 4] Tryz.func148 ?_; conv => whnf)
  repeat' ((with_reducible (first | refine sCall.of (ok_IndexFunc_Mark _ _ hw) ?_|refine st17 ?_|refine fG.split (fun _ => ?_) (fun _ => ?_)|refine fG.bool (fun _ => ?_) (fun _ => ?_))) <;> (try (conv => whnf)))
theorem ok_impl_marked1 (k : Nat) (w : List Item) (hw : w.length ≤ 100000000000) : callE PR C (k + 4) 147 [.h 1000000 0 0 [] 2 0 w.length] [tItem w] = some ⟨bl (markedB w), [], [none]⟩ := by
  (refine fnI [ResultVar.tmp 2] Tryz.func147 ?_; conv => whnf)
  repeat' ((with_reducible (first | refine sCall.of (ok_ContainsFunc_Mark _ _ hw) ?_|refine st17 ?_|refine fG.split (fun _ => ?_) (fun _ => ?_)|refine fG.bool (fun _ => ?_) (fun _ => ?_))) <;> (try (conv => whnf)))
theorem ok_IndexFunc_Marks (k : Nat) (W : List (List Item)) (hW : W.length ≤ 100000000000) (hx : ∀ j : Nat, j < W.length → (rd W j).length ≤ 100000000000) :
    callE PR C (k + 5) 207 [.h 1000000 0 0 [] 1 0 W.length, .fn 147 []] [tItemSS W] = some ⟨i64 (idxP markedB W), [], [none]⟩ := by
  (refine fnI [ResultVar.tmp 4] Tryz.func207 ?_; conv => whnf)
  refine loop_rule (ι := Nat) (fun i => [(0, .h 1000000 0 0 [] 1 0 W.length), (1, .fn 147 []), (7, i64 W.length), (8, i64 (i : Nat))]) (fun i => [(1000000, ⟨0, 0, false, tItemSS W⟩)])
    (fun i => W.length - i) (fun i => i ≤ W.length ∧ W.findIdx? markedB = ((W.drop i).findIdx? markedB).map (· + i)) 0 fitOk (by simp) (by simp [C]; omega) ?_
  rintro i sl ob ⟨hi, hall⟩
  (conv => whnf)
  by_cases hil : i < W.length
  · have hxi := hx i hil
    have q1 := fun k => ok_impl_marked1 k (rd W i) hxi
    cases e : markedB (rd W i)
    all_goals simp only [e] at q1
    · repeat' ((with_reducible (first | refine sCall.of (q1 _) ?_|refine st17 ?_|refine fG.split (fun _ => ?_) (fun _ => ?_)|refine fG.bool (fun _ => ?_) (fun _ => ?_))) <;> (try (conv => whnf)))
      all_goals first
        | (exfalso; simp_all; done)
        | (refine ⟨⟨i + 1, fitOk, ?_, ?_⟩⟩
           · exact ⟨by show i + 1 ≤ _; omega, findIdx_step (by omega) hall e⟩
           · show W.length - (i + 1) < W.length - i; omega)
    · rw [findIdx_here (by omega) hall e]
      repeat' ((with_reducible (first | refine sCall.of (q1 _) ?_|refine st17 ?_|refine fG.split (fun _ => ?_) (fun _ => ?_)|refine fG.bool (fun _ => ?_) (fun _ => ?_))) <;> (try (conv => whnf)))
  · rw [findIdx_none (by omega) hall]
    repeat' ((with_reducible (first | refine st17 ?_|refine fG.split (fun _ => ?_) (fun _ => ?_)|refine fG.bool (fun _ => ?_) (fun _ => ?_))) <;> (try (conv => whnf)))
theorem ok_ContainsFunc_Marks (k : Nat) (W : List (List Item)) (hW : W.length ≤ 100000000000) (hx : ∀ j : Nat, j < W.length → (rd W j).length ≤ 100000000000) :
    callE PR C (k + 6) 140 [.h 1000000 0 0 [] 1 0 W.length, .fn 147 []] [tItemSS W] = some ⟨bl (marksB W), [], [none]⟩ := by
  unfold marksB
  rw [← idxP_any]
  (refine fnI [ResultVar.tmp 4] Tryz.func140 ?_; conv => whnf)
  repeat' ((with_reducible (first | refine sCall.of (ok_IndexFunc_Marks _ _ hW hx) ?_|refine st17 ?_|refine fG.split (fun _ => ?_) (fun _ => ?_)|refine fG.bool (fun _ => ?_) (fun _ => ?_))) <;> (try (conv => whnf)))
theorem ok_impl_marked (k : Nat) (P : List (List Ins)) (S : List State) (W : List (List Item)) (H : List (List Event)) (hb : SysB 10000000000 P S W H) :
    callE PR C (k + 7) 68 [aSys 0 P S W H] [tInsSS P, tStateS S, tItemSS W, tEventSS H] = some ⟨bl (marksB W), [], [none, none, none, none]⟩ := by
  have hw := hb.w
  have hx := hb.ww
  (refine fnI [ResultVar.tmp 2] Tryz.func68 ?_; conv => whnf)
  have q1 := fun k => ok_ContainsFunc_Marks k W (by omega) (fun j hj => by have := hx j hj; omega)
  repeat' ((with_reducible (first | refine sCall.of (q1 _) ?_|refine st17 ?_|refine fG.split (fun _ => ?_) (fun _ => ?_)|refine fG.bool (fun _ => ?_) (fun _ => ?_))) <;> (try (conv => whnf)))
theorem any_no {α : Type} [Inhabited α] {f : α → Bool} {l : List α} (h : ∀ i, i < l.length → f (rd l i) = false) : l.any f = false := by
  rw [List.any_eq_false]
  intro x hx
  obtain ⟨i, hi, rfl⟩ := List.mem_iff_getElem.1 hx
  have := h i hi
  rw [rd_at hi] at this
  simp [this]
theorem any_yes {α : Type} [Inhabited α] {f : α → Bool} {l : List α} {i : Nat} (h : i < l.length) (e : f (rd l i) = true) : l.any f = true := by
  rw [List.any_eq_true]
  exact ⟨_, rd_mem h, e⟩
theorem ok_spec_l11Marks (k : Nat) (P : List (List Ins)) (S : List State) (W : List (List Item)) (H : List (List Event)) (hb : SysB 10000000000 P S W H) :
    callE PR C (k + 1) 64 [aSys 0 P S W H] [tInsSS P, tStateS S, tItemSS W, tEventSS H] = some ⟨bl (marksB W), [], [none, none, none, none]⟩ := by
  have hw := hb.w
  have hx := hb.ww
  (refine fnI [ResultVar.tmp 2] Tryz.func64 ?_; conv => whnf)
  repeat' ((with_reducible (first | refine st17 ?_|refine fG.split (fun _ => ?_) (fun _ => ?_)|refine fG.bool (fun _ => ?_) (fun _ => ?_))) <;> (try (conv => whnf)))
  refine loop_rule (ι := Nat) (fun j => [(1, .pt 1 1 0 [] 0 0), (3, i64 (j : Nat))])
    (fun _ => [(1000000, ⟨0, 0, false, tInsSS P⟩), (1000001, ⟨0, 0, false, tStateS S⟩), (1000002, ⟨0, 0, false, tItemSS W⟩), (1000003, ⟨0, 0, false, tEventSS H⟩), (1, ⟨1, 0, false, bSys P S W H⟩)])
    (fun j => W.length - j) (fun j => j ≤ W.length ∧ ∀ q, q < j → markedB (rd W q) = false) 0 fitOk ⟨Nat.zero_le _, fun q h => absurd h (Nat.not_lt_zero q)⟩ (by simp [C]; omega) ?_
  rintro j sl ob ⟨hj, hno⟩
  (try dsimp only [cond_true, cond_false])
  (conv => whnf)
  by_cases hjl : j < W.length
  · have hxj := hx j hjl
    have e4 : (List.map rItem (rd W j)).length = (rd W j).length := by simp
    repeat' ((with_reducible (first | refine st17 ?_|refine fG.split (fun _ => ?_) (fun _ => ?_)|refine fG.bool (fun _ => ?_) (fun _ => ?_))) <;> (try (conv => whnf)))
    refine loop_rule (ι := Nat) (fun i => [(1, .pt 1 1 0 [] 0 0), (3, i64 (j : Nat)), (4, i64 (i : Nat))])
      (fun _ => [(1000000, ⟨0, 0, false, tInsSS P⟩), (1000001, ⟨0, 0, false, tStateS S⟩), (1000002, ⟨0, 0, false, tItemSS W⟩), (1000003, ⟨0, 0, false, tEventSS H⟩), (1, ⟨1, 0, false, bSys P S W H⟩)])
      (fun i => (rd W j).length - i) (fun i => i ≤ (rd W j).length ∧ ∀ q, q < i → (rd (rd W j) q).mark = false) 0 fitOk ⟨Nat.zero_le _, fun q h => absurd h (Nat.not_lt_zero q)⟩ (by simp [C]; omega) ?_
    clear sl ob
    rintro i sl ob ⟨hi, hni⟩
    (try dsimp only [cond_true, cond_false])
    (conv => whnf)
    by_cases hil : i < (rd W j).length
    · cases e : (rd (rd W j) i).mark
      · repeat' ((with_reducible (first | refine st17 ?_|refine fG.split (fun _ => ?_) (fun _ => ?_)|refine fG.bool (fun _ => ?_) (fun _ => ?_))) <;> (try (conv => whnf)))
        all_goals first
          | (exfalso; simp_all; done)
          | (refine ⟨⟨i + 1, fitOk, ?_, ?_⟩⟩
             · exact ⟨by show i + 1 ≤ _; omega, fun q hq => by rcases Nat.lt_succ_iff_lt_or_eq.1 hq with h | h; exact hni q h; rw [h]; exact e⟩
             · show (rd W j).length - (i + 1) < (rd W j).length - i; omega)
      · rw [show marksB W = true from any_yes hjl (by unfold markedB; exact any_yes hil e)]
        repeat' ((with_reducible (first | refine st17 ?_|refine fG.split (fun _ => ?_) (fun _ => ?_)|refine fG.bool (fun _ => ?_) (fun _ => ?_))) <;> (try (conv => whnf)))
        all_goals (exfalso; simp_all; done)
    · repeat' ((with_reducible (first | refine st17 ?_|refine fG.split (fun _ => ?_) (fun _ => ?_)|refine fG.bool (fun _ => ?_) (fun _ => ?_))) <;> (try (conv => whnf)))
      refine ⟨⟨j + 1, fitOk, ?_, ?_⟩⟩
      · exact ⟨by show j + 1 ≤ _; omega, fun q hq => by rcases Nat.lt_succ_iff_lt_or_eq.1 hq with h | h; exact hno q h; rw [h]; exact any_no fun i hi => hni i (by omega)⟩
      · show W.length - (j + 1) < W.length - j; omega
  · rw [show marksB W = false from any_no fun q hq => hno q (by omega)]
    repeat' ((with_reducible (first | refine st17 ?_|refine fG.split (fun _ => ?_) (fun _ => ?_)|refine fG.bool (fun _ => ?_) (fun _ => ?_))) <;> (try (conv => whnf)))

end Go.Proofs.YtlobpiebphnkiaaGreat.Abs
namespace Go.Proofs.YtlobpiebphnkiaaGreat.Abs
open Go Go.Proofs
set_option linter.unusedVariables false
set_option linter.unusedSimpArgs false
attribute [local irreducible] callE
def cutOk (H : List (List Event)) (cut : List Int) (opn : List Bool) (kept : List (List Int)) (n p : Nat) : Bool :=
  inB (rd cut p) (-1) (rd H p).length && (decide (0 ≤ rd cut p) || allBelow n fun a => !(rd opn (a * n + p)) && decide ((rd kept (a * n + p)).length = 0))
def shotLens (n : Nat) (cut : List Int) (opn : List Bool) (kept : List (List Int)) : Bool := decide (cut.length = n) && (decide (opn.length = n * n) && decide (kept.length = n * n))
def drawnB (cut : List Int) : Bool := cut.any fun c => decide (0 ≤ c)
def liveOk (P : List (List Ins)) (S : List State) (W : List (List Item)) (H : List (List Event)) (on : Bool) (cut : List Int) (opn : List Bool) (kept : List (List Int)) : Bool :=
  sysOk P S W H && (shotLens P.length cut opn kept && (allBelow P.length (cutOk H cut opn kept P.length) && (decide (on = drawnB cut) && (on || !marksB W))))
theorem liveOk_lens {P : List (List Ins)} {S : List State} {W : List (List Item)} {H : List (List Event)} {on : Bool} {cut : List Int} {opn : List Bool} {kept : List (List Int)} (h : shotLens P.length cut opn kept = false) : liveOk P S W H on cut opn kept = false := by simp [liveOk, h]
theorem liveOk_cut {P : List (List Ins)} {S : List State} {W : List (List Item)} {H : List (List Event)} {on : Bool} {cut : List Int} {opn : List Bool} {kept : List (List Int)} {p : Nat} (hp : p < P.length) (h : cutOk H cut opn kept P.length p = false) : liveOk P S W H on cut opn kept = false := by simp [liveOk, allBelow_no hp h]
theorem drawn_take {cut : List Int} {j : Nat} (h : j < cut.length) : drawnB (cut.take (j + 1)) = (drawnB (cut.take j) || decide (0 ≤ rd cut j)) := by
  rw [show cut.take (j + 1) = cut.take j ++ [rd cut j] by rw [List.take_add_one]; simp [rd, h]]
  simp [drawnB]
abbrev bLive (P : List (List Ins)) (S : List State) (W : List (List Item)) (H : List (List Event)) (on : Bool) (cut : List Int) (opn : List Bool) (kept : List (List Int)) : Cont :=
  .box [.h 1000000 0 0 [] 1 0 P.length, .h 1000001 0 0 [] 4 0 S.length, .h 1000002 0 0 [] 1 0 W.length, .h 1000003 0 0 [] 1 0 H.length, bl on, .h 1000004 0 0 [] 1 0 cut.length, .h 1000005 0 0 [] 1 0 opn.length, .h 1000006 0 0 [] 1 0 kept.length]
structure LV where
  j : Nat
  s : Bool
set_option maxHeartbeats 8000000 in
set_option maxRecDepth 10000 in
theorem ok_impl_LiveOk (k : Nat) (P : List (List Ins)) (S : List State) (W : List (List Item)) (H : List (List Event)) (on : Bool) (cut : List Int) (opn : List Bool) (kept : List (List Int)) (hb : SysB 10000000000 P S W H) (hs : ShotB 10000000000 cut opn kept) :
    callE PR C (k + 12) 18 [aLive 0 P S W H on cut opn kept] [tInsSS P, tStateS S, tItemSS W, tEventSS H, tI cut, tBool opn, tIntSS kept] = some ⟨bl (liveOk P S W H on cut opn kept), [], [none, none, none, none, none, none, none]⟩ := by
  have b1 := hb.p
  have s1 := hs.c
  have s2 := hs.o
  have s3 := hs.k
  have q1 := fun k => ok_impl_SysOk k P S W H hb
  cases e : sysOk P S W H with
  | false =>
    simp only [e] at q1
    rw [show liveOk P S W H on cut opn kept = false by simp [liveOk, e]]
    (refine fnI [ResultVar.tmp 2] Tryz.func18 ?_; conv => whnf)
    repeat' ((with_reducible (first | refine sCall.of (q1 _) ?_|refine st17 ?_|refine fG.split (fun _ => ?_) (fun _ => ?_)|refine fG.bool (fun _ => ?_) (fun _ => ?_))) <;> (try (conv => whnf)))
  | true =>
    simp only [e] at q1
    obtain ⟨hI, hP, hS, h200⟩ := sysOk_facts e
    have hN := hI.n
    have hHl := hI.h
    have hnn : P.length * P.length ≤ 4 * 4 := Nat.mul_le_mul (by omega) (by omega)
    have w1 : IntKind.i64.wrap ((P.length : Int) * (P.length : Int)) = ((P.length * P.length : Nat) : Int) := by
      rw [show (P.length : Int) * (P.length : Int) = ((P.length * P.length : Nat) : Int) by simp]; exact wrap_i64 _ (by omega) (by omega)
    by_cases d1 : cut.length = P.length
    · by_cases d2 : opn.length = P.length * P.length
      · by_cases d3 : kept.length = P.length * P.length
        · have hL : shotLens P.length cut opn kept = true := by simp [shotLens, d1, d2, d3]
          (refine fnI [ResultVar.tmp 2] Tryz.func18 ?_; conv => whnf)
          repeat' ((with_reducible (first | refine sCall.of (q1 _) ?_|refine sW.eq (w1) ?_|refine st17 ?_|refine fG.split (fun _ => ?_) (fun _ => ?_)|refine fG.bool (fun _ => ?_) (fun _ => ?_))) <;> (try (conv => whnf)))
          refine loop_rule (ι := LV) (fun z => [(1, .pt 1 1 0 [] 0 0), (3, i64 P.length), (4, bl z.s), (46, .h 1000004 0 0 [] 1 0 cut.length), (47, i64 cut.length), (48, i64 (z.j : Nat))])
            (fun _ => [(1000000, ⟨0, 0, false, tInsSS P⟩), (1000001, ⟨0, 0, false, tStateS S⟩), (1000002, ⟨0, 0, false, tItemSS W⟩), (1000003, ⟨0, 0, false, tEventSS H⟩), (1000004, ⟨0, 0, false, tI cut⟩), (1000005, ⟨0, 0, false, tBool opn⟩), (1000006, ⟨0, 0, false, tIntSS kept⟩), (1, ⟨1, 0, false, bLive P S W H on cut opn kept⟩)])
            (fun z => cut.length - z.j) (fun z => z.j ≤ cut.length ∧ z.s = drawnB (cut.take z.j) ∧ ∀ q, q < z.j → cutOk H cut opn kept P.length q = true) ⟨0, false⟩ fitOk ⟨Nat.zero_le _, by simp [drawnB], fun q h => absurd h (Nat.not_lt_zero q)⟩ (by simp [C]; omega) ?_
          rintro ⟨p, s⟩ sl ob ⟨hj, hs', hpr⟩
          dsimp only at hj hs' hpr
          (try dsimp only [cond_true, cond_false])
          (conv => whnf)
          by_cases hpl : p < cut.length
          · have e4 : (List.map rEvent (rd H p)).length = (rd H p).length := by simp
            have h2 := h200 p (by omega)
            have q2 := fun k => ok_impl_in k (rd cut p) (-1) ((List.map rEvent (rd H p)).length : Int)
            have hdt := drawn_take hpl
            rw [← hs'] at hdt
            by_cases c1 : -1 ≤ rd cut p ∧ rd cut p ≤ ((List.map rEvent (rd H p)).length : Int)
            · rw [decide_eq_true c1] at q2
              rw [e4] at c1
              by_cases c2 : 0 ≤ rd cut p
              · have hc : cutOk H cut opn kept P.length p = true := by simp [cutOk, inB, c1, c2]
                have hpr2 : ∀ q, q < p + 1 → cutOk H cut opn kept P.length q = true := fun q hq => by rcases Nat.lt_succ_iff_lt_or_eq.1 hq with h | h; exact hpr q h; rw [h]; exact hc
                cases s
                all_goals
                  repeat' ((with_reducible (first | refine sCall.of (q2 _) ?_|refine st17 ?_|refine fG.split (fun _ => ?_) (fun _ => ?_)|refine fG.bool (fun _ => ?_) (fun _ => ?_))) <;> (try (conv => whnf)))
                  refine loop_rule (ι := Nat) (fun a => [(1, .pt 1 1 0 [] 0 0), (3, i64 P.length), (4, bl (drawnB (List.take (p + 1) cut))), (5, i64 (p : Nat)), (6, i64 (rd cut p)), (46, .h 1000004 0 0 [] 1 0 cut.length), (47, i64 cut.length), (48, i64 (p : Nat)), (68, i64 P.length), (69, i64 (a : Nat))])
                    (fun _ => [(1000000, ⟨0, 0, false, tInsSS P⟩), (1000001, ⟨0, 0, false, tStateS S⟩), (1000002, ⟨0, 0, false, tItemSS W⟩), (1000003, ⟨0, 0, false, tEventSS H⟩), (1000004, ⟨0, 0, false, tI cut⟩), (1000005, ⟨0, 0, false, tBool opn⟩), (1000006, ⟨0, 0, false, tIntSS kept⟩), (1, ⟨1, 0, false, bLive P S W H on cut opn kept⟩)])
                    (fun a => P.length - a) (fun a => a ≤ P.length) 0 (by rw [hdt]; exact fitOk) (Nat.zero_le _) (by simp [C]; omega) ?_
                  clear sl ob
                  rintro a sl ob ha
                  (try dsimp only [cond_true, cond_false])
                  (conv => whnf)
                  by_cases hal : a < P.length
                  · repeat' ((with_reducible (first | refine st17 ?_|refine fG.split (fun _ => ?_) (fun _ => ?_)|refine fG.bool (fun _ => ?_) (fun _ => ?_))) <;> (try (conv => whnf)))
                    refine ⟨⟨a + 1, fitOk, ?_, ?_⟩⟩
                    · show a + 1 ≤ _; omega
                    · show P.length - (a + 1) < P.length - a; omega
                  · repeat' ((with_reducible (first | refine st17 ?_|refine fG.split (fun _ => ?_) (fun _ => ?_)|refine fG.bool (fun _ => ?_) (fun _ => ?_))) <;> (try (conv => whnf)))
                    refine ⟨⟨⟨p + 1, drawnB (List.take (p + 1) cut)⟩, fitOk, ?_, ?_⟩⟩
                    · exact ⟨by show p + 1 ≤ _; omega, rfl, hpr2⟩
                    · show cut.length - (p + 1) < cut.length - p; omega
              · cases s
                all_goals
                  repeat' ((with_reducible (first | refine sCall.of (q2 _) ?_|refine st17 ?_|refine fG.split (fun _ => ?_) (fun _ => ?_)|refine fG.bool (fun _ => ?_) (fun _ => ?_))) <;> (try (conv => whnf)))
                  refine loop_rule (ι := Nat) (fun a => [(1, .pt 1 1 0 [] 0 0), (3, i64 P.length), (4, bl (drawnB (List.take (p + 1) cut))), (5, i64 (p : Nat)), (6, i64 (rd cut p)), (46, .h 1000004 0 0 [] 1 0 cut.length), (47, i64 cut.length), (48, i64 (p : Nat)), (68, i64 P.length), (69, i64 (a : Nat))])
                    (fun _ => [(1000000, ⟨0, 0, false, tInsSS P⟩), (1000001, ⟨0, 0, false, tStateS S⟩), (1000002, ⟨0, 0, false, tItemSS W⟩), (1000003, ⟨0, 0, false, tEventSS H⟩), (1000004, ⟨0, 0, false, tI cut⟩), (1000005, ⟨0, 0, false, tBool opn⟩), (1000006, ⟨0, 0, false, tIntSS kept⟩), (1, ⟨1, 0, false, bLive P S W H on cut opn kept⟩)])
                    (fun a => P.length - a) (fun a => a ≤ P.length ∧ ∀ b, b < a → (!(rd opn (b * P.length + p)) && decide ((rd kept (b * P.length + p)).length = 0)) = true) 0 (by rw [hdt]; exact fitOk) ⟨Nat.zero_le _, fun q h => absurd h (Nat.not_lt_zero q)⟩ (by simp [C]; omega) ?_
                  clear sl ob
                  rintro a sl ob ⟨ha, hbe⟩
                  (try dsimp only [cond_true, cond_false])
                  (conv => whnf)
                  by_cases hal : a < P.length
                  · have hpl4 := place_lt hal (show p < P.length by omega)
                    have w2 : IntKind.i64.wrap ((a : Int) * (P.length : Int)) = ((a * P.length : Nat) : Int) := by
                      rw [show (a : Int) * (P.length : Int) = ((a * P.length : Nat) : Int) by simp]; exact wrap_i64 _ (by omega) (by omega)
                    have w3 : IntKind.i64.wrap (((a * P.length : Nat) : Int) + (p : Int)) = ((a * P.length + p : Nat) : Int) := by rw [wrap_i64 _ (by omega) (by omega)]; simp
                    have hkk := hs.kk (a * P.length + p) (by omega)
                    have e5 : (List.map rI (rd kept (a * P.length + p))).length = (rd kept (a * P.length + p)).length := by simp
                    generalize hpp : a * P.length + p = pp at hpl4 w3 hkk e5
                    cases e6 : rd opn pp with
                    | true =>
                      rw [liveOk_cut (p := p) (by omega) (by simp only [cutOk, decide_eq_false c2, Bool.false_or, allBelow_no (f := fun a => !(rd opn (a * P.length + p)) && decide ((rd kept (a * P.length + p)).length = 0)) hal (by simp [hpp, e6]), Bool.and_false])]
                      repeat' ((with_reducible (first | refine sW.eq (w2) ?_|refine sW.eq (w3) ?_|refine st17 ?_|refine fG.split (fun _ => ?_) (fun _ => ?_)|refine fG.bool (fun _ => ?_) (fun _ => ?_))) <;> (try (conv => whnf)))
                    | false =>
                      by_cases c5 : (rd kept pp).length = 0
                      · repeat' ((with_reducible (first | refine sW.eq (w2) ?_|refine sW.eq (w3) ?_|refine st17 ?_|refine fG.split (fun _ => ?_) (fun _ => ?_)|refine fG.bool (fun _ => ?_) (fun _ => ?_))) <;> (try (conv => whnf)))
                        refine ⟨⟨a + 1, fitOk, ?_, ?_⟩⟩
                        · exact ⟨by show a + 1 ≤ _; omega, fun q hq => by rcases Nat.lt_succ_iff_lt_or_eq.1 hq with h | h; exact hbe q h; rw [h, hpp]; simp [e6, c5]⟩
                        · show P.length - (a + 1) < P.length - a; omega
                      · rw [liveOk_cut (p := p) (by omega) (by simp only [cutOk, decide_eq_false c2, Bool.false_or, allBelow_no (f := fun a => !(rd opn (a * P.length + p)) && decide ((rd kept (a * P.length + p)).length = 0)) hal (by simp [hpp, c5]), Bool.and_false])]
                        repeat' ((with_reducible (first | refine sW.eq (w2) ?_|refine sW.eq (w3) ?_|refine st17 ?_|refine fG.split (fun _ => ?_) (fun _ => ?_)|refine fG.bool (fun _ => ?_) (fun _ => ?_))) <;> (try (conv => whnf)))
                  · repeat' ((with_reducible (first | refine st17 ?_|refine fG.split (fun _ => ?_) (fun _ => ?_)|refine fG.bool (fun _ => ?_) (fun _ => ?_))) <;> (try (conv => whnf)))
                    refine ⟨⟨⟨p + 1, drawnB (List.take (p + 1) cut)⟩, fitOk, ?_, ?_⟩⟩
                    · refine ⟨by show p + 1 ≤ _; omega, rfl, fun q hq => ?_⟩
                      rcases Nat.lt_succ_iff_lt_or_eq.1 hq with h | h
                      · exact hpr q h
                      · rw [h]
                        simp only [cutOk, inB, decide_eq_true c1, decide_eq_false c2, Bool.false_or, Bool.true_and]
                        exact allBelow_yes fun b hb => hbe b (by omega)
                    · show cut.length - (p + 1) < cut.length - p; omega
            · rw [decide_eq_false c1] at q2
              rw [e4] at c1
              rw [liveOk_cut (p := p) (by omega) (by simp [cutOk, inB, c1])]
              repeat' ((with_reducible (first | refine sCall.of (q2 _) ?_|refine st17 ?_|refine fG.split (fun _ => ?_) (fun _ => ?_)|refine fG.bool (fun _ => ?_) (fun _ => ?_))) <;> (try (conv => whnf)))
          · have ePr := allBelow_yes (f := cutOk H cut opn kept P.length) (n := P.length) fun q hq => hpr q (by omega)
            rw [List.take_of_length_le (by omega)] at hs'
            have q3 := fun k => ok_impl_marked k P S W H hb
            rw [show liveOk P S W H on cut opn kept = (decide (on = s) && (on || !marksB W)) by simp only [liveOk, e, hL, ePr, hs', Bool.true_and]]
            cases on
            all_goals cases s
            all_goals cases em : marksB W
            all_goals
              simp only [em] at q3
              repeat' ((with_reducible (first | refine sCall.of (q3 _) ?_|refine st17 ?_|refine fG.split (fun _ => ?_) (fun _ => ?_)|refine fG.bool (fun _ => ?_) (fun _ => ?_))) <;> (try (conv => whnf)))
            all_goals rfl
        · rw [liveOk_lens (by simp [shotLens, d3])]
          (refine fnI [ResultVar.tmp 2] Tryz.func18 ?_; conv => whnf)
          repeat' ((with_reducible (first | refine sCall.of (q1 _) ?_|refine sW.eq (w1) ?_|refine st17 ?_|refine fG.split (fun _ => ?_) (fun _ => ?_)|refine fG.bool (fun _ => ?_) (fun _ => ?_))) <;> (try (conv => whnf)))
          all_goals first
            | rfl
            | (exfalso; omega)
      · rw [liveOk_lens (by simp [shotLens, d2])]
        (refine fnI [ResultVar.tmp 2] Tryz.func18 ?_; conv => whnf)
        repeat' ((with_reducible (first | refine sCall.of (q1 _) ?_|refine sW.eq (w1) ?_|refine st17 ?_|refine fG.split (fun _ => ?_) (fun _ => ?_)|refine fG.bool (fun _ => ?_) (fun _ => ?_))) <;> (try (conv => whnf)))
        all_goals first
          | rfl
          | (exfalso; omega)
    · rw [liveOk_lens (by simp [shotLens, d1])]
      (refine fnI [ResultVar.tmp 2] Tryz.func18 ?_; conv => whnf)
      repeat' ((with_reducible (first | refine sCall.of (q1 _) ?_|refine sW.eq (w1) ?_|refine st17 ?_|refine fG.split (fun _ => ?_) (fun _ => ?_)|refine fG.bool (fun _ => ?_) (fun _ => ?_))) <;> (try (conv => whnf)))
      all_goals first
        | rfl
        | (exfalso; omega)

set_option maxHeartbeats 8000000 in
set_option maxRecDepth 10000 in
theorem ok_spec_LiveOk (k : Nat) (P : List (List Ins)) (S : List State) (W : List (List Item)) (H : List (List Event)) (on : Bool) (cut : List Int) (opn : List Bool) (kept : List (List Int)) (hb : SysB 10000000000 P S W H) (hs : ShotB 10000000000 cut opn kept) :
    callE PR C (k + 8) 16 [aLive 0 P S W H on cut opn kept] [tInsSS P, tStateS S, tItemSS W, tEventSS H, tI cut, tBool opn, tIntSS kept] = some ⟨bl (liveOk P S W H on cut opn kept), [], [none, none, none, none, none, none, none]⟩ := by
  have b1 := hb.p
  have s1 := hs.c
  have s2 := hs.o
  have s3 := hs.k
  have q1 := fun k => ok_spec_SysOk k P S W H hb
  cases e : sysOk P S W H with
  | false =>
    simp only [e] at q1
    rw [show liveOk P S W H on cut opn kept = false by simp [liveOk, e]]
    (refine fnI [ResultVar.tmp 2] Tryz.func16 ?_; conv => whnf)
    repeat' ((with_reducible (first | refine sCall.of (q1 _) ?_|refine st17 ?_|refine fG.split (fun _ => ?_) (fun _ => ?_)|refine fG.bool (fun _ => ?_) (fun _ => ?_)|refine gDn 8 ?_)) <;> (try (conv => whnf)))
  | true =>
    simp only [e] at q1
    obtain ⟨hI, hP, hS, h200⟩ := sysOk_facts e
    have hN := hI.n
    have hHl := hI.h
    have hnn : P.length * P.length ≤ 4 * 4 := Nat.mul_le_mul (by omega) (by omega)
    have w1 : IntKind.i64.wrap ((P.length : Int) * (P.length : Int)) = ((P.length * P.length : Nat) : Int) := by
      rw [show (P.length : Int) * (P.length : Int) = ((P.length * P.length : Nat) : Int) by simp]; exact wrap_i64 _ (by omega) (by omega)
    by_cases d1 : cut.length = P.length
    · by_cases d2 : opn.length = P.length * P.length
      · by_cases d3 : kept.length = P.length * P.length
        · have hL : shotLens P.length cut opn kept = true := by simp [shotLens, d1, d2, d3]
          (refine fnI [ResultVar.tmp 2] Tryz.func16 ?_; conv => whnf)
          repeat' ((with_reducible (first | refine sCall.of (q1 _) ?_|refine sW.eq (w1) ?_|refine st17 ?_|refine fG.split (fun _ => ?_) (fun _ => ?_)|refine fG.bool (fun _ => ?_) (fun _ => ?_)|refine gDn 8 ?_)) <;> (try (conv => whnf)))
          refine loop_rule (ι := LV) (fun z => [(1, .pt 1 1 0 [] 0 0), (3, i64 P.length), (4, bl z.s), (5, i64 (z.j : Nat))])
            (fun _ => [(1000000, ⟨0, 0, false, tInsSS P⟩), (1000001, ⟨0, 0, false, tStateS S⟩), (1000002, ⟨0, 0, false, tItemSS W⟩), (1000003, ⟨0, 0, false, tEventSS H⟩), (1000004, ⟨0, 0, false, tI cut⟩), (1000005, ⟨0, 0, false, tBool opn⟩), (1000006, ⟨0, 0, false, tIntSS kept⟩), (1, ⟨1, 0, false, bLive P S W H on cut opn kept⟩)])
            (fun z => cut.length - z.j) (fun z => z.j ≤ cut.length ∧ z.s = drawnB (cut.take z.j) ∧ ∀ q, q < z.j → cutOk H cut opn kept P.length q = true) ⟨0, false⟩ fitOk ⟨Nat.zero_le _, by simp [drawnB], fun q h => absurd h (Nat.not_lt_zero q)⟩ (by simp [C]; omega) ?_
          rintro ⟨p, s⟩ sl ob ⟨hj, hs', hpr⟩
          dsimp only at hj hs' hpr
          (try dsimp only [cond_true, cond_false])
          (conv => whnf)
          by_cases hpl : p < cut.length
          · have e4 : (List.map rEvent (rd H p)).length = (rd H p).length := by simp
            have h2 := h200 p (by omega)
            have q2 := fun k => ok_spec_l1In k (rd cut p) (-1) ((List.map rEvent (rd H p)).length : Int)
            have hdt := drawn_take hpl
            rw [← hs'] at hdt
            by_cases c1 : -1 ≤ rd cut p ∧ rd cut p ≤ ((List.map rEvent (rd H p)).length : Int)
            · rw [decide_eq_true c1] at q2
              rw [e4] at c1
              by_cases c2 : 0 ≤ rd cut p
              · have hc : cutOk H cut opn kept P.length p = true := by simp [cutOk, inB, c1, c2]
                have hpr2 : ∀ q, q < p + 1 → cutOk H cut opn kept P.length q = true := fun q hq => by rcases Nat.lt_succ_iff_lt_or_eq.1 hq with h | h; exact hpr q h; rw [h]; exact hc
                cases s
                all_goals
                  repeat' ((with_reducible (first | refine sCall.of (q2 _) ?_|refine st17 ?_|refine fG.split (fun _ => ?_) (fun _ => ?_)|refine fG.bool (fun _ => ?_) (fun _ => ?_)|refine gDn 8 ?_)) <;> (try (conv => whnf)))
                  refine loop_rule (ι := Nat) (fun a => [(1, .pt 1 1 0 [] 0 0), (3, i64 P.length), (4, bl (drawnB (List.take (p + 1) cut))), (5, i64 (p : Nat)), (6, i64 (a : Nat))])
                    (fun _ => [(1000000, ⟨0, 0, false, tInsSS P⟩), (1000001, ⟨0, 0, false, tStateS S⟩), (1000002, ⟨0, 0, false, tItemSS W⟩), (1000003, ⟨0, 0, false, tEventSS H⟩), (1000004, ⟨0, 0, false, tI cut⟩), (1000005, ⟨0, 0, false, tBool opn⟩), (1000006, ⟨0, 0, false, tIntSS kept⟩), (1, ⟨1, 0, false, bLive P S W H on cut opn kept⟩)])
                    (fun a => P.length - a) (fun a => a ≤ P.length) 0 (by rw [hdt]; exact fitOk) (Nat.zero_le _) (by simp [C]; omega) ?_
                  clear sl ob
                  rintro a sl ob ha
                  (try dsimp only [cond_true, cond_false])
                  (conv => whnf)
                  by_cases hal : a < P.length
                  all_goals
                    repeat' ((with_reducible (first | refine st17 ?_|refine fG.split (fun _ => ?_) (fun _ => ?_)|refine fG.bool (fun _ => ?_) (fun _ => ?_)|refine gDn 8 ?_)) <;> (try (conv => whnf)))
                    refine ⟨⟨⟨p + 1, drawnB (List.take (p + 1) cut)⟩, fitOk, ?_, ?_⟩⟩
                    · exact ⟨by show p + 1 ≤ _; omega, rfl, hpr2⟩
                    · show cut.length - (p + 1) < cut.length - p; omega
              · cases s
                all_goals
                  repeat' ((with_reducible (first | refine sCall.of (q2 _) ?_|refine st17 ?_|refine fG.split (fun _ => ?_) (fun _ => ?_)|refine fG.bool (fun _ => ?_) (fun _ => ?_)|refine gDn 8 ?_)) <;> (try (conv => whnf)))
                  refine loop_rule (ι := Nat) (fun a => [(1, .pt 1 1 0 [] 0 0), (3, i64 P.length), (4, bl (drawnB (List.take (p + 1) cut))), (5, i64 (p : Nat)), (6, i64 (a : Nat))])
                    (fun _ => [(1000000, ⟨0, 0, false, tInsSS P⟩), (1000001, ⟨0, 0, false, tStateS S⟩), (1000002, ⟨0, 0, false, tItemSS W⟩), (1000003, ⟨0, 0, false, tEventSS H⟩), (1000004, ⟨0, 0, false, tI cut⟩), (1000005, ⟨0, 0, false, tBool opn⟩), (1000006, ⟨0, 0, false, tIntSS kept⟩), (1, ⟨1, 0, false, bLive P S W H on cut opn kept⟩)])
                    (fun a => P.length - a) (fun a => a ≤ P.length ∧ ∀ b, b < a → (!(rd opn (b * P.length + p)) && decide ((rd kept (b * P.length + p)).length = 0)) = true) 0 (by rw [hdt]; exact fitOk) ⟨Nat.zero_le _, fun q h => absurd h (Nat.not_lt_zero q)⟩ (by simp [C]; omega) ?_
                  clear sl ob
                  rintro a sl ob ⟨ha, hbe⟩
                  (try dsimp only [cond_true, cond_false])
                  (conv => whnf)
                  by_cases hal : a < P.length
                  · have hpl4 := place_lt hal (show p < P.length by omega)
                    have w2 : IntKind.i64.wrap ((a : Int) * (P.length : Int)) = ((a * P.length : Nat) : Int) := by
                      rw [show (a : Int) * (P.length : Int) = ((a * P.length : Nat) : Int) by simp]; exact wrap_i64 _ (by omega) (by omega)
                    have w3 : IntKind.i64.wrap (((a * P.length : Nat) : Int) + (p : Int)) = ((a * P.length + p : Nat) : Int) := by rw [wrap_i64 _ (by omega) (by omega)]; simp
                    have hkk := hs.kk (a * P.length + p) (by omega)
                    have e5 : (List.map rI (rd kept (a * P.length + p))).length = (rd kept (a * P.length + p)).length := by simp
                    generalize hpp : a * P.length + p = pp at hpl4 w3 hkk e5
                    cases e6 : rd opn pp with
                    | true =>
                      rw [liveOk_cut (p := p) (by omega) (by simp only [cutOk, decide_eq_false c2, Bool.false_or, allBelow_no (f := fun a => !(rd opn (a * P.length + p)) && decide ((rd kept (a * P.length + p)).length = 0)) hal (by simp [hpp, e6]), Bool.and_false])]
                      repeat' ((with_reducible (first | refine sW.eq (w2) ?_|refine sW.eq (w3) ?_|refine st17 ?_|refine fG.split (fun _ => ?_) (fun _ => ?_)|refine fG.bool (fun _ => ?_) (fun _ => ?_)|refine gDn 8 ?_)) <;> (try (conv => whnf)))
                    | false =>
                      by_cases c5 : (rd kept pp).length = 0
                      · repeat' ((with_reducible (first | refine sW.eq (w2) ?_|refine sW.eq (w3) ?_|refine st17 ?_|refine fG.split (fun _ => ?_) (fun _ => ?_)|refine fG.bool (fun _ => ?_) (fun _ => ?_)|refine gDn 8 ?_)) <;> (try (conv => whnf)))
                        refine ⟨⟨a + 1, fitOk, ?_, ?_⟩⟩
                        · exact ⟨by show a + 1 ≤ _; omega, fun q hq => by rcases Nat.lt_succ_iff_lt_or_eq.1 hq with h | h; exact hbe q h; rw [h, hpp]; simp [e6, c5]⟩
                        · show P.length - (a + 1) < P.length - a; omega
                      · rw [liveOk_cut (p := p) (by omega) (by simp only [cutOk, decide_eq_false c2, Bool.false_or, allBelow_no (f := fun a => !(rd opn (a * P.length + p)) && decide ((rd kept (a * P.length + p)).length = 0)) hal (by simp [hpp, c5]), Bool.and_false])]
                        repeat' ((with_reducible (first | refine sW.eq (w2) ?_|refine sW.eq (w3) ?_|refine st17 ?_|refine fG.split (fun _ => ?_) (fun _ => ?_)|refine fG.bool (fun _ => ?_) (fun _ => ?_)|refine gDn 8 ?_)) <;> (try (conv => whnf)))
                  · repeat' ((with_reducible (first | refine st17 ?_|refine fG.split (fun _ => ?_) (fun _ => ?_)|refine fG.bool (fun _ => ?_) (fun _ => ?_)|refine gDn 8 ?_)) <;> (try (conv => whnf)))
                    refine ⟨⟨⟨p + 1, drawnB (List.take (p + 1) cut)⟩, fitOk, ?_, ?_⟩⟩
                    · refine ⟨by show p + 1 ≤ _; omega, rfl, fun q hq => ?_⟩
                      rcases Nat.lt_succ_iff_lt_or_eq.1 hq with h | h
                      · exact hpr q h
                      · rw [h]
                        simp only [cutOk, inB, decide_eq_true c1, decide_eq_false c2, Bool.false_or, Bool.true_and]
                        exact allBelow_yes fun b hb => hbe b (by omega)
                    · show cut.length - (p + 1) < cut.length - p; omega
            · rw [decide_eq_false c1] at q2
              rw [e4] at c1
              rw [liveOk_cut (p := p) (by omega) (by simp [cutOk, inB, c1])]
              repeat' ((with_reducible (first | refine sCall.of (q2 _) ?_|refine st17 ?_|refine fG.split (fun _ => ?_) (fun _ => ?_)|refine fG.bool (fun _ => ?_) (fun _ => ?_)|refine gDn 8 ?_)) <;> (try (conv => whnf)))
          · have ePr := allBelow_yes (f := cutOk H cut opn kept P.length) (n := P.length) fun q hq => hpr q (by omega)
            rw [List.take_of_length_le (by omega)] at hs'
            have q3 := fun k => ok_spec_l11Marks k P S W H hb
            rw [show liveOk P S W H on cut opn kept = (decide (on = s) && (on || !marksB W)) by simp only [liveOk, e, hL, ePr, hs', Bool.true_and]]
            cases on
            all_goals cases s
            all_goals cases em : marksB W
            all_goals
              simp only [em] at q3
              repeat' ((with_reducible (first | refine sCall.of (q3 _) ?_|refine st17 ?_|refine fG.split (fun _ => ?_) (fun _ => ?_)|refine fG.bool (fun _ => ?_) (fun _ => ?_)|refine gDn 8 ?_)) <;> (try (conv => whnf)))
            all_goals rfl
        · rw [liveOk_lens (by simp [shotLens, d3])]
          (refine fnI [ResultVar.tmp 2] Tryz.func16 ?_; conv => whnf)
          repeat' ((with_reducible (first | refine sCall.of (q1 _) ?_|refine sW.eq (w1) ?_|refine st17 ?_|refine fG.split (fun _ => ?_) (fun _ => ?_)|refine fG.bool (fun _ => ?_) (fun _ => ?_)|refine gDn 8 ?_)) <;> (try (conv => whnf)))
          all_goals first
            | rfl
            | (exfalso; omega)
      · rw [liveOk_lens (by simp [shotLens, d2])]
        (refine fnI [ResultVar.tmp 2] Tryz.func16 ?_; conv => whnf)
        repeat' ((with_reducible (first | refine sCall.of (q1 _) ?_|refine sW.eq (w1) ?_|refine st17 ?_|refine fG.split (fun _ => ?_) (fun _ => ?_)|refine fG.bool (fun _ => ?_) (fun _ => ?_)|refine gDn 8 ?_)) <;> (try (conv => whnf)))
        all_goals first
          | rfl
          | (exfalso; omega)
    · rw [liveOk_lens (by simp [shotLens, d1])]
      (refine fnI [ResultVar.tmp 2] Tryz.func16 ?_; conv => whnf)
      repeat' ((with_reducible (first | refine sCall.of (q1 _) ?_|refine sW.eq (w1) ?_|refine st17 ?_|refine fG.split (fun _ => ?_) (fun _ => ?_)|refine fG.bool (fun _ => ?_) (fun _ => ?_)|refine gDn 8 ?_)) <;> (try (conv => whnf)))
      all_goals first
        | rfl
        | (exfalso; omega)

end Go.Proofs.YtlobpiebphnkiaaGreat.Abs
namespace Go.Proofs.YtlobpiebphnkiaaGreat.Abs
open Go Go.Proofs
set_option linter.unusedVariables false
set_option linter.unusedSimpArgs false
attribute [local irreducible] callE
def shotDone (P : List (List Ins)) (S : List State) (W : List (List Item)) (H : List (List Event)) (on : Bool) (cut : List Int) (opn : List Bool) (kept : List (List Int)) : Bool :=
  liveOk P S W H on cut opn kept && (on && (!(cut.any fun x => decide (-1 = x)) && !(opn.any fun x => x)))
theorem liveOk_facts {P : List (List Ins)} {S : List State} {W : List (List Item)} {H : List (List Event)} {on : Bool} {cut : List Int} {opn : List Bool} {kept : List (List Int)} (h : liveOk P S W H on cut opn kept = true) :
    sysOk P S W H = true ∧ cut.length = P.length ∧ opn.length = P.length * P.length ∧ kept.length = P.length * P.length ∧ (∀ p, p < cut.length → -1 ≤ rd cut p ∧ rd cut p ≤ ((rd H p).length : Int)) ∧
      (∀ p, p < P.length → ∀ a, a < P.length → rd cut p < 0 → rd opn (a * P.length + p) = false ∧ (rd kept (a * P.length + p)).length = 0) ∧ on = drawnB cut ∧ (on = false → marksB W = false) := by
  simp only [liveOk, shotLens, Bool.and_eq_true, decide_eq_true_eq, allBelow_eq] at h
  obtain ⟨h1, ⟨h2, h3, h4⟩, h5, h6, h7⟩ := h
  refine ⟨h1, h2, h3, h4, fun p hp => ?_, fun p hp a ha hc => ?_, h6, fun h => ?_⟩
  · have h8 := h5 p (by omega)
    simp only [cutOk, inB, Bool.and_eq_true, decide_eq_true_eq] at h8
    exact h8.1
  · have h8 := h5 p hp
    simp only [cutOk, Bool.and_eq_true, Bool.or_eq_true, decide_eq_true_eq, allBelow_eq] at h8
    rcases h8.2 with h9 | h9
    · omega
    · have h10 := h9 a ha
      exact ⟨by simpa using h10.1, h10.2⟩
  · rw [h] at h7
    simpa using h7
end Go.Proofs.YtlobpiebphnkiaaGreat.Abs
namespace Go.Proofs.YtlobpiebphnkiaaGreat.Abs
open Go Go.Proofs
set_option linter.unusedVariables false
set_option linter.unusedSimpArgs false
attribute [local irreducible] callE
def mBool (m : Int) (x : Bool) : Bool := decide (m.tmod 3 = 0)
def wBool (x : Bool) : Nat := 1
theorem wts_wBool (l : List Bool) : wts wBool l = l.length := (wts_const 1 l).trans (Nat.one_mul _)
def mIntL (m : Int) (x : List Int) : List Int := marks mInt wInt m x
def wIntL (x : List Int) : Nat := x.length
theorem ok_laws_markBoolS (k : Nat) (l : List Bool) (m : Int) (hl : l.length ≤ 100000000000) (h0 : 0 ≤ m) (h1 : m ≤ 100000000000) : callE PR C (k + 1) 177 [.h 1000000 0 0 [] 1 0 l.length, i64 m] [tBool9 l] = some ⟨i64 (m + l.length), [], [some (tBool9 (marks mBool wBool m l))]⟩ := by
  (refine fnI [ResultVar.tmp 4] Tryz.func177 ?_; conv => whnf)
  repeat' ((with_reducible (first | refine st17 ?_|refine fG.split (fun _ => ?_) (fun _ => ?_)|refine fG.bool (fun _ => ?_) (fun _ => ?_))) <;> (try (conv => whnf)))
  refine loop_rule (ι := TM Bool) (fun x => [(0, .h 1000000 0 0 [] 1 0 l.length), (1, i64 x.m), (5, i64 (x.j : Nat))])
    (fun x => [(1000000, ⟨0, x.g, x.d, tBool9 x.l⟩)])
    (fun x => l.length - x.j) (fun x => x.j ≤ l.length ∧ x.l = half mBool wBool m l x.j ∧ x.m = m + x.j) ⟨0, m, l, 0, false⟩ fitOk ⟨Nat.zero_le _, (half_zero _ _ m l).symm, by simp⟩ (by simp [C]; omega) ?_
  rintro ⟨j, n, out, g, d⟩ sl ob ⟨hj, hout, hn⟩
  dsimp only at hj hout hn
  have hlen : out.length = l.length := by rw [hout, half_len]
  have hz : n.tmod 3 = n.tmod 3 := rfl
  (try dsimp only [cond_true, cond_false])
  (conv => whnf)
  repeat' ((with_reducible (first | refine sZ.eq (hz) ?_|refine st17 ?_|refine fG.split (fun _ => ?_) (fun _ => ?_)|refine fG.bool (fun _ => ?_) (fun _ => ?_))) <;> (try (conv => whnf)))
  case' refine_1 h =>
    refine ⟨⟨⟨j + 1, n + 1, out.set j (mBool n (rd out j)), _, _⟩, fitOk, ?_, ?_⟩⟩
    · refine ⟨by show j + 1 ≤ _; omega, ?_, by show _ = _; push_cast; omega⟩
      show _ = _
      rw [← half_set _ _ m l j (by omega), hout, hn]
      simp only [wts_wBool, List.length_take, mBool, show min j l.length = j by omega]
    · show l.length - (j + 1) < l.length - j; omega
  case refine_2 h =>
    have : j = l.length := by omega
    rw [hout, hn, this, half_all]
theorem ok_laws_markIntSS (k : Nat) (l : List (List Int)) (m : Int) (hl : l.length ≤ 100000000000) (h0 : 0 ≤ m) (h1 : m + wts wIntL l ≤ 10000000000) (hx : ∀ j : Nat, j < l.length → (rd l j).length ≤ 10000000000) :
    callE PR C (k + 2) 178 [.h 1000000 0 0 [] 1 0 l.length, i64 m] [tIntSS9 l] = some ⟨i64 (m + wts wIntL l), [], [some (tIntSS9 (marks mIntL wIntL m l))]⟩ := by
  (refine fnI [ResultVar.tmp 4] Tryz.func178 ?_; conv => whnf)
  repeat' ((with_reducible (first | refine st17 ?_|refine fG.split (fun _ => ?_) (fun _ => ?_)|refine fG.bool (fun _ => ?_) (fun _ => ?_))) <;> (try (conv => whnf)))
  refine loop_rule (ι := TM (List Int)) (fun x => [(0, .h 1000000 0 0 [] 1 0 l.length), (1, i64 x.m), (5, i64 (x.j : Nat))])
    (fun x => [(1000000, ⟨0, x.g, x.d, tIntSS9 x.l⟩)])
    (fun x => l.length - x.j) (fun x => x.j ≤ l.length ∧ x.l = half mIntL wIntL m l x.j ∧ x.m = m + wts wIntL (l.take x.j)) ⟨0, m, l, 0, false⟩ fitOk ⟨Nat.zero_le _, (half_zero _ _ m l).symm, by simp [wts]⟩ (by simp [C]; omega) ?_
  rintro ⟨j, n, out, g, d⟩ sl ob ⟨hj, hout, hn⟩
  dsimp only at hj hout hn
  have hlen : out.length = l.length := by rw [hout, half_len]
  have hn1 : n ≤ 10000000000 := by have := wts_le wIntL l j; omega
  have hn0 : 0 ≤ n := by omega
  have hrd : j < l.length → rd out j = rd l j := fun h => by rw [hout]; exact half_rd _ _ m l j h
  (try dsimp only [cond_true, cond_false])
  (conv => whnf)
  by_cases hjl : j < l.length
  · have hx1 : (rd out j).length ≤ 10000000000 := by rw [hrd hjl]; exact hx j hjl
    have hq := fun k => ok_laws_markIntS' k (rd out j) n (by omega) (by omega) (by omega)
    repeat' ((with_reducible (first | refine sCall.of (hq _) ?_|refine st17 ?_|refine fG.split (fun _ => ?_) (fun _ => ?_)|refine fG.bool (fun _ => ?_) (fun _ => ?_))) <;> (try (conv => whnf)))
    refine ⟨⟨⟨j + 1, n + (rd out j).length, out.set j (mIntL n (rd out j)), _, _⟩, fitOk, ?_, ?_⟩⟩
    · have e := wts_take wIntL l j hjl
      refine ⟨by show j + 1 ≤ _; omega, ?_, ?_⟩
      · show _ = _
        rw [← half_set _ _ m l j hjl, hrd hjl, hout, hn]
      · show _ = _
        rw [e, hrd hjl]
        simp only [wIntL]
        omega
    · show l.length - (j + 1) < l.length - j; omega
  · have : j = l.length := by omega
    repeat' ((with_reducible (first | refine st17 ?_|refine fG.split (fun _ => ?_) (fun _ => ?_)|refine fG.bool (fun _ => ?_) (fun _ => ?_))) <;> (try (conv => whnf)))
    rw [hout, hn, this, half_all, List.take_length]
def shotW (cut : List Int) (opn : List Bool) (kept : List (List Int)) : Nat := cut.length + (opn.length + wts wIntL kept)
theorem shotW_le (cut : List Int) (opn : List Bool) (kept : List (List Int)) : shotW cut opn kept ≤ shotSz cut opn kept := by
  have : wts wIntL kept = wts List.length kept := rfl
  unfold shotW shotSz
  omega
theorem ok_laws_markShot (k : Nat) (on : Bool) (cut : List Int) (opn : List Bool) (kept : List (List Int)) (m : Int) (hb : ShotB 1048576 cut opn kept) (h0 : 0 ≤ m) (h1 : m + shotW cut opn kept ≤ 10000000000) :
    callE PR C (k + 3) 91 [aShot 0 on cut opn kept, i64 m] [tI9 cut, tBool9 opn, tIntSS9 kept] = some ⟨i64 (m + shotW cut opn kept), [], [some (tI9 (marksI m cut)), some (tBool9 (marks mBool wBool (m + cut.length) opn)), some (tIntSS9 (marks mIntL wIntL (m + cut.length + opn.length) kept))]⟩ := by
  rw [show m + ((shotW cut opn kept : Nat) : Int) = m + cut.length + opn.length + wts wIntL kept by simp only [shotW]; omega]
  unfold shotW at h1
  have b1 := hb.c
  have b2 := hb.o
  have b3 := hb.k
  have q1 := fun k => ok_laws_markIntS9 k cut m (by omega) h0 (by omega)
  have q2 := fun k => ok_laws_markBoolS k opn (m + cut.length) (by omega) (by omega) (by omega)
  have q3 := fun k => ok_laws_markIntSS k kept (m + cut.length + opn.length) (by omega) (by omega) (by omega) (fun j hj => by have := hb.kk j hj; omega)
  have e1 := marks_len mInt wInt cut m
  have e2 := marks_len mBool wBool opn (m + cut.length)
  have e3 := marks_len mIntL wIntL kept (m + cut.length + opn.length)
  (refine fnI [ResultVar.tmp 4] Tryz.func91 ?_; conv => whnf)
  repeat' ((with_reducible (first | refine sCall.of (q1 _) ?_|refine sCall.of (q2 _) ?_|refine sCall.of (q3 _) ?_|refine st17 ?_|refine fG.split (fun _ => ?_) (fun _ => ?_)|refine fG.bool (fun _ => ?_) (fun _ => ?_))) <;> (try (conv => whnf)))
theorem ok_laws_markLive (k : Nat) (P : List (List Ins)) (S : List State) (W : List (List Item)) (H : List (List Event)) (on : Bool) (cut : List Int) (opn : List Bool) (kept : List (List Int)) (m : Int) (hb : SysB 1048576 P S W H) (hs : ShotB 1048576 cut opn kept) (h0 : 0 ≤ m) (h1 : m + sysW P S W H + shotW cut opn kept ≤ 1000000000) :
    callE PR C (k + 4) 33 [aLive 0 P S W H on cut opn kept, i64 m] [tInsSS9 P, tStateS9 S, tItemSS9 W, tEventSS9 H, tI9 cut, tBool9 opn, tIntSS9 kept] =
      some ⟨i64 (m + sysW P S W H + shotW cut opn kept), [], [some (tInsSS9 (mkP m P)), some (tStateS9 (mkS m P S)), some (tItemSS9 (mkW m P S W)), some (tEventSS9 (mkH m P S W H)), some (tI9 (marksI (m + sysW P S W H) cut)), some (tBool9 (marks mBool wBool (m + sysW P S W H + cut.length) opn)), some (tIntSS9 (marks mIntL wIntL (m + sysW P S W H + cut.length + opn.length) kept))]⟩ := by
  have q1 := fun k => ok_laws_markSys k P S W H m hb h0 (by omega)
  have q2 := fun k => ok_laws_markShot k on cut opn kept (m + sysW P S W H) hs (by omega) (by omega)
  have e1 : (mkP m P).length = P.length := marks_len _ _ _ _
  have e2 : (mkS m P S).length = S.length := marks_len _ _ _ _
  have e3 : (mkW m P S W).length = W.length := marks_len _ _ _ _
  have e4 : (mkH m P S W H).length = H.length := marks_len _ _ _ _
  have e5 := marks_len mInt wInt cut (m + sysW P S W H)
  have e6 := marks_len mBool wBool opn (m + sysW P S W H + cut.length)
  have e7 := marks_len mIntL wIntL kept (m + sysW P S W H + cut.length + opn.length)
  (refine fnI [ResultVar.tmp 4] Tryz.func33 ?_; conv => whnf)
  repeat' ((with_reducible (first | refine sCall.of (q1 _) ?_|refine sCall.of (q2 _) ?_|refine st17 ?_|refine fG.split (fun _ => ?_) (fun _ => ?_)|refine fG.bool (fun _ => ?_) (fun _ => ?_))) <;> (try (conv => whnf)))
theorem ok_laws_heldBoolS (k : Nat) (x l : List Bool) (m : Int) (hl : l.length ≤ 1000000000) (h0 : 0 ≤ m) (h1 : m ≤ 10000000000) (e : x = marks mBool wBool m l) : callE PR C (k + 1) 179 [.h 1000000 0 0 [] 1 0 x.length, i64 m] [tBool x] = some ⟨i64 (m + l.length), [], [none]⟩ := by
  have hxl : x.length = l.length := by rw [e, marks_len]
  (refine fnI [ResultVar.tmp 4] Tryz.func179 ?_; conv => whnf)
  repeat' ((with_reducible (first | refine st17 ?_|refine fG.split (fun _ => ?_) (fun _ => ?_)|refine fG.bool (fun _ => ?_) (fun _ => ?_))) <;> (try (conv => whnf)))
  refine loop_rule (ι := TH) (fun z => [(0, .h 1000000 0 0 [] 1 0 x.length), (1, i64 z.m), (5, i64 (z.j : Nat))])
    (fun z => [(1000000, ⟨0, 0, false, tBool x⟩)])
    (fun z => l.length - z.j) (fun z => z.j ≤ l.length ∧ z.m = m + z.j) ⟨0, m⟩ fitOk ⟨Nat.zero_le _, by simp⟩ (by simp [C]; omega) ?_
  rintro ⟨j, n⟩ sl ob ⟨hj, hn⟩
  dsimp only at hj hn
  (try dsimp only [cond_true, cond_false])
  (conv => whnf)
  by_cases hjl : j < l.length
  · have hr : rd x j = decide (n.tmod 3 = 0) := by
      rw [e, marks_rd _ _ _ _ _ hjl, wts_wBool, List.length_take, hn]
      rw [show min j l.length = j by omega]
      rfl
    clear e
    have hz : n.tmod 3 = n.tmod 3 := rfl
    repeat' ((with_reducible (first | refine sZ.eq (hz) ?_|refine gBeq ?_|refine st17 ?_|refine fG.split (fun _ => ?_) (fun _ => ?_)|refine fG.bool (fun _ => ?_) (fun _ => ?_))) <;> (try (conv => whnf)))
    refine ⟨⟨⟨j + 1, n + 1⟩, fitOk, ?_, ?_⟩⟩
    · exact ⟨by show j + 1 ≤ _; omega, by show _ = _; push_cast; omega⟩
    · show l.length - (j + 1) < l.length - j; omega
  · have : j = l.length := by omega
    repeat' ((with_reducible (first | refine st17 ?_|refine fG.split (fun _ => ?_) (fun _ => ?_)|refine fG.bool (fun _ => ?_) (fun _ => ?_))) <;> (try (conv => whnf)))
    rw [hn, this]
theorem ok_laws_heldIntSS (k : Nat) (x l : List (List Int)) (m : Int) (hl : l.length ≤ 1000000000) (h0 : 0 ≤ m) (h1 : m + wts wIntL l ≤ 10000000000) (hx : ∀ j : Nat, j < l.length → (rd l j).length ≤ 1000000000) (e : x = marks mIntL wIntL m l) :
    callE PR C (k + 2) 180 [.h 1000000 0 0 [] 1 0 x.length, i64 m] [tIntSS x] = some ⟨i64 (m + wts wIntL l), [], [none]⟩ := by
  have hxl : x.length = l.length := by rw [e, marks_len]
  (refine fnI [ResultVar.tmp 4] Tryz.func180 ?_; conv => whnf)
  repeat' ((with_reducible (first | refine st17 ?_|refine fG.split (fun _ => ?_) (fun _ => ?_)|refine fG.bool (fun _ => ?_) (fun _ => ?_))) <;> (try (conv => whnf)))
  refine loop_rule (ι := TH) (fun z => [(0, .h 1000000 0 0 [] 1 0 x.length), (1, i64 z.m), (5, i64 (z.j : Nat))])
    (fun z => [(1000000, ⟨0, 0, false, tIntSS x⟩)])
    (fun z => l.length - z.j) (fun z => z.j ≤ l.length ∧ z.m = m + wts wIntL (l.take z.j)) ⟨0, m⟩ fitOk ⟨Nat.zero_le _, by simp [wts]⟩ (by simp [C]; omega) ?_
  rintro ⟨j, n⟩ sl ob ⟨hj, hn⟩
  dsimp only at hj hn
  have hn1 : n ≤ 10000000000 := by have := wts_le wIntL l j; omega
  (try dsimp only [cond_true, cond_false])
  (conv => whnf)
  by_cases hjl : j < l.length
  · have hr : rd x j = marksI n (rd l j) := by rw [e, marks_rd _ _ _ _ _ hjl, hn]; rfl
    have hln : (rd x j).length = (rd l j).length := by rw [hr, marks_len]
    have hw := wts_take wIntL l j hjl
    have hw2 := wts_le wIntL l (j + 1)
    have hwj : wIntL (rd l j) = (rd x j).length := hln.symm
    have hxj := hx j hjl
    have hq := fun k => ok_laws_heldIntS k (rd x j) n (by omega) (by omega) (by omega) (fun i hi => by rw [hr] at hi ⊢; exact marksI_rd _ _ i hi)
    clear hr e
    repeat' ((with_reducible (first | refine sCall.of (hq _) ?_|refine st17 ?_|refine fG.split (fun _ => ?_) (fun _ => ?_)|refine fG.bool (fun _ => ?_) (fun _ => ?_))) <;> (try (conv => whnf)))
    refine ⟨⟨⟨j + 1, n + (rd x j).length⟩, fitOk, ?_, ?_⟩⟩
    · exact ⟨by show j + 1 ≤ _; omega, by show _ = _; rw [hw, hwj]; push_cast; omega⟩
    · show l.length - (j + 1) < l.length - j; omega
  · have : j = l.length := by omega
    repeat' ((with_reducible (first | refine st17 ?_|refine fG.split (fun _ => ?_) (fun _ => ?_)|refine fG.bool (fun _ => ?_) (fun _ => ?_))) <;> (try (conv => whnf)))
    rw [hn, this, List.take_length]
theorem ok_laws_heldShot (k : Nat) (on : Bool) (cut : List Int) (opn : List Bool) (kept : List (List Int)) (cut' : List Int) (opn' : List Bool) (kept' : List (List Int)) (m : Int) (hb : ShotB 1000000000 cut opn kept) (h0 : 0 ≤ m) (h1 : m + shotW cut opn kept ≤ 10000000000)
    (e1 : cut' = marksI m cut) (e2 : opn' = marks mBool wBool (m + cut.length) opn) (e3 : kept' = marks mIntL wIntL (m + cut.length + opn.length) kept) :
    callE PR C (k + 3) 92 [aShot 0 on cut' opn' kept', i64 m] [tI cut', tBool opn', tIntSS kept'] = some ⟨i64 (m + shotW cut opn kept), [], [none, none, none]⟩ := by
  rw [show m + ((shotW cut opn kept : Nat) : Int) = m + cut.length + opn.length + wts wIntL kept by simp only [shotW]; omega]
  unfold shotW at h1
  have b1 := hb.c
  have b2 := hb.o
  have b3 := hb.k
  have l1 : cut'.length = cut.length := by rw [e1, marksI_len]
  have q1 : ∀ k, callE PR C (k + 1) 30 [.h 1000000 0 0 [] 1 0 cut'.length, i64 m] [tI cut'] = some ⟨i64 (m + cut.length), [], [none]⟩ := fun k => by
    rw [← l1]
    exact ok_laws_heldIntS k cut' m (by omega) h0 (by omega) (fun i hi => by rw [e1] at hi ⊢; exact marksI_rd _ _ i hi)
  have q2 := fun k => ok_laws_heldBoolS k opn' opn (m + cut.length) (by omega) (by omega) (by omega) e2
  have q3 := fun k => ok_laws_heldIntSS k kept' kept (m + cut.length + opn.length) (by omega) (by omega) (by omega) hb.kk e3
  clear e1 e2 e3
  (refine fnI [ResultVar.tmp 4] Tryz.func92 ?_; conv => whnf)
  repeat' ((with_reducible (first | refine sCall.of (q1 _) ?_|refine sCall.of (q2 _) ?_|refine sCall.of (q3 _) ?_|refine st17 ?_|refine fG.split (fun _ => ?_) (fun _ => ?_)|refine fG.bool (fun _ => ?_) (fun _ => ?_))) <;> (try (conv => whnf)))
theorem ok_laws_heldLive (k : Nat) (P : List (List Ins)) (S : List State) (W : List (List Item)) (H : List (List Event)) (on : Bool) (cut : List Int) (opn : List Bool) (kept : List (List Int)) (P' : List (List Ins)) (S' : List State) (W' : List (List Item)) (H' : List (List Event)) (cut' : List Int) (opn' : List Bool) (kept' : List (List Int)) (m : Int) (hb : SysB 1000000000 P S W H) (hs : ShotB 1000000000 cut opn kept) (h0 : 0 ≤ m) (h1 : m + sysW P S W H + shotW cut opn kept ≤ 10000000000)
    (e1 : P' = mkP m P) (e2 : S' = mkS m P S) (e3 : W' = mkW m P S W) (e4 : H' = mkH m P S W H) (e5 : cut' = marksI (m + sysW P S W H) cut) (e6 : opn' = marks mBool wBool (m + sysW P S W H + cut.length) opn) (e7 : kept' = marks mIntL wIntL (m + sysW P S W H + cut.length + opn.length) kept) :
    callE PR C (k + 4) 34 [aLive 0 P' S' W' H' on cut' opn' kept', i64 m] [tInsSS P', tStateS S', tItemSS W', tEventSS H', tI cut', tBool opn', tIntSS kept'] = some ⟨i64 (m + sysW P S W H + shotW cut opn kept), [], [none, none, none, none, none, none, none]⟩ := by
  have q1 := fun k => ok_laws_heldSys k P S W H P' S' W' H' m hb h0 (by omega) e1 e2 e3 e4
  have q2 := fun k => ok_laws_heldShot k on cut opn kept cut' opn' kept' (m + sysW P S W H) hs (by omega) (by omega) e5 e6 e7
  clear e1 e2 e3 e4 e5 e6 e7
  (refine fnI [ResultVar.tmp 4] Tryz.func34 ?_; conv => whnf)
  repeat' ((with_reducible (first | refine sCall.of (q1 _) ?_|refine sCall.of (q2 _) ?_|refine st17 ?_|refine fG.split (fun _ => ?_) (fun _ => ?_)|refine fG.bool (fun _ => ?_) (fun _ => ?_))) <;> (try (conv => whnf)))

def picOk (W : List (List Item)) (kept : List (List Int)) : Bool := allBelow W.length fun i => decide (numbersOf (rd W i) = rd kept i)
def pictureIs (P : List (List Ins)) (S : List State) (W : List (List Item)) (H : List (List Event)) (on : Bool) (cut : List Int) (opn : List Bool) (kept : List (List Int)) : Sys × Bool :=
  if shotDone P S W H on cut opn kept = true then (if wholeB H cut = true ∧ waysFit (cutH H cut) P.length = true then (if picOk (waysOf (cutH H cut) P.length) kept = true then (atSys P (cutH H cut), true) else (⟨[], [], [], []⟩, false)) else (⟨[], [], [], []⟩, false)) else (⟨[], [], [], []⟩, false)
def sysResB (X : Sys) (t : Bool) (b : List (Option Cont)) : Res := ⟨.tu [nSys 0 X.progs X.states X.ways X.hist, bl t], [tInsSS9 X.progs, tStateS9 X.states, tItemSS9 X.ways, tEventSS9 X.hist], b⟩
structure PK where
  k : Nat
  bb : Nat
end Go.Proofs.YtlobpiebphnkiaaGreat.Abs
namespace Go.Proofs.YtlobpiebphnkiaaGreat.Abs
open Go Go.Proofs
set_option linter.unusedVariables false
set_option linter.unusedSimpArgs false
attribute [local irreducible] callE
theorem snoc_rIntL (l : List (List Int)) (x : List Int) : l.map rIntL ++ [[.sl 1 (x.map rI)]] = (l ++ [x]).map rIntL := by simp [rIntL]
theorem gI18 {p A : Prop} (h : A) (e : p := by first | with_reducible assumption | omega | (simp only [Nat.zero_add, Nat.add_zero, Nat.sub_zero, Int.toNat_natCast, Int.toNat_zero, Int.toNat_one, List.length_map, List.length_nil, Int.reduceToNat, Nat.reduceAdd, Nat.reduceSub, Int.sub_zero, Int.reduceAdd, Int.reduceSub, Nat.sub_self, Int.toNat_natCast_add_one, marks_len, bs_len, List.length_append, List.length_cons, List.length_set, List.length_replicate, List.length_range]; first | done | omega)) : sI p A := sI.mk e h
theorem gNum18 {r r' : Nat} {F : Nat → Prop} (h : F r') (e : r = r' := by first | (simp only [Nat.zero_add, Nat.add_zero, Nat.sub_zero, Int.toNat_natCast, Int.toNat_zero, Int.toNat_one, List.length_map, List.length_nil, Int.reduceToNat, Nat.reduceAdd, Nat.reduceSub, Int.sub_zero, Int.reduceAdd, Int.reduceSub, Nat.sub_self, Int.toNat_natCast_add_one, marks_len, bs_len]; rfl) | rfl) : sN r F := sN.eq e h
theorem gRow18 {r r' : List (List T)} {F : List (List T) → Prop} (h : F r') (e : r = r' := by first | (simp only [Nat.add_zero, Nat.zero_add, Nat.reduceAdd, List.drop_zero, List.take_succ_cons, List.take_nil, List.drop_succ_cons, List.drop_nil, List.take_zero, List.nil_append, List.append_nil, List.map_nil, drop_suf, take_pre, drop_map, List.take_length, take_len_set, take_len_app, List.set_set, List.length_map, snoc_rIntL, set_rIntL, rep_rIntL, snoc_rItem, snoc_rInsL, snoc_rItemL, snoc_rEventL, snoc_rState, set_rWho, rep_rWho, snoc_rWho, set_rState, rep_rState, set_rInsL, rep_rInsL, set_rItemL, rep_rItemL, set_rEventL, rep_rEventL, set_rItem, rep_rItem, rep_rKept, marks_take, set_rKept, set_rIns, rep_rIns, set_rEvent, rep_rEvent, snoc_rKept, snoc_rEvent, snoc_rIns, bytesT_bs, snoc_rI, snoc_rB, snoc_rBool, set_rI, set_rBool, rep_rI, rep_rBool, map_app]; rfl) | rfl) : sR r F := sR.eq e h
theorem st18 {P Q : Prop} (h : Q) (e : Q → P := by with_reducible first | exact fun h => gP h | exact fun h => gN h | exact fun h => fG.not h | exact fun h => gY h | exact fun h => gF h | exact fun h => fG.yes (flat_map (fun _ => rfl) _) h | exact fun h => gS64 h | exact fun h => gU8 h | exact fun h => gI18 h | exact fun h => fE.of rfl h | exact fun h => gNum18 h | exact fun h => gSet h | exact fun h => gRd h | exact fun h => gLk h | exact fun h => gRow18 h | exact fun h => gRf5 h) : P := e h
theorem ok_Clone_bool (k : Nat) (l : List Bool) (hl : l.length ≤ 100000000000) : callE PR C (k + 1) 200 [.h 1000000 0 0 [] 1 0 l.length] [tBool l] = some ⟨.h 2000000 1 0 [] 1 0 l.length, [tBool9 l], [none]⟩ := by
  have := callE_prim (k := k) (f := 200) rfl (cloneP_run (sz := 1) (bytes := 1) (wide_map (f := rBool) (fun _ => rfl) l) (flat_map (fun _ => rfl) l) (full_map (fun _ => rfl) l) (by simp; omega))
  simpa using this
abbrev zLive : Cont := .box [.nl 1, .nl 4, .nl 1, .nl 1, .s (.bool false), .nl 1, .nl 1, .nl 1]
set_option maxRecDepth 20000 in
set_option maxHeartbeats 4000000 in
theorem ok_impl_cloneLive (k : Nat) (P : List (List Ins)) (S : List State) (W : List (List Item)) (H : List (List Event)) (on : Bool) (cut : List Int) (opn : List Bool) (kept : List (List Int)) (hb : SysB 100000000000 P S W H) (hn : SysN P S W H) (hs : ShotB 1000000000 cut opn kept) (hk : 0 < kept.length) :
    callE PR C (k + 4) 119 [aLive 0 P S W H on cut opn kept] [tInsSS P, tStateS S, tItemSS W, tEventSS H, tI cut, tBool opn, tIntSS kept] = some ⟨nLive 0 P S W H on cut opn kept, [tInsSS9 P, tStateS9 S, tItemSS9 W, tEventSS9 H, tI9 cut, tBool9 opn, tIntSS9 kept], [none, none, none, none, none, none, none]⟩ := by
  have s1 := hs.c
  have s2 := hs.o
  have s3 := hs.k
  have q1 := fun k => ok_impl_cloneSys k P S W H hb hn
  have q2 := fun k => ok_Clone_int k cut (by omega)
  have q3 := fun k => ok_Clone_bool k opn (by omega)
  (refine fnI [ResultVar.cell 2 45] Tryz.func119 ?_; conv => whnf)
  repeat' ((with_reducible (first | refine sCall.of (q1 _) ?_|refine sCall.of (q2 _) ?_|refine sCall.of (q3 _) ?_|refine st18 ?_|refine fG.split (fun _ => ?_) (fun _ => ?_)|refine fG.bool (fun _ => ?_) (fun _ => ?_)|refine gD 1 [(2, 5), (2, 8), (5, 9), (2, 12), (9, 12), (5, 13), (1, 16), (2, 16), (5, 16), (8, 16), (9, 16), (12, 16), (13, 16)] ?_|refine gD 5 [(2, 4), (2, 5)] ?_)) <;> (try (conv => whnf)))
  refine loop_rule (ι := CS (List Int)) (fun z => [(2, .pt 2 1 0 [] 0 0), (3, .pt 3 1 0 [] 0 0), (24, .h 1000006 0 0 [] 1 0 kept.length), (25, i64 kept.length), (26, i64 (z.j : Nat))])
    (fun z => [(1000000, ⟨0, 0, false, tInsSS P⟩), (1000001, ⟨0, 0, false, tStateS S⟩), (1000002, ⟨0, 0, false, tItemSS W⟩), (1000003, ⟨0, 0, false, tEventSS H⟩), (1000004, ⟨0, 0, false, tI cut⟩), (1000005, ⟨0, 0, false, tBool opn⟩), (1000006, ⟨0, 0, false, tIntSS kept⟩), (2, ⟨1, 0, false, zLive⟩), (3, ⟨1, 0, z.dd, .box [.h 10008 1 0 [] 1 0 P.length, .h 20008 1 0 [] 4 0 S.length, .h 30008 1 0 [] 1 0 W.length, .h 40008 1 0 [] 1 0 H.length, bl on, .h 10015 1 0 [] 1 0 cut.length, .h 10019 1 0 [] 1 0 opn.length, z.v]⟩), (10008, ⟨1, 0, false, tInsSS9 P⟩), (20008, ⟨1, 0, false, tStateS9 S⟩), (30008, ⟨1, 0, false, tItemSS9 W⟩), (40008, ⟨1, 0, false, tEventSS9 H⟩), (10015, ⟨1, 0, false, tI9 cut⟩), (10019, ⟨1, 0, false, tBool9 opn⟩), (36, ⟨z.b, z.g, z.d, z.c⟩)])
    (fun z => kept.length - z.j) (fun z => z.j ≤ kept.length ∧ Grown 36 1 tIntSS9 kept z) ⟨0, [], .nl 1, 0, 0, false, .dead, _⟩ fitOk ⟨Nat.zero_le _, grown_nil⟩ (by simp [C]; omega) ?_
  clear q1 q2 q3
  rintro ⟨j, l, v, b0, g0, d0, c, dd⟩ sl ob ⟨hj, hl, hg⟩
  dsimp only at hj hl hg
  by_cases hjl : j < kept.length
  · have hx := hs.kk j hjl
    have q := fun k => ok_Clone_int k (rd kept j) (by omega)
    rcases hg with ⟨e1, e2, e3, e4, e5, e6⟩ | ⟨h0, e2, e3⟩
    all_goals dsimp only at *
    · subst e1 e2 e3 e4 e5 e6 hl
      (try dsimp only [cond_true, cond_false])
      (conv => whnf)
      repeat' ((with_reducible (first | refine sCall.of (q _) ?_|refine st18 ?_|refine fG.split (fun _ => ?_) (fun _ => ?_)|refine fG.bool (fun _ => ?_) (fun _ => ?_)|refine gD 1 [(2, 5), (2, 8), (5, 9), (2, 12), (9, 12), (5, 13), (1, 16), (2, 16), (5, 16), (8, 16), (9, 16), (12, 16), (13, 16)] ?_|refine gD 5 [(2, 4), (2, 5)] ?_)) <;> (try (conv => whnf)))
      refine ⟨⟨⟨0 + 1, [rd kept 0], _, _, _, _, _, _⟩, fitOk, ?_, ?_⟩⟩
      · exact ⟨by show 0 + 1 ≤ _; omega, grown_one hjl⟩
      · show kept.length - (0 + 1) < kept.length - 0; omega
    · subst e2 e3
      have hle : l.length = j := by rw [hl]; simp; omega
      (try dsimp only [cond_true, cond_false])
      (conv => whnf)
      repeat' ((with_reducible (first | refine sCall.of (q _) ?_|refine st18 ?_|refine fG.split (fun _ => ?_) (fun _ => ?_)|refine fG.bool (fun _ => ?_) (fun _ => ?_)|refine gD 1 [(2, 5), (2, 8), (5, 9), (2, 12), (9, 12), (5, 13), (1, 16), (2, 16), (5, 16), (8, 16), (9, 16), (12, 16), (13, 16)] ?_|refine gD 5 [(2, 4), (2, 5)] ?_)) <;> (try (conv => whnf)))
      refine ⟨⟨⟨j + 1, l ++ [rd kept j], _, _, _, _, _, _⟩, fitOk, ?_, ?_⟩⟩
      · exact ⟨by show j + 1 ≤ _; omega, grown_more hjl hl⟩
      · show kept.length - (j + 1) < kept.length - j; omega
  rcases hg with ⟨e1, e2, e3, e4, e5, e6⟩ | ⟨h0, e2, e3⟩
  all_goals dsimp only at *
  · exfalso; omega
  rw [List.take_of_length_le (by omega)] at hl
  rw [hl] at e2 e3
  subst e2 e3
  (try dsimp only [cond_true, cond_false])
  (conv => whnf)
  repeat' ((with_reducible (first | refine st18 ?_|refine fG.split (fun _ => ?_) (fun _ => ?_)|refine fG.bool (fun _ => ?_) (fun _ => ?_)|refine gD 1 [(2, 5), (2, 8), (5, 9), (2, 12), (9, 12), (5, 13), (1, 16), (2, 16), (5, 16), (8, 16), (9, 16), (12, 16), (13, 16)] ?_|refine gD 5 [(2, 4), (2, 5)] ?_)) <;> (try (conv => whnf)))
set_option maxRecDepth 20000 in
set_option maxHeartbeats 4000000 in
theorem ok_spec_l11Copy (k : Nat) (P : List (List Ins)) (S : List State) (W : List (List Item)) (H : List (List Event)) (on : Bool) (cut : List Int) (opn : List Bool) (kept : List (List Int)) (hb : SysB 100000000000 P S W H) (hn : SysN P S W H) (hs : ShotB 1000000000 cut opn kept) (hk : 0 < kept.length) :
    callE PR C (k + 3) 117 [aLive 0 P S W H on cut opn kept] [tInsSS P, tStateS S, tItemSS W, tEventSS H, tI cut, tBool opn, tIntSS kept] = some ⟨nLive 0 P S W H on cut opn kept, [tInsSS9 P, tStateS9 S, tItemSS9 W, tEventSS9 H, tI9 cut, tBool9 opn, tIntSS9 kept], [none, none, none, none, none, none, none]⟩ := by
  have s1 := hs.c
  have s2 := hs.o
  have s3 := hs.k
  have q1 := fun k => ok_spec_l4Copy k P S W H hb hn
  (refine fnI [ResultVar.cell 2 45] Tryz.func117 ?_; conv => whnf)
  repeat' ((with_reducible (first | refine sCall.of (q1 _) ?_|refine st18 ?_|refine fG.split (fun _ => ?_) (fun _ => ?_)|refine fG.bool (fun _ => ?_) (fun _ => ?_)|refine gD 1 [(2, 5), (1, 6), (2, 6), (5, 6), (2, 9), (6, 9), (5, 10), (1, 11), (2, 11), (5, 11), (6, 11), (9, 11), (10, 11), (2, 14), (6, 14), (10, 14), (11, 14), (5, 15), (1, 18), (2, 18), (5, 18), (6, 18), (9, 18), (10, 18), (11, 18), (14, 18), (15, 18)] ?_|refine gD 5 [(2, 3), (3, 6), (3, 9), (2, 10), (2, 11)] ?_)) <;> (try (conv => whnf)))
  refine loop_rule (ι := CS (List Int)) (fun z => [(1, .pt 1 1 0 [] 0 0), (2, .pt 2 1 0 [] 0 0), (3, .pt 3 1 0 [] 0 0), (4, i64 (z.j : Nat))])
    (fun z => [(1000000, ⟨0, 0, false, tInsSS P⟩), (1000001, ⟨0, 0, false, tStateS S⟩), (1000002, ⟨0, 0, false, tItemSS W⟩), (1000003, ⟨0, 0, false, tEventSS H⟩), (1000004, ⟨0, 0, false, tI cut⟩), (1000005, ⟨0, 0, false, tBool opn⟩), (1000006, ⟨0, 0, false, tIntSS kept⟩), (1, ⟨1, 0, false, bLive P S W H on cut opn kept⟩), (2, ⟨1, 0, false, zLive⟩), (3, ⟨1, 0, z.dd, .box [.h 10007 1 0 [] 1 0 P.length, .h 20007 1 0 [] 4 0 S.length, .h 30007 1 0 [] 1 0 W.length, .h 40007 1 0 [] 1 0 H.length, bl on, .h 15 1 0 [] 1 0 cut.length, .h 20 1 0 [] 1 0 opn.length, z.v]⟩), (10007, ⟨1, 0, false, tInsSS9 P⟩), (20007, ⟨1, 0, false, tStateS9 S⟩), (30007, ⟨1, 0, false, tItemSS9 W⟩), (40007, ⟨1, 0, false, tEventSS9 H⟩), (15, ⟨1, 0, false, tI9 cut⟩), (20, ⟨1, 0, false, tBool9 opn⟩), (43, ⟨z.b, z.g, z.d, z.c⟩)])
    (fun z => kept.length - z.j) (fun z => z.j ≤ kept.length ∧ Grown 43 1 tIntSS9 kept z) ⟨0, [], .nl 1, 0, 0, false, .dead, _⟩ fitOk ⟨Nat.zero_le _, grown_nil⟩ (by simp [C]; omega) ?_
  clear q1
  rintro ⟨j, l, v, b0, g0, d0, c, dd⟩ sl ob ⟨hj, hl, hg⟩
  dsimp only at hj hl hg
  by_cases hjl : j < kept.length
  · have hx := hs.kk j hjl
    rcases hg with ⟨e1, e2, e3, e4, e5, e6⟩ | ⟨h0, e2, e3⟩
    all_goals dsimp only at *
    · subst e1 e2 e3 e4 e5 e6 hl
      (try dsimp only [cond_true, cond_false])
      (conv => whnf)
      repeat' ((with_reducible (first | refine st18 ?_|refine fG.split (fun _ => ?_) (fun _ => ?_)|refine fG.bool (fun _ => ?_) (fun _ => ?_)|refine gD 1 [(2, 5), (1, 6), (2, 6), (5, 6), (2, 9), (6, 9), (5, 10), (1, 11), (2, 11), (5, 11), (6, 11), (9, 11), (10, 11), (2, 14), (6, 14), (10, 14), (11, 14), (5, 15), (1, 18), (2, 18), (5, 18), (6, 18), (9, 18), (10, 18), (11, 18), (14, 18), (15, 18)] ?_|refine gD 5 [(2, 3), (3, 6), (3, 9), (2, 10), (2, 11)] ?_)) <;> (try (conv => whnf)))
      refine ⟨⟨⟨0 + 1, [rd kept 0], _, _, _, _, _, _⟩, fitOk, ?_, ?_⟩⟩
      · exact ⟨by show 0 + 1 ≤ _; omega, grown_one hjl⟩
      · show kept.length - (0 + 1) < kept.length - 0; omega
    · subst e2 e3
      have hle : l.length = j := by rw [hl]; simp; omega
      (try dsimp only [cond_true, cond_false])
      (conv => whnf)
      repeat' ((with_reducible (first | refine st18 ?_|refine fG.split (fun _ => ?_) (fun _ => ?_)|refine fG.bool (fun _ => ?_) (fun _ => ?_)|refine gD 1 [(2, 5), (1, 6), (2, 6), (5, 6), (2, 9), (6, 9), (5, 10), (1, 11), (2, 11), (5, 11), (6, 11), (9, 11), (10, 11), (2, 14), (6, 14), (10, 14), (11, 14), (5, 15), (1, 18), (2, 18), (5, 18), (6, 18), (9, 18), (10, 18), (11, 18), (14, 18), (15, 18)] ?_|refine gD 5 [(2, 3), (3, 6), (3, 9), (2, 10), (2, 11)] ?_)) <;> (try (conv => whnf)))
      refine ⟨⟨⟨j + 1, l ++ [rd kept j], _, _, _, _, _, _⟩, fitOk, ?_, ?_⟩⟩
      · exact ⟨by show j + 1 ≤ _; omega, grown_more hjl hl⟩
      · show kept.length - (j + 1) < kept.length - j; omega
  rcases hg with ⟨e1, e2, e3, e4, e5, e6⟩ | ⟨h0, e2, e3⟩
  all_goals dsimp only at *
  · exfalso; omega
  rw [List.take_of_length_le (by omega)] at hl
  rw [hl] at e2 e3
  subst e2 e3
  (try dsimp only [cond_true, cond_false])
  (conv => whnf)
  repeat' ((with_reducible (first | refine st18 ?_|refine fG.split (fun _ => ?_) (fun _ => ?_)|refine fG.bool (fun _ => ?_) (fun _ => ?_)|refine gD 1 [(2, 5), (1, 6), (2, 6), (5, 6), (2, 9), (6, 9), (5, 10), (1, 11), (2, 11), (5, 11), (6, 11), (9, 11), (10, 11), (2, 14), (6, 14), (10, 14), (11, 14), (5, 15), (1, 18), (2, 18), (5, 18), (6, 18), (9, 18), (10, 18), (11, 18), (14, 18), (15, 18)] ?_|refine gD 5 [(2, 3), (3, 6), (3, 9), (2, 10), (2, 11)] ?_)) <;> (try (conv => whnf)))

def askedOf (x : Ins) (peer : Int) : Int := if x.n = 9 then peer else x.n
def srcIs (n : Nat) (W : List (List Item)) (p : Nat) (q : Int) : Int × Int :=
  if 0 ≤ q ∧ q ≤ (n : Int) - 1 then (if (rd W (q.toNat * n + p)).length = 0 then (0, 3) else if (rd (rd W (q.toNat * n + p)) 0).mark = true then (0, 5) else (q, 0)) else (0, 2)
def wantsOf (P : List (List Ins)) (S : List State) (p : Nat) : Event := next (rd P p) (rd S p)
def insAt (P : List (List Ins)) (S : List State) (p : Nat) : Ins := rd (rd P p) (rd S p).at_.toNat
def comingIs (P : List (List Ins)) (S : List State) (W : List (List Item)) (H : List (List Event)) (p peer : Int) : Event × Int :=
  if 0 ≤ p ∧ p ≤ (P.length : Int) - 1 then
    (if (rd S p.toNat).code = 0 then
      (if (200 : Int) ≤ ((rd H p.toNat).length : Int) then (⟨0, 0, 0⟩, 4) else
        if (wantsOf P S p.toNat).kind = 2 then (if (12 : Int) ≤ ((rd W (p.toNat * P.length + (wantsOf P S p.toNat).peer.toNat)).length : Int) then (⟨0, 0, 0⟩, 4) else (wantsOf P S p.toNat, 0))
        else if (wantsOf P S p.toNat).kind = 3 then
          (if (srcIs P.length W p.toNat (askedOf (insAt P S p.toNat) peer)).2 = 0 then (⟨3, askedOf (insAt P S p.toNat) peer, (rd (rd W ((askedOf (insAt P S p.toNat) peer).toNat * P.length + p.toNat)) 0).v⟩, 0) else (⟨0, 0, 0⟩, (srcIs P.length W p.toNat (askedOf (insAt P S p.toNat) peer)).2))
        else (wantsOf P S p.toNat, 0))
    else (⟨0, 0, 0⟩, 6))
  else (⟨0, 0, 0⟩, 2)
def stepW (n : Nat) (W : List (List Item)) (p : Nat) (e : Event) : List (List Item) :=
  if e.kind = 2 then W.set (p * n + e.peer.toNat) (rd W (p * n + e.peer.toNat) ++ [⟨false, e.v⟩]) else if e.kind = 3 then W.set (e.peer.toNat * n + p) ((rd W (e.peer.toNat * n + p)).drop 1) else W
def stepS (P : List (List Ins)) (S : List State) (W : List (List Item)) (H : List (List Event)) (p : Nat) (e : Event) : Sys :=
  ⟨P, S.set p (did (rd P p) (rd S p) e), stepW P.length W p e, H.set p (rd H p ++ [e])⟩
def stepIs (P : List (List Ins)) (S : List State) (W : List (List Item)) (H : List (List Event)) (p peer : Int) : Sys × Int :=
  if (comingIs P S W H p peer).2 = 0 then (stepS P S W H p.toNat (comingIs P S W H p peer).1, 0) else (⟨P, S, W, H⟩, (comingIs P S W H p peer).2)
structure ComesAt (P : List (List Ins)) (S : List State) (W : List (List Item)) (H : List (List Event)) (p : Nat) (e : Event) : Prop where
  lt : p < P.length
  code : (rd S p).code = 0
  few : (rd H p).length < 200
  comes : comes e (next (rd P p) (rd S p)) = true
  send : e.kind = 2 → (0 ≤ e.peer ∧ e.peer.toNat < P.length) ∧ (rd W (p * P.length + e.peer.toNat)).length < 12
  take : e.kind = 3 → (0 ≤ e.peer ∧ e.peer.toNat < P.length) ∧ 0 < (rd W (e.peer.toNat * P.length + p)).length ∧ (rd (rd W (e.peer.toNat * P.length + p)) 0).mark = false ∧ e.v = (rd (rd W (e.peer.toNat * P.length + p)) 0).v
theorem next_kind {l : List Ins} {s : State} : (next l s).kind = 2 ∧ (rd l s.at_.toNat).op = 6 ∧ (next l s).peer = (rd l s.at_.toNat).n ∨ (next l s).kind = 3 ∧ (rd l s.at_.toNat).op = 7 ∧ next l s = ⟨3, (rd l s.at_.toNat).n, 0⟩ ∨ (next l s).kind ≠ 2 ∧ (next l s).kind ≠ 3 := by
  unfold next
  by_cases h6 : (rd l s.at_.toNat).op = 6
  · left; simp [h6]
  · by_cases h7 : (rd l s.at_.toNat).op = 7
    · right; left; simp [h7]
    · right; right
      by_cases h8 : (rd l s.at_.toNat).op = 8 <;> simp [h6, h7, h8]
theorem insOk_peer {x : Ins} {m n : Int} (h : insOk x m n = true) (h6 : x.op = 6) : 0 ≤ x.n ∧ x.n ≤ n - 1 := by
  simp only [insOk, h6, inB, Bool.and_eq_true, decide_eq_true_eq] at h
  simp at h
  omega
theorem comes_self {w : Event} (h : w.kind ≠ 3) : comes w w = true := by rw [comes_other h]; simp
theorem coming_comes {P : List (List Ins)} {S : List State} {W : List (List Item)} {H : List (List Event)} {p peer : Int} (hs : sysOk P S W H = true) (h : (comingIs P S W H p peer).2 = 0) : 0 ≤ p ∧ ComesAt P S W H p.toNat (comingIs P S W H p peer).1 := by
  simp only [sysOk, sizesOk, inB, Bool.and_eq_true, decide_eq_true_eq, allBelow_eq, List.all_eq_true] at hs
  obtain ⟨⟨a1, a2, a3, a4⟩, b1, b2, b3, b4⟩ := hs
  unfold comingIs at h ⊢
  by_cases c1 : 0 ≤ p ∧ p ≤ (P.length : Int) - 1
  · rw [if_pos c1] at h ⊢
    refine ⟨c1.1, ?_⟩
    have hp : p.toNat < P.length := by omega
    have hpr := b2 p.toNat hp
    simp only [procOk, Bool.and_eq_true] at hpr
    obtain ⟨e1, e2, e3, e4, e5⟩ := stood_evOk hpr.2.2
    have hat0 := e2.at0
    have hat1 := e2.at1
    have hio := progOk_iok e3 (i := (rd S p.toNat).at_.toNat) (by omega)
    by_cases c2 : (rd S p.toNat).code = 0
    · rw [if_pos c2] at h ⊢
      by_cases c3 : (200 : Int) ≤ ((rd H p.toNat).length : Int)
      · rw [if_pos c3] at h; exact absurd h (by show ¬ (4 : Int) = 0; decide)
      · rw [if_neg c3] at h ⊢
        by_cases c4 : (wantsOf P S p.toNat).kind = 2
        · rw [if_pos c4] at h ⊢
          by_cases c5 : (12 : Int) ≤ ((rd W (p.toNat * P.length + (wantsOf P S p.toNat).peer.toNat)).length : Int)
          · rw [if_pos c5] at h; exact absurd h (by show ¬ (4 : Int) = 0; decide)
          · rw [if_neg c5] at h ⊢
            have hk := @next_kind (rd P p.toNat) (rd S p.toNat)
            have hpe : 0 ≤ (wantsOf P S p.toNat).peer ∧ (wantsOf P S p.toNat).peer ≤ (P.length : Int) - 1 := by
              rcases hk with hk | hk | hk
              · have h6 := hk.2.1
                have hx : insOk (rd (rd P p.toNat) (rd S p.toNat).at_.toNat) (rd P p.toNat).length P.length = true := by
                  have h1 := hpr.1
                  simp only [progOk, Bool.and_eq_true, List.all_eq_true] at h1
                  exact h1.2 _ (rd_mem (by omega))
                show 0 ≤ (next _ _).peer ∧ (next _ _).peer ≤ _
                rw [hk.2.2]
                exact insOk_peer hx h6
              · exact absurd hk.1 (by show ¬ (wantsOf P S p.toNat).kind = 3; omega)
              · exact absurd c4 hk.1
            exact ⟨hp, c2, by omega, comes_self (by show (wantsOf P S p.toNat).kind ≠ 3; omega), fun _ => ⟨⟨hpe.1, by show (wantsOf P S p.toNat).peer.toNat < _; omega⟩, by show (rd W (p.toNat * P.length + (wantsOf P S p.toNat).peer.toNat)).length < 12; omega⟩, fun h3 => absurd h3 (by show ¬ (wantsOf P S p.toNat).kind = 3; omega)⟩
        · rw [if_neg c4] at h ⊢
          by_cases c6 : (wantsOf P S p.toNat).kind = 3
          · rw [if_pos c6] at h ⊢
            generalize hq : askedOf (insAt P S p.toNat) peer = q at h ⊢
            by_cases c7 : (srcIs P.length W p.toNat q).2 = 0
            · rw [if_pos c7] at h ⊢
              unfold srcIs at c7
              by_cases d1 : 0 ≤ q ∧ q ≤ (P.length : Int) - 1
              · rw [if_pos d1] at c7
                by_cases d2 : (rd W (q.toNat * P.length + p.toNat)).length = 0
                · rw [if_pos d2] at c7; exact absurd c7 (by show ¬ (3 : Int) = 0; decide)
                · rw [if_neg d2] at c7
                  by_cases d3 : (rd (rd W (q.toNat * P.length + p.toNat)) 0).mark = true
                  · rw [if_pos d3] at c7; exact absurd c7 (by show ¬ (5 : Int) = 0; decide)
                  · have hpl := place_lt (n := P.length) (a := q.toNat) (b := p.toNat) (by omega) hp
                    have hw := b1 (rd W (q.toNat * P.length + p.toNat)) (rd_mem (by omega))
                    simp only [wayOk, Bool.and_eq_true, List.all_eq_true] at hw
                    have hit := hw.2 (rd (rd W (q.toNat * P.length + p.toNat)) 0) (rd_mem (by omega))
                    simp only [itemOk, numOk, Bool.and_eq_true, decide_eq_true_eq] at hit
                    have hk := @next_kind (rd P p.toNat) (rd S p.toNat)
                    have h7 : (rd (rd P p.toNat) (rd S p.toNat).at_.toNat).op = 7 ∧ next (rd P p.toNat) (rd S p.toNat) = ⟨3, (rd (rd P p.toNat) (rd S p.toNat).at_.toNat).n, 0⟩ := by
                      rcases hk with hk | hk | hk
                      · exact absurd hk.1 c4
                      · exact hk.2
                      · exact absurd c6 hk.2
                    have htk := hio.take h7.1
                    refine ⟨hp, c2, by omega, ?_, fun h3 => absurd h3 (by show ¬ (3 : Int) = 2; decide), fun _ => ⟨⟨d1.1, by show q.toNat < _; omega⟩, by show 0 < (rd W (q.toNat * P.length + p.toNat)).length; omega, by simpa using d3, rfl⟩⟩
                    rw [h7.2, comes_take]
                    refine ⟨rfl, hit.1, ?_⟩
                    show q = _ ∧ _ ∨ _ ∧ 0 ≤ q ∧ q ≤ 3
                    rw [← hq]
                    unfold askedOf insAt
                    by_cases h9 : (rd (rd P p.toNat) (rd S p.toNat).at_.toNat).n = 9
                    · right
                      rw [if_pos h9]
                      refine ⟨h9, ?_⟩
                      have : q = peer := by rw [← hq, askedOf, insAt, if_pos h9]
                      omega
                    · left
                      rw [if_neg h9]
                      exact ⟨rfl, h9⟩
              · rw [if_neg d1] at c7; exact absurd c7 (by show ¬ (2 : Int) = 0; decide)
            · rw [if_neg c7] at h; exact absurd h c7
          · rw [if_neg c6] at h ⊢
            exact ⟨hp, c2, by omega, comes_self c6, fun h3 => absurd h3 c4, fun h3 => absurd h3 c6⟩
    · rw [if_neg c2] at h; exact absurd h (by show ¬ (6 : Int) = 0; decide)
  · rw [if_neg c1] at h; exact absurd h (by show ¬ (2 : Int) = 0; decide)
theorem rd_put {α : Type} [Inhabited α] {l : List α} {b q : Nat} (x : α) (hb : b < l.length) : rd (l.set b x) q = if q = b then x else rd l q := by
  simp only [rd, List.getD_eq_getElem?_getD, List.getElem?_set]
  by_cases h : b = q
  · subst h; simp [hb]
  · rw [if_neg h, if_neg (fun e => h e.symm)]
theorem vals_end (es : List Event) (e : Event) (x y : Int) : vals (es ++ [e]) x y = vals es x y ++ (if isEv x y e = true then [e.v] else []) := by
  simp only [vals, List.filter_append, List.map_append]
  by_cases h : isEv x y e = true
  · rw [if_pos h]; simp [h]
  · rw [if_neg h]; simp [h]
theorem numbers_end (w : List Item) (v : Int) : numbersOf (w ++ [⟨false, v⟩]) = numbersOf w ++ [v] := by simp [numbersOf]
theorem numbers_drop {w : List Item} (h : 0 < w.length) (hm : (rd w 0).mark = false) : numbersOf w = (rd w 0).v :: numbersOf (w.drop 1) := by
  cases w with
  | nil => simp at h
  | cons x w =>
    have e : rd (x :: w) 0 = x := rfl
    rw [e] at hm ⊢
    simp [numbersOf, hm]
theorem reach_more {H : List (List Event)} {p : Nat} {e : Event} (hP : PeersIn H) (hp : p < H.length) {f : List Int} {n : Nat} (h : Reach H f n) : Reach (H.set p (rd H p ++ [e])) f n := by
  have hr : ∀ q, rd (H.set p (rd H p ++ [e])) q = if q = p then rd H p ++ [e] else rd H q := fun q => rd_put _ hp
  have hpre : ∀ q (k : Nat), k ≤ (rd H q).length → (rd (H.set p (rd H p ++ [e])) q).take k = (rd H q).take k := fun q k hk => by
    rw [hr]
    split
    · rename_i hq; subst hq; rw [List.take_append_of_le_length hk]
    · rfl
  have hel : ∀ q (k : Nat), k < (rd H q).length → rd (rd (H.set p (rd H p ++ [e])) q) k = rd (rd H q) k := fun q k hk => by
    rw [hr]
    split
    · rename_i hq; subst hq; simp only [rd, List.getD_eq_getElem?_getD] at hk ⊢; rw [List.getElem?_append_left hk]
    · rfl
  induction h with
  | zero =>
    have := @Reach.zero (H.set p (rd H p ++ [e]))
    rwa [List.length_set] at this
  | @step f n q h hq hc ih =>
    have hf := h.fok
    have hlt := can_lt hf hq hc
    have h0 := (hf.rng q hq).1
    refine ih.step (by rw [List.length_set]; exact hq) ?_
    unfold canCome at hc ⊢
    rw [hel q _ (by omega), hpre q _ (by omega)]
    simp only [Bool.and_eq_true, Bool.not_eq_true', Bool.and_eq_false_iff, decide_eq_true_eq, decide_eq_false_iff_not] at hc ⊢
    refine ⟨?_, ?_⟩
    · rw [hr]
      split
      · rename_i hq'; subst hq'; simp; omega
      · exact hc.1
    · rcases hc.2 with h1 | h1
      · exact .inl h1
      · by_cases hk : (rd (rd H q) (rd f q).toNat).kind = 3
        · right
          have hpe := hP q hq (rd f q).toNat (by omega) hk
          have hfr := hf.rng (rd (rd H q) (rd f q).toNat).peer.toNat (by omega)
          rw [hpre _ _ (by omega)]
          exact h1
        · exact .inl hk
theorem allEv_set : ∀ {H : List (List Event)} {p : Nat} {e : Event}, p < H.length → allEv (H.set p (rd H p ++ [e])) = allEv H + 1
  | h :: H, 0, e, _ => by simp [allEv, rd]; omega
  | h :: H, p + 1, e, hp => by
    have := allEv_set (H := H) (p := p) (e := e) (by simpa using hp)
    simp only [allEv, List.set_cons_succ, List.map_cons, List.sum_cons] at this ⊢
    rw [show rd (h :: H) (p + 1) = rd H p from rfl, this]
    omega

theorem step_fits {P : List (List Ins)} {S : List State} {W : List (List Item)} {H : List (List Event)} {p : Nat} {e : Event} (hh : H.length = P.length) (hwl : W.length = P.length * P.length) (hc : ComesAt P S W H p e) {a b : Nat} (ha : a < P.length) (hb : b < P.length) (h : fits P.length W H a b = true) : fits P.length (stepW P.length W p e) (H.set p (rd H p ++ [e])) a b = true := by
  have hp := hc.lt
  have hr : ∀ q, rd (H.set p (rd H p ++ [e])) q = if q = p then rd H p ++ [e] else rd H q := fun q => rd_put _ (by omega)
  have hv : ∀ q (x y : Int), vals (rd (H.set p (rd H p ++ [e])) q) x y = vals (rd H q) x y ++ (if q = p ∧ isEv x y e = true then [e.v] else []) := fun q x y => by
    rw [hr]
    by_cases hq : q = p
    · subst hq
      rw [if_pos rfl, vals_end]
      by_cases hi : isEv x y e = true
      · rw [if_pos hi, if_pos ⟨rfl, hi⟩]
      · rw [if_neg hi, if_neg (fun h => hi h.2)]
    · rw [if_neg hq, if_neg (fun h => hq h.1), List.append_nil]
  simp only [fits, decide_eq_true_eq] at h ⊢
  rw [hv, hv]
  unfold stepW
  by_cases k2 : e.kind = 2
  · have hs := hc.send k2
    rw [if_pos k2, if_neg (show ¬ (b = p ∧ isEv 3 a e = true) by simp [isEv, k2]), List.append_nil]
    have hpl := place_lt hp hs.1.2
    rw [rd_put _ (by omega)]
    by_cases hab : a = p ∧ b = e.peer.toNat
    · obtain ⟨rfl, rfl⟩ := hab
      rw [if_pos rfl, if_pos ⟨rfl, by simp [isEv, k2]; omega⟩, numbers_end, ← List.append_assoc, h]
    · have hne : ¬ a * P.length + b = p * P.length + e.peer.toNat := fun he => by
        have h1 := place_div (n := P.length) (a := a) hb
        have h2 := place_div (n := P.length) (a := p) hs.1.2
        rw [he] at h1
        exact hab ⟨by rw [← h1.1, h2.1], by rw [← h1.2, h2.2]⟩
      rw [if_neg hne, if_neg (fun h3 => hab ⟨h3.1, by have := h3.2; simp [isEv, k2] at this; omega⟩), List.append_nil, h]
  · rw [if_neg k2, if_neg (show ¬ (a = p ∧ isEv 2 b e = true) by simp [isEv, k2]), List.append_nil]
    by_cases k3 : e.kind = 3
    · have ht := hc.take k3
      rw [if_pos k3]
      have hpl := place_lt ht.1.2 hp
      rw [rd_put _ (by omega)]
      by_cases hab : a = e.peer.toNat ∧ b = p
      · obtain ⟨rfl, rfl⟩ := hab
        rw [if_pos rfl, if_pos ⟨rfl, by simp [isEv, k3]; omega⟩, ht.2.2.2, ← h, numbers_drop ht.2.1 ht.2.2.1]
        simp
      · have hne : ¬ a * P.length + b = e.peer.toNat * P.length + p := fun he => by
          have h1 := place_div (n := P.length) (a := a) hb
          have h2 := place_div (n := P.length) (a := e.peer.toNat) hp
          rw [he] at h1
          exact hab ⟨by rw [← h1.1, h2.1], by rw [← h1.2, h2.2]⟩
        rw [if_neg hne, if_neg (fun h3 => hab ⟨by have := h3.2; simp [isEv, k3] at this; omega, h3.1⟩), List.append_nil, h]
    · rw [if_neg k3, if_neg (show ¬ (b = p ∧ isEv 3 a e = true) by simp [isEv, k3]), List.append_nil, h]
theorem step_row {P : List (List Ins)} {S : List State} {W : List (List Item)} {H : List (List Event)} {p : Nat} {e : Event} (hs : sysOk P S W H = true) (hc : ComesAt P S W H p e) : inRow (H.set p (rd H p ++ [e])) = true := by
  obtain ⟨hI, hP, hS, h200⟩ := sysOk_facts hs
  simp only [sysOk, Bool.and_eq_true, allBelow_eq] at hs
  obtain ⟨_, _, _, b3, b4⟩ := hs
  have hHl := hI.h
  have hp := hc.lt
  have hpH : p < H.length := by omega
  simp only [inRow, decide_eq_true_eq] at b4 ⊢
  obtain ⟨g, k, h1, h2, h3⟩ := greedy_reach (H := H) (allEv H) .zero (by omega)
  have e1 : k = allEv H := by unfold rowOf at b4; omega
  have hg := (sum_le H g h1.fok.len fun q hq => (h1.fok.rng q hq).2).2 (by rw [h1.sum, e1])
  have hr : ∀ q, rd (H.set p (rd H p ++ [e])) q = if q = p then rd H p ++ [e] else rd H q := fun q => rd_put _ hpH
  have h4 := reach_more (e := e) hP hpH h1
  have hPI : PeersIn (H.set p (rd H p ++ [e])) := by
    intro q hq i hi hk
    rw [List.length_set] at hq ⊢
    rw [hr] at hi hk ⊢
    split at hi
    · rename_i hqp; subst hqp
      rw [if_pos rfl] at hk ⊢
      rw [List.length_append, List.length_singleton] at hi
      by_cases hil : i < (rd H q).length
      · have e0 : rd (rd H q ++ [e]) i = rd (rd H q) i := by simp only [rd, List.getD_eq_getElem?_getD] at hil ⊢; rw [List.getElem?_append_left hil]
        rw [e0] at hk ⊢
        exact hP q hq i hil hk
      · have e0 : rd (rd H q ++ [e]) i = e := by
          have : i = (rd H q).length := by omega
          rw [this]; simp [rd]
        rw [e0] at hk ⊢
        have := (hc.take hk).1
        omega
    · rename_i hqp
      rw [if_neg hqp] at hk ⊢
      exact hP q hq i hi hk
  have hcan : canCome (H.set p (rd H p ++ [e])) g p = true := by
    unfold canCome
    have hgp := hg p hpH
    rw [hr, if_pos rfl, hgp]
    have e0 : rd (rd H p ++ [e]) (((rd H p).length : Int).toNat) = e := by simp [rd]
    rw [e0]
    simp only [Bool.and_eq_true, Bool.not_eq_true', Bool.and_eq_false_iff, decide_eq_true_eq, decide_eq_false_iff_not]
    refine ⟨by rw [List.length_append, List.length_singleton]; omega, ?_⟩
    by_cases k3 : e.kind = 3
    · right
      have ht := hc.take k3
      have hz : e.peer.toNat < H.length := by omega
      have hgz := hg _ hz
      have e5 : (rd (H.set p (rd H p ++ [e])) e.peer.toNat).take (rd g e.peer.toNat).toNat = rd H e.peer.toNat := by
        rw [hr, hgz]
        split
        · rename_i hq; rw [hq]; simp
        · simp
      have e6 : (rd H p ++ [e]).take (((rd H p).length : Int).toNat) = rd H p := by simp
      rw [e5, e6]
      have hf := b3 e.peer.toNat (by omega) p hp
      simp only [fits, decide_eq_true_eq] at hf
      have h5 := congrArg List.length hf
      rw [List.length_append, numbers_drop ht.2.1 ht.2.2.1, List.length_cons] at h5
      rw [show ((e.peer.toNat : Nat) : Int) = e.peer by omega] at h5
      simp only [cnt]
      omega
    · exact .inl k3
  have h6 := h4.step (by rw [List.length_set]; exact hpH) hcan
  have ha := allEv_set (e := e) hpH
  rw [ha]
  have hfull := h6.full (by omega)
  rw [row_len hPI h6 hfull, e1]
theorem replay_more {l : List Ins} {es : List Event} {s : State} {e : Event} (h : stoodAs l es s = true) (hc : s.code = 0) (hn : es.length < 200) (hk : comes e (next l s) = true) : stoodAs l (es ++ [e]) (did l s e) = true := by
  obtain ⟨_, _, h3, h4, h5⟩ := stood_evOk h
  have e1 : replayAll l (es ++ [e]) = some (did l s e) := by
    unfold replayAll
    rw [if_pos ⟨h3, by rw [List.length_append, List.length_singleton]; omega⟩, replay_append, h5]
    show replay l s [e] = _
    rw [replay, if_pos ⟨hc, hk⟩, replay]
  simp only [stoodAs, e1, Option.isSome_some, Bool.true_and, decide_eq_true_eq]
  rfl
theorem step_sysOk {P : List (List Ins)} {S : List State} {W : List (List Item)} {H : List (List Event)} {p : Nat} {e : Event} (hs : sysOk P S W H = true) (hc : ComesAt P S W H p e) :
    sysOk P (S.set p (did (rd P p) (rd S p) e)) (stepW P.length W p e) (H.set p (rd H p ++ [e])) = true := by
  have hrow := step_row hs hc
  simp only [sysOk, sizesOk, inB, Bool.and_eq_true, decide_eq_true_eq, allBelow_eq, List.all_eq_true] at hs ⊢
  obtain ⟨⟨a1, a2, a3, a4⟩, b1, b2, b3, b4⟩ := hs
  have hp := hc.lt
  have hpr := b2 p hp
  simp only [procOk, Bool.and_eq_true] at hpr
  obtain ⟨e1, e2, e3, e4, e5⟩ := stood_evOk hpr.2.2
  have hat0 := e2.at0
  have hat1 := e2.at1
  have hio := progOk_iok e3 (i := (rd S p).at_.toNat) (by omega)
  have hev := comes_evOk e2 hio hc.comes
  have hwl : (stepW P.length W p e).length = W.length := by
    unfold stepW
    split
    · rw [List.length_set]
    · split
      · rw [List.length_set]
      · rfl
  refine ⟨⟨a1, by rw [List.length_set]; exact a2, by rw [List.length_set]; exact a3, by rw [hwl]; exact a4⟩, ?_, ?_, fun a ha b hb => step_fits a3 a4 hc ha hb (b3 a ha b hb), hrow⟩
  · intro w hw
    unfold stepW at hw
    split at hw
    · rename_i k2
      have hsd := hc.send k2
      have hpl := place_lt hp hsd.1.2
      rcases List.mem_or_eq_of_mem_set hw with h | h
      · exact b1 w h
      · have h1 := b1 _ (rd_mem (l := W) (n := p * P.length + e.peer.toNat) (by omega))
        have hnum := comes_num e2 hio hc.comes k2
        rw [h]
        simp only [wayOk, Bool.and_eq_true, decide_eq_true_eq, List.all_append] at h1 ⊢
        refine ⟨by rw [List.length_append, List.length_singleton]; omega, h1.2, ?_⟩
        simp [itemOk, numOk, hnum]
    · split at hw
      · rename_i k3
        have ht := hc.take k3
        have hpl := place_lt ht.1.2 hp
        rcases List.mem_or_eq_of_mem_set hw with h | h
        · exact b1 w h
        · have h1 := b1 _ (rd_mem (l := W) (n := e.peer.toNat * P.length + p) (by omega))
          rw [h]
          simp only [wayOk, Bool.and_eq_true, decide_eq_true_eq, List.all_eq_true] at h1 ⊢
          exact ⟨by rw [List.length_drop]; omega, fun x hx => h1.2 x (List.mem_of_mem_drop hx)⟩
      · exact b1 w hw
  · intro q hq
    have h1 := b2 q hq
    simp only [procOk, Bool.and_eq_true] at h1 ⊢
    rw [rd_put _ (show p < H.length by omega), rd_put _ (show p < S.length by omega)]
    by_cases hqp : q = p
    · subst hqp
      rw [if_pos rfl, if_pos rfl]
      refine ⟨h1.1, ?_, replay_more h1.2.2 hc.code hc.few hc.comes⟩
      simp only [peersOk, List.all_append, Bool.and_eq_true] at h1 ⊢
      refine ⟨h1.2.1, ?_⟩
      simp only [List.all_cons, List.all_nil, Bool.and_true, peerOk, Bool.not_eq_true', Bool.and_eq_false_iff, Bool.or_eq_false_iff, decide_eq_false_iff_not, inB, Bool.not_eq_false', decide_eq_true_eq]
      by_cases k2 : e.kind = 2
      · right; have := (hc.send k2).1; omega
      · by_cases k3 : e.kind = 3
        · right; have := (hc.take k3).1; omega
        · left; exact ⟨k2, k3⟩
    · rw [if_neg hqp, if_neg hqp]
      exact h1
theorem ok_impl_wayAt_no (k : Nat) (P : List (List Ins)) (S : List State) (W : List (List Item)) (H : List (List Event)) (a b : Int) (hp : P.length ≤ 100000000000) (h : ¬ (0 ≤ a ∧ a ≤ (P.length : Int) - 1)) :
    callE PR C (k + 2) 122 [aSys 0 P S W H, i64 a, i64 b] [tInsSS P, tStateS S, tItemSS W, tEventSS H] = some ⟨i64 (-1), [], [none, none, none, none]⟩ := by
  have q1 := fun k => ok_impl_in k a 0 ((P.length : Int) - 1)
  rw [decide_eq_false h] at q1
  (refine fnI [ResultVar.tmp 6] Tryz.func122 ?_; conv => whnf)
  repeat' ((with_reducible (first | refine sCall.of (q1 _) ?_|refine st18 ?_|refine fG.split (fun _ => ?_) (fun _ => ?_)|refine fG.bool (fun _ => ?_) (fun _ => ?_))) <;> (try (conv => whnf)))
  all_goals rfl
set_option maxHeartbeats 4000000 in
theorem ok_impl_source (k : Nat) (P : List (List Ins)) (S : List State) (W : List (List Item)) (H : List (List Event)) (p : Nat) (peer : Int) (x : Ins) (hb : SysB 100000000000 P S W H) (hI : SysIs P S W H) (hp : p < P.length) :
    callE PR C (k + 3) 203 [aSys 0 P S W H, i64 (p : Nat), i64 peer, aIns x] [tInsSS P, tStateS S, tItemSS W, tEventSS H] = some ⟨.tu [i64 (srcIs P.length W p (askedOf x peer)).1, i64 (srcIs P.length W p (askedOf x peer)).2], [], [none, none, none, none]⟩ := by
  have hN := hI.n
  have hw := hI.w
  generalize hq : askedOf x peer = q
  by_cases d1 : 0 ≤ q ∧ q ≤ (P.length : Int) - 1
  · obtain ⟨q, rfl⟩ : ∃ n : Nat, q = (n : Int) := ⟨q.toNat, by omega⟩
    have q1 := fun k => ok_impl_wayAt k P S W H q p hb (by omega) hp hN.2 hw
    have hpl := place_lt (n := P.length) (a := q) (b := p) (by omega) hp
    have hwb := hb.ww (q * P.length + p) (by omega)
    obtain ⟨ix, hix⟩ : ∃ ix, ix = q * P.length + p := ⟨_, rfl⟩
    have hsrc : srcIs P.length W p q = (if (rd W ix).length = 0 then (0, 3) else if (rd (rd W ix) 0).mark = true then (0, 5) else ((q : Int), 0)) := by
      unfold srcIs
      rw [if_pos d1, hix]
      rfl
    rw [← hix] at q1 hpl hwb
    rw [hsrc]
    clear hsrc hix
    have e4 : (List.map rItem (rd W ix)).length = (rd W ix).length := by simp
    by_cases c9 : x.n = 9
    · rw [askedOf, if_pos c9] at hq
      subst hq
      by_cases d2 : (rd W ix).length = 0
      · rw [if_pos d2]
        (refine fnI [ResultVar.tmp 8, ResultVar.tmp 9] Tryz.func203 ?_; conv => whnf)
        repeat' ((with_reducible (first | refine sCall.of (q1 _) ?_|refine st18 ?_|refine fG.split (fun _ => ?_) (fun _ => ?_)|refine fG.bool (fun _ => ?_) (fun _ => ?_))) <;> (try (conv => whnf)))
      · rw [if_neg d2]
        cases d3 : (rd (rd W ix) 0).mark
        all_goals
          (refine fnI [ResultVar.tmp 8, ResultVar.tmp 9] Tryz.func203 ?_; conv => whnf)
          repeat' ((with_reducible (first | refine sCall.of (q1 _) ?_|refine st18 ?_|refine fG.split (fun _ => ?_) (fun _ => ?_)|refine fG.bool (fun _ => ?_) (fun _ => ?_))) <;> (try (conv => whnf)))
        all_goals rfl
    · rw [askedOf, if_neg c9] at hq
      by_cases d2 : (rd W ix).length = 0
      · rw [if_pos d2]
        rw [← hq] at q1
        (refine fnI [ResultVar.tmp 8, ResultVar.tmp 9] Tryz.func203 ?_; conv => whnf)
        repeat' ((with_reducible (first | refine sCall.of (q1 _) ?_|refine st18 ?_|refine fG.split (fun _ => ?_) (fun _ => ?_)|refine fG.bool (fun _ => ?_) (fun _ => ?_))) <;> (try (conv => whnf)))
      · rw [if_neg d2]
        cases d3 : (rd (rd W ix) 0).mark
        all_goals
          rw [← hq] at q1 ⊢
          (refine fnI [ResultVar.tmp 8, ResultVar.tmp 9] Tryz.func203 ?_; conv => whnf)
          repeat' ((with_reducible (first | refine sCall.of (q1 _) ?_|refine st18 ?_|refine fG.split (fun _ => ?_) (fun _ => ?_)|refine fG.bool (fun _ => ?_) (fun _ => ?_))) <;> (try (conv => whnf)))
        all_goals rfl
  · have q1 := fun k => ok_impl_wayAt_no k P S W H q p (by omega) d1
    rw [show srcIs P.length W p q = (0, 2) by unfold srcIs; rw [if_neg d1]]
    by_cases c9 : x.n = 9
    · rw [askedOf, if_pos c9] at hq
      subst hq
      (refine fnI [ResultVar.tmp 8, ResultVar.tmp 9] Tryz.func203 ?_; conv => whnf)
      repeat' ((with_reducible (first | refine sCall.of (q1 _) ?_|refine st18 ?_|refine fG.split (fun _ => ?_) (fun _ => ?_)|refine fG.bool (fun _ => ?_) (fun _ => ?_))) <;> (try (conv => whnf)))
    · rw [askedOf, if_neg c9] at hq
      rw [← hq] at q1
      (refine fnI [ResultVar.tmp 8, ResultVar.tmp 9] Tryz.func203 ?_; conv => whnf)
      repeat' ((with_reducible (first | refine sCall.of (q1 _) ?_|refine st18 ?_|refine fG.split (fun _ => ?_) (fun _ => ?_)|refine fG.bool (fun _ => ?_) (fun _ => ?_))) <;> (try (conv => whnf)))

theorem srcIs_ok {n : Nat} {W : List (List Item)} {p : Nat} {q : Int} (h : (srcIs n W p q).2 = 0) : (0 ≤ q ∧ q ≤ (n : Int) - 1) ∧ 0 < (rd W (q.toNat * n + p)).length ∧ (rd (rd W (q.toNat * n + p)) 0).mark = false ∧ srcIs n W p q = (q, 0) := by
  unfold srcIs at h ⊢
  by_cases d1 : 0 ≤ q ∧ q ≤ (n : Int) - 1
  · rw [if_pos d1] at h ⊢
    by_cases d2 : (rd W (q.toNat * n + p)).length = 0
    · rw [if_pos d2] at h; exact absurd h (by show ¬ (3 : Int) = 0; decide)
    · rw [if_neg d2] at h ⊢
      by_cases d3 : (rd (rd W (q.toNat * n + p)) 0).mark = true
      · rw [if_pos d3] at h; exact absurd h (by show ¬ (5 : Int) = 0; decide)
      · rw [if_neg d3]; exact ⟨d1, by omega, by simpa using d3, rfl⟩
  · rw [if_neg d1] at h; exact absurd h (by show ¬ (2 : Int) = 0; decide)
structure ProcF (P : List (List Ins)) (S : List State) (H : List (List Event)) (p : Nat) : Prop where
  ok : SOk (rd P p).length (rd S p)
  io : IOk (rd P p).length (rd (rd P p) (rd S p).at_.toNat)
  pl : (rd P p).length ≤ 30
  peer : (next (rd P p) (rd S p)).kind = 2 → 0 ≤ (next (rd P p) (rd S p)).peer ∧ (next (rd P p) (rd S p)).peer ≤ (P.length : Int) - 1
theorem procF_of {P : List (List Ins)} {S : List State} {W : List (List Item)} {H : List (List Event)} {p : Nat} (hs : sysOk P S W H = true) (hp : p < P.length) : ProcF P S H p := by
  simp only [sysOk, Bool.and_eq_true, allBelow_eq] at hs
  have hpr := hs.2.2.1 p hp
  simp only [procOk, Bool.and_eq_true] at hpr
  obtain ⟨e1, e2, e3, e4, e5⟩ := stood_evOk hpr.2.2
  have hat0 := e2.at0
  have hat1 := e2.at1
  refine ⟨e2, progOk_iok e3 (by omega), (progOk_len e3).2, fun h => ?_⟩
  rcases @next_kind (rd P p) (rd S p) with hk | hk | hk
  · rw [hk.2.2]
    have h1 := hpr.1
    simp only [progOk, Bool.and_eq_true, List.all_eq_true] at h1
    exact insOk_peer (h1.2 _ (rd_mem (by omega))) hk.2.1
  · omega
  · exact absurd h hk.1
set_option maxRecDepth 20000 in
set_option maxHeartbeats 8000000 in
theorem ok_impl_coming (k : Nat) (P : List (List Ins)) (S : List State) (W : List (List Item)) (H : List (List Event)) (p peer : Int) (hb : SysB 10000000000 P S W H) (hs : sysOk P S W H = true) :
    callE PR C (k + 4) 127 [aSys 0 P S W H, i64 p, i64 peer] [tInsSS P, tStateS S, tItemSS W, tEventSS H] = some ⟨.tu [aEvent (comingIs P S W H p peer).1, i64 (comingIs P S W H p peer).2], [], [none, none, none, none]⟩ := by
  obtain ⟨hI, hP, hS', h200⟩ := sysOk_facts hs
  have hN := hI.n
  have hsl := hI.s
  have hwl := hI.w
  have hHl := hI.h
  have q1 := fun k => ok_impl_in k p 0 ((P.length : Int) - 1)
  by_cases c1 : 0 ≤ p ∧ p ≤ (P.length : Int) - 1
  · rw [decide_eq_true c1] at q1
    obtain ⟨p, rfl⟩ : ∃ n : Nat, p = (n : Int) := ⟨p.toNat, by omega⟩
    have hp : p < P.length := by omega
    obtain ⟨f1, f2, f3, f4⟩ := procF_of hs hp
    have hh := h200 p (by omega)
    have e4 : (List.map rEvent (rd H p)).length = (rd H p).length := by simp
    have hat0 := f1.at0
    have hat1 := f1.at1
    by_cases c2 : (rd S p).code = 0
    · by_cases c3 : (200 : Int) ≤ ((rd H p).length : Int)
      · have hc : comingIs P S W H p peer = (⟨0, 0, 0⟩, 4) := by unfold comingIs; rw [if_pos c1, Int.toNat_natCast, if_pos c2, if_pos c3]
        rw [hc]
        (refine fnI [ResultVar.cell 6 135, ResultVar.tmp 7] Tryz.func127 ?_; conv => whnf)
        repeat' ((with_reducible (first | refine sCall.of (q1 _) ?_|refine st18 ?_|refine fG.split (fun _ => ?_) (fun _ => ?_)|refine fG.bool (fun _ => ?_) (fun _ => ?_)|refine gD 7 [(1, 11), (4, 11), (6, 11), (9, 11), (10, 11)] ?_|refine gD 10 [(1, 6)] ?_|refine gDn 13 ?_|refine gD 17 [(1, 5)] ?_)) <;> (try (conv => whnf)))
        all_goals rfl
      · have q2 := fun k => ok_impl_next k (rd P p) (rd S p).at_ (rd S p).regs (rd S p).out (rd S p).code (by omega) f1 f2
        rcases @next_kind (rd P p) (rd S p) with hk | hk | hk
        · have hpe := f4 hk.1
          obtain ⟨b, hbq⟩ : ∃ b : Nat, (next (rd P p) (rd S p)).peer = (b : Int) := ⟨_, (Int.toNat_of_nonneg hpe.1).symm⟩
          have q3 := fun k => ok_impl_wayAt k P S W H p b (hb.mono (by decide)) hp (by omega) hN.2 hwl
          have hpl := place_lt hp (show b < P.length by omega)
          have hk2 := hk.1
          have hc : comingIs P S W H p peer = (if (12 : Int) ≤ ((rd W (p * P.length + b)).length : Int) then (⟨0, 0, 0⟩, 4) else (next (rd P p) (rd S p), 0)) := by
            unfold comingIs
            rw [if_pos c1, Int.toNat_natCast, if_pos c2, if_neg c3, if_pos (show (wantsOf P S p).kind = 2 from hk2), show (wantsOf P S p).peer = (b : Int) from hbq, Int.toNat_natCast]
            rfl
          rw [hc]
          clear hc hk f4 hpe
          have q2 : ∀ k, callE PR C (k + 1) 202 [hIns 0 (rd P p), aState 1 (rd S p).at_ (rd S p).regs (rd S p).out (rd S p).code] [tIns (rd P p), tI (rd S p).regs, tI (rd S p).out] = some ⟨aEvent (next (rd P p) (rd S p)), [], [none, none, none]⟩ := q2
          generalize next (rd P p) (rd S p) = w at *
          rw [← hbq] at q3
          obtain ⟨ix, hix⟩ : ∃ ix, ix = p * P.length + b := ⟨_, rfl⟩
          rw [← hix] at q3 hpl ⊢
          have e5 : (List.map rItem (rd W ix)).length = (rd W ix).length := by simp
          by_cases c5 : (12 : Int) ≤ ((rd W ix).length : Int)
          · rw [if_pos c5]
            (refine fnI [ResultVar.cell 6 135, ResultVar.tmp 7] Tryz.func127 ?_; conv => whnf)
            repeat' ((with_reducible (first | refine sCall.of (q1 _) ?_|refine sCall.of (q2 _) ?_|refine sCall.of (q3 _) ?_|refine st18 ?_|refine fG.split (fun _ => ?_) (fun _ => ?_)|refine fG.bool (fun _ => ?_) (fun _ => ?_)|refine gD 7 [(1, 11), (4, 11), (6, 11), (9, 11), (10, 11)] ?_|refine gD 10 [(1, 6)] ?_|refine gDn 13 ?_|refine gD 17 [(1, 5)] ?_)) <;> (try (conv => whnf)))
            all_goals rfl
          · rw [if_neg c5]
            (refine fnI [ResultVar.cell 6 135, ResultVar.tmp 7] Tryz.func127 ?_; conv => whnf)
            repeat' ((with_reducible (first | refine sCall.of (q1 _) ?_|refine sCall.of (q2 _) ?_|refine sCall.of (q3 _) ?_|refine st18 ?_|refine fG.split (fun _ => ?_) (fun _ => ?_)|refine fG.bool (fun _ => ?_) (fun _ => ?_)|refine gD 7 [(1, 11), (4, 11), (6, 11), (9, 11), (10, 11)] ?_|refine gD 10 [(1, 6)] ?_|refine gDn 13 ?_|refine gD 17 [(1, 5)] ?_)) <;> (try (conv => whnf)))
            all_goals rfl
        · have q2 : ∀ k, callE PR C (k + 1) 202 [hIns 0 (rd P p), aState 1 (rd S p).at_ (rd S p).regs (rd S p).out (rd S p).code] [tIns (rd P p), tI (rd S p).regs, tI (rd S p).out] = some ⟨aEvent ⟨3, (rd (rd P p) (rd S p).at_.toNat).n, 0⟩, [], [none, none, none]⟩ := fun k => by rw [← hk.2.2]; exact q2 k
          have q3 := fun k => ok_impl_source k P S W H p peer (rd (rd P p) (rd S p).at_.toNat) (hb.mono (by decide)) hI hp
          have hw3 : (wantsOf P S p).kind = 3 := hk.1
          by_cases c7 : (srcIs P.length W p (askedOf (insAt P S p) peer)).2 = 0
          · obtain ⟨d1, d2, d3, d4⟩ := srcIs_ok c7
            have d4' : srcIs P.length W p (askedOf (rd (rd P p) (rd S p).at_.toNat) peer) = (askedOf (insAt P S p) peer, 0) := d4
            simp only [d4'] at q3
            have hc : comingIs P S W H p peer = (⟨3, askedOf (insAt P S p) peer, (rd (rd W ((askedOf (insAt P S p) peer).toNat * P.length + p)) 0).v⟩, 0) := by
              unfold comingIs
              rw [if_pos c1, Int.toNat_natCast, if_pos c2, if_neg c3, if_neg (by omega), if_pos hw3, if_pos c7]
            rw [hc]
            clear hc c7 d4 d4'
            generalize askedOf (insAt P S p) peer = q at *
            obtain ⟨q, rfl⟩ : ∃ n : Nat, q = (n : Int) := ⟨q.toNat, by omega⟩
            rw [Int.toNat_natCast] at d2 d3 ⊢
            have q4 := fun k => ok_impl_wayAt k P S W H q p (hb.mono (by decide)) (by omega) hp hN.2 hwl
            have hpl := place_lt (show q < P.length by omega) hp
            obtain ⟨ix, hix⟩ : ∃ ix, ix = q * P.length + p := ⟨_, rfl⟩
            rw [← hix] at q4 hpl d2 d3 ⊢
            have e5 : (List.map rItem (rd W ix)).length = (rd W ix).length := by simp
            (refine fnI [ResultVar.cell 6 135, ResultVar.tmp 7] Tryz.func127 ?_; conv => whnf)
            repeat' ((with_reducible (first | refine sCall.of (q1 _) ?_|refine sCall.of (q2 _) ?_|refine sCall.of (q3 _) ?_|refine sCall.of (q4 _) ?_|refine st18 ?_|refine fG.split (fun _ => ?_) (fun _ => ?_)|refine fG.bool (fun _ => ?_) (fun _ => ?_)|refine gD 7 [(1, 11), (4, 11), (6, 11), (9, 11), (10, 11)] ?_|refine gD 10 [(1, 6)] ?_|refine gDn 13 ?_|refine gD 17 [(1, 5)] ?_)) <;> (try (conv => whnf)))
            all_goals rfl
          · have hc : comingIs P S W H p peer = (⟨0, 0, 0⟩, (srcIs P.length W p (askedOf (insAt P S p) peer)).2) := by
              unfold comingIs
              rw [if_pos c1, Int.toNat_natCast, if_pos c2, if_neg c3, if_neg (by omega), if_pos hw3, if_neg c7]
            rw [hc]
            have q3 : ∀ k, callE PR C (k + 3) 203 [aSys 0 P S W H, i64 (p : Nat), i64 peer, aIns (rd (rd P p) (rd S p).at_.toNat)] [tInsSS P, tStateS S, tItemSS W, tEventSS H] = some ⟨.tu [i64 (srcIs P.length W p (askedOf (insAt P S p) peer)).1, i64 (srcIs P.length W p (askedOf (insAt P S p) peer)).2], [], [none, none, none, none]⟩ := q3
            generalize srcIs P.length W p (askedOf (insAt P S p) peer) = r at *
            (refine fnI [ResultVar.cell 6 135, ResultVar.tmp 7] Tryz.func127 ?_; conv => whnf)
            repeat' ((with_reducible (first | refine sCall.of (q1 _) ?_|refine sCall.of (q2 _) ?_|refine sCall.of (q3 _) ?_|refine st18 ?_|refine fG.split (fun _ => ?_) (fun _ => ?_)|refine fG.bool (fun _ => ?_) (fun _ => ?_)|refine gD 7 [(1, 11), (4, 11), (6, 11), (9, 11), (10, 11)] ?_|refine gD 10 [(1, 6)] ?_|refine gDn 13 ?_|refine gD 17 [(1, 5)] ?_)) <;> (try (conv => whnf)))
            all_goals rfl
        · have hc : comingIs P S W H p peer = (next (rd P p) (rd S p), 0) := by
            unfold comingIs
            rw [if_pos c1, Int.toNat_natCast, if_pos c2, if_neg c3, if_neg (show ¬ (wantsOf P S p).kind = 2 from hk.1), if_neg (show ¬ (wantsOf P S p).kind = 3 from hk.2)]
            rfl
          rw [hc]
          have hk2 := hk.1
          have hk3 := hk.2
          clear hc hk f4
          have q2 : ∀ k, callE PR C (k + 1) 202 [hIns 0 (rd P p), aState 1 (rd S p).at_ (rd S p).regs (rd S p).out (rd S p).code] [tIns (rd P p), tI (rd S p).regs, tI (rd S p).out] = some ⟨aEvent (next (rd P p) (rd S p)), [], [none, none, none]⟩ := q2
          generalize next (rd P p) (rd S p) = w at *
          (refine fnI [ResultVar.cell 6 135, ResultVar.tmp 7] Tryz.func127 ?_; conv => whnf)
          repeat' ((with_reducible (first | refine sCall.of (q1 _) ?_|refine sCall.of (q2 _) ?_|refine st18 ?_|refine fG.split (fun _ => ?_) (fun _ => ?_)|refine fG.bool (fun _ => ?_) (fun _ => ?_)|refine gD 7 [(1, 11), (4, 11), (6, 11), (9, 11), (10, 11)] ?_|refine gD 10 [(1, 6)] ?_|refine gDn 13 ?_|refine gD 17 [(1, 5)] ?_)) <;> (try (conv => whnf)))
          all_goals rfl
    · have hc : comingIs P S W H p peer = (⟨0, 0, 0⟩, 6) := by unfold comingIs; rw [if_pos c1, Int.toNat_natCast, if_neg c2]
      rw [hc]
      (refine fnI [ResultVar.cell 6 135, ResultVar.tmp 7] Tryz.func127 ?_; conv => whnf)
      repeat' ((with_reducible (first | refine sCall.of (q1 _) ?_|refine st18 ?_|refine fG.split (fun _ => ?_) (fun _ => ?_)|refine fG.bool (fun _ => ?_) (fun _ => ?_)|refine gD 7 [(1, 11), (4, 11), (6, 11), (9, 11), (10, 11)] ?_|refine gD 10 [(1, 6)] ?_|refine gDn 13 ?_|refine gD 17 [(1, 5)] ?_)) <;> (try (conv => whnf)))
      all_goals rfl
  · rw [decide_eq_false c1] at q1
    have hc : comingIs P S W H p peer = (⟨0, 0, 0⟩, 2) := by unfold comingIs; rw [if_neg c1]
    rw [hc]
    (refine fnI [ResultVar.cell 6 135, ResultVar.tmp 7] Tryz.func127 ?_; conv => whnf)
    repeat' ((with_reducible (first | refine sCall.of (q1 _) ?_|refine st18 ?_|refine fG.split (fun _ => ?_) (fun _ => ?_)|refine fG.bool (fun _ => ?_) (fun _ => ?_)|refine gD 7 [(1, 11), (4, 11), (6, 11), (9, 11), (10, 11)] ?_|refine gD 10 [(1, 6)] ?_|refine gDn 13 ?_|refine gD 17 [(1, 5)] ?_)) <;> (try (conv => whnf)))
    all_goals rfl

end Go.Proofs.YtlobpiebphnkiaaGreat.Abs
namespace Go.Proofs.YtlobpiebphnkiaaGreat.Abs
open Go Go.Proofs
set_option linter.unusedVariables false
set_option linter.unusedSimpArgs false
attribute [local irreducible] callE
theorem gRec {a v : AV} {F : Bool → Prop} (h : F true) (e : isRecut a v = true := by simp [isRecut]) : sBool (isRecut a v) F := sBool.eq e h
set_option maxRecDepth 20000 in
set_option maxHeartbeats 8000000 in
theorem ok_impl_step (k : Nat) (P : List (List Ins)) (S : List State) (W : List (List Item)) (H : List (List Event)) (p peer : Int) (hb : SysB 10000000000 P S W H) (hs : sysOk P S W H = true) :
    callE PR C (k + 5) 107 [aSys 0 P S W H, i64 p, i64 peer] [tInsSS P, tStateS S, tItemSS W, tEventSS H] = some (sysRes (stepIs P S W H p peer).1 (stepIs P S W H p peer).2 [none, none, none, none]) := by
  obtain ⟨hI, hP, hS', h200⟩ := sysOk_facts hs
  have hN := hI.n
  have hsl := hI.s
  have hwl := hI.w
  have hHl := hI.h
  have q1 := fun k => ok_impl_cloneSys k P S W H (hb.mono (by decide)) hI.some
  have q2 := fun k => ok_impl_coming k P S W H p peer hb hs
  unfold stepIs
  by_cases c0 : (comingIs P S W H p peer).2 = 0
  · rw [if_pos c0]
    obtain ⟨hp0, hc⟩ := coming_comes hs c0
    generalize comingIs P S W H p peer = ec at *
    obtain ⟨e, n⟩ := ec
    dsimp only at c0 hc ⊢
    subst c0
    obtain ⟨p, rfl⟩ : ∃ n : Nat, p = (n : Int) := ⟨p.toNat, by omega⟩
    rw [Int.toNat_natCast] at hc ⊢
    have hp := hc.lt
    obtain ⟨f1, f2, f3, f4⟩ := procF_of hs hp
    have hh := h200 p (by omega)
    have e4 : (List.map rEvent (rd H p)).length = (rd H p).length := by simp
    have hat0 := f1.at0
    have hat1 := f1.at1
    have q3 : ∀ k, callE PR C (k + 4) 192 [hIns 0 (rd P p), aState 1 (rd S p).at_ (rd S p).regs (rd S p).out (rd S p).code, aEvent e] [tIns (rd P p), tI (rd S p).regs, tI (rd S p).out] = some ⟨nSt 0 (did (rd P p) (rd S p) e), [tI9 (did (rd P p) (rd S p) e).regs, tI9 (did (rd P p) (rd S p) e).out], [none, none, none]⟩ := fun k => ok_impl_did k (rd P p) (rd S p).at_ (rd S p).regs (rd S p).out (rd S p).code e (by omega) f1 f2
    by_cases k2 : e.kind = 2
    · have hsd := hc.send k2
      obtain ⟨b, hbq⟩ : ∃ b : Nat, e.peer = (b : Int) := ⟨_, (Int.toNat_of_nonneg hsd.1.1).symm⟩
      have hbl : b < P.length := by have := hsd.1.2; omega
      have hfew : (rd W (p * P.length + b)).length < 12 := by have := hsd.2; rw [hbq] at this; exact this
      have q4 := fun k => ok_impl_wayAt k P S W H p b (hb.mono (by decide)) hp hbl hN.2 hwl
      have hpl := place_lt hp hbl
      have hW : stepW P.length W p e = W.set (p * P.length + b) (rd W (p * P.length + b) ++ [⟨false, e.v⟩]) := by
        unfold stepW
        rw [if_pos k2, hbq]
        rfl
      simp only [sysRes, stepS, hW, nSys, List.length_set]
      rw [← hbq] at q4
      obtain ⟨ix, hix⟩ : ∃ ix, ix = p * P.length + b := ⟨_, rfl⟩
      rw [← hix] at q4 hpl hfew ⊢
      clear hW hix hsd f4
      (refine fnI [ResultVar.cell 6 42, ResultVar.tmp 7] Tryz.func107 ?_; conv => whnf)
      repeat' ((with_reducible (first | refine sCall.of (q1 _) ?_|refine sCall.of (q2 _) ?_|refine sCall.of (q3 _) ?_|refine sCall.of (q4 _) ?_|refine gHole ?_|refine gRec ?_|refine st18 ?_|refine fG.split (fun _ => ?_) (fun _ => ?_)|refine fG.bool (fun _ => ?_) (fun _ => ?_)|refine gD 5 [(1, 14)] ?_|refine gD 6 [(1, 9), (4, 9), (7, 9), (1, 10)] ?_|refine gD 10 [(1, 11), (4, 11), (7, 11), (1, 12)] ?_|refine gDn 13 ?_)) <;> (try (conv => whnf)))
      all_goals rfl
    · by_cases k3 : e.kind = 3
      · have htk := hc.take k3
        obtain ⟨b, hbq⟩ : ∃ b : Nat, e.peer = (b : Int) := ⟨_, (Int.toNat_of_nonneg htk.1.1).symm⟩
        have hbl : b < P.length := by have := htk.1.2; omega
        have hsome : 0 < (rd W (b * P.length + p)).length := by have := htk.2.1; rw [hbq] at this; exact this
        have q4 := fun k => ok_impl_wayAt k P S W H b p (hb.mono (by decide)) hbl hp hN.2 hwl
        have hpl := place_lt hbl hp
        have hwx := hb.ww (b * P.length + p) (by omega)
        have hW : stepW P.length W p e = W.set (b * P.length + p) ((rd W (b * P.length + p)).drop 1) := by
          unfold stepW
          rw [if_neg k2, if_pos k3, hbq]
          rfl
        simp only [sysRes, stepS, hW, nSys, List.length_set]
        rw [← hbq] at q4
        obtain ⟨ix, hix⟩ : ∃ ix, ix = b * P.length + p := ⟨_, rfl⟩
        rw [← hix] at q4 hpl hsome hwx ⊢
        have e5 : (List.map rItem (rd W ix)).length = (rd W ix).length := by simp
        have et : List.take ((rd W ix).length - 1) (List.drop 1 (rd W ix)) = List.drop 1 (rd W ix) := List.take_of_length_le (by simp)
        clear hW hix htk f4
        (refine fnI [ResultVar.cell 6 42, ResultVar.tmp 7] Tryz.func107 ?_; conv => whnf)
        repeat' ((with_reducible (first | refine sCall.of (q1 _) ?_|refine sCall.of (q2 _) ?_|refine sCall.of (q3 _) ?_|refine sCall.of (q4 _) ?_|refine gHole ?_|refine gRec ?_|refine st18 ?_|refine fG.split (fun _ => ?_) (fun _ => ?_)|refine fG.bool (fun _ => ?_) (fun _ => ?_)|refine gD 5 [(1, 14)] ?_|refine gD 6 [(1, 9), (4, 9), (7, 9), (1, 10)] ?_|refine gD 10 [(1, 11), (4, 11), (7, 11), (1, 12)] ?_|refine gDn 13 ?_)) <;> (try (conv => whnf)))
        all_goals (try rw [et])
        all_goals rfl
      · have hW : stepW P.length W p e = W := by
          unfold stepW
          rw [if_neg k2, if_neg k3]
        simp only [sysRes, stepS, hW, nSys, List.length_set]
        clear hW f4
        (refine fnI [ResultVar.cell 6 42, ResultVar.tmp 7] Tryz.func107 ?_; conv => whnf)
        repeat' ((with_reducible (first | refine sCall.of (q1 _) ?_|refine sCall.of (q2 _) ?_|refine sCall.of (q3 _) ?_|refine gHole ?_|refine gRec ?_|refine st18 ?_|refine fG.split (fun _ => ?_) (fun _ => ?_)|refine fG.bool (fun _ => ?_) (fun _ => ?_)|refine gD 5 [(1, 14)] ?_|refine gD 6 [(1, 9), (4, 9), (7, 9), (1, 10)] ?_|refine gD 10 [(1, 11), (4, 11), (7, 11), (1, 12)] ?_|refine gDn 13 ?_)) <;> (try (conv => whnf)))
        all_goals rfl
  · rw [if_neg c0]
    generalize comingIs P S W H p peer = ec at *
    obtain ⟨e, n⟩ := ec
    dsimp only at c0 q2 ⊢
    simp only [sysRes]
    (refine fnI [ResultVar.cell 6 42, ResultVar.tmp 7] Tryz.func107 ?_; conv => whnf)
    repeat' ((with_reducible (first | refine sCall.of (q1 _) ?_|refine sCall.of (q2 _) ?_|refine st18 ?_|refine fG.split (fun _ => ?_) (fun _ => ?_)|refine fG.bool (fun _ => ?_) (fun _ => ?_)|refine gD 5 [(1, 14)] ?_|refine gD 6 [(1, 9), (4, 9), (7, 9), (1, 10)] ?_|refine gD 10 [(1, 11), (4, 11), (7, 11), (1, 12)] ?_|refine gDn 13 ?_)) <;> (try (conv => whnf)))
    all_goals rfl

theorem dropLim {l : List Item} {t n m : Nat} (h : l.length ≤ 10000000000) (hm : m ≤ 16) : (0 + (List.map rItem (List.take t (List.drop n l))).length) * m ≤ 140737488355328 ∧ 0 + (List.map rItem (List.take t (List.drop n l))).length ≤ 140737488355328 := by
  have h1 : 0 + (List.map rItem (List.take t (List.drop n l))).length ≤ 10000000000 := by simp; omega
  have h2 := Nat.mul_le_mul h1 hm
  exact ⟨by omega, by omega⟩
theorem step_no {P : List (List Ins)} {S : List State} {W : List (List Item)} {H : List (List Event)} {p peer n : Int} {e : Event} (h : comingIs P S W H p peer = (e, n)) (hn : ¬ n = 0) : stepIs P S W H p peer = (⟨P, S, W, H⟩, n) := by
  unfold stepIs; rw [h, if_neg hn]
theorem step_yes {P : List (List Ins)} {S : List State} {W : List (List Item)} {H : List (List Event)} {p : Nat} {peer : Int} {e : Event} (h : comingIs P S W H p peer = (e, 0)) : stepIs P S W H p peer = (stepS P S W H p e, 0) := by
  unfold stepIs; rw [h, if_pos rfl]; rfl
theorem coming_peer {P : List (List Ins)} {S : List State} {W : List (List Item)} {H : List (List Event)} {p : Nat} {peer : Int} (c1 : 0 ≤ (p : Int) ∧ (p : Int) ≤ (P.length : Int) - 1) (c2 : (rd S p).code = 0) (c3 : ¬ (200 : Int) ≤ ((rd H p).length : Int)) (hk : (next (rd P p) (rd S p)).kind = 3) :
    comingIs P S W H p peer = (if (srcIs P.length W p (askedOf (insAt P S p) peer)).2 = 0 then (⟨3, askedOf (insAt P S p) peer, (rd (rd W ((askedOf (insAt P S p) peer).toNat * P.length + p)) 0).v⟩, 0) else (⟨0, 0, 0⟩, (srcIs P.length W p (askedOf (insAt P S p) peer)).2)) := by
  have hw3 : (wantsOf P S p).kind = 3 := hk
  unfold comingIs
  rw [if_pos c1, Int.toNat_natCast, if_pos c2, if_neg c3, if_neg (by omega), if_pos hw3]
theorem coming_send {P : List (List Ins)} {S : List State} {W : List (List Item)} {H : List (List Event)} {p b : Nat} {peer : Int} (c1 : 0 ≤ (p : Int) ∧ (p : Int) ≤ (P.length : Int) - 1) (c2 : (rd S p).code = 0) (c3 : ¬ (200 : Int) ≤ ((rd H p).length : Int)) (hk : (next (rd P p) (rd S p)).kind = 2) (hbq : (next (rd P p) (rd S p)).peer = (b : Int)) :
    comingIs P S W H p peer = (if (12 : Int) ≤ ((rd W (p * P.length + b)).length : Int) then (⟨0, 0, 0⟩, 4) else (next (rd P p) (rd S p), 0)) := by
  unfold comingIs
  rw [if_pos c1, Int.toNat_natCast, if_pos c2, if_neg c3, if_pos (show (wantsOf P S p).kind = 2 from hk), show (wantsOf P S p).peer = (b : Int) from hbq, Int.toNat_natCast]
  rfl
theorem coming_else {P : List (List Ins)} {S : List State} {W : List (List Item)} {H : List (List Event)} {p : Nat} {peer : Int} (c1 : 0 ≤ (p : Int) ∧ (p : Int) ≤ (P.length : Int) - 1) (c2 : (rd S p).code = 0) (c3 : ¬ (200 : Int) ≤ ((rd H p).length : Int)) (hk2 : (next (rd P p) (rd S p)).kind ≠ 2) (hk3 : (next (rd P p) (rd S p)).kind ≠ 3) :
    comingIs P S W H p peer = (next (rd P p) (rd S p), 0) := by
  unfold comingIs
  rw [if_pos c1, Int.toNat_natCast, if_pos c2, if_neg c3, if_neg (show ¬ (wantsOf P S p).kind = 2 from hk2), if_neg (show ¬ (wantsOf P S p).kind = 3 from hk3)]
  rfl
set_option maxRecDepth 20000 in
set_option maxHeartbeats 8000000 in
theorem ok_spec_l5Step (k : Nat) (P : List (List Ins)) (S : List State) (W : List (List Item)) (H : List (List Event)) (p peer : Int) (hb : SysB 10000000000 P S W H) (hs : sysOk P S W H = true) :
    callE PR C (k + 6) 112 [aSys 0 P S W H, i64 p, i64 peer] [tInsSS9 P, tStateS9 S, tItemSS9 W, tEventSS9 H] = some (sysRes (stepIs P S W H p peer).1 (stepIs P S W H p peer).2 [some .dead, some .dead, some .dead, some .dead]) := by
  obtain ⟨hI, hP, hS', h200⟩ := sysOk_facts hs
  have hN := hI.n
  have hsl := hI.s
  have hwl := hI.w
  have hHl := hI.h
  have q1 := fun k => ok_spec_l1In k p 0 ((P.length : Int) - 1)
  by_cases c1 : 0 ≤ p ∧ p ≤ (P.length : Int) - 1
  · rw [decide_eq_true c1] at q1
    obtain ⟨p, rfl⟩ : ∃ n : Nat, p = (n : Int) := ⟨p.toNat, by omega⟩
    have hp : p < P.length := by omega
    obtain ⟨f1, f2, f3, f4⟩ := procF_of hs hp
    have hh := h200 p (by omega)
    have e4 : (List.map rEvent (rd H p)).length = (rd H p).length := by simp
    have hat0 := f1.at0
    have hat1 := f1.at1
    by_cases c2 : (rd S p).code = 0
    · by_cases c3 : (200 : Int) ≤ ((rd H p).length : Int)
      · have hc : comingIs P S W H p peer = (⟨0, 0, 0⟩, 4) := by unfold comingIs; rw [if_pos c1, Int.toNat_natCast, if_pos c2, if_pos c3]
        rw [step_no hc (by decide)]
        (refine fnI [ResultVar.cell 6 42, ResultVar.tmp 7] Tryz.func112 ?_; conv => whnf)
        repeat' ((with_reducible (first | refine sCall.of (q1 _) ?_|refine st18 ?_|refine fG.split (fun _ => ?_) (fun _ => ?_)|refine fG.bool (fun _ => ?_) (fun _ => ?_)|refine gD 8 [(1, 11), (4, 11), (6, 11), (9, 11), (10, 11)] ?_|refine gD 14 [(1, 11), (4, 11), (7, 11), (1, 12)] ?_|refine gD 26 [(1, 8), (3, 8), (1, 11), (3, 11)] ?_|refine gD 27 [(1, 14)] ?_|refine gD 28 [(1, 9), (4, 9), (7, 9), (1, 10)] ?_)) <;> (try (conv => whnf)))
        all_goals rfl
      · have q2 : ∀ k, callE PR C (k + 1) 195 [hIns 0 (rd P p), aState 1 (rd S p).at_ (rd S p).regs (rd S p).out (rd S p).code] [tIns (rd P p), tI (rd S p).regs, tI (rd S p).out] = some ⟨aEvent (next (rd P p) (rd S p)), [], [none, none, none]⟩ := fun k => ok_spec_l2Next k (rd P p) (rd S p).at_ (rd S p).regs (rd S p).out (rd S p).code (by omega) f1 f2
        have q3 : ∀ e : Event, comes e (next (rd P p) (rd S p)) = true → ∀ k, callE PR C (k + 4) 196 [hIns 0 (rd P p), aState 1 (rd S p).at_ (rd S p).regs (rd S p).out (rd S p).code, aEvent e] [tIns (rd P p), tI (rd S p).regs, tI (rd S p).out] = some ⟨.tu [nSt 0 (did (rd P p) (rd S p) e), bl true], [tI9 (did (rd P p) (rd S p) e).regs, tI9 (did (rd P p) (rd S p) e).out], [none, none, none]⟩ := fun e he k => by
          rw [ok_spec_l2Do k (rd P p) (rd S p).at_ (rd S p).regs (rd S p).out (rd S p).code e (by omega) f1 f2]
          exact congrArg some (doRes_true (l := rd P p) (a := (rd S p).at_) (r := (rd S p).regs) (o := (rd S p).out) (c := (rd S p).code) he)
        rcases @next_kind (rd P p) (rd S p) with hk | hk | hk
        · have hpe := f4 hk.1
          obtain ⟨b, hbq⟩ : ∃ b : Nat, (next (rd P p) (rd S p)).peer = (b : Int) := ⟨_, (Int.toNat_of_nonneg hpe.1).symm⟩
          have hbl : b < P.length := by omega
          have hpl := place_lt hp hbl
          have hk2 := hk.1
          have hc := coming_send (W := W) (peer := peer) c1 c2 c3 hk2 hbq
          have q4 := q3 _ (comes_self (w := next (rd P p) (rd S p)) (by omega))
          have hwok : (rd W (p * P.length + b)).length ≤ 12 := by
            simp only [sysOk, Bool.and_eq_true, List.all_eq_true] at hs
            have h1 := hs.2.1 _ (rd_mem (l := W) (n := p * P.length + b) (by omega))
            simp only [wayOk, Bool.and_eq_true, decide_eq_true_eq] at h1
            exact h1.1
          have wm : IntKind.i64.wrap ((p : Int) * (P.length : Int)) = ((p * P.length : Nat) : Int) := by
            have := Nat.mul_le_mul (show p ≤ 4 by omega) hN.2
            rw [show (p : Int) * (P.length : Int) = ((p * P.length : Nat) : Int) by simp]; exact wrap_i64 _ (by omega) (by omega)
          have wa : IntKind.i64.wrap (((p * P.length : Nat) : Int) + (next (rd P p) (rd S p)).peer) = ((p * P.length + b : Nat) : Int) := by
            have := Nat.mul_le_mul (show p ≤ 4 by omega) hN.2
            rw [hbq, wrap_i64 _ (by omega) (by omega)]; simp
          by_cases c5 : (12 : Int) ≤ ((rd W (p * P.length + b)).length : Int)
          · rw [if_pos c5] at hc
            rw [step_no hc (by decide)]
            clear hc hk f4 hpe q3 q4
            generalize next (rd P p) (rd S p) = w at *
            obtain ⟨ix, hix⟩ : ∃ ix, ix = p * P.length + b := ⟨_, rfl⟩
            rw [← hix] at hpl hwok c5 wa
            clear hix
            generalize p * P.length = pm at *
            have e5 : (List.map rItem (rd W ix)).length = (rd W ix).length := by simp
            (refine fnI [ResultVar.cell 6 42, ResultVar.tmp 7] Tryz.func112 ?_; conv => whnf)
            repeat' ((with_reducible (first | refine sCall.of (q1 _) ?_|refine sCall.of (q2 _) ?_|refine sW.eq (wm) ?_|refine sW.eq (wa) ?_|refine st18 ?_|refine fG.split (fun _ => ?_) (fun _ => ?_)|refine fG.bool (fun _ => ?_) (fun _ => ?_)|refine gD 8 [(1, 11), (4, 11), (6, 11), (9, 11), (10, 11)] ?_|refine gD 14 [(1, 11), (4, 11), (7, 11), (1, 12)] ?_|refine gD 26 [(1, 8), (3, 8), (1, 11), (3, 11)] ?_|refine gD 27 [(1, 14)] ?_|refine gD 28 [(1, 9), (4, 9), (7, 9), (1, 10)] ?_)) <;> (try (conv => whnf)))
            all_goals rfl
          · rw [if_neg c5] at hc
            rw [step_yes hc]
            have hW : stepW P.length W p (next (rd P p) (rd S p)) = W.set (p * P.length + b) (rd W (p * P.length + b) ++ [⟨false, (next (rd P p) (rd S p)).v⟩]) := by
              unfold stepW
              rw [if_pos hk2, hbq]
              rfl
            simp only [sysRes, stepS, hW, nSys, List.length_set]
            clear hW hc hk f4 hpe q3
            generalize next (rd P p) (rd S p) = w at *
            obtain ⟨ix, hix⟩ : ∃ ix, ix = p * P.length + b := ⟨_, rfl⟩
            rw [← hix] at hpl hwok c5 wa ⊢
            clear hix
            generalize p * P.length = pm at *
            have e5 : (List.map rItem (rd W ix)).length = (rd W ix).length := by simp
            (refine fnI [ResultVar.cell 6 42, ResultVar.tmp 7] Tryz.func112 ?_; conv => whnf)
            repeat' ((with_reducible (first | refine sCall.of (q1 _) ?_|refine sCall.of (q2 _) ?_|refine sCall.of (q4 _) ?_|refine sW.eq (wm) ?_|refine sW.eq (wa) ?_|refine gHole ?_|refine st18 ?_|refine fG.split (fun _ => ?_) (fun _ => ?_)|refine fG.bool (fun _ => ?_) (fun _ => ?_)|refine gD 8 [(1, 11), (4, 11), (6, 11), (9, 11), (10, 11)] ?_|refine gD 14 [(1, 11), (4, 11), (7, 11), (1, 12)] ?_|refine gD 26 [(1, 8), (3, 8), (1, 11), (3, 11)] ?_|refine gD 27 [(1, 14)] ?_|refine gD 28 [(1, 9), (4, 9), (7, 9), (1, 10)] ?_)) <;> (try (conv => whnf)))
            all_goals rfl
        · have hc := coming_peer (W := W) (peer := peer) c1 c2 c3 hk.1
          have hcs : sysOk P S W H = true := hs
          have q2 : ∀ k, callE PR C (k + 1) 195 [hIns 0 (rd P p), aState 1 (rd S p).at_ (rd S p).regs (rd S p).out (rd S p).code] [tIns (rd P p), tI (rd S p).regs, tI (rd S p).out] = some ⟨aEvent ⟨3, (insAt P S p).n, 0⟩, [], [none, none, none]⟩ := fun k => by rw [show (⟨3, (insAt P S p).n, 0⟩ : Event) = next (rd P p) (rd S p) from hk.2.2.symm]; exact q2 k
          generalize hq : askedOf (insAt P S p) peer = q at hc
          have qI := fun k => ok_spec_l1In k q 0 ((P.length : Int) - 1)
          have hq9 : (insAt P S p).n = 9 ∧ q = peer ∨ ¬ (insAt P S p).n = 9 ∧ (insAt P S p).n = q := by
            unfold askedOf at hq
            by_cases h9 : (insAt P S p).n = 9
            · rw [if_pos h9] at hq; exact .inl ⟨h9, hq.symm⟩
            · rw [if_neg h9] at hq; exact .inr ⟨h9, hq⟩
          generalize (insAt P S p).n = xn at *
          by_cases d1 : 0 ≤ q ∧ q ≤ (P.length : Int) - 1
          · rw [decide_eq_true d1] at qI
            obtain ⟨b, rfl⟩ : ∃ n : Nat, q = (n : Int) := ⟨q.toNat, by omega⟩
            have hbl : b < P.length := by omega
            have hpl := place_lt hbl hp
            have hwx := hb.ww (b * P.length + p) (by omega)
            have wm : IntKind.i64.wrap ((b : Int) * (P.length : Int)) = ((b * P.length : Nat) : Int) := by
              have := Nat.mul_le_mul (show b ≤ 4 by omega) hN.2
              rw [show (b : Int) * (P.length : Int) = ((b * P.length : Nat) : Int) by simp]; exact wrap_i64 _ (by omega) (by omega)
            have wa : IntKind.i64.wrap (((b * P.length : Nat) : Int) + (p : Int)) = ((b * P.length + p : Nat) : Int) := by
              have := Nat.mul_le_mul (show b ≤ 4 by omega) hN.2
              rw [wrap_i64 _ (by omega) (by omega)]; simp
            have hsrc : srcIs P.length W p (b : Int) = (if (rd W (b * P.length + p)).length = 0 then (0, 3) else if (rd (rd W (b * P.length + p)) 0).mark = true then (0, 5) else ((b : Int), 0)) := by
              unfold srcIs
              rw [if_pos d1]
              rfl
            rw [hsrc, Int.toNat_natCast] at hc
            by_cases d2 : (rd W (b * P.length + p)).length = 0
            · rw [if_pos d2, if_neg (by decide)] at hc
              rw [step_no hc (by decide)]
              obtain ⟨ix, hix⟩ : ∃ ix, ix = b * P.length + p := ⟨_, rfl⟩
              rw [← hix] at hpl hwx d2 wa
              clear hc hsrc hix
              generalize b * P.length = pm at *
              have e5 : (List.map rItem (rd W ix)).length = (rd W ix).length := by simp
              rcases hq9 with ⟨h9, h9'⟩ | ⟨h9, h9'⟩
              · rw [← h9'] at *
                (refine fnI [ResultVar.cell 6 42, ResultVar.tmp 7] Tryz.func112 ?_; conv => whnf)
                repeat' ((with_reducible (first | refine sCall.of (q1 _) ?_|refine sCall.of (q2 _) ?_|refine sCall.of (qI _) ?_|refine sW.eq (wm) ?_|refine sW.eq (wa) ?_|refine st18 ?_|refine fG.split (fun _ => ?_) (fun _ => ?_)|refine fG.bool (fun _ => ?_) (fun _ => ?_)|refine gD 8 [(1, 11), (4, 11), (6, 11), (9, 11), (10, 11)] ?_|refine gD 14 [(1, 11), (4, 11), (7, 11), (1, 12)] ?_|refine gD 26 [(1, 8), (3, 8), (1, 11), (3, 11)] ?_|refine gD 27 [(1, 14)] ?_|refine gD 28 [(1, 9), (4, 9), (7, 9), (1, 10)] ?_)) <;> (try (conv => whnf)))
                all_goals rfl
              · rw [h9'] at q2 h9
                (refine fnI [ResultVar.cell 6 42, ResultVar.tmp 7] Tryz.func112 ?_; conv => whnf)
                repeat' ((with_reducible (first | refine sCall.of (q1 _) ?_|refine sCall.of (q2 _) ?_|refine sCall.of (qI _) ?_|refine sW.eq (wm) ?_|refine sW.eq (wa) ?_|refine st18 ?_|refine fG.split (fun _ => ?_) (fun _ => ?_)|refine fG.bool (fun _ => ?_) (fun _ => ?_)|refine gD 8 [(1, 11), (4, 11), (6, 11), (9, 11), (10, 11)] ?_|refine gD 14 [(1, 11), (4, 11), (7, 11), (1, 12)] ?_|refine gD 26 [(1, 8), (3, 8), (1, 11), (3, 11)] ?_|refine gD 27 [(1, 14)] ?_|refine gD 28 [(1, 9), (4, 9), (7, 9), (1, 10)] ?_)) <;> (try (conv => whnf)))
                all_goals rfl
            · rw [if_neg d2] at hc
              cases d3 : (rd (rd W (b * P.length + p)) 0).mark with
              | true =>
                rw [if_pos d3, if_neg (by decide)] at hc
                rw [step_no hc (by decide)]
                obtain ⟨ix, hix⟩ : ∃ ix, ix = b * P.length + p := ⟨_, rfl⟩
                rw [← hix] at hpl hwx d2 d3 wa
                clear hc hsrc hix
                generalize b * P.length = pm at *
                have e5 : (List.map rItem (rd W ix)).length = (rd W ix).length := by simp
                rcases hq9 with ⟨h9, h9'⟩ | ⟨h9, h9'⟩
                · rw [← h9'] at *
                  (refine fnI [ResultVar.cell 6 42, ResultVar.tmp 7] Tryz.func112 ?_; conv => whnf)
                  repeat' ((with_reducible (first | refine sCall.of (q1 _) ?_|refine sCall.of (q2 _) ?_|refine sCall.of (qI _) ?_|refine sW.eq (wm) ?_|refine sW.eq (wa) ?_|refine st18 ?_|refine fG.split (fun _ => ?_) (fun _ => ?_)|refine fG.bool (fun _ => ?_) (fun _ => ?_)|refine gD 8 [(1, 11), (4, 11), (6, 11), (9, 11), (10, 11)] ?_|refine gD 14 [(1, 11), (4, 11), (7, 11), (1, 12)] ?_|refine gD 26 [(1, 8), (3, 8), (1, 11), (3, 11)] ?_|refine gD 27 [(1, 14)] ?_|refine gD 28 [(1, 9), (4, 9), (7, 9), (1, 10)] ?_)) <;> (try (conv => whnf)))
                  all_goals rfl
                · rw [h9'] at q2 h9
                  (refine fnI [ResultVar.cell 6 42, ResultVar.tmp 7] Tryz.func112 ?_; conv => whnf)
                  repeat' ((with_reducible (first | refine sCall.of (q1 _) ?_|refine sCall.of (q2 _) ?_|refine sCall.of (qI _) ?_|refine sW.eq (wm) ?_|refine sW.eq (wa) ?_|refine st18 ?_|refine fG.split (fun _ => ?_) (fun _ => ?_)|refine fG.bool (fun _ => ?_) (fun _ => ?_)|refine gD 8 [(1, 11), (4, 11), (6, 11), (9, 11), (10, 11)] ?_|refine gD 14 [(1, 11), (4, 11), (7, 11), (1, 12)] ?_|refine gD 26 [(1, 8), (3, 8), (1, 11), (3, 11)] ?_|refine gD 27 [(1, 14)] ?_|refine gD 28 [(1, 9), (4, 9), (7, 9), (1, 10)] ?_)) <;> (try (conv => whnf)))
                  all_goals rfl
              | false =>
                rw [if_neg (show ¬ (rd (rd W (b * P.length + p)) 0).mark = true by rw [d3]; decide), if_pos rfl] at hc
                have hcc := (coming_comes (peer := peer) hs (by rw [hc])).2
                rw [hc, Int.toNat_natCast] at hcc
                dsimp only at hcc
                have q4 := q3 _ hcc.comes
                rw [step_yes hc]
                have hW : stepW P.length W p ⟨3, (b : Int), (rd (rd W (b * P.length + p)) 0).v⟩ = W.set (b * P.length + p) ((rd W (b * P.length + p)).drop 1) := by
                  unfold stepW
                  rw [if_neg (show ¬ (3 : Int) = 2 by decide), if_pos rfl]
                  rfl
                simp only [sysRes, stepS, hW, nSys, List.length_set]
                obtain ⟨ix, hix⟩ : ∃ ix, ix = b * P.length + p := ⟨_, rfl⟩
                rw [← hix] at hpl hwx d2 d3 wa q4 ⊢
                clear hc hsrc hix hcc hW q3
                generalize b * P.length = pm at *
                have e5 : (List.map rItem (rd W ix)).length = (rd W ix).length := by simp
                have hdl := dropLim (t := (rd W ix).length - 1) (n := 1) (m := 15 + 1) hwx (by decide)
                have et : List.take ((rd W ix).length - 1) (List.drop 1 (rd W ix)) = List.drop 1 (rd W ix) := List.take_of_length_le (by simp)
                rcases hq9 with ⟨h9, h9'⟩ | ⟨h9, h9'⟩
                · rw [← h9'] at *
                  (refine fnI [ResultVar.cell 6 42, ResultVar.tmp 7] Tryz.func112 ?_; conv => whnf)
                  repeat' ((with_reducible (first | refine sCall.of (q1 _) ?_|refine sCall.of (q2 _) ?_|refine sCall.of (qI _) ?_|refine sCall.of (q4 _) ?_|refine sW.eq (wm) ?_|refine sW.eq (wa) ?_|refine gHole ?_|refine sI.mk hdl ?_|refine st18 ?_|refine fG.split (fun _ => ?_) (fun _ => ?_)|refine fG.bool (fun _ => ?_) (fun _ => ?_)|refine gD 8 [(1, 11), (4, 11), (6, 11), (9, 11), (10, 11)] ?_|refine gD 14 [(1, 11), (4, 11), (7, 11), (1, 12)] ?_|refine gD 26 [(1, 8), (3, 8), (1, 11), (3, 11)] ?_|refine gD 27 [(1, 14)] ?_|refine gD 28 [(1, 9), (4, 9), (7, 9), (1, 10)] ?_)) <;> (try (conv => whnf)))
                  all_goals (try rw [et])
                  all_goals rfl
                · rw [h9'] at q2 h9
                  (refine fnI [ResultVar.cell 6 42, ResultVar.tmp 7] Tryz.func112 ?_; conv => whnf)
                  repeat' ((with_reducible (first | refine sCall.of (q1 _) ?_|refine sCall.of (q2 _) ?_|refine sCall.of (qI _) ?_|refine sCall.of (q4 _) ?_|refine sW.eq (wm) ?_|refine sW.eq (wa) ?_|refine gHole ?_|refine sI.mk hdl ?_|refine st18 ?_|refine fG.split (fun _ => ?_) (fun _ => ?_)|refine fG.bool (fun _ => ?_) (fun _ => ?_)|refine gD 8 [(1, 11), (4, 11), (6, 11), (9, 11), (10, 11)] ?_|refine gD 14 [(1, 11), (4, 11), (7, 11), (1, 12)] ?_|refine gD 26 [(1, 8), (3, 8), (1, 11), (3, 11)] ?_|refine gD 27 [(1, 14)] ?_|refine gD 28 [(1, 9), (4, 9), (7, 9), (1, 10)] ?_)) <;> (try (conv => whnf)))
                  all_goals (try rw [et])
                  all_goals rfl
          · rw [decide_eq_false d1] at qI
            rw [show srcIs P.length W p q = (0, 2) by unfold srcIs; rw [if_neg d1], if_neg (by decide)] at hc
            rw [step_no hc (by decide)]
            clear hc
            rcases hq9 with ⟨h9, h9'⟩ | ⟨h9, h9'⟩
            · rw [← h9'] at *
              (refine fnI [ResultVar.cell 6 42, ResultVar.tmp 7] Tryz.func112 ?_; conv => whnf)
              repeat' ((with_reducible (first | refine sCall.of (q1 _) ?_|refine sCall.of (q2 _) ?_|refine sCall.of (qI _) ?_|refine st18 ?_|refine fG.split (fun _ => ?_) (fun _ => ?_)|refine fG.bool (fun _ => ?_) (fun _ => ?_)|refine gD 8 [(1, 11), (4, 11), (6, 11), (9, 11), (10, 11)] ?_|refine gD 14 [(1, 11), (4, 11), (7, 11), (1, 12)] ?_|refine gD 26 [(1, 8), (3, 8), (1, 11), (3, 11)] ?_|refine gD 27 [(1, 14)] ?_|refine gD 28 [(1, 9), (4, 9), (7, 9), (1, 10)] ?_)) <;> (try (conv => whnf)))
              all_goals rfl
            · rw [h9'] at q2 h9
              (refine fnI [ResultVar.cell 6 42, ResultVar.tmp 7] Tryz.func112 ?_; conv => whnf)
              repeat' ((with_reducible (first | refine sCall.of (q1 _) ?_|refine sCall.of (q2 _) ?_|refine sCall.of (qI _) ?_|refine st18 ?_|refine fG.split (fun _ => ?_) (fun _ => ?_)|refine fG.bool (fun _ => ?_) (fun _ => ?_)|refine gD 8 [(1, 11), (4, 11), (6, 11), (9, 11), (10, 11)] ?_|refine gD 14 [(1, 11), (4, 11), (7, 11), (1, 12)] ?_|refine gD 26 [(1, 8), (3, 8), (1, 11), (3, 11)] ?_|refine gD 27 [(1, 14)] ?_|refine gD 28 [(1, 9), (4, 9), (7, 9), (1, 10)] ?_)) <;> (try (conv => whnf)))
              all_goals rfl
        · have hk2 := hk.1
          have hk3 := hk.2
          have hc := coming_else (W := W) (peer := peer) c1 c2 c3 hk2 hk3
          have q4 := q3 _ (comes_self (w := next (rd P p) (rd S p)) hk3)
          rw [step_yes hc]
          have hW : stepW P.length W p (next (rd P p) (rd S p)) = W := by
            unfold stepW
            rw [if_neg hk2, if_neg hk3]
          simp only [sysRes, stepS, hW, nSys, List.length_set]
          clear hW hc hk f4 q3
          generalize next (rd P p) (rd S p) = w at *
          (refine fnI [ResultVar.cell 6 42, ResultVar.tmp 7] Tryz.func112 ?_; conv => whnf)
          repeat' ((with_reducible (first | refine sCall.of (q1 _) ?_|refine sCall.of (q2 _) ?_|refine sCall.of (q4 _) ?_|refine gHole ?_|refine st18 ?_|refine fG.split (fun _ => ?_) (fun _ => ?_)|refine fG.bool (fun _ => ?_) (fun _ => ?_)|refine gD 8 [(1, 11), (4, 11), (6, 11), (9, 11), (10, 11)] ?_|refine gD 14 [(1, 11), (4, 11), (7, 11), (1, 12)] ?_|refine gD 26 [(1, 8), (3, 8), (1, 11), (3, 11)] ?_|refine gD 27 [(1, 14)] ?_|refine gD 28 [(1, 9), (4, 9), (7, 9), (1, 10)] ?_)) <;> (try (conv => whnf)))
          all_goals rfl
    · have hc : comingIs P S W H p peer = (⟨0, 0, 0⟩, 6) := by unfold comingIs; rw [if_pos c1, Int.toNat_natCast, if_neg c2]
      rw [step_no hc (by decide)]
      (refine fnI [ResultVar.cell 6 42, ResultVar.tmp 7] Tryz.func112 ?_; conv => whnf)
      repeat' ((with_reducible (first | refine sCall.of (q1 _) ?_|refine st18 ?_|refine fG.split (fun _ => ?_) (fun _ => ?_)|refine fG.bool (fun _ => ?_) (fun _ => ?_)|refine gD 8 [(1, 11), (4, 11), (6, 11), (9, 11), (10, 11)] ?_|refine gD 14 [(1, 11), (4, 11), (7, 11), (1, 12)] ?_|refine gD 26 [(1, 8), (3, 8), (1, 11), (3, 11)] ?_|refine gD 27 [(1, 14)] ?_|refine gD 28 [(1, 9), (4, 9), (7, 9), (1, 10)] ?_)) <;> (try (conv => whnf)))
      all_goals rfl
  · rw [decide_eq_false c1] at q1
    have hc : comingIs P S W H p peer = (⟨0, 0, 0⟩, 2) := by unfold comingIs; rw [if_neg c1]
    rw [step_no hc (by decide)]
    (refine fnI [ResultVar.cell 6 42, ResultVar.tmp 7] Tryz.func112 ?_; conv => whnf)
    repeat' ((with_reducible (first | refine sCall.of (q1 _) ?_|refine st18 ?_|refine fG.split (fun _ => ?_) (fun _ => ?_)|refine fG.bool (fun _ => ?_) (fun _ => ?_)|refine gD 8 [(1, 11), (4, 11), (6, 11), (9, 11), (10, 11)] ?_|refine gD 14 [(1, 11), (4, 11), (7, 11), (1, 12)] ?_|refine gD 26 [(1, 8), (3, 8), (1, 11), (3, 11)] ?_|refine gD 27 [(1, 14)] ?_|refine gD 28 [(1, 9), (4, 9), (7, 9), (1, 10)] ?_)) <;> (try (conv => whnf)))
    all_goals rfl

end Go.Proofs.YtlobpiebphnkiaaGreat.Abs
