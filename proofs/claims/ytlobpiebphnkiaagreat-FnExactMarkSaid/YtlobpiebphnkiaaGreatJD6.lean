/- Part 6 of the words by which the law is followed: an interpreter over data trees, proved of the machine, and what functions of this program come to by it. No condition. -/
import Derived.ChangeSame
import Derived.SizedLaws
import Derived.DataReads
import Derived.Carry
import Derived.WideShapes
import Derived.Test.YtlobpiebphnkiaaGreatJD5
namespace Go.Proofs.YtlobpiebphnkiaaGreat.Abs
open Go Go.Proofs
set_option linter.unusedVariables false
set_option linter.unusedSimpArgs false
attribute [local irreducible] callE
def hasCut (H : List (List Event)) (p i : Int) : Bool := decide (0 ≤ p ∧ p ≤ (H.length : Int) - 1) && decide (0 ≤ i ∧ i ≤ ((rd H p.toNat).length : Int))
noncomputable def backCutOf (H : List (List Event)) (p i : Int) : List Int := closeOf H ((lensOf H).set p.toNat i)
def atSys (P : List (List Ins)) (H : List (List Event)) : Sys := ⟨P, stsOf P H, waysOf H P.length, H⟩
noncomputable def backIs (P : List (List Ins)) (S : List State) (W : List (List Item)) (H : List (List Event)) (p i : Int) : Sys × Int :=
  if sysOk P S W H = true then (if hasCut H p i = true then (if waysFit (cutH H (backCutOf H p i)) P.length = true then (atSys P (cutH H (backCutOf H p i)), 0) else (⟨P, S, W, H⟩, 3)) else (⟨P, S, W, H⟩, 2)) else (⟨[], [], [], []⟩, 1)
def sysRes (X : Sys) (n : Int) (b : List (Option Cont)) : Res := ⟨.tu [nSys 0 X.progs X.states X.ways X.hist, i64 n], [tInsSS9 X.progs, tStateS9 X.states, tItemSS9 X.ways, tEventSS9 X.hist], b⟩
noncomputable def undoneIs (P : List (List Ins)) (S : List State) (W : List (List Item)) (H : List (List Event)) (p i : Int) : List Int := if (backIs P S W H p i).2 = 0 then (List.range H.length).map fun q => ((rd H q).length : Int) - ((rd (backIs P S W H p i).1.hist q).length : Int) else []
def lastOf (H : List (List Event)) (p : Int) : Int := if 0 ≤ p ∧ p ≤ (H.length : Int) - 1 then ((rd H p.toNat).length : Int) - 1 else -1
end Go.Proofs.YtlobpiebphnkiaaGreat.Abs
namespace Go.Proofs.YtlobpiebphnkiaaGreat.Abs
open Go Go.Proofs
set_option linter.unusedVariables false
set_option linter.unusedSimpArgs false
attribute [local irreducible] callE
theorem ok_laws_markIntS9 (k : Nat) (l : List Int) (m : Int) (hl : l.length ≤ 100000000000) (h0 : 0 ≤ m) (h1 : m ≤ 100000000000) : callE PR C (k + 1) 29 [.h 1000000 0 0 [] 1 0 l.length, i64 m] [tI9 l] = some ⟨i64 (m + l.length), [], [some (tI9 (marksI m l))]⟩ := by
  (refine fnI [ResultVar.tmp 4] Tryz.func29 ?_; conv => whnf)
  repeat' ((with_reducible (first | refine st16 ?_|refine fG.split (fun _ => ?_) (fun _ => ?_)|refine fG.bool (fun _ => ?_) (fun _ => ?_))) <;> (try (conv => whnf)))
  refine loop_rule (ι := TM Int) (fun x => [(0, .h 1000000 0 0 [] 1 0 l.length), (1, i64 x.m), (5, i64 (x.j : Nat))])
    (fun x => [(1000000, ⟨0, x.g, x.d, tI9 x.l⟩)])
    (fun x => l.length - x.j) (fun x => x.j ≤ l.length ∧ x.l = half mInt wInt m l x.j ∧ x.m = m + x.j) ⟨0, m, l, 0, false⟩ fitOk ⟨Nat.zero_le _, (half_zero _ _ m l).symm, by simp⟩ (by simp [C]; omega) ?_
  rintro ⟨j, n, out, g, d⟩ sl ob ⟨hj, hout, hn⟩
  dsimp only at hj hout hn
  have hlen : out.length = l.length := by rw [hout, half_len]
  (try dsimp only [cond_true, cond_false])
  (conv => whnf)
  repeat' ((with_reducible (first | refine st16 ?_|refine fG.split (fun _ => ?_) (fun _ => ?_)|refine fG.bool (fun _ => ?_) (fun _ => ?_))) <;> (try (conv => whnf)))
  case' refine_1 h =>
    refine ⟨⟨⟨j + 1, n + 1, out.set j n, _, _⟩, fitOk, ?_, ?_⟩⟩
    · refine ⟨by show j + 1 ≤ _; omega, ?_, by show _ = _; push_cast; omega⟩
      show _ = _
      rw [← half_set _ _ m l j (by omega), hout, hn]
      simp only [wts_wInt, List.length_take, mInt, show min j l.length = j by omega]
    · show l.length - (j + 1) < l.length - j; omega
  case refine_2 h =>
    have : j = l.length := by omega
    rw [hout, hn, this, half_all]
def mItem (m : Int) (x : Item) : Item := ⟨decide (m.tmod 3 = 0), m + 1⟩
def wItem (x : Item) : Nat := 2
theorem wts_wItem (l : List Item) : wts wItem l = 2 * l.length := wts_const 2 l
def mWho (m : Int) (x : Who) : Who := ⟨m, m + 1⟩
def wWho (x : Who) : Nat := 2
theorem ok_laws_markInsS8 (k : Nat) (l : List Ins) (m : Int) (hl : l.length ≤ 100000000000) (h0 : 0 ≤ m) (h1 : m ≤ 100000000000) : callE PR C (k + 1) 166 [(.h 1000000 0 0 [] 5 0 l.length), i64 m] [(.tree 8 (.sl 5 (l.map rIns)))] = some ⟨i64 (m + 5 * l.length), [], [some (.tree 8 (.sl 5 ((marks mIns wIns m l).map rIns)))]⟩ := by
  (refine fnI [ResultVar.tmp 4] Tryz.func166 ?_; conv => whnf)
  repeat' ((with_reducible (first | refine st16 ?_|refine fG.split (fun _ => ?_) (fun _ => ?_)|refine fG.bool (fun _ => ?_) (fun _ => ?_))) <;> (try (conv => whnf)))
  refine loop_rule (ι := TM Ins) (fun x => [(0, (.h 1000000 0 0 [] 5 0 l.length)), (1, i64 x.m), (5, i64 (x.j : Nat))])
    (fun x => [(1000000, ⟨0, x.g, x.d, .tree 8 (.sl 5 (x.l.map rIns))⟩)])
    (fun x => l.length - x.j) (fun x => x.j ≤ l.length ∧ x.l = half mIns wIns m l x.j ∧ x.m = m + 5 * x.j) ⟨0, m, l, 0, false⟩ fitOk ⟨Nat.zero_le _, (half_zero _ _ m l).symm, by simp⟩ (by simp [C]; omega) ?_
  rintro ⟨j, n, out, g, d⟩ sl ob ⟨hj, hout, hn⟩
  dsimp only at hj hout hn
  have hlen : out.length = l.length := by rw [hout, half_len]
  have hz : n.tmod 3 = n.tmod 3 := rfl
  (try dsimp only [cond_true, cond_false])
  (conv => whnf)
  repeat' ((with_reducible (first | refine sZ.eq (hz) ?_|refine st16 ?_|refine fG.split (fun _ => ?_) (fun _ => ?_)|refine fG.bool (fun _ => ?_) (fun _ => ?_))) <;> (try (conv => whnf)))
  case' refine_1 h =>
    refine ⟨⟨⟨j + 1, n + 1 + 1 + 1 + 1 + 1, out.set j (mIns n (rd out j)), _, _⟩, fitOk, ?_, ?_⟩⟩
    · refine ⟨by show j + 1 ≤ _; omega, ?_, by show _ = _; push_cast; omega⟩
      show _ = _
      rw [← half_set _ _ m l j (by omega), hout, hn]
      simp only [wts_wIns, List.length_take, mIns, show min j l.length = j by omega, Int.natCast_mul]
      rfl
    · show l.length - (j + 1) < l.length - j; omega
  case refine_2 h =>
    have : j = l.length := by omega
    rw [hout, hn, this, half_all]
theorem ok_laws_markItemS8 (k : Nat) (l : List Item) (m : Int) (hl : l.length ≤ 100000000000) (h0 : 0 ≤ m) (h1 : m ≤ 100000000000) : callE PR C (k + 1) 167 [(.h 1000000 0 0 [] 2 0 l.length), i64 m] [(.tree 8 (.sl 2 (l.map rItem)))] = some ⟨i64 (m + 2 * l.length), [], [some (.tree 8 (.sl 2 ((marks mItem wItem m l).map rItem)))]⟩ := by
  (refine fnI [ResultVar.tmp 4] Tryz.func167 ?_; conv => whnf)
  repeat' ((with_reducible (first | refine st16 ?_|refine fG.split (fun _ => ?_) (fun _ => ?_)|refine fG.bool (fun _ => ?_) (fun _ => ?_))) <;> (try (conv => whnf)))
  refine loop_rule (ι := TM Item) (fun x => [(0, (.h 1000000 0 0 [] 2 0 l.length)), (1, i64 x.m), (5, i64 (x.j : Nat))])
    (fun x => [(1000000, ⟨0, x.g, x.d, .tree 8 (.sl 2 (x.l.map rItem))⟩)])
    (fun x => l.length - x.j) (fun x => x.j ≤ l.length ∧ x.l = half mItem wItem m l x.j ∧ x.m = m + 2 * x.j) ⟨0, m, l, 0, false⟩ fitOk ⟨Nat.zero_le _, (half_zero _ _ m l).symm, by simp⟩ (by simp [C]; omega) ?_
  rintro ⟨j, n, out, g, d⟩ sl ob ⟨hj, hout, hn⟩
  dsimp only at hj hout hn
  have hlen : out.length = l.length := by rw [hout, half_len]
  have hz : n.tmod 3 = n.tmod 3 := rfl
  (try dsimp only [cond_true, cond_false])
  (conv => whnf)
  repeat' ((with_reducible (first | refine sZ.eq (hz) ?_|refine st16 ?_|refine fG.split (fun _ => ?_) (fun _ => ?_)|refine fG.bool (fun _ => ?_) (fun _ => ?_))) <;> (try (conv => whnf)))
  case' refine_1 h =>
    refine ⟨⟨⟨j + 1, n + 1 + 1, out.set j (mItem n (rd out j)), _, _⟩, fitOk, ?_, ?_⟩⟩
    · refine ⟨by show j + 1 ≤ _; omega, ?_, by show _ = _; push_cast; omega⟩
      show _ = _
      rw [← half_set _ _ m l j (by omega), hout, hn]
      simp only [wts_wItem, List.length_take, mItem, show min j l.length = j by omega, Int.natCast_mul]
      rfl
    · show l.length - (j + 1) < l.length - j; omega
  case refine_2 h =>
    have : j = l.length := by omega
    rw [hout, hn, this, half_all]
theorem ok_laws_markEventS8 (k : Nat) (l : List Event) (m : Int) (hl : l.length ≤ 100000000000) (h0 : 0 ≤ m) (h1 : m ≤ 100000000000) : callE PR C (k + 1) 168 [(.h 1000000 0 0 [] 3 0 l.length), i64 m] [(.tree 8 (.sl 3 (l.map rEvent)))] = some ⟨i64 (m + 3 * l.length), [], [some (.tree 8 (.sl 3 ((marks mEvent wEvent m l).map rEvent)))]⟩ := by
  (refine fnI [ResultVar.tmp 4] Tryz.func168 ?_; conv => whnf)
  repeat' ((with_reducible (first | refine st16 ?_|refine fG.split (fun _ => ?_) (fun _ => ?_)|refine fG.bool (fun _ => ?_) (fun _ => ?_))) <;> (try (conv => whnf)))
  refine loop_rule (ι := TM Event) (fun x => [(0, (.h 1000000 0 0 [] 3 0 l.length)), (1, i64 x.m), (5, i64 (x.j : Nat))])
    (fun x => [(1000000, ⟨0, x.g, x.d, .tree 8 (.sl 3 (x.l.map rEvent))⟩)])
    (fun x => l.length - x.j) (fun x => x.j ≤ l.length ∧ x.l = half mEvent wEvent m l x.j ∧ x.m = m + 3 * x.j) ⟨0, m, l, 0, false⟩ fitOk ⟨Nat.zero_le _, (half_zero _ _ m l).symm, by simp⟩ (by simp [C]; omega) ?_
  rintro ⟨j, n, out, g, d⟩ sl ob ⟨hj, hout, hn⟩
  dsimp only at hj hout hn
  have hlen : out.length = l.length := by rw [hout, half_len]
  have hz : n.tmod 3 = n.tmod 3 := rfl
  (try dsimp only [cond_true, cond_false])
  (conv => whnf)
  repeat' ((with_reducible (first | refine sZ.eq (hz) ?_|refine st16 ?_|refine fG.split (fun _ => ?_) (fun _ => ?_)|refine fG.bool (fun _ => ?_) (fun _ => ?_))) <;> (try (conv => whnf)))
  case' refine_1 h =>
    refine ⟨⟨⟨j + 1, n + 1 + 1 + 1, out.set j (mEvent n (rd out j)), _, _⟩, fitOk, ?_, ?_⟩⟩
    · refine ⟨by show j + 1 ≤ _; omega, ?_, by show _ = _; push_cast; omega⟩
      show _ = _
      rw [← half_set _ _ m l j (by omega), hout, hn]
      simp only [wts_wEvent, List.length_take, mEvent, show min j l.length = j by omega, Int.natCast_mul]
      rfl
    · show l.length - (j + 1) < l.length - j; omega
  case refine_2 h =>
    have : j = l.length := by omega
    rw [hout, hn, this, half_all]
def mInsL (m : Int) (x : List Ins) : List Ins := marks mIns wIns m x
def wInsL (x : List Ins) : Nat := 5 * x.length
theorem ok_laws_markInsSS (k : Nat) (l : List (List Ins)) (m : Int) (hl : l.length ≤ 100000000000) (h0 : 0 ≤ m) (h1 : m + wts wInsL l ≤ 10000000000) (hx : ∀ j : Nat, j < l.length → (rd l j).length ≤ 10000000000) :
    callE PR C (k + 2) 84 [.h 1000000 0 0 [] 1 0 l.length, i64 m] [.tree 9 (.sl 1 (l.map rInsL))] = some ⟨i64 (m + wts wInsL l), [], [some (.tree 9 (.sl 1 ((marks mInsL wInsL m l).map rInsL)))]⟩ := by
  (refine fnI [ResultVar.tmp 4] Tryz.func84 ?_; conv => whnf)
  repeat' ((with_reducible (first | refine st16 ?_|refine fG.split (fun _ => ?_) (fun _ => ?_)|refine fG.bool (fun _ => ?_) (fun _ => ?_))) <;> (try (conv => whnf)))
  refine loop_rule (ι := TM (List Ins)) (fun x => [(0, .h 1000000 0 0 [] 1 0 l.length), (1, i64 x.m), (5, i64 (x.j : Nat))])
    (fun x => [(1000000, ⟨0, x.g, x.d, .tree 9 (.sl 1 (x.l.map rInsL))⟩)])
    (fun x => l.length - x.j) (fun x => x.j ≤ l.length ∧ x.l = half mInsL wInsL m l x.j ∧ x.m = m + wts wInsL (l.take x.j)) ⟨0, m, l, 0, false⟩ fitOk ⟨Nat.zero_le _, (half_zero _ _ m l).symm, by simp [wts]⟩ (by simp [C]; omega) ?_
  rintro ⟨j, n, out, g, d⟩ sl ob ⟨hj, hout, hn⟩
  dsimp only at hj hout hn
  have hlen : out.length = l.length := by rw [hout, half_len]
  have hn1 : n ≤ 10000000000 := by have := wts_le wInsL l j; omega
  have hn0 : 0 ≤ n := by omega
  have hrd : j < l.length → rd out j = rd l j := fun h => by rw [hout]; exact half_rd _ _ m l j h
  (try dsimp only [cond_true, cond_false])
  (conv => whnf)
  by_cases hjl : j < l.length
  · have hx1 : (rd out j).length ≤ 10000000000 := by rw [hrd hjl]; exact hx j hjl
    have hq : ∀ k, callE PR C (k + 1) 166 [.h 1000000 0 0 [] 5 0 ((rd out j).map rIns).length, i64 n] [.tree 8 (.sl 5 ((rd out j).map rIns))] = some ⟨i64 (n + 5 * (rd out j).length), [], [some (.tree 8 (.sl 5 ((marks mIns wIns n (rd out j)).map rIns)))]⟩ := by
      intro k
      rw [List.length_map]
      exact ok_laws_markInsS8 k (rd out j) n (by omega) (by omega) (by omega)
    repeat' ((with_reducible (first | refine sCall.of (hq _) ?_|refine st16 ?_|refine fG.split (fun _ => ?_) (fun _ => ?_)|refine fG.bool (fun _ => ?_) (fun _ => ?_))) <;> (try (conv => whnf)))
    refine ⟨⟨⟨j + 1, n + 5 * (rd out j).length, out.set j (mInsL n (rd out j)), _, _⟩, fitOk, ?_, ?_⟩⟩
    · have e := wts_take wInsL l j hjl
      refine ⟨by show j + 1 ≤ _; omega, ?_, ?_⟩
      · show _ = _
        rw [← half_set _ _ m l j hjl, hrd hjl, hout, hn]
      · show _ = _
        rw [e, hrd hjl]
        simp only [wInsL]
        omega
    · show l.length - (j + 1) < l.length - j; omega
  · have : j = l.length := by omega
    repeat' ((with_reducible (first | refine st16 ?_|refine fG.split (fun _ => ?_) (fun _ => ?_)|refine fG.bool (fun _ => ?_) (fun _ => ?_))) <;> (try (conv => whnf)))
    rw [hout, hn, this, half_all, List.take_length]
def mItemL (m : Int) (x : List Item) : List Item := marks mItem wItem m x
def wItemL (x : List Item) : Nat := 2 * x.length
theorem ok_laws_markItemSS (k : Nat) (l : List (List Item)) (m : Int) (hl : l.length ≤ 100000000000) (h0 : 0 ≤ m) (h1 : m + wts wItemL l ≤ 10000000000) (hx : ∀ j : Nat, j < l.length → (rd l j).length ≤ 10000000000) :
    callE PR C (k + 2) 86 [.h 1000000 0 0 [] 1 0 l.length, i64 m] [.tree 9 (.sl 1 (l.map rItemL))] = some ⟨i64 (m + wts wItemL l), [], [some (.tree 9 (.sl 1 ((marks mItemL wItemL m l).map rItemL)))]⟩ := by
  (refine fnI [ResultVar.tmp 4] Tryz.func86 ?_; conv => whnf)
  repeat' ((with_reducible (first | refine st16 ?_|refine fG.split (fun _ => ?_) (fun _ => ?_)|refine fG.bool (fun _ => ?_) (fun _ => ?_))) <;> (try (conv => whnf)))
  refine loop_rule (ι := TM (List Item)) (fun x => [(0, .h 1000000 0 0 [] 1 0 l.length), (1, i64 x.m), (5, i64 (x.j : Nat))])
    (fun x => [(1000000, ⟨0, x.g, x.d, .tree 9 (.sl 1 (x.l.map rItemL))⟩)])
    (fun x => l.length - x.j) (fun x => x.j ≤ l.length ∧ x.l = half mItemL wItemL m l x.j ∧ x.m = m + wts wItemL (l.take x.j)) ⟨0, m, l, 0, false⟩ fitOk ⟨Nat.zero_le _, (half_zero _ _ m l).symm, by simp [wts]⟩ (by simp [C]; omega) ?_
  rintro ⟨j, n, out, g, d⟩ sl ob ⟨hj, hout, hn⟩
  dsimp only at hj hout hn
  have hlen : out.length = l.length := by rw [hout, half_len]
  have hn1 : n ≤ 10000000000 := by have := wts_le wItemL l j; omega
  have hn0 : 0 ≤ n := by omega
  have hrd : j < l.length → rd out j = rd l j := fun h => by rw [hout]; exact half_rd _ _ m l j h
  (try dsimp only [cond_true, cond_false])
  (conv => whnf)
  by_cases hjl : j < l.length
  · have hx1 : (rd out j).length ≤ 10000000000 := by rw [hrd hjl]; exact hx j hjl
    have hq : ∀ k, callE PR C (k + 1) 167 [.h 1000000 0 0 [] 2 0 ((rd out j).map rItem).length, i64 n] [.tree 8 (.sl 2 ((rd out j).map rItem))] = some ⟨i64 (n + 2 * (rd out j).length), [], [some (.tree 8 (.sl 2 ((marks mItem wItem n (rd out j)).map rItem)))]⟩ := by
      intro k
      rw [List.length_map]
      exact ok_laws_markItemS8 k (rd out j) n (by omega) (by omega) (by omega)
    repeat' ((with_reducible (first | refine sCall.of (hq _) ?_|refine st16 ?_|refine fG.split (fun _ => ?_) (fun _ => ?_)|refine fG.bool (fun _ => ?_) (fun _ => ?_))) <;> (try (conv => whnf)))
    refine ⟨⟨⟨j + 1, n + 2 * (rd out j).length, out.set j (mItemL n (rd out j)), _, _⟩, fitOk, ?_, ?_⟩⟩
    · have e := wts_take wItemL l j hjl
      refine ⟨by show j + 1 ≤ _; omega, ?_, ?_⟩
      · show _ = _
        rw [← half_set _ _ m l j hjl, hrd hjl, hout, hn]
      · show _ = _
        rw [e, hrd hjl]
        simp only [wItemL]
        omega
    · show l.length - (j + 1) < l.length - j; omega
  · have : j = l.length := by omega
    repeat' ((with_reducible (first | refine st16 ?_|refine fG.split (fun _ => ?_) (fun _ => ?_)|refine fG.bool (fun _ => ?_) (fun _ => ?_))) <;> (try (conv => whnf)))
    rw [hout, hn, this, half_all, List.take_length]
def mEventL (m : Int) (x : List Event) : List Event := marks mEvent wEvent m x
def wEventL (x : List Event) : Nat := 3 * x.length
theorem ok_laws_markEventSS (k : Nat) (l : List (List Event)) (m : Int) (hl : l.length ≤ 100000000000) (h0 : 0 ≤ m) (h1 : m + wts wEventL l ≤ 10000000000) (hx : ∀ j : Nat, j < l.length → (rd l j).length ≤ 10000000000) :
    callE PR C (k + 2) 87 [.h 1000000 0 0 [] 1 0 l.length, i64 m] [.tree 9 (.sl 1 (l.map rEventL))] = some ⟨i64 (m + wts wEventL l), [], [some (.tree 9 (.sl 1 ((marks mEventL wEventL m l).map rEventL)))]⟩ := by
  (refine fnI [ResultVar.tmp 4] Tryz.func87 ?_; conv => whnf)
  repeat' ((with_reducible (first | refine st16 ?_|refine fG.split (fun _ => ?_) (fun _ => ?_)|refine fG.bool (fun _ => ?_) (fun _ => ?_))) <;> (try (conv => whnf)))
  refine loop_rule (ι := TM (List Event)) (fun x => [(0, .h 1000000 0 0 [] 1 0 l.length), (1, i64 x.m), (5, i64 (x.j : Nat))])
    (fun x => [(1000000, ⟨0, x.g, x.d, .tree 9 (.sl 1 (x.l.map rEventL))⟩)])
    (fun x => l.length - x.j) (fun x => x.j ≤ l.length ∧ x.l = half mEventL wEventL m l x.j ∧ x.m = m + wts wEventL (l.take x.j)) ⟨0, m, l, 0, false⟩ fitOk ⟨Nat.zero_le _, (half_zero _ _ m l).symm, by simp [wts]⟩ (by simp [C]; omega) ?_
  rintro ⟨j, n, out, g, d⟩ sl ob ⟨hj, hout, hn⟩
  dsimp only at hj hout hn
  have hlen : out.length = l.length := by rw [hout, half_len]
  have hn1 : n ≤ 10000000000 := by have := wts_le wEventL l j; omega
  have hn0 : 0 ≤ n := by omega
  have hrd : j < l.length → rd out j = rd l j := fun h => by rw [hout]; exact half_rd _ _ m l j h
  (try dsimp only [cond_true, cond_false])
  (conv => whnf)
  by_cases hjl : j < l.length
  · have hx1 : (rd out j).length ≤ 10000000000 := by rw [hrd hjl]; exact hx j hjl
    have hq : ∀ k, callE PR C (k + 1) 168 [.h 1000000 0 0 [] 3 0 ((rd out j).map rEvent).length, i64 n] [.tree 8 (.sl 3 ((rd out j).map rEvent))] = some ⟨i64 (n + 3 * (rd out j).length), [], [some (.tree 8 (.sl 3 ((marks mEvent wEvent n (rd out j)).map rEvent)))]⟩ := by
      intro k
      rw [List.length_map]
      exact ok_laws_markEventS8 k (rd out j) n (by omega) (by omega) (by omega)
    repeat' ((with_reducible (first | refine sCall.of (hq _) ?_|refine st16 ?_|refine fG.split (fun _ => ?_) (fun _ => ?_)|refine fG.bool (fun _ => ?_) (fun _ => ?_))) <;> (try (conv => whnf)))
    refine ⟨⟨⟨j + 1, n + 3 * (rd out j).length, out.set j (mEventL n (rd out j)), _, _⟩, fitOk, ?_, ?_⟩⟩
    · have e := wts_take wEventL l j hjl
      refine ⟨by show j + 1 ≤ _; omega, ?_, ?_⟩
      · show _ = _
        rw [← half_set _ _ m l j hjl, hrd hjl, hout, hn]
      · show _ = _
        rw [e, hrd hjl]
        simp only [wEventL]
        omega
    · show l.length - (j + 1) < l.length - j; omega
  · have : j = l.length := by omega
    repeat' ((with_reducible (first | refine st16 ?_|refine fG.split (fun _ => ?_) (fun _ => ?_)|refine fG.bool (fun _ => ?_) (fun _ => ?_))) <;> (try (conv => whnf)))
    rw [hout, hn, this, half_all, List.take_length]

theorem wts_mul {α : Type} (n : Nat) (l : List (List α)) : wts (fun x => n * x.length) l = n * wts List.length l := by
  induction l with
  | nil => rfl
  | cons a l ih => simp only [wts] at ih ⊢; rw [ih, Nat.mul_add]
def mState (m : Int) (x : State) : State := ⟨m, marksI (m + 1) x.regs, marksI (m + 1 + x.regs.length) x.out, m + 1 + x.regs.length + x.out.length⟩
def wState (x : State) : Nat := 2 + x.regs.length + x.out.length
theorem wts_wState (l : List State) : wts wState l = 2 * l.length + wts wSt l := by
  induction l with
  | nil => rfl
  | cons a l ih => simp only [wts, List.length_cons, wState, wSt] at ih ⊢; omega
set_option maxHeartbeats 4000000 in
theorem ok_laws_markStateS (k : Nat) (l : List State) (m : Int) (hl : l.length ≤ 100000000000) (h0 : 0 ≤ m) (h1 : m + wts wState l ≤ 10000000000) (hx : ∀ j : Nat, j < l.length → (rd l j).regs.length ≤ 10000000000 ∧ (rd l j).out.length ≤ 10000000000) :
    callE PR C (k + 2) 85 [.h 1000000 0 0 [] 4 0 l.length, i64 m] [tStateS9 l] = some ⟨i64 (m + wts wState l), [], [some (tStateS9 (marks mState wState m l))]⟩ := by
  (refine fnI [ResultVar.tmp 4] Tryz.func85 ?_; conv => whnf)
  repeat' ((with_reducible (first | refine st16 ?_|refine fG.split (fun _ => ?_) (fun _ => ?_)|refine fG.bool (fun _ => ?_) (fun _ => ?_))) <;> (try (conv => whnf)))
  refine loop_rule (ι := TM State) (fun x => [(0, .h 1000000 0 0 [] 4 0 l.length), (1, i64 x.m), (5, i64 (x.j : Nat))])
    (fun x => [(1000000, ⟨0, x.g, x.d, tStateS9 x.l⟩)])
    (fun x => l.length - x.j) (fun x => x.j ≤ l.length ∧ x.l = half mState wState m l x.j ∧ x.m = m + wts wState (l.take x.j)) ⟨0, m, l, 0, false⟩ fitOk ⟨Nat.zero_le _, (half_zero _ _ m l).symm, by simp [wts]⟩ (by simp [C]; omega) ?_
  rintro ⟨j, n, out, g, d⟩ sl ob ⟨hj, hout, hn⟩
  dsimp only at hj hout hn
  have hlen : out.length = l.length := by rw [hout, half_len]
  have hn1 : n ≤ 10000000000 := by have := wts_le wState l j; omega
  have hn0 : 0 ≤ n := by omega
  have hrd : j < l.length → rd out j = rd l j := fun h => by rw [hout]; exact half_rd _ _ m l j h
  have hx' : j < l.length → (rd out j).regs.length ≤ 10000000000 ∧ (rd out j).out.length ≤ 10000000000 := fun h => by rw [hrd h]; exact hx j h
  (try dsimp only [cond_true, cond_false])
  (conv => whnf)
  by_cases hjl : j < l.length
  · have hx1 := (hx' hjl).1
    have hx2 := (hx' hjl).2
    have hq1 := fun k => ok_laws_markIntS' k (rd out j).regs (n + 1) (by omega) (by omega) (by omega)
    have hq2 := fun k => ok_laws_markIntS' k (rd out j).out (n + 1 + (rd out j).regs.length) (by omega) (by omega) (by omega)
    repeat' ((with_reducible (first | refine sCall.of (hq1 _) ?_|refine sCall.of (hq2 _) ?_|refine st16 ?_|refine fG.split (fun _ => ?_) (fun _ => ?_)|refine fG.bool (fun _ => ?_) (fun _ => ?_))) <;> (try (conv => whnf)))
    refine ⟨⟨⟨j + 1, n + 1 + (rd out j).regs.length + (rd out j).out.length + 1, out.set j (mState n (rd out j)), _, _⟩, fitOk, ?_, ?_⟩⟩
    · have e := wts_take wState l j hjl
      refine ⟨by show j + 1 ≤ _; omega, ?_, ?_⟩
      · show _ = _
        rw [← half_set _ _ m l j hjl, hrd hjl, hout, hn]
      · show _ = _
        rw [e, hrd hjl]
        simp only [wState]
        omega
    · show l.length - (j + 1) < l.length - j; omega
  · have : j = l.length := by omega
    repeat' ((with_reducible (first | refine st16 ?_|refine fG.split (fun _ => ?_) (fun _ => ?_)|refine fG.bool (fun _ => ?_) (fun _ => ?_))) <;> (try (conv => whnf)))
    rw [hout, hn, this, half_all, List.take_length]
def sysW (P : List (List Ins)) (S : List State) (W : List (List Item)) (H : List (List Event)) : Nat := wts wInsL P + (wts wState S + (wts wItemL W + wts wEventL H))
theorem sysW_le (P : List (List Ins)) (S : List State) (W : List (List Item)) (H : List (List Event)) : sysW P S W H ≤ 5 * sysSz P S W H := by
  have h1 : wts wInsL P = 5 * wts List.length P := wts_mul 5 P
  have h2 := wts_wState S
  have h3 : wts wItemL W = 2 * wts List.length W := wts_mul 2 W
  have h4 : wts wEventL H = 3 * wts List.length H := wts_mul 3 H
  unfold sysW sysSz
  omega
def mkP (m : Int) (P : List (List Ins)) : List (List Ins) := marks mInsL wInsL m P
def mkS (m : Int) (P : List (List Ins)) (S : List State) : List State := marks mState wState (m + wts wInsL P) S
def mkW (m : Int) (P : List (List Ins)) (S : List State) (W : List (List Item)) : List (List Item) := marks mItemL wItemL (m + wts wInsL P + wts wState S) W
def mkH (m : Int) (P : List (List Ins)) (S : List State) (W : List (List Item)) (H : List (List Event)) : List (List Event) := marks mEventL wEventL (m + wts wInsL P + wts wState S + wts wItemL W) H
theorem ok_laws_markSys (k : Nat) (P : List (List Ins)) (S : List State) (W : List (List Item)) (H : List (List Event)) (m : Int) (hb : SysB 1048576 P S W H) (h0 : 0 ≤ m) (h1 : m + sysW P S W H ≤ 1000000000) :
    callE PR C (k + 3) 28 [aSys 0 P S W H, i64 m] [tInsSS9 P, tStateS9 S, tItemSS9 W, tEventSS9 H] = some ⟨i64 (m + sysW P S W H), [], [some (tInsSS9 (mkP m P)), some (tStateS9 (mkS m P S)), some (tItemSS9 (mkW m P S W)), some (tEventSS9 (mkH m P S W H))]⟩ := by
  rw [show m + ((sysW P S W H : Nat) : Int) = m + wts wInsL P + wts wState S + wts wItemL W + wts wEventL H by simp only [sysW]; omega]
  unfold sysW at h1
  unfold mkP mkS mkW mkH
  have b1 := hb.p
  have b2 := hb.s
  have b3 := hb.w
  have b4 := hb.h
  have q1 := fun k => ok_laws_markInsSS k P m (by omega) h0 (by omega) (fun j hj => by have := hb.pp j hj; omega)
  have q2 := fun k => ok_laws_markStateS k S (m + wts wInsL P) (by omega) (by omega) (by omega) (fun j hj => by have := hb.ss j hj; omega)
  have q3 := fun k => ok_laws_markItemSS k W (m + wts wInsL P + wts wState S) (by omega) (by omega) (by omega) (fun j hj => by have := hb.ww j hj; omega)
  have q4 := fun k => ok_laws_markEventSS k H (m + wts wInsL P + wts wState S + wts wItemL W) (by omega) (by omega) (by omega) (fun j hj => by have := hb.hh j hj; omega)
  have e1 := marks_len mInsL wInsL P m
  have e2 := marks_len mState wState S (m + wts wInsL P)
  have e3 := marks_len mItemL wItemL W (m + wts wInsL P + wts wState S)
  have e4 := marks_len mEventL wEventL H (m + wts wInsL P + wts wState S + wts wItemL W)
  (refine fnI [ResultVar.tmp 4] Tryz.func28 ?_; conv => whnf)
  repeat' ((with_reducible (first | refine sCall.of (q1 _) ?_|refine sCall.of (q2 _) ?_|refine sCall.of (q3 _) ?_|refine sCall.of (q4 _) ?_|refine st16 ?_|refine fG.split (fun _ => ?_) (fun _ => ?_)|refine fG.bool (fun _ => ?_) (fun _ => ?_))) <;> (try (conv => whnf)))

theorem gBeq {a b : Bool} {A B : Prop} (h : B) (e : a = b := by with_reducible assumption) : fG (!(a == b)) A B := by subst e; cases a <;> exact h
theorem ok_laws_heldInsS (k : Nat) (x l : List Ins) (m : Int) (hl : l.length ≤ 1000000000) (h0 : 0 ≤ m) (h1 : m ≤ 10000000000) (e : x = marks mIns wIns m l) : callE PR C (k + 1) 188 [.h 1000000 0 0 [] 5 0 x.length, i64 m] [.tree 0 (.sl 5 (x.map rIns))] = some ⟨i64 (m + 5 * l.length), [], [none]⟩ := by
  have hxl : x.length = l.length := by rw [e, marks_len]
  (refine fnI [ResultVar.tmp 4] Tryz.func188 ?_; conv => whnf)
  repeat' ((with_reducible (first | refine st16 ?_|refine fG.split (fun _ => ?_) (fun _ => ?_)|refine fG.bool (fun _ => ?_) (fun _ => ?_))) <;> (try (conv => whnf)))
  refine loop_rule (ι := TH) (fun z => [(0, .h 1000000 0 0 [] 5 0 x.length), (1, i64 z.m), (5, i64 (z.j : Nat))])
    (fun z => [(1000000, ⟨0, 0, false, .tree 0 (.sl 5 (x.map rIns))⟩)])
    (fun z => l.length - z.j) (fun z => z.j ≤ l.length ∧ z.m = m + 5 * z.j) ⟨0, m⟩ fitOk ⟨Nat.zero_le _, by simp⟩ (by simp [C]; omega) ?_
  rintro ⟨j, n⟩ sl ob ⟨hj, hn⟩
  dsimp only at hj hn
  (try dsimp only [cond_true, cond_false])
  (conv => whnf)
  by_cases hjl : j < l.length
  · have hr : rd x j = mIns n (rd l j) := by
      rw [e, marks_rd _ _ _ _ _ hjl, wts_wIns, List.length_take, hn]
      rw [show min j l.length = j by omega]
      simp
    have hr1 : (rd x j).op = n := by rw [hr]; rfl
    have hr2 : (rd x j).r = n + 1 := by rw [hr]; rfl
    have hr3 : (rd x j).a = n + 1 + 1 := by rw [hr]; rfl
    have hr4 : (rd x j).b = n + 1 + 1 + 1 := by rw [hr]; rfl
    have hr5 : (rd x j).n = n + 1 + 1 + 1 + 1 := by rw [hr]; rfl
    clear hr e
    repeat' ((with_reducible (first | refine st16 ?_|refine fG.split (fun _ => ?_) (fun _ => ?_)|refine fG.bool (fun _ => ?_) (fun _ => ?_))) <;> (try (conv => whnf)))
    refine ⟨⟨⟨j + 1, n + 1 + 1 + 1 + 1 + 1⟩, fitOk, ?_, ?_⟩⟩
    · exact ⟨by show j + 1 ≤ _; omega, by show _ = _; push_cast; omega⟩
    · show l.length - (j + 1) < l.length - j; omega
  · have : j = l.length := by omega
    repeat' ((with_reducible (first | refine st16 ?_|refine fG.split (fun _ => ?_) (fun _ => ?_)|refine fG.bool (fun _ => ?_) (fun _ => ?_))) <;> (try (conv => whnf)))
    rw [hn, this]
theorem ok_laws_heldItemS (k : Nat) (x l : List Item) (m : Int) (hl : l.length ≤ 1000000000) (h0 : 0 ≤ m) (h1 : m ≤ 10000000000) (e : x = marks mItem wItem m l) : callE PR C (k + 1) 189 [.h 1000000 0 0 [] 2 0 x.length, i64 m] [.tree 0 (.sl 2 (x.map rItem))] = some ⟨i64 (m + 2 * l.length), [], [none]⟩ := by
  have hxl : x.length = l.length := by rw [e, marks_len]
  (refine fnI [ResultVar.tmp 4] Tryz.func189 ?_; conv => whnf)
  repeat' ((with_reducible (first | refine st16 ?_|refine fG.split (fun _ => ?_) (fun _ => ?_)|refine fG.bool (fun _ => ?_) (fun _ => ?_))) <;> (try (conv => whnf)))
  refine loop_rule (ι := TH) (fun z => [(0, .h 1000000 0 0 [] 2 0 x.length), (1, i64 z.m), (5, i64 (z.j : Nat))])
    (fun z => [(1000000, ⟨0, 0, false, .tree 0 (.sl 2 (x.map rItem))⟩)])
    (fun z => l.length - z.j) (fun z => z.j ≤ l.length ∧ z.m = m + 2 * z.j) ⟨0, m⟩ fitOk ⟨Nat.zero_le _, by simp⟩ (by simp [C]; omega) ?_
  rintro ⟨j, n⟩ sl ob ⟨hj, hn⟩
  dsimp only at hj hn
  (try dsimp only [cond_true, cond_false])
  (conv => whnf)
  by_cases hjl : j < l.length
  · have hr : rd x j = mItem n (rd l j) := by
      rw [e, marks_rd _ _ _ _ _ hjl, wts_wItem, List.length_take, hn]
      rw [show min j l.length = j by omega]
      simp
    have hr1 : (rd x j).mark = decide (Int.tmod (n) 3 = 0) := by rw [hr]; rfl
    have hr2 : (rd x j).v = n + 1 := by rw [hr]; rfl
    clear hr e
    have hz : n.tmod 3 = n.tmod 3 := rfl
    repeat' ((with_reducible (first | refine sZ.eq (hz) ?_|refine gBeq ?_|refine st16 ?_|refine fG.split (fun _ => ?_) (fun _ => ?_)|refine fG.bool (fun _ => ?_) (fun _ => ?_))) <;> (try (conv => whnf)))
    refine ⟨⟨⟨j + 1, n + 1 + 1⟩, fitOk, ?_, ?_⟩⟩
    · exact ⟨by show j + 1 ≤ _; omega, by show _ = _; push_cast; omega⟩
    · show l.length - (j + 1) < l.length - j; omega
  · have : j = l.length := by omega
    repeat' ((with_reducible (first | refine st16 ?_|refine fG.split (fun _ => ?_) (fun _ => ?_)|refine fG.bool (fun _ => ?_) (fun _ => ?_))) <;> (try (conv => whnf)))
    rw [hn, this]
theorem ok_laws_heldEventS (k : Nat) (x l : List Event) (m : Int) (hl : l.length ≤ 1000000000) (h0 : 0 ≤ m) (h1 : m ≤ 10000000000) (e : x = marks mEvent wEvent m l) : callE PR C (k + 1) 190 [.h 1000000 0 0 [] 3 0 x.length, i64 m] [.tree 0 (.sl 3 (x.map rEvent))] = some ⟨i64 (m + 3 * l.length), [], [none]⟩ := by
  have hxl : x.length = l.length := by rw [e, marks_len]
  (refine fnI [ResultVar.tmp 4] Tryz.func190 ?_; conv => whnf)
  repeat' ((with_reducible (first | refine st16 ?_|refine fG.split (fun _ => ?_) (fun _ => ?_)|refine fG.bool (fun _ => ?_) (fun _ => ?_))) <;> (try (conv => whnf)))
  refine loop_rule (ι := TH) (fun z => [(0, .h 1000000 0 0 [] 3 0 x.length), (1, i64 z.m), (5, i64 (z.j : Nat))])
    (fun z => [(1000000, ⟨0, 0, false, .tree 0 (.sl 3 (x.map rEvent))⟩)])
    (fun z => l.length - z.j) (fun z => z.j ≤ l.length ∧ z.m = m + 3 * z.j) ⟨0, m⟩ fitOk ⟨Nat.zero_le _, by simp⟩ (by simp [C]; omega) ?_
  rintro ⟨j, n⟩ sl ob ⟨hj, hn⟩
  dsimp only at hj hn
  (try dsimp only [cond_true, cond_false])
  (conv => whnf)
  by_cases hjl : j < l.length
  · have hr : rd x j = mEvent n (rd l j) := by
      rw [e, marks_rd _ _ _ _ _ hjl, wts_wEvent, List.length_take, hn]
      rw [show min j l.length = j by omega]
      simp
    have hr1 : (rd x j).kind = n := by rw [hr]; rfl
    have hr2 : (rd x j).peer = n + 1 := by rw [hr]; rfl
    have hr3 : (rd x j).v = n + 1 + 1 := by rw [hr]; rfl
    clear hr e
    repeat' ((with_reducible (first | refine st16 ?_|refine fG.split (fun _ => ?_) (fun _ => ?_)|refine fG.bool (fun _ => ?_) (fun _ => ?_))) <;> (try (conv => whnf)))
    refine ⟨⟨⟨j + 1, n + 1 + 1 + 1⟩, fitOk, ?_, ?_⟩⟩
    · exact ⟨by show j + 1 ≤ _; omega, by show _ = _; push_cast; omega⟩
    · show l.length - (j + 1) < l.length - j; omega
  · have : j = l.length := by omega
    repeat' ((with_reducible (first | refine st16 ?_|refine fG.split (fun _ => ?_) (fun _ => ?_)|refine fG.bool (fun _ => ?_) (fun _ => ?_))) <;> (try (conv => whnf)))
    rw [hn, this]
theorem ok_laws_heldInsSS (k : Nat) (x l : List (List Ins)) (m : Int) (hl : l.length ≤ 1000000000) (h0 : 0 ≤ m) (h1 : m + wts wInsL l ≤ 10000000000) (hx : ∀ j : Nat, j < l.length → (rd l j).length ≤ 1000000000) (e : x = marks mInsL wInsL m l) :
    callE PR C (k + 2) 98 [.h 1000000 0 0 [] 1 0 x.length, i64 m] [.tree 0 (.sl 1 (x.map rInsL))] = some ⟨i64 (m + wts wInsL l), [], [none]⟩ := by
  have hxl : x.length = l.length := by rw [e, marks_len]
  (refine fnI [ResultVar.tmp 4] Tryz.func98 ?_; conv => whnf)
  repeat' ((with_reducible (first | refine st16 ?_|refine fG.split (fun _ => ?_) (fun _ => ?_)|refine fG.bool (fun _ => ?_) (fun _ => ?_))) <;> (try (conv => whnf)))
  refine loop_rule (ι := TH) (fun z => [(0, .h 1000000 0 0 [] 1 0 x.length), (1, i64 z.m), (5, i64 (z.j : Nat))])
    (fun z => [(1000000, ⟨0, 0, false, .tree 0 (.sl 1 (x.map rInsL))⟩)])
    (fun z => l.length - z.j) (fun z => z.j ≤ l.length ∧ z.m = m + wts wInsL (l.take z.j)) ⟨0, m⟩ fitOk ⟨Nat.zero_le _, by simp [wts]⟩ (by simp [C]; omega) ?_
  rintro ⟨j, n⟩ sl ob ⟨hj, hn⟩
  dsimp only at hj hn
  have hn1 : n ≤ 10000000000 := by have := wts_le wInsL l j; omega
  (try dsimp only [cond_true, cond_false])
  (conv => whnf)
  by_cases hjl : j < l.length
  · have hr : rd x j = marks mIns wIns n (rd l j) := by rw [e, marks_rd _ _ _ _ _ hjl, hn]; rfl
    have hln : (rd x j).length = (rd l j).length := by rw [hr, marks_len]
    have hw := wts_take wInsL l j hjl
    have hw2 := wts_le wInsL l (j + 1)
    have hwj : wInsL (rd l j) = 5 * (rd l j).length := rfl
    have hq := fun k => ok_laws_heldInsS k (rd x j) (rd l j) n (hx j hjl) (by omega) hn1 hr
    clear hr e
    repeat' ((with_reducible (first | refine sCall.of (hq _) ?_|refine st16 ?_|refine fG.split (fun _ => ?_) (fun _ => ?_)|refine fG.bool (fun _ => ?_) (fun _ => ?_))) <;> (try (conv => whnf)))
    refine ⟨⟨⟨j + 1, n + 5 * (rd l j).length⟩, fitOk, ?_, ?_⟩⟩
    · exact ⟨by show j + 1 ≤ _; omega, by show _ = _; rw [hw, hwj]; push_cast; omega⟩
    · show l.length - (j + 1) < l.length - j; omega
  · have : j = l.length := by omega
    repeat' ((with_reducible (first | refine st16 ?_|refine fG.split (fun _ => ?_) (fun _ => ?_)|refine fG.bool (fun _ => ?_) (fun _ => ?_))) <;> (try (conv => whnf)))
    rw [hn, this, List.take_length]
theorem ok_laws_heldItemSS (k : Nat) (x l : List (List Item)) (m : Int) (hl : l.length ≤ 1000000000) (h0 : 0 ≤ m) (h1 : m + wts wItemL l ≤ 10000000000) (hx : ∀ j : Nat, j < l.length → (rd l j).length ≤ 1000000000) (e : x = marks mItemL wItemL m l) :
    callE PR C (k + 2) 100 [.h 1000000 0 0 [] 1 0 x.length, i64 m] [.tree 0 (.sl 1 (x.map rItemL))] = some ⟨i64 (m + wts wItemL l), [], [none]⟩ := by
  have hxl : x.length = l.length := by rw [e, marks_len]
  (refine fnI [ResultVar.tmp 4] Tryz.func100 ?_; conv => whnf)
  repeat' ((with_reducible (first | refine st16 ?_|refine fG.split (fun _ => ?_) (fun _ => ?_)|refine fG.bool (fun _ => ?_) (fun _ => ?_))) <;> (try (conv => whnf)))
  refine loop_rule (ι := TH) (fun z => [(0, .h 1000000 0 0 [] 1 0 x.length), (1, i64 z.m), (5, i64 (z.j : Nat))])
    (fun z => [(1000000, ⟨0, 0, false, .tree 0 (.sl 1 (x.map rItemL))⟩)])
    (fun z => l.length - z.j) (fun z => z.j ≤ l.length ∧ z.m = m + wts wItemL (l.take z.j)) ⟨0, m⟩ fitOk ⟨Nat.zero_le _, by simp [wts]⟩ (by simp [C]; omega) ?_
  rintro ⟨j, n⟩ sl ob ⟨hj, hn⟩
  dsimp only at hj hn
  have hn1 : n ≤ 10000000000 := by have := wts_le wItemL l j; omega
  (try dsimp only [cond_true, cond_false])
  (conv => whnf)
  by_cases hjl : j < l.length
  · have hr : rd x j = marks mItem wItem n (rd l j) := by rw [e, marks_rd _ _ _ _ _ hjl, hn]; rfl
    have hln : (rd x j).length = (rd l j).length := by rw [hr, marks_len]
    have hw := wts_take wItemL l j hjl
    have hw2 := wts_le wItemL l (j + 1)
    have hwj : wItemL (rd l j) = 2 * (rd l j).length := rfl
    have hq := fun k => ok_laws_heldItemS k (rd x j) (rd l j) n (hx j hjl) (by omega) hn1 hr
    clear hr e
    repeat' ((with_reducible (first | refine sCall.of (hq _) ?_|refine st16 ?_|refine fG.split (fun _ => ?_) (fun _ => ?_)|refine fG.bool (fun _ => ?_) (fun _ => ?_))) <;> (try (conv => whnf)))
    refine ⟨⟨⟨j + 1, n + 2 * (rd l j).length⟩, fitOk, ?_, ?_⟩⟩
    · exact ⟨by show j + 1 ≤ _; omega, by show _ = _; rw [hw, hwj]; push_cast; omega⟩
    · show l.length - (j + 1) < l.length - j; omega
  · have : j = l.length := by omega
    repeat' ((with_reducible (first | refine st16 ?_|refine fG.split (fun _ => ?_) (fun _ => ?_)|refine fG.bool (fun _ => ?_) (fun _ => ?_))) <;> (try (conv => whnf)))
    rw [hn, this, List.take_length]
theorem ok_laws_heldEventSS (k : Nat) (x l : List (List Event)) (m : Int) (hl : l.length ≤ 1000000000) (h0 : 0 ≤ m) (h1 : m + wts wEventL l ≤ 10000000000) (hx : ∀ j : Nat, j < l.length → (rd l j).length ≤ 1000000000) (e : x = marks mEventL wEventL m l) :
    callE PR C (k + 2) 101 [.h 1000000 0 0 [] 1 0 x.length, i64 m] [.tree 0 (.sl 1 (x.map rEventL))] = some ⟨i64 (m + wts wEventL l), [], [none]⟩ := by
  have hxl : x.length = l.length := by rw [e, marks_len]
  (refine fnI [ResultVar.tmp 4] Tryz.func101 ?_; conv => whnf)
  repeat' ((with_reducible (first | refine st16 ?_|refine fG.split (fun _ => ?_) (fun _ => ?_)|refine fG.bool (fun _ => ?_) (fun _ => ?_))) <;> (try (conv => whnf)))
  refine loop_rule (ι := TH) (fun z => [(0, .h 1000000 0 0 [] 1 0 x.length), (1, i64 z.m), (5, i64 (z.j : Nat))])
    (fun z => [(1000000, ⟨0, 0, false, .tree 0 (.sl 1 (x.map rEventL))⟩)])
    (fun z => l.length - z.j) (fun z => z.j ≤ l.length ∧ z.m = m + wts wEventL (l.take z.j)) ⟨0, m⟩ fitOk ⟨Nat.zero_le _, by simp [wts]⟩ (by simp [C]; omega) ?_
  rintro ⟨j, n⟩ sl ob ⟨hj, hn⟩
  dsimp only at hj hn
  have hn1 : n ≤ 10000000000 := by have := wts_le wEventL l j; omega
  (try dsimp only [cond_true, cond_false])
  (conv => whnf)
  by_cases hjl : j < l.length
  · have hr : rd x j = marks mEvent wEvent n (rd l j) := by rw [e, marks_rd _ _ _ _ _ hjl, hn]; rfl
    have hln : (rd x j).length = (rd l j).length := by rw [hr, marks_len]
    have hw := wts_take wEventL l j hjl
    have hw2 := wts_le wEventL l (j + 1)
    have hwj : wEventL (rd l j) = 3 * (rd l j).length := rfl
    have hq := fun k => ok_laws_heldEventS k (rd x j) (rd l j) n (hx j hjl) (by omega) hn1 hr
    clear hr e
    repeat' ((with_reducible (first | refine sCall.of (hq _) ?_|refine st16 ?_|refine fG.split (fun _ => ?_) (fun _ => ?_)|refine fG.bool (fun _ => ?_) (fun _ => ?_))) <;> (try (conv => whnf)))
    refine ⟨⟨⟨j + 1, n + 3 * (rd l j).length⟩, fitOk, ?_, ?_⟩⟩
    · exact ⟨by show j + 1 ≤ _; omega, by show _ = _; rw [hw, hwj]; push_cast; omega⟩
    · show l.length - (j + 1) < l.length - j; omega
  · have : j = l.length := by omega
    repeat' ((with_reducible (first | refine st16 ?_|refine fG.split (fun _ => ?_) (fun _ => ?_)|refine fG.bool (fun _ => ?_) (fun _ => ?_))) <;> (try (conv => whnf)))
    rw [hn, this, List.take_length]
set_option maxHeartbeats 4000000 in
theorem ok_laws_heldStateS (k : Nat) (x l : List State) (m : Int) (hl : l.length ≤ 1000000000) (h0 : 0 ≤ m) (h1 : m + wts wState l ≤ 10000000000) (hx : ∀ j : Nat, j < l.length → (rd l j).regs.length ≤ 1000000000 ∧ (rd l j).out.length ≤ 1000000000) (e : x = marks mState wState m l) :
    callE PR C (k + 2) 99 [.h 1000000 0 0 [] 4 0 x.length, i64 m] [tStateS x] = some ⟨i64 (m + wts wState l), [], [none]⟩ := by
  have hxl : x.length = l.length := by rw [e, marks_len]
  (refine fnI [ResultVar.tmp 4] Tryz.func99 ?_; conv => whnf)
  repeat' ((with_reducible (first | refine st16 ?_|refine fG.split (fun _ => ?_) (fun _ => ?_)|refine fG.bool (fun _ => ?_) (fun _ => ?_))) <;> (try (conv => whnf)))
  refine loop_rule (ι := TH) (fun z => [(0, .h 1000000 0 0 [] 4 0 x.length), (1, i64 z.m), (5, i64 (z.j : Nat))])
    (fun z => [(1000000, ⟨0, 0, false, tStateS x⟩)])
    (fun z => l.length - z.j) (fun z => z.j ≤ l.length ∧ z.m = m + wts wState (l.take z.j)) ⟨0, m⟩ fitOk ⟨Nat.zero_le _, by simp [wts]⟩ (by simp [C]; omega) ?_
  rintro ⟨j, n⟩ sl ob ⟨hj, hn⟩
  dsimp only at hj hn
  have hn1 : n ≤ 10000000000 := by have := wts_le wState l j; omega
  (try dsimp only [cond_true, cond_false])
  (conv => whnf)
  by_cases hjl : j < l.length
  · have hx1 := (hx j hjl).1
    have hx2 := (hx j hjl).2
    have hw := wts_take wState l j hjl
    have hw2 := wts_le wState l (j + 1)
    have er : rd x j = mState n (rd l j) := by rw [e, hn]; exact marks_rd _ _ m l j hjl
    have e2 : (rd x j).at_ = n := by rw [er]; rfl
    have e3 : (rd x j).regs = marksI (n + 1) (rd l j).regs := by rw [er]; rfl
    have e4 : (rd x j).out = marksI (n + 1 + (rd x j).regs.length) (rd l j).out := by rw [e3, marksI_len, er]; rfl
    have l1 : (rd x j).regs.length = (rd l j).regs.length := by rw [e3, marksI_len]
    have l2 : (rd x j).out.length = (rd l j).out.length := by rw [e4, marksI_len]
    have e5 : (rd x j).code = n + 1 + (rd x j).regs.length + (rd x j).out.length := by rw [l1, l2, er]; rfl
    have hwj : wState (rd l j) = 2 + (rd x j).regs.length + (rd x j).out.length := by rw [l1, l2]; rfl
    have hq1 := fun k => ok_laws_heldIntS k (rd x j).regs (n + 1) (by omega) (by omega) (by omega) (fun i hi => by rw [e3] at hi ⊢; exact marksI_rd _ _ i hi)
    have hq2 := fun k => ok_laws_heldIntS k (rd x j).out (n + 1 + (rd x j).regs.length) (by omega) (by omega) (by omega) (fun i hi => by rw [e4] at hi ⊢; exact marksI_rd _ _ i hi)
    clear e3 e4 er e
    repeat' ((with_reducible (first | refine sCall.of (hq1 _) ?_|refine sCall.of (hq2 _) ?_|refine st16 ?_|refine fG.split (fun _ => ?_) (fun _ => ?_)|refine fG.bool (fun _ => ?_) (fun _ => ?_))) <;> (try (conv => whnf)))
    refine ⟨⟨⟨j + 1, n + 1 + (rd x j).regs.length + (rd x j).out.length + 1⟩, fitOk, ?_, ?_⟩⟩
    · exact ⟨by show j + 1 ≤ _; omega, by show _ = _; rw [hw, hwj]; push_cast; omega⟩
    · show l.length - (j + 1) < l.length - j; omega
  · have : j = l.length := by omega
    repeat' ((with_reducible (first | refine st16 ?_|refine fG.split (fun _ => ?_) (fun _ => ?_)|refine fG.bool (fun _ => ?_) (fun _ => ?_))) <;> (try (conv => whnf)))
    rw [hn, this, List.take_length]
theorem ok_laws_heldSys (k : Nat) (P : List (List Ins)) (S : List State) (W : List (List Item)) (H : List (List Event)) (P' : List (List Ins)) (S' : List State) (W' : List (List Item)) (H' : List (List Event)) (m : Int) (hb : SysB 1000000000 P S W H) (h0 : 0 ≤ m) (h1 : m + sysW P S W H ≤ 10000000000)
    (e1 : P' = mkP m P) (e2 : S' = mkS m P S) (e3 : W' = mkW m P S W) (e4 : H' = mkH m P S W H) :
    callE PR C (k + 3) 37 [aSys 0 P' S' W' H', i64 m] [tInsSS P', tStateS S', tItemSS W', tEventSS H'] = some ⟨i64 (m + sysW P S W H), [], [none, none, none, none]⟩ := by
  rw [show m + ((sysW P S W H : Nat) : Int) = m + wts wInsL P + wts wState S + wts wItemL W + wts wEventL H by simp only [sysW]; omega]
  unfold sysW at h1
  have b1 := hb.p
  have b2 := hb.s
  have b3 := hb.w
  have b4 := hb.h
  have q1 := fun k => ok_laws_heldInsSS k P' P m (by omega) h0 (by omega) hb.pp e1
  have q2 := fun k => ok_laws_heldStateS k S' S (m + wts wInsL P) (by omega) (by omega) (by omega) hb.ss e2
  have q3 := fun k => ok_laws_heldItemSS k W' W (m + wts wInsL P + wts wState S) (by omega) (by omega) (by omega) hb.ww e3
  have q4 := fun k => ok_laws_heldEventSS k H' H (m + wts wInsL P + wts wState S + wts wItemL W) (by omega) (by omega) (by omega) hb.hh e4
  clear e1 e2 e3 e4
  (refine fnI [ResultVar.tmp 4] Tryz.func37 ?_; conv => whnf)
  repeat' ((with_reducible (first | refine sCall.of (q1 _) ?_|refine sCall.of (q2 _) ?_|refine sCall.of (q3 _) ?_|refine sCall.of (q4 _) ?_|refine st16 ?_|refine fG.split (fun _ => ?_) (fun _ => ?_)|refine fG.bool (fun _ => ?_) (fun _ => ?_))) <;> (try (conv => whnf)))

end Go.Proofs.YtlobpiebphnkiaaGreat.Abs
namespace Go.Proofs.YtlobpiebphnkiaaGreat.Abs
open Go Go.Proofs
set_option linter.unusedVariables false
set_option linter.unusedSimpArgs false
attribute [local irreducible] callE
structure SysG (X : Sys) : Prop where
  b : SysB 1048576 X.progs X.states X.ways X.hist
  w : sysW X.progs X.states X.ways X.hist ≤ 500000000
theorem sysG_empty : SysG ⟨[], [], [], []⟩ := by
  refine ⟨⟨by simp, fun j hj => by simp at hj, by simp, fun j hj => by simp at hj, by simp, fun j hj => by simp at hj, by simp, fun j hj => by simp at hj⟩, by simp [sysW, wts]⟩
theorem sysG_self (P : List (List Ins)) (S : List State) (W : List (List Item)) (H : List (List Event)) (h : sysSz P S W H ≤ 1048576) : SysG ⟨P, S, W, H⟩ := by
  have := sysW_le P S W H
  exact ⟨sysB_of h, by show sysW P S W H ≤ _; omega⟩
theorem sysG_of {X : Sys} (hB : SysB 1048576 X.progs X.states X.ways X.hist) (n1 : X.progs.length ≤ 4) (n2 : X.states.length ≤ 4) (n3 : X.ways.length ≤ 16) (n4 : X.hist.length ≤ 4) : SysG X := by
  refine ⟨hB, ?_⟩
  have h1 := wts_bound wInsL 5242880 X.progs fun j hj => by have := hB.pp j hj; unfold wInsL; omega
  have h2 := wts_bound wState 2097154 X.states fun j hj => by have := hB.ss j hj; unfold wState; omega
  have h3 := wts_bound wItemL 2097152 X.ways fun j hj => by have := hB.ww j hj; unfold wItemL; omega
  have h4 := wts_bound wEventL 3145728 X.hist fun j hj => by have := hB.hh j hj; unfold wEventL; omega
  unfold sysW
  omega
end Go.Proofs.YtlobpiebphnkiaaGreat.Abs
namespace Go.Proofs.YtlobpiebphnkiaaGreat.Abs
open Go Go.Proofs
set_option linter.unusedVariables false
set_option linter.unusedSimpArgs false
attribute [local irreducible] callE
abbrev tBool (l : List Bool) : Cont := .tree 0 (.sl 1 (l.map rBool))
abbrev tBool9 (l : List Bool) : Cont := .tree 9 (.sl 1 (l.map rBool))
abbrev tIntSS (l : List (List Int)) : Cont := .tree 0 (.sl 1 (l.map rIntL))
abbrev tIntSS9 (l : List (List Int)) : Cont := .tree 9 (.sl 1 (l.map rIntL))
theorem set_rIntL (l : List (List Int)) (n : Nat) (x : List Int) : (l.map rIntL).set n [.sl 1 (x.map rI)] = (l.set n x).map rIntL := by simp [rIntL, List.map_set]
theorem rep_rIntL (n : Nat) : List.replicate n [T.sl 1 []] = (List.replicate n (default : List Int)).map rIntL := by simp [rIntL, default, instInhabitedList]
theorem gI17 {p A : Prop} (h : A) (e : p := by first | with_reducible assumption | omega | (simp only [Nat.zero_add, Nat.add_zero, Nat.sub_zero, Int.toNat_natCast, Int.toNat_zero, Int.toNat_one, List.length_map, List.length_nil, Int.reduceToNat, Nat.reduceAdd, Nat.reduceSub, Int.sub_zero, Int.reduceAdd, Int.reduceSub, Nat.sub_self, Int.toNat_natCast_add_one, marks_len, bs_len, List.length_append, List.length_cons, List.length_set, List.length_replicate, List.length_range]; first | done | omega)) : sI p A := sI.mk e h
theorem gNum17 {r r' : Nat} {F : Nat → Prop} (h : F r') (e : r = r' := by first | (simp only [Nat.zero_add, Nat.add_zero, Nat.sub_zero, Int.toNat_natCast, Int.toNat_zero, Int.toNat_one, List.length_map, List.length_nil, Int.reduceToNat, Nat.reduceAdd, Nat.reduceSub, Int.sub_zero, Int.reduceAdd, Int.reduceSub, Nat.sub_self, Int.toNat_natCast_add_one, marks_len, bs_len]; rfl) | rfl) : sN r F := sN.eq e h
theorem gRow17 {r r' : List (List T)} {F : List (List T) → Prop} (h : F r') (e : r = r' := by first | (simp only [Nat.add_zero, Nat.zero_add, Nat.reduceAdd, List.drop_zero, List.take_succ_cons, List.take_nil, List.drop_succ_cons, List.drop_nil, List.take_zero, List.nil_append, List.append_nil, List.map_nil, drop_suf, take_pre, drop_map, List.take_length, take_len_set, take_len_app, List.set_set, List.length_map, set_rIntL, rep_rIntL, snoc_rItem, snoc_rInsL, snoc_rItemL, snoc_rEventL, snoc_rState, set_rWho, rep_rWho, snoc_rWho, set_rState, rep_rState, set_rInsL, rep_rInsL, set_rItemL, rep_rItemL, set_rEventL, rep_rEventL, set_rItem, rep_rItem, rep_rKept, marks_take, set_rKept, set_rIns, rep_rIns, set_rEvent, rep_rEvent, snoc_rKept, snoc_rEvent, snoc_rIns, bytesT_bs, snoc_rI, snoc_rB, snoc_rBool, set_rI, set_rBool, rep_rI, rep_rBool, map_app]; rfl) | rfl) : sR r F := sR.eq e h
theorem gRf5 {b : Bool} {A : Prop} (h : A) (e : b = true := by first | exact Nat.beq_refl _ | exact wide_map (fun _ => rfl) _ | exact full_map (fun _ => rfl) _ | exact full_map (fun x => full_rKept x) _ | exact full_map (fun x => full_rInsL x) _ | exact full_map (fun x => full_rItemL x) _ | exact full_map (fun x => full_rEventL x) _ | exact full_map (fun x => full_rState x) _ | exact full_map (fun x => full_rIntL x) _ | exact full_map (fun x => full_rIntL x) _ | rfl | (simp only [full_map, wide_map]; done)) : fB b A := fB.of e h
theorem st17 {P Q : Prop} (h : Q) (e : Q → P := by with_reducible first | exact fun h => gP h | exact fun h => gN h | exact fun h => fG.not h | exact fun h => gY h | exact fun h => gF h | exact fun h => fG.yes (flat_map (fun _ => rfl) _) h | exact fun h => gS64 h | exact fun h => gU8 h | exact fun h => gI17 h | exact fun h => fE.of rfl h | exact fun h => gNum17 h | exact fun h => gSet h | exact fun h => gRd h | exact fun h => gLk h | exact fun h => gRow17 h | exact fun h => gRf5 h) : P := e h
abbrev aLive (j : Nat) (P : List (List Ins)) (S : List State) (W : List (List Item)) (H : List (List Event)) (on : Bool) (cut : List Int) (opn : List Bool) (kept : List (List Int)) : AV :=
  .ag [.h (1000000 + j) 0 0 [] 1 0 P.length, .h (1000001 + j) 0 0 [] 4 0 S.length, .h (1000002 + j) 0 0 [] 1 0 W.length, .h (1000003 + j) 0 0 [] 1 0 H.length, bl on, .h (1000004 + j) 0 0 [] 1 0 cut.length, .h (1000005 + j) 0 0 [] 1 0 opn.length, .h (1000006 + j) 0 0 [] 1 0 kept.length]
abbrev nLive (j : Nat) (P : List (List Ins)) (S : List State) (W : List (List Item)) (H : List (List Event)) (on : Bool) (cut : List Int) (opn : List Bool) (kept : List (List Int)) : AV :=
  .ag [.h (2000000 + j) 1 0 [] 1 0 P.length, .h (2000001 + j) 1 0 [] 4 0 S.length, .h (2000002 + j) 1 0 [] 1 0 W.length, .h (2000003 + j) 1 0 [] 1 0 H.length, bl on, .h (2000004 + j) 1 0 [] 1 0 cut.length, .h (2000005 + j) 1 0 [] 1 0 opn.length, .h (2000006 + j) 1 0 [] 1 0 kept.length]
abbrev aShot (j : Nat) (on : Bool) (cut : List Int) (opn : List Bool) (kept : List (List Int)) : AV :=
  .ag [bl on, .h (1000000 + j) 0 0 [] 1 0 cut.length, .h (1000001 + j) 0 0 [] 1 0 opn.length, .h (1000002 + j) 0 0 [] 1 0 kept.length]
abbrev nShot (j : Nat) (on : Bool) (cut : List Int) (opn : List Bool) (kept : List (List Int)) : AV :=
  .ag [bl on, .h (2000000 + j) 1 0 [] 1 0 cut.length, .h (2000001 + j) 1 0 [] 1 0 opn.length, .h (2000002 + j) 1 0 [] 1 0 kept.length]
theorem ok_laws_szBoolS (k : Nat) (l : List Bool) (m : Int) (h0 : 0 ≤ m) (h1 : m ≤ 1048576) (hl : l.length ≤ 140737488355328) : callE PR C (k + 1) 129 [.h 1000000 0 0 [] 1 0 l.length, i64 m] [tBool l] = some ⟨i64 (left m l.length), [], [none]⟩ := by
  (refine fnI [ResultVar.tmp 4] Tryz.func129 ?_; conv => whnf)
  repeat' ((with_reducible (first | refine st17 ?_|refine fG.split (fun _ => ?_) (fun _ => ?_)|refine fG.bool (fun _ => ?_) (fun _ => ?_))) <;> (try (conv => whnf)))
  all_goals (simp only [left, *, if_true, if_false]; done)
theorem ok_laws_toBoolS (k : Nat) (l : List Bool) (hl : l.length ≤ 100000000000) : callE PR C (k + 1) 138 [.h 1000000 0 0 [] 1 0 l.length] [tBool l] = some ⟨.h 2000000 1 0 [] 1 0 l.length, [tBool9 l], [none]⟩ := by
  (refine fnI [ResultVar.tmp 2] Tryz.func138 ?_; conv => whnf)
  repeat' ((with_reducible (first | refine st17 ?_|refine fG.split (fun _ => ?_) (fun _ => ?_)|refine fG.bool (fun _ => ?_) (fun _ => ?_))) <;> (try (conv => whnf)))
  refine loop_rule (ι := TL Bool) (fun x => [(0, .h 1000000 0 0 [] 1 0 l.length), (3, .h 7 1 0 [] 1 0 l.length), (4, i64 (x.j : Nat))])
    (fun x => [(1000000, ⟨0, 0, false, tBool l⟩), (7, ⟨1, x.g, x.d, tBool9 x.l⟩)])
    (fun x => l.length - x.j) (fun x => x.j ≤ l.length ∧ x.l = fill l x.j) ⟨0, List.replicate l.length false, 0, false⟩ fitOk ⟨Nat.zero_le _, (fill_zero l).symm⟩ (by simp [C]; omega) ?_
  rintro ⟨j, out, g, d⟩ sl ob ⟨hj, hout⟩
  dsimp only at hj hout
  have hlen : out.length = l.length := by rw [hout, fill_len]
  (try dsimp only [cond_true, cond_false])
  (conv => whnf)
  repeat' ((with_reducible (first | refine st17 ?_|refine fG.split (fun _ => ?_) (fun _ => ?_)|refine fG.bool (fun _ => ?_) (fun _ => ?_))) <;> (try (conv => whnf)))
  case' refine_1 h =>
    refine ⟨⟨⟨j + 1, out.set j (rd l j), _, _⟩, fitOk, ?_, ?_⟩⟩
    · exact ⟨by show j + 1 ≤ _; omega, by show _ = _; rw [hout]; exact fill_set l j (by omega)⟩
    · show l.length - (j + 1) < l.length - j; omega
  case refine_2 h =>
    have : j = l.length := by omega
    rw [hout, this, fill_all, List.take_length]
theorem ok_laws_eqBoolS (k : Nat) (l : List Bool) (hl : l.length ≤ 100000000000) : callE PR C (k + 1) 150 [.h 1000000 0 0 [] 1 0 l.length, .h 1000001 0 0 [] 1 0 l.length] [tBool l, tBool l] = some ⟨bl true, [], [none, none]⟩ := by
  (refine fnI [ResultVar.tmp 4] Tryz.func150 ?_; conv => whnf)
  repeat' ((with_reducible (first | refine st17 ?_|refine fG.split (fun _ => ?_) (fun _ => ?_)|refine fG.bool (fun _ => ?_) (fun _ => ?_)|refine gDn 6 ?_)) <;> (try (conv => whnf)))
  refine loop_rule (ι := Nat) (fun j => [(0, .h 1000000 0 0 [] 1 0 l.length), (1, .h 1000001 0 0 [] 1 0 l.length), (5, i64 (j : Nat))])
    (fun x => [(1000000, ⟨0, 0, false, tBool l⟩), (1000001, ⟨0, 0, false, tBool l⟩)])
    (fun j => l.length - j) (fun j => j ≤ l.length) 0 fitOk (Nat.zero_le _) (by simp [C]; omega) ?_
  rintro j sl ob hj
  (try dsimp only [cond_true, cond_false])
  (conv => whnf)
  by_cases hjl : j < l.length
  · cases e : rd l j
    all_goals
      repeat' ((with_reducible (first | refine st17 ?_|refine fG.split (fun _ => ?_) (fun _ => ?_)|refine fG.bool (fun _ => ?_) (fun _ => ?_)|refine gDn 6 ?_)) <;> (try (conv => whnf)))
      all_goals first
        | (exfalso; simp_all; done)
        | (refine ⟨⟨j + 1, fitOk, ?_, ?_⟩⟩
           · show j + 1 ≤ _; omega
           · show l.length - (j + 1) < l.length - j; omega)
  · repeat' ((with_reducible (first | refine st17 ?_|refine fG.split (fun _ => ?_) (fun _ => ?_)|refine fG.bool (fun _ => ?_) (fun _ => ?_)|refine gDn 6 ?_)) <;> (try (conv => whnf)))
theorem ok_laws_szIntSS (k : Nat) (l : List (List Int)) (m : Int) (h0 : 0 ≤ m) (h1 : m ≤ 1048576) (hl : l.length ≤ 140737488355328) (hx : ∀ j : Nat, j < l.length → (rd l j).length ≤ 140737488355328) :
    callE PR C (k + 2) 130 [(.h 1000000 0 0 [] 1 0 l.length), i64 m] [(.tree 0 (.sl 1 (l.map rIntL)))] = some ⟨i64 (left m (l.length + wts List.length l : Nat)), [], [none]⟩ := by
  by_cases c1 : m - l.length < 0
  · rw [show left m (l.length + wts List.length l : Nat) = -1 from by unfold left; rw [if_pos (by omega)]]
    (refine fnI [ResultVar.tmp 4] Tryz.func130 ?_; conv => whnf)
    repeat' ((with_reducible (first | refine st17 ?_|refine fG.split (fun _ => ?_) (fun _ => ?_)|refine fG.bool (fun _ => ?_) (fun _ => ?_))) <;> (try (conv => whnf)))
  · (refine fnI [ResultVar.tmp 4] Tryz.func130 ?_; conv => whnf)
    repeat' ((with_reducible (first | refine st17 ?_|refine fG.split (fun _ => ?_) (fun _ => ?_)|refine fG.bool (fun _ => ?_) (fun _ => ?_))) <;> (try (conv => whnf)))
    refine loop_rule (ι := TH) (fun x => [(0, (.h 1000000 0 0 [] 1 0 l.length)), (1, i64 x.m), (5, i64 (x.j : Nat))])
      (fun x => [(1000000, ⟨0, 0, false, (.tree 0 (.sl 1 (l.map rIntL)))⟩)])
      (fun x => l.length - x.j) (fun x => x.j ≤ l.length ∧ x.m = m - l.length - wts List.length (l.take x.j) ∧ 0 ≤ x.m) ⟨0, m - l.length⟩ fitOk ⟨Nat.zero_le _, by simp [wts], by show 0 ≤ m - (l.length : Int); omega⟩ (by simp [C]; omega) ?_
    rintro ⟨j, n⟩ sl ob ⟨hj, hn, hn0⟩
    dsimp only at hj hn hn0
    have hn1 : n ≤ 1048576 := by omega
    (try dsimp only [cond_true, cond_false])
    (conv => whnf)
    by_cases hjl : j < l.length
    · have hxj := hx j hjl
      have e := wts_take List.length l j hjl
      have e2 := wts_le List.length l (j + 1)
      have hq := fun k => ok_laws_szIntS k (rd l j) n hn0 hn1 hxj
      (try simp only [List.length_map] at e)
      by_cases c2 : n - ((rd l j).length : Int) < 0
      · have e3 : left n ((rd l j).length : Int) = -1 := by unfold left; rw [if_pos c2]
        rw [e3] at hq
        rw [show left m (l.length + wts List.length l : Nat) = -1 from by unfold left; rw [if_pos (by omega)]]
        repeat' ((with_reducible (first | refine sCall.of (hq _) ?_|refine st17 ?_|refine fG.split (fun _ => ?_) (fun _ => ?_)|refine fG.bool (fun _ => ?_) (fun _ => ?_))) <;> (try (conv => whnf)))
      · have e3 : left n ((rd l j).length : Int) = n - ((rd l j).length : Int) := by unfold left; rw [if_neg c2]
        rw [e3] at hq
        repeat' ((with_reducible (first | refine sCall.of (hq _) ?_|refine st17 ?_|refine fG.split (fun _ => ?_) (fun _ => ?_)|refine fG.bool (fun _ => ?_) (fun _ => ?_))) <;> (try (conv => whnf)))
        refine ⟨⟨⟨j + 1, n - ((rd l j).length : Int)⟩, fitOk, ?_, ?_⟩⟩
        · refine ⟨by show j + 1 ≤ _; omega, ?_, by show (0 : Int) ≤ n - ((rd l j).length : Int); omega⟩
          show n - ((rd l j).length : Int) = m - l.length - (wts List.length (l.take (j + 1)) : Nat)
          omega
        · show l.length - (j + 1) < l.length - j; omega
    · have hjj : j = l.length := by omega
      rw [hjj, List.take_length] at hn
      rw [show left m (l.length + wts List.length l : Nat) = n from by unfold left; rw [if_neg (by omega)]; omega]
      repeat' ((with_reducible (first | refine st17 ?_|refine fG.split (fun _ => ?_) (fun _ => ?_)|refine fG.bool (fun _ => ?_) (fun _ => ?_))) <;> (try (conv => whnf)))
theorem ok_laws_toIntSS (k : Nat) (l : List (List Int)) (hl : l.length ≤ 100000000000) (hx : ∀ j : Nat, j < l.length → (rd l j).length ≤ 100000000000) : callE PR C (k + 2) 139 [(.h 1000000 0 0 [] 1 0 l.length)] [(.tree 0 (.sl 1 (l.map rIntL)))] = some ⟨.h 2000000 1 0 [] 1 0 l.length, [(.tree 9 (.sl 1 (l.map rIntL)))], [none]⟩ := by
  (refine fnI [ResultVar.tmp 2] Tryz.func139 ?_; conv => whnf)
  repeat' ((with_reducible (first | refine st17 ?_|refine fG.split (fun _ => ?_) (fun _ => ?_)|refine fG.bool (fun _ => ?_) (fun _ => ?_))) <;> (try (conv => whnf)))
  refine loop_rule (ι := TL (List Int)) (fun x => [(0, (.h 1000000 0 0 [] 1 0 l.length)), (3, .h 7 1 0 [] 1 0 l.length), (4, i64 (x.j : Nat))])
    (fun x => [(1000000, ⟨0, 0, false, (.tree 0 (.sl 1 (l.map rIntL)))⟩), (7, ⟨1, x.g, x.d, .tree 9 (.sl 1 (x.l.map rIntL))⟩)])
    (fun x => l.length - x.j) (fun x => x.j ≤ l.length ∧ x.l = fill l x.j) ⟨0, List.replicate l.length default, 0, false⟩ fitOk ⟨Nat.zero_le _, (fill_zero l).symm⟩ (by simp [C]; omega) ?_
  rintro ⟨j, out, g, d⟩ sl ob ⟨hj, hout⟩
  dsimp only at hj hout
  have hlen : out.length = l.length := by rw [hout, fill_len]
  (try dsimp only [cond_true, cond_false])
  (conv => whnf)
  by_cases hjl : j < l.length
  · have hxj := hx j hjl
    have hq := fun k => ok_laws_toIntS k (rd l j) hxj
    repeat' ((with_reducible (first | refine sCall.of (hq _) ?_|refine st17 ?_|refine fG.split (fun _ => ?_) (fun _ => ?_)|refine fG.bool (fun _ => ?_) (fun _ => ?_))) <;> (try (conv => whnf)))
    refine ⟨⟨⟨j + 1, out.set j (rd l j), _, _⟩, fitOk, ?_, ?_⟩⟩
    · exact ⟨by show j + 1 ≤ _; omega, by show _ = _; rw [hout]; exact fill_set l j (by omega)⟩
    · show l.length - (j + 1) < l.length - j; omega
  · have : j = l.length := by omega
    repeat' ((with_reducible (first | refine st17 ?_|refine fG.split (fun _ => ?_) (fun _ => ?_)|refine fG.bool (fun _ => ?_) (fun _ => ?_))) <;> (try (conv => whnf)))
    rw [hout, this, fill_all, List.take_length]
theorem ok_laws_eqIntSS (k : Nat) (l : List (List Int)) (hl : l.length ≤ 100000000000) (hx : ∀ j : Nat, j < l.length → (rd l j).length ≤ 100000000000) : callE PR C (k + 2) 151 [(.h 1000000 0 0 [] 1 0 l.length), (.h 1000001 0 0 [] 1 0 l.length)] [(.tree 0 (.sl 1 (l.map rIntL))), (.tree 0 (.sl 1 (l.map rIntL)))] = some ⟨bl true, [], [none, none]⟩ := by
  (refine fnI [ResultVar.tmp 4] Tryz.func151 ?_; conv => whnf)
  repeat' ((with_reducible (first | refine st17 ?_|refine fG.split (fun _ => ?_) (fun _ => ?_)|refine fG.bool (fun _ => ?_) (fun _ => ?_)|refine gDn 6 ?_)) <;> (try (conv => whnf)))
  refine loop_rule (ι := Nat) (fun j => [(0, (.h 1000000 0 0 [] 1 0 l.length)), (1, (.h 1000001 0 0 [] 1 0 l.length)), (5, i64 (j : Nat))])
    (fun x => [(1000000, ⟨0, 0, false, (.tree 0 (.sl 1 (l.map rIntL)))⟩), (1000001, ⟨0, 0, false, (.tree 0 (.sl 1 (l.map rIntL)))⟩)])
    (fun j => l.length - j) (fun j => j ≤ l.length) 0 fitOk (Nat.zero_le _) (by simp [C]; omega) ?_
  rintro j sl ob hj
  (try dsimp only [cond_true, cond_false])
  (conv => whnf)
  by_cases hjl : j < l.length
  · have hxj := hx j hjl
    have hq := fun k => ok_laws_eqIntS k (rd l j) hxj
    repeat' ((with_reducible (first | refine sCall.of (hq _) ?_|refine st17 ?_|refine fG.split (fun _ => ?_) (fun _ => ?_)|refine fG.bool (fun _ => ?_) (fun _ => ?_)|refine gDn 6 ?_)) <;> (try (conv => whnf)))
    refine ⟨⟨j + 1, fitOk, ?_, ?_⟩⟩
    · show j + 1 ≤ _; omega
    · show l.length - (j + 1) < l.length - j; omega
  · repeat' ((with_reducible (first | refine st17 ?_|refine fG.split (fun _ => ?_) (fun _ => ?_)|refine fG.bool (fun _ => ?_) (fun _ => ?_)|refine gDn 6 ?_)) <;> (try (conv => whnf)))
structure ShotB (B : Nat) (cut : List Int) (opn : List Bool) (kept : List (List Int)) : Prop where
  c : cut.length ≤ B
  o : opn.length ≤ B
  k : kept.length ≤ B
  kk : ∀ j : Nat, j < kept.length → (rd kept j).length ≤ B
def shotSz (cut : List Int) (opn : List Bool) (kept : List (List Int)) : Nat := cut.length + (opn.length + (kept.length + wts List.length kept))
theorem shotB_of {B : Nat} {cut : List Int} {opn : List Bool} {kept : List (List Int)} (h : shotSz cut opn kept ≤ B) : ShotB B cut opn kept := by
  unfold shotSz at h
  refine ⟨by omega, by omega, by omega, fun j hj => ?_⟩
  have := wts_one List.length kept j hj
  omega
theorem ShotB.mono {B B' : Nat} {cut : List Int} {opn : List Bool} {kept : List (List Int)} (h : ShotB B cut opn kept) (hb : B ≤ B') : ShotB B' cut opn kept :=
  ⟨by have := h.c; omega, by have := h.o; omega, by have := h.k; omega, fun j hj => by have := h.kk j hj; omega⟩
theorem left_add {m : Int} {a b : Nat} (h : ¬ left m a < 0) : left (left m a) b = left m ((a + b : Nat)) := by
  obtain ⟨h1, h2⟩ := left_pos h
  rw [h1]
  unfold left
  by_cases c : m - a - (b : Int) < 0
  · rw [if_pos c, if_pos (by omega)]
  · rw [if_neg c, if_neg (by omega)]; omega
theorem left_any {m : Int} {a b : Nat} (h : left m a < 0) (h0 : 0 ≤ m) : left m ((a + b : Nat)) = -1 := by
  unfold left at h ⊢
  split at h <;> rw [if_pos (by omega)]
theorem ok_laws_szShot (k : Nat) (on : Bool) (cut : List Int) (opn : List Bool) (kept : List (List Int)) (m : Int) (h0 : 0 ≤ m) (h1 : m ≤ 1048576) (hb : ShotB 140737488355328 cut opn kept) :
    callE PR C (k + 3) 61 [aShot 0 on cut opn kept, i64 m] [tI cut, tBool opn, tIntSS kept] = some ⟨i64 (left m (shotSz cut opn kept)), [], [none, none, none]⟩ := by
  have q1 := fun k => ok_laws_szIntS k cut m h0 h1 hb.c
  unfold shotSz
  generalize hk : kept.length + wts List.length kept = kk
  by_cases c1 : left m cut.length < 0
  · rw [left_any c1 h0]
    rw [left_m1 c1] at q1
    (refine fnI [ResultVar.tmp 4] Tryz.func61 ?_; conv => whnf)
    repeat' ((with_reducible (first | refine sCall.of (q1 _) ?_|refine st17 ?_|refine fG.split (fun _ => ?_) (fun _ => ?_)|refine fG.bool (fun _ => ?_) (fun _ => ?_))) <;> (try (conv => whnf)))
  · obtain ⟨d1, d2⟩ := left_pos c1
    rw [← left_add c1]
    have q2 := fun k => ok_laws_szBoolS k opn (left m cut.length) (by omega) (by omega) hb.o
    by_cases c2 : left (left m cut.length) opn.length < 0
    · rw [left_any c2 (by omega)]
      rw [left_m1 c2] at q2
      (refine fnI [ResultVar.tmp 4] Tryz.func61 ?_; conv => whnf)
      repeat' ((with_reducible (first | refine sCall.of (q1 _) ?_|refine sCall.of (q2 _) ?_|refine st17 ?_|refine fG.split (fun _ => ?_) (fun _ => ?_)|refine fG.bool (fun _ => ?_) (fun _ => ?_))) <;> (try (conv => whnf)))
    · obtain ⟨d3, d4⟩ := left_pos c2
      rw [← left_add c2]
      have q3 := fun k => ok_laws_szIntSS k kept (left (left m cut.length) opn.length) (by omega) (by omega) hb.k hb.kk
      rw [hk] at q3
      by_cases c3 : left (left (left m cut.length) opn.length) kk < 0
      · rw [left_m1 c3] at q3 ⊢
        (refine fnI [ResultVar.tmp 4] Tryz.func61 ?_; conv => whnf)
        repeat' ((with_reducible (first | refine sCall.of (q1 _) ?_|refine sCall.of (q2 _) ?_|refine sCall.of (q3 _) ?_|refine st17 ?_|refine fG.split (fun _ => ?_) (fun _ => ?_)|refine fG.bool (fun _ => ?_) (fun _ => ?_))) <;> (try (conv => whnf)))
      · obtain ⟨d5, d6⟩ := left_pos c3
        (refine fnI [ResultVar.tmp 4] Tryz.func61 ?_; conv => whnf)
        repeat' ((with_reducible (first | refine sCall.of (q1 _) ?_|refine sCall.of (q2 _) ?_|refine sCall.of (q3 _) ?_|refine st17 ?_|refine fG.split (fun _ => ?_) (fun _ => ?_)|refine fG.bool (fun _ => ?_) (fun _ => ?_))) <;> (try (conv => whnf)))
theorem ok_laws_szLive (k : Nat) (P : List (List Ins)) (S : List State) (W : List (List Item)) (H : List (List Event)) (on : Bool) (cut : List Int) (opn : List Bool) (kept : List (List Int)) (m : Int) (h0 : 0 ≤ m) (h1 : m ≤ 1048576) (hb : SysB 140737488355328 P S W H) (hs : ShotB 140737488355328 cut opn kept) :
    callE PR C (k + 5) 15 [aLive 0 P S W H on cut opn kept, i64 m] [tInsSS P, tStateS S, tItemSS W, tEventSS H, tI cut, tBool opn, tIntSS kept] = some ⟨i64 (left m ((sysSz P S W H + shotSz cut opn kept : Nat))), [], [none, none, none, none, none, none, none]⟩ := by
  have q1 := fun k => ok_laws_szSys k P S W H m h0 h1 hb
  by_cases c1 : left m (sysSz P S W H) < 0
  · rw [left_any c1 h0]
    rw [left_m1 c1] at q1
    (refine fnI [ResultVar.tmp 4] Tryz.func15 ?_; conv => whnf)
    repeat' ((with_reducible (first | refine sCall.of (q1 _) ?_|refine st17 ?_|refine fG.split (fun _ => ?_) (fun _ => ?_)|refine fG.bool (fun _ => ?_) (fun _ => ?_))) <;> (try (conv => whnf)))
  · obtain ⟨d1, d2⟩ := left_pos c1
    rw [← left_add c1]
    have q2 := fun k => ok_laws_szShot k on cut opn kept (left m (sysSz P S W H)) (by omega) (by omega) hs
    by_cases c2 : left (left m (sysSz P S W H)) (shotSz cut opn kept) < 0
    · rw [left_m1 c2] at q2 ⊢
      (refine fnI [ResultVar.tmp 4] Tryz.func15 ?_; conv => whnf)
      repeat' ((with_reducible (first | refine sCall.of (q1 _) ?_|refine sCall.of (q2 _) ?_|refine st17 ?_|refine fG.split (fun _ => ?_) (fun _ => ?_)|refine fG.bool (fun _ => ?_) (fun _ => ?_))) <;> (try (conv => whnf)))
    · obtain ⟨d3, d4⟩ := left_pos c2
      (refine fnI [ResultVar.tmp 4] Tryz.func15 ?_; conv => whnf)
      repeat' ((with_reducible (first | refine sCall.of (q1 _) ?_|refine sCall.of (q2 _) ?_|refine st17 ?_|refine fG.split (fun _ => ?_) (fun _ => ?_)|refine fG.bool (fun _ => ?_) (fun _ => ?_))) <;> (try (conv => whnf)))
set_option maxRecDepth 10000 in
theorem ok_laws_toShot (k : Nat) (on : Bool) (cut : List Int) (opn : List Bool) (kept : List (List Int)) (hb : ShotB 100000000000 cut opn kept) :
    callE PR C (k + 3) 65 [aShot 0 on cut opn kept] [tI cut, tBool opn, tIntSS kept] = some ⟨nShot 0 on cut opn kept, [tI9 cut, tBool9 opn, tIntSS9 kept], [none, none, none]⟩ := by
  have q1 := fun k => ok_laws_toIntS k cut hb.c
  have q2 := fun k => ok_laws_toBoolS k opn hb.o
  have q3 := fun k => ok_laws_toIntSS k kept hb.k hb.kk
  (refine fnI [ResultVar.cell 2 43] Tryz.func65 ?_; conv => whnf)
  repeat' ((with_reducible (first | refine sCall.of (q1 _) ?_|refine sCall.of (q2 _) ?_|refine sCall.of (q3 _) ?_|refine st17 ?_|refine fG.split (fun _ => ?_) (fun _ => ?_)|refine fG.bool (fun _ => ?_) (fun _ => ?_))) <;> (try (conv => whnf)))
set_option maxRecDepth 10000 in
theorem ok_laws_eqShot (k : Nat) (on : Bool) (cut : List Int) (opn : List Bool) (kept : List (List Int)) (hb : ShotB 100000000000 cut opn kept) :
    callE PR C (k + 3) 69 [aShot 0 on cut opn kept, aShot 3 on cut opn kept] [tI cut, tBool opn, tIntSS kept, tI cut, tBool opn, tIntSS kept] = some ⟨bl true, [], [none, none, none, none, none, none]⟩ := by
  have q1 := fun k => ok_laws_eqIntS k cut hb.c
  have q2 := fun k => ok_laws_eqBoolS k opn hb.o
  have q3 := fun k => ok_laws_eqIntSS k kept hb.k hb.kk
  cases on
  all_goals
    (refine fnI [ResultVar.tmp 4] Tryz.func69 ?_; conv => whnf)
    repeat' ((with_reducible (first | refine sCall.of (q1 _) ?_|refine sCall.of (q2 _) ?_|refine sCall.of (q3 _) ?_|refine st17 ?_|refine fG.split (fun _ => ?_) (fun _ => ?_)|refine fG.bool (fun _ => ?_) (fun _ => ?_))) <;> (try (conv => whnf)))
set_option maxRecDepth 20000 in
theorem ok_laws_toLive (k : Nat) (P : List (List Ins)) (S : List State) (W : List (List Item)) (H : List (List Event)) (on : Bool) (cut : List Int) (opn : List Bool) (kept : List (List Int)) (hb : SysB 100000000000 P S W H) (hs : ShotB 100000000000 cut opn kept) :
    callE PR C (k + 5) 17 [aLive 0 P S W H on cut opn kept] [tInsSS P, tStateS S, tItemSS W, tEventSS H, tI cut, tBool opn, tIntSS kept] = some ⟨nLive 0 P S W H on cut opn kept, [tInsSS9 P, tStateS9 S, tItemSS9 W, tEventSS9 H, tI9 cut, tBool9 opn, tIntSS9 kept], [none, none, none, none, none, none, none]⟩ := by
  have q1 := fun k => ok_laws_toSys k P S W H hb
  have q2 := fun k => ok_laws_toShot k on cut opn kept hs
  (refine fnI [ResultVar.cell 2 45] Tryz.func17 ?_; conv => whnf)
  repeat' ((with_reducible (first | refine sCall.of (q1 _) ?_|refine sCall.of (q2 _) ?_|refine st17 ?_|refine fG.split (fun _ => ?_) (fun _ => ?_)|refine fG.bool (fun _ => ?_) (fun _ => ?_))) <;> (try (conv => whnf)))
set_option maxRecDepth 20000 in
theorem ok_laws_eqLive (k : Nat) (P : List (List Ins)) (S : List State) (W : List (List Item)) (H : List (List Event)) (on : Bool) (cut : List Int) (opn : List Bool) (kept : List (List Int)) (hb : SysB 100000000000 P S W H) (hs : ShotB 100000000000 cut opn kept) :
    callE PR C (k + 5) 19 [aLive 0 P S W H on cut opn kept, aLive 7 P S W H on cut opn kept] [tInsSS P, tStateS S, tItemSS W, tEventSS H, tI cut, tBool opn, tIntSS kept, tInsSS P, tStateS S, tItemSS W, tEventSS H, tI cut, tBool opn, tIntSS kept] = some ⟨bl true, [], [none, none, none, none, none, none, none, none, none, none, none, none, none, none]⟩ := by
  have q1 := fun k => ok_laws_eqSys k P S W H hb
  have q2 := fun k => ok_laws_eqShot k on cut opn kept hs
  (refine fnI [ResultVar.tmp 4] Tryz.func19 ?_; conv => whnf)
  repeat' ((with_reducible (first | refine sCall.of (q1 _) ?_|refine sCall.of (q2 _) ?_|refine st17 ?_|refine fG.split (fun _ => ?_) (fun _ => ?_)|refine fG.bool (fun _ => ?_) (fun _ => ?_))) <;> (try (conv => whnf)))

def markedB (w : List Item) : Bool := w.any (·.mark)
def marksB (W : List (List Item)) : Bool := W.any markedB
theorem ok_impl_marked11 (k : Nat) (x : Item) : callE PR C (k + 1) 149 [.ag [bl x.mark, i64 x.v]] [] = some ⟨bl x.mark, [], []⟩ := by
  (refine fnI [ResultVar.tmp 2] Tryz.func149 ?_; conv => whnf)
  repeat' ((with_reducible (first | refine st17 ?_|refine fG.split (fun _ => ?_) (fun _ => ?_)|refine fG.bool (fun _ => ?_) (fun _ => ?_))) <;> (try (conv => whnf)))
theorem ok_IndexFunc_Mark (k : Nat) (w : List Item) (hw : w.length ≤ 100000000000) :
    callE PR C (k + 2) 217 [.h 1000000 0 0 [] 2 0 w.length, .fn 149 []] [tItem w] = some ⟨i64 (idxP (·.mark) w), [], [none]⟩ := by
  (refine fnI [ResultVar.tmp 4] Tryz.func217 ?_; conv => whnf)
  refine loop_rule (ι := Nat) (fun i => [(0, .h 1000000 0 0 [] 2 0 w.length), (1, .fn 149 []), (7, i64 w.length), (8, i64 (i : Nat))]) (fun i => [(1000000, ⟨0, 0, false, tItem w⟩)])
    (fun i => w.length - i) (fun i => i ≤ w.length ∧ w.findIdx? (·.mark) = ((w.drop i).findIdx? (·.mark)).map (· + i)) 0 fitOk (by simp) (by simp [C]; omega) ?_
  rintro i sl ob ⟨hi, hall⟩
  (conv => whnf)
  repeat' ((with_reducible (first | refine sCall.of (ok_impl_marked11 _ _) ?_|refine st17 ?_|refine fG.split (fun _ => ?_) (fun _ => ?_)|refine fG.bool (fun _ => ?_) (fun _ => ?_))) <;> (try (conv => whnf)))
  case refine_1.refine_2 h hx =>
    refine ⟨⟨i + 1, fitOk, ?_, ?_⟩⟩
    · exact ⟨by show i + 1 ≤ _; omega, findIdx_step (by omega) hall hx⟩
    · show w.length - (i + 1) < w.length - i; omega
  case refine_1.refine_1 h hx => rw [findIdx_here (by omega) hall hx]
  case refine_2 h => rw [findIdx_none (by omega) hall]
theorem ok_ContainsFunc_Mark (k : Nat) (w : List Item) (hw : w.length ≤ 100000000000) :
    callE PR C (k + 3) 148 [.h 1000000 0 0 [] 2 0 w.length, .fn 149 []] [tItem w] = some ⟨bl (markedB w), [], [none]⟩ := by
  unfold markedB
  rw [← idxP_any]
  (refine fnI [ResultVar.tmp 4] Tryz.func148 ?_; conv => whnf)
  repeat' ((with_reducible (first | refine sCall.of (ok_IndexFunc_Mark _ _ hw) ?_|refine st17 ?_|refine fG.split (fun _ => ?_) (fun _ => ?_)|refine fG.bool (fun _ => ?_) (fun _ => ?_))) <;> (try (conv => whnf)))
theorem ok_impl_marked1 (k : Nat) (w : List Item) (hw : w.length ≤ 100000000000) : callE PR C (k + 4) 147 [.h 1000000 0 0 [] 2 0 w.length] [tItem w] = some ⟨bl (markedB w), [], [none]⟩ := by
  (refine fnI [ResultVar.tmp 2] Tryz.func147 ?_; conv => whnf)
  repeat' ((with_reducible (first | refine sCall.of (ok_ContainsFunc_Mark _ _ hw) ?_|refine st17 ?_|refine fG.split (fun _ => ?_) (fun _ => ?_)|refine fG.bool (fun _ => ?_) (fun _ => ?_))) <;> (try (conv => whnf)))
theorem ok_IndexFunc_Marks (k : Nat) (W : List (List Item)) (hW : W.length ≤ 100000000000) (hx : ∀ j : Nat, j < W.length → (rd W j).length ≤ 100000000000) :
    callE PR C (k + 5) 207 [.h 1000000 0 0 [] 1 0 W.length, .fn 147 []] [tItemSS W] = some ⟨i64 (idxP markedB W), [], [none]⟩ := by
  (refine fnI [ResultVar.tmp 4] Tryz.func207 ?_; conv => whnf)
  refine loop_rule (ι := Nat) (fun i => [(0, .h 1000000 0 0 [] 1 0 W.length), (1, .fn 147 []), (7, i64 W.length), (8, i64 (i : Nat))]) (fun i => [(1000000, ⟨0, 0, false, tItemSS W⟩)])
    (fun i => W.length - i) (fun i => i ≤ W.length ∧ W.findIdx? markedB = ((W.drop i).findIdx? markedB).map (· + i)) 0 fitOk (by simp) (by simp [C]; omega) ?_
  rintro i sl ob ⟨hi, hall⟩
  (conv => whnf)
  by_cases hil : i < W.length
  · have hxi := hx i hil
    have q1 := fun k => ok_impl_marked1 k (rd W i) hxi
    cases e : markedB (rd W i)
    all_goals simp only [e] at q1
    · repeat' ((with_reducible (first | refine sCall.of (q1 _) ?_|refine st17 ?_|refine fG.split (fun _ => ?_) (fun _ => ?_)|refine fG.bool (fun _ => ?_) (fun _ => ?_))) <;> (try (conv => whnf)))
      all_goals first
        | (exfalso; simp_all; done)
        | (refine ⟨⟨i + 1, fitOk, ?_, ?_⟩⟩
           · exact ⟨by show i + 1 ≤ _; omega, findIdx_step (by omega) hall e⟩
           · show W.length - (i + 1) < W.length - i; omega)
    · rw [findIdx_here (by omega) hall e]
      repeat' ((with_reducible (first | refine sCall.of (q1 _) ?_|refine st17 ?_|refine fG.split (fun _ => ?_) (fun _ => ?_)|refine fG.bool (fun _ => ?_) (fun _ => ?_))) <;> (try (conv => whnf)))
  · rw [findIdx_none (by omega) hall]
    repeat' ((with_reducible (first | refine st17 ?_|refine fG.split (fun _ => ?_) (fun _ => ?_)|refine fG.bool (fun _ => ?_) (fun _ => ?_))) <;> (try (conv => whnf)))
theorem ok_ContainsFunc_Marks (k : Nat) (W : List (List Item)) (hW : W.length ≤ 100000000000) (hx : ∀ j : Nat, j < W.length → (rd W j).length ≤ 100000000000) :
    callE PR C (k + 6) 140 [.h 1000000 0 0 [] 1 0 W.length, .fn 147 []] [tItemSS W] = some ⟨bl (marksB W), [], [none]⟩ := by
  unfold marksB
  rw [← idxP_any]
  (refine fnI [ResultVar.tmp 4] Tryz.func140 ?_; conv => whnf)
  repeat' ((with_reducible (first | refine sCall.of (ok_IndexFunc_Marks _ _ hW hx) ?_|refine st17 ?_|refine fG.split (fun _ => ?_) (fun _ => ?_)|refine fG.bool (fun _ => ?_) (fun _ => ?_))) <;> (try (conv => whnf)))
theorem ok_impl_marked (k : Nat) (P : List (List Ins)) (S : List State) (W : List (List Item)) (H : List (List Event)) (hb : SysB 10000000000 P S W H) :
    callE PR C (k + 7) 68 [aSys 0 P S W H] [tInsSS P, tStateS S, tItemSS W, tEventSS H] = some ⟨bl (marksB W), [], [none, none, none, none]⟩ := by
  have hw := hb.w
  have hx := hb.ww
  (refine fnI [ResultVar.tmp 2] Tryz.func68 ?_; conv => whnf)
  have q1 := fun k => ok_ContainsFunc_Marks k W (by omega) (fun j hj => by have := hx j hj; omega)
  repeat' ((with_reducible (first | refine sCall.of (q1 _) ?_|refine st17 ?_|refine fG.split (fun _ => ?_) (fun _ => ?_)|refine fG.bool (fun _ => ?_) (fun _ => ?_))) <;> (try (conv => whnf)))
theorem any_no {α : Type} [Inhabited α] {f : α → Bool} {l : List α} (h : ∀ i, i < l.length → f (rd l i) = false) : l.any f = false := by
  rw [List.any_eq_false]
  intro x hx
  obtain ⟨i, hi, rfl⟩ := List.mem_iff_getElem.1 hx
  have := h i hi
  rw [rd_at hi] at this
  simp [this]
theorem any_yes {α : Type} [Inhabited α] {f : α → Bool} {l : List α} {i : Nat} (h : i < l.length) (e : f (rd l i) = true) : l.any f = true := by
  rw [List.any_eq_true]
  exact ⟨_, rd_mem h, e⟩
theorem ok_spec_l11Marks (k : Nat) (P : List (List Ins)) (S : List State) (W : List (List Item)) (H : List (List Event)) (hb : SysB 10000000000 P S W H) :
    callE PR C (k + 1) 64 [aSys 0 P S W H] [tInsSS P, tStateS S, tItemSS W, tEventSS H] = some ⟨bl (marksB W), [], [none, none, none, none]⟩ := by
  have hw := hb.w
  have hx := hb.ww
  (refine fnI [ResultVar.tmp 2] Tryz.func64 ?_; conv => whnf)
  repeat' ((with_reducible (first | refine st17 ?_|refine fG.split (fun _ => ?_) (fun _ => ?_)|refine fG.bool (fun _ => ?_) (fun _ => ?_))) <;> (try (conv => whnf)))
  refine loop_rule (ι := Nat) (fun j => [(1, .pt 1 1 0 [] 0 0), (3, i64 (j : Nat))])
    (fun _ => [(1000000, ⟨0, 0, false, tInsSS P⟩), (1000001, ⟨0, 0, false, tStateS S⟩), (1000002, ⟨0, 0, false, tItemSS W⟩), (1000003, ⟨0, 0, false, tEventSS H⟩), (1, ⟨1, 0, false, bSys P S W H⟩)])
    (fun j => W.length - j) (fun j => j ≤ W.length ∧ ∀ q, q < j → markedB (rd W q) = false) 0 fitOk ⟨Nat.zero_le _, fun q h => absurd h (Nat.not_lt_zero q)⟩ (by simp [C]; omega) ?_
  rintro j sl ob ⟨hj, hno⟩
  (try dsimp only [cond_true, cond_false])
  (conv => whnf)
  by_cases hjl : j < W.length
  · have hxj := hx j hjl
    have e4 : (List.map rItem (rd W j)).length = (rd W j).length := by simp
    repeat' ((with_reducible (first | refine st17 ?_|refine fG.split (fun _ => ?_) (fun _ => ?_)|refine fG.bool (fun _ => ?_) (fun _ => ?_))) <;> (try (conv => whnf)))
    refine loop_rule (ι := Nat) (fun i => [(1, .pt 1 1 0 [] 0 0), (3, i64 (j : Nat)), (4, i64 (i : Nat))])
      (fun _ => [(1000000, ⟨0, 0, false, tInsSS P⟩), (1000001, ⟨0, 0, false, tStateS S⟩), (1000002, ⟨0, 0, false, tItemSS W⟩), (1000003, ⟨0, 0, false, tEventSS H⟩), (1, ⟨1, 0, false, bSys P S W H⟩)])
      (fun i => (rd W j).length - i) (fun i => i ≤ (rd W j).length ∧ ∀ q, q < i → (rd (rd W j) q).mark = false) 0 fitOk ⟨Nat.zero_le _, fun q h => absurd h (Nat.not_lt_zero q)⟩ (by simp [C]; omega) ?_
    clear sl ob
    rintro i sl ob ⟨hi, hni⟩
    (try dsimp only [cond_true, cond_false])
    (conv => whnf)
    by_cases hil : i < (rd W j).length
    · cases e : (rd (rd W j) i).mark
      · repeat' ((with_reducible (first | refine st17 ?_|refine fG.split (fun _ => ?_) (fun _ => ?_)|refine fG.bool (fun _ => ?_) (fun _ => ?_))) <;> (try (conv => whnf)))
        all_goals first
          | (exfalso; simp_all; done)
          | (refine ⟨⟨i + 1, fitOk, ?_, ?_⟩⟩
             · exact ⟨by show i + 1 ≤ _; omega, fun q hq => by rcases Nat.lt_succ_iff_lt_or_eq.1 hq with h | h; exact hni q h; rw [h]; exact e⟩
             · show (rd W j).length - (i + 1) < (rd W j).length - i; omega)
      · rw [show marksB W = true from any_yes hjl (by unfold markedB; exact any_yes hil e)]
        repeat' ((with_reducible (first | refine st17 ?_|refine fG.split (fun _ => ?_) (fun _ => ?_)|refine fG.bool (fun _ => ?_) (fun _ => ?_))) <;> (try (conv => whnf)))
        all_goals (exfalso; simp_all; done)
    · repeat' ((with_reducible (first | refine st17 ?_|refine fG.split (fun _ => ?_) (fun _ => ?_)|refine fG.bool (fun _ => ?_) (fun _ => ?_))) <;> (try (conv => whnf)))
      refine ⟨⟨j + 1, fitOk, ?_, ?_⟩⟩
      · exact ⟨by show j + 1 ≤ _; omega, fun q hq => by rcases Nat.lt_succ_iff_lt_or_eq.1 hq with h | h; exact hno q h; rw [h]; exact any_no fun i hi => hni i (by omega)⟩
      · show W.length - (j + 1) < W.length - j; omega
  · rw [show marksB W = false from any_no fun q hq => hno q (by omega)]
    repeat' ((with_reducible (first | refine st17 ?_|refine fG.split (fun _ => ?_) (fun _ => ?_)|refine fG.bool (fun _ => ?_) (fun _ => ?_))) <;> (try (conv => whnf)))

end Go.Proofs.YtlobpiebphnkiaaGreat.Abs
namespace Go.Proofs.YtlobpiebphnkiaaGreat.Abs
open Go Go.Proofs
set_option linter.unusedVariables false
set_option linter.unusedSimpArgs false
attribute [local irreducible] callE
def cutOk (H : List (List Event)) (cut : List Int) (opn : List Bool) (kept : List (List Int)) (n p : Nat) : Bool :=
  inB (rd cut p) (-1) (rd H p).length && (decide (0 ≤ rd cut p) || allBelow n fun a => !(rd opn (a * n + p)) && decide ((rd kept (a * n + p)).length = 0))
def shotLens (n : Nat) (cut : List Int) (opn : List Bool) (kept : List (List Int)) : Bool := decide (cut.length = n) && (decide (opn.length = n * n) && decide (kept.length = n * n))
def drawnB (cut : List Int) : Bool := cut.any fun c => decide (0 ≤ c)
def liveOk (P : List (List Ins)) (S : List State) (W : List (List Item)) (H : List (List Event)) (on : Bool) (cut : List Int) (opn : List Bool) (kept : List (List Int)) : Bool :=
  sysOk P S W H && (shotLens P.length cut opn kept && (allBelow P.length (cutOk H cut opn kept P.length) && (decide (on = drawnB cut) && (on || !marksB W))))
theorem liveOk_lens {P : List (List Ins)} {S : List State} {W : List (List Item)} {H : List (List Event)} {on : Bool} {cut : List Int} {opn : List Bool} {kept : List (List Int)} (h : shotLens P.length cut opn kept = false) : liveOk P S W H on cut opn kept = false := by simp [liveOk, h]
theorem liveOk_cut {P : List (List Ins)} {S : List State} {W : List (List Item)} {H : List (List Event)} {on : Bool} {cut : List Int} {opn : List Bool} {kept : List (List Int)} {p : Nat} (hp : p < P.length) (h : cutOk H cut opn kept P.length p = false) : liveOk P S W H on cut opn kept = false := by simp [liveOk, allBelow_no hp h]
theorem drawn_take {cut : List Int} {j : Nat} (h : j < cut.length) : drawnB (cut.take (j + 1)) = (drawnB (cut.take j) || decide (0 ≤ rd cut j)) := by
  rw [show cut.take (j + 1) = cut.take j ++ [rd cut j] by rw [List.take_add_one]; simp [rd, h]]
  simp [drawnB]
abbrev bLive (P : List (List Ins)) (S : List State) (W : List (List Item)) (H : List (List Event)) (on : Bool) (cut : List Int) (opn : List Bool) (kept : List (List Int)) : Cont :=
  .box [.h 1000000 0 0 [] 1 0 P.length, .h 1000001 0 0 [] 4 0 S.length, .h 1000002 0 0 [] 1 0 W.length, .h 1000003 0 0 [] 1 0 H.length, bl on, .h 1000004 0 0 [] 1 0 cut.length, .h 1000005 0 0 [] 1 0 opn.length, .h 1000006 0 0 [] 1 0 kept.length]
structure LV where
  j : Nat
  s : Bool
set_option maxHeartbeats 8000000 in
set_option maxRecDepth 10000 in
theorem ok_impl_LiveOk (k : Nat) (P : List (List Ins)) (S : List State) (W : List (List Item)) (H : List (List Event)) (on : Bool) (cut : List Int) (opn : List Bool) (kept : List (List Int)) (hb : SysB 10000000000 P S W H) (hs : ShotB 10000000000 cut opn kept) :
    callE PR C (k + 12) 18 [aLive 0 P S W H on cut opn kept] [tInsSS P, tStateS S, tItemSS W, tEventSS H, tI cut, tBool opn, tIntSS kept] = some ⟨bl (liveOk P S W H on cut opn kept), [], [none, none, none, none, none, none, none]⟩ := by
  have b1 := hb.p
  have s1 := hs.c
  have s2 := hs.o
  have s3 := hs.k
  have q1 := fun k => ok_impl_SysOk k P S W H hb
  cases e : sysOk P S W H with
  | false =>
    simp only [e] at q1
    rw [show liveOk P S W H on cut opn kept = false by simp [liveOk, e]]
    (refine fnI [ResultVar.tmp 2] Tryz.func18 ?_; conv => whnf)
    repeat' ((with_reducible (first | refine sCall.of (q1 _) ?_|refine st17 ?_|refine fG.split (fun _ => ?_) (fun _ => ?_)|refine fG.bool (fun _ => ?_) (fun _ => ?_))) <;> (try (conv => whnf)))
  | true =>
    simp only [e] at q1
    obtain ⟨hI, hP, hS, h200⟩ := sysOk_facts e
    have hN := hI.n
    have hHl := hI.h
    have hnn : P.length * P.length ≤ 4 * 4 := Nat.mul_le_mul (by omega) (by omega)
    have w1 : IntKind.i64.wrap ((P.length : Int) * (P.length : Int)) = ((P.length * P.length : Nat) : Int) := by
      rw [show (P.length : Int) * (P.length : Int) = ((P.length * P.length : Nat) : Int) by simp]; exact wrap_i64 _ (by omega) (by omega)
    by_cases d1 : cut.length = P.length
    · by_cases d2 : opn.length = P.length * P.length
      · by_cases d3 : kept.length = P.length * P.length
        · have hL : shotLens P.length cut opn kept = true := by simp [shotLens, d1, d2, d3]
          (refine fnI [ResultVar.tmp 2] Tryz.func18 ?_; conv => whnf)
          repeat' ((with_reducible (first | refine sCall.of (q1 _) ?_|refine sW.eq (w1) ?_|refine st17 ?_|refine fG.split (fun _ => ?_) (fun _ => ?_)|refine fG.bool (fun _ => ?_) (fun _ => ?_))) <;> (try (conv => whnf)))
          refine loop_rule (ι := LV) (fun z => [(1, .pt 1 1 0 [] 0 0), (3, i64 P.length), (4, bl z.s), (46, .h 1000004 0 0 [] 1 0 cut.length), (47, i64 cut.length), (48, i64 (z.j : Nat))])
            (fun _ => [(1000000, ⟨0, 0, false, tInsSS P⟩), (1000001, ⟨0, 0, false, tStateS S⟩), (1000002, ⟨0, 0, false, tItemSS W⟩), (1000003, ⟨0, 0, false, tEventSS H⟩), (1000004, ⟨0, 0, false, tI cut⟩), (1000005, ⟨0, 0, false, tBool opn⟩), (1000006, ⟨0, 0, false, tIntSS kept⟩), (1, ⟨1, 0, false, bLive P S W H on cut opn kept⟩)])
            (fun z => cut.length - z.j) (fun z => z.j ≤ cut.length ∧ z.s = drawnB (cut.take z.j) ∧ ∀ q, q < z.j → cutOk H cut opn kept P.length q = true) ⟨0, false⟩ fitOk ⟨Nat.zero_le _, by simp [drawnB], fun q h => absurd h (Nat.not_lt_zero q)⟩ (by simp [C]; omega) ?_
          rintro ⟨p, s⟩ sl ob ⟨hj, hs', hpr⟩
          dsimp only at hj hs' hpr
          (try dsimp only [cond_true, cond_false])
          (conv => whnf)
          by_cases hpl : p < cut.length
          · have e4 : (List.map rEvent (rd H p)).length = (rd H p).length := by simp
            have h2 := h200 p (by omega)
            have q2 := fun k => ok_impl_in k (rd cut p) (-1) ((List.map rEvent (rd H p)).length : Int)
            have hdt := drawn_take hpl
            rw [← hs'] at hdt
            by_cases c1 : -1 ≤ rd cut p ∧ rd cut p ≤ ((List.map rEvent (rd H p)).length : Int)
            · rw [decide_eq_true c1] at q2
              rw [e4] at c1
              by_cases c2 : 0 ≤ rd cut p
              · have hc : cutOk H cut opn kept P.length p = true := by simp [cutOk, inB, c1, c2]
                have hpr2 : ∀ q, q < p + 1 → cutOk H cut opn kept P.length q = true := fun q hq => by rcases Nat.lt_succ_iff_lt_or_eq.1 hq with h | h; exact hpr q h; rw [h]; exact hc
                cases s
                all_goals
                  repeat' ((with_reducible (first | refine sCall.of (q2 _) ?_|refine st17 ?_|refine fG.split (fun _ => ?_) (fun _ => ?_)|refine fG.bool (fun _ => ?_) (fun _ => ?_))) <;> (try (conv => whnf)))
                  refine loop_rule (ι := Nat) (fun a => [(1, .pt 1 1 0 [] 0 0), (3, i64 P.length), (4, bl (drawnB (List.take (p + 1) cut))), (5, i64 (p : Nat)), (6, i64 (rd cut p)), (46, .h 1000004 0 0 [] 1 0 cut.length), (47, i64 cut.length), (48, i64 (p : Nat)), (68, i64 P.length), (69, i64 (a : Nat))])
                    (fun _ => [(1000000, ⟨0, 0, false, tInsSS P⟩), (1000001, ⟨0, 0, false, tStateS S⟩), (1000002, ⟨0, 0, false, tItemSS W⟩), (1000003, ⟨0, 0, false, tEventSS H⟩), (1000004, ⟨0, 0, false, tI cut⟩), (1000005, ⟨0, 0, false, tBool opn⟩), (1000006, ⟨0, 0, false, tIntSS kept⟩), (1, ⟨1, 0, false, bLive P S W H on cut opn kept⟩)])
                    (fun a => P.length - a) (fun a => a ≤ P.length) 0 (by rw [hdt]; exact fitOk) (Nat.zero_le _) (by simp [C]; omega) ?_
                  clear sl ob
                  rintro a sl ob ha
                  (try dsimp only [cond_true, cond_false])
                  (conv => whnf)
                  by_cases hal : a < P.length
                  · repeat' ((with_reducible (first | refine st17 ?_|refine fG.split (fun _ => ?_) (fun _ => ?_)|refine fG.bool (fun _ => ?_) (fun _ => ?_))) <;> (try (conv => whnf)))
                    refine ⟨⟨a + 1, fitOk, ?_, ?_⟩⟩
                    · show a + 1 ≤ _; omega
                    · show P.length - (a + 1) < P.length - a; omega
                  · repeat' ((with_reducible (first | refine st17 ?_|refine fG.split (fun _ => ?_) (fun _ => ?_)|refine fG.bool (fun _ => ?_) (fun _ => ?_))) <;> (try (conv => whnf)))
                    refine ⟨⟨⟨p + 1, drawnB (List.take (p + 1) cut)⟩, fitOk, ?_, ?_⟩⟩
                    · exact ⟨by show p + 1 ≤ _; omega, rfl, hpr2⟩
                    · show cut.length - (p + 1) < cut.length - p; omega
              · cases s
                all_goals
                  repeat' ((with_reducible (first | refine sCall.of (q2 _) ?_|refine st17 ?_|refine fG.split (fun _ => ?_) (fun _ => ?_)|refine fG.bool (fun _ => ?_) (fun _ => ?_))) <;> (try (conv => whnf)))
                  refine loop_rule (ι := Nat) (fun a => [(1, .pt 1 1 0 [] 0 0), (3, i64 P.length), (4, bl (drawnB (List.take (p + 1) cut))), (5, i64 (p : Nat)), (6, i64 (rd cut p)), (46, .h 1000004 0 0 [] 1 0 cut.length), (47, i64 cut.length), (48, i64 (p : Nat)), (68, i64 P.length), (69, i64 (a : Nat))])
                    (fun _ => [(1000000, ⟨0, 0, false, tInsSS P⟩), (1000001, ⟨0, 0, false, tStateS S⟩), (1000002, ⟨0, 0, false, tItemSS W⟩), (1000003, ⟨0, 0, false, tEventSS H⟩), (1000004, ⟨0, 0, false, tI cut⟩), (1000005, ⟨0, 0, false, tBool opn⟩), (1000006, ⟨0, 0, false, tIntSS kept⟩), (1, ⟨1, 0, false, bLive P S W H on cut opn kept⟩)])
                    (fun a => P.length - a) (fun a => a ≤ P.length ∧ ∀ b, b < a → (!(rd opn (b * P.length + p)) && decide ((rd kept (b * P.length + p)).length = 0)) = true) 0 (by rw [hdt]; exact fitOk) ⟨Nat.zero_le _, fun q h => absurd h (Nat.not_lt_zero q)⟩ (by simp [C]; omega) ?_
                  clear sl ob
                  rintro a sl ob ⟨ha, hbe⟩
                  (try dsimp only [cond_true, cond_false])
                  (conv => whnf)
                  by_cases hal : a < P.length
                  · have hpl4 := place_lt hal (show p < P.length by omega)
                    have w2 : IntKind.i64.wrap ((a : Int) * (P.length : Int)) = ((a * P.length : Nat) : Int) := by
                      rw [show (a : Int) * (P.length : Int) = ((a * P.length : Nat) : Int) by simp]; exact wrap_i64 _ (by omega) (by omega)
                    have w3 : IntKind.i64.wrap (((a * P.length : Nat) : Int) + (p : Int)) = ((a * P.length + p : Nat) : Int) := by rw [wrap_i64 _ (by omega) (by omega)]; simp
                    have hkk := hs.kk (a * P.length + p) (by omega)
                    have e5 : (List.map rI (rd kept (a * P.length + p))).length = (rd kept (a * P.length + p)).length := by simp
                    generalize hpp : a * P.length + p = pp at hpl4 w3 hkk e5
                    cases e6 : rd opn pp with
                    | true =>
                      rw [liveOk_cut (p := p) (by omega) (by simp only [cutOk, decide_eq_false c2, Bool.false_or, allBelow_no (f := fun a => !(rd opn (a * P.length + p)) && decide ((rd kept (a * P.length + p)).length = 0)) hal (by simp [hpp, e6]), Bool.and_false])]
                      repeat' ((with_reducible (first | refine sW.eq (w2) ?_|refine sW.eq (w3) ?_|refine st17 ?_|refine fG.split (fun _ => ?_) (fun _ => ?_)|refine fG.bool (fun _ => ?_) (fun _ => ?_))) <;> (try (conv => whnf)))
                    | false =>
                      by_cases c5 : (rd kept pp).length = 0
                      · repeat' ((with_reducible (first | refine sW.eq (w2) ?_|refine sW.eq (w3) ?_|refine st17 ?_|refine fG.split (fun _ => ?_) (fun _ => ?_)|refine fG.bool (fun _ => ?_) (fun _ => ?_))) <;> (try (conv => whnf)))
                        refine ⟨⟨a + 1, fitOk, ?_, ?_⟩⟩
                        · exact ⟨by show a + 1 ≤ _; omega, fun q hq => by rcases Nat.lt_succ_iff_lt_or_eq.1 hq with h | h; exact hbe q h; rw [h, hpp]; simp [e6, c5]⟩
                        · show P.length - (a + 1) < P.length - a; omega
                      · rw [liveOk_cut (p := p) (by omega) (by simp only [cutOk, decide_eq_false c2, Bool.false_or, allBelow_no (f := fun a => !(rd opn (a * P.length + p)) && decide ((rd kept (a * P.length + p)).length = 0)) hal (by simp [hpp, c5]), Bool.and_false])]
                        repeat' ((with_reducible (first | refine sW.eq (w2) ?_|refine sW.eq (w3) ?_|refine st17 ?_|refine fG.split (fun _ => ?_) (fun _ => ?_)|refine fG.bool (fun _ => ?_) (fun _ => ?_))) <;> (try (conv => whnf)))
                  · repeat' ((with_reducible (first | refine st17 ?_|refine fG.split (fun _ => ?_) (fun _ => ?_)|refine fG.bool (fun _ => ?_) (fun _ => ?_))) <;> (try (conv => whnf)))
                    refine ⟨⟨⟨p + 1, drawnB (List.take (p + 1) cut)⟩, fitOk, ?_, ?_⟩⟩
                    · refine ⟨by show p + 1 ≤ _; omega, rfl, fun q hq => ?_⟩
                      rcases Nat.lt_succ_iff_lt_or_eq.1 hq with h | h
                      · exact hpr q h
                      · rw [h]
                        simp only [cutOk, inB, decide_eq_true c1, decide_eq_false c2, Bool.false_or, Bool.true_and]
                        exact allBelow_yes fun b hb => hbe b (by omega)
                    · show cut.length - (p + 1) < cut.length - p; omega
            · rw [decide_eq_false c1] at q2
              rw [e4] at c1
              rw [liveOk_cut (p := p) (by omega) (by simp [cutOk, inB, c1])]
              repeat' ((with_reducible (first | refine sCall.of (q2 _) ?_|refine st17 ?_|refine fG.split (fun _ => ?_) (fun _ => ?_)|refine fG.bool (fun _ => ?_) (fun _ => ?_))) <;> (try (conv => whnf)))
          · have ePr := allBelow_yes (f := cutOk H cut opn kept P.length) (n := P.length) fun q hq => hpr q (by omega)
            rw [List.take_of_length_le (by omega)] at hs'
            have q3 := fun k => ok_impl_marked k P S W H hb
            rw [show liveOk P S W H on cut opn kept = (decide (on = s) && (on || !marksB W)) by simp only [liveOk, e, hL, ePr, hs', Bool.true_and]]
            cases on
            all_goals cases s
            all_goals cases em : marksB W
            all_goals
              simp only [em] at q3
              repeat' ((with_reducible (first | refine sCall.of (q3 _) ?_|refine st17 ?_|refine fG.split (fun _ => ?_) (fun _ => ?_)|refine fG.bool (fun _ => ?_) (fun _ => ?_))) <;> (try (conv => whnf)))
            all_goals rfl
        · rw [liveOk_lens (by simp [shotLens, d3])]
          (refine fnI [ResultVar.tmp 2] Tryz.func18 ?_; conv => whnf)
          repeat' ((with_reducible (first | refine sCall.of (q1 _) ?_|refine sW.eq (w1) ?_|refine st17 ?_|refine fG.split (fun _ => ?_) (fun _ => ?_)|refine fG.bool (fun _ => ?_) (fun _ => ?_))) <;> (try (conv => whnf)))
          all_goals first
            | rfl
            | (exfalso; omega)
      · rw [liveOk_lens (by simp [shotLens, d2])]
        (refine fnI [ResultVar.tmp 2] Tryz.func18 ?_; conv => whnf)
        repeat' ((with_reducible (first | refine sCall.of (q1 _) ?_|refine sW.eq (w1) ?_|refine st17 ?_|refine fG.split (fun _ => ?_) (fun _ => ?_)|refine fG.bool (fun _ => ?_) (fun _ => ?_))) <;> (try (conv => whnf)))
        all_goals first
          | rfl
          | (exfalso; omega)
    · rw [liveOk_lens (by simp [shotLens, d1])]
      (refine fnI [ResultVar.tmp 2] Tryz.func18 ?_; conv => whnf)
      repeat' ((with_reducible (first | refine sCall.of (q1 _) ?_|refine sW.eq (w1) ?_|refine st17 ?_|refine fG.split (fun _ => ?_) (fun _ => ?_)|refine fG.bool (fun _ => ?_) (fun _ => ?_))) <;> (try (conv => whnf)))
      all_goals first
        | rfl
        | (exfalso; omega)

set_option maxHeartbeats 8000000 in
set_option maxRecDepth 10000 in
theorem ok_spec_LiveOk (k : Nat) (P : List (List Ins)) (S : List State) (W : List (List Item)) (H : List (List Event)) (on : Bool) (cut : List Int) (opn : List Bool) (kept : List (List Int)) (hb : SysB 10000000000 P S W H) (hs : ShotB 10000000000 cut opn kept) :
    callE PR C (k + 8) 16 [aLive 0 P S W H on cut opn kept] [tInsSS P, tStateS S, tItemSS W, tEventSS H, tI cut, tBool opn, tIntSS kept] = some ⟨bl (liveOk P S W H on cut opn kept), [], [none, none, none, none, none, none, none]⟩ := by
  have b1 := hb.p
  have s1 := hs.c
  have s2 := hs.o
  have s3 := hs.k
  have q1 := fun k => ok_spec_SysOk k P S W H hb
  cases e : sysOk P S W H with
  | false =>
    simp only [e] at q1
    rw [show liveOk P S W H on cut opn kept = false by simp [liveOk, e]]
    (refine fnI [ResultVar.tmp 2] Tryz.func16 ?_; conv => whnf)
    repeat' ((with_reducible (first | refine sCall.of (q1 _) ?_|refine st17 ?_|refine fG.split (fun _ => ?_) (fun _ => ?_)|refine fG.bool (fun _ => ?_) (fun _ => ?_)|refine gDn 8 ?_)) <;> (try (conv => whnf)))
  | true =>
    simp only [e] at q1
    obtain ⟨hI, hP, hS, h200⟩ := sysOk_facts e
    have hN := hI.n
    have hHl := hI.h
    have hnn : P.length * P.length ≤ 4 * 4 := Nat.mul_le_mul (by omega) (by omega)
    have w1 : IntKind.i64.wrap ((P.length : Int) * (P.length : Int)) = ((P.length * P.length : Nat) : Int) := by
      rw [show (P.length : Int) * (P.length : Int) = ((P.length * P.length : Nat) : Int) by simp]; exact wrap_i64 _ (by omega) (by omega)
    by_cases d1 : cut.length = P.length
    · by_cases d2 : opn.length = P.length * P.length
      · by_cases d3 : kept.length = P.length * P.length
        · have hL : shotLens P.length cut opn kept = true := by simp [shotLens, d1, d2, d3]
          (refine fnI [ResultVar.tmp 2] Tryz.func16 ?_; conv => whnf)
          repeat' ((with_reducible (first | refine sCall.of (q1 _) ?_|refine sW.eq (w1) ?_|refine st17 ?_|refine fG.split (fun _ => ?_) (fun _ => ?_)|refine fG.bool (fun _ => ?_) (fun _ => ?_)|refine gDn 8 ?_)) <;> (try (conv => whnf)))
          refine loop_rule (ι := LV) (fun z => [(1, .pt 1 1 0 [] 0 0), (3, i64 P.length), (4, bl z.s), (5, i64 (z.j : Nat))])
            (fun _ => [(1000000, ⟨0, 0, false, tInsSS P⟩), (1000001, ⟨0, 0, false, tStateS S⟩), (1000002, ⟨0, 0, false, tItemSS W⟩), (1000003, ⟨0, 0, false, tEventSS H⟩), (1000004, ⟨0, 0, false, tI cut⟩), (1000005, ⟨0, 0, false, tBool opn⟩), (1000006, ⟨0, 0, false, tIntSS kept⟩), (1, ⟨1, 0, false, bLive P S W H on cut opn kept⟩)])
            (fun z => cut.length - z.j) (fun z => z.j ≤ cut.length ∧ z.s = drawnB (cut.take z.j) ∧ ∀ q, q < z.j → cutOk H cut opn kept P.length q = true) ⟨0, false⟩ fitOk ⟨Nat.zero_le _, by simp [drawnB], fun q h => absurd h (Nat.not_lt_zero q)⟩ (by simp [C]; omega) ?_
          rintro ⟨p, s⟩ sl ob ⟨hj, hs', hpr⟩
          dsimp only at hj hs' hpr
          (try dsimp only [cond_true, cond_false])
          (conv => whnf)
          by_cases hpl : p < cut.length
          · have e4 : (List.map rEvent (rd H p)).length = (rd H p).length := by simp
            have h2 := h200 p (by omega)
            have q2 := fun k => ok_spec_l1In k (rd cut p) (-1) ((List.map rEvent (rd H p)).length : Int)
            have hdt := drawn_take hpl
            rw [← hs'] at hdt
            by_cases c1 : -1 ≤ rd cut p ∧ rd cut p ≤ ((List.map rEvent (rd H p)).length : Int)
            · rw [decide_eq_true c1] at q2
              rw [e4] at c1
              by_cases c2 : 0 ≤ rd cut p
              · have hc : cutOk H cut opn kept P.length p = true := by simp [cutOk, inB, c1, c2]
                have hpr2 : ∀ q, q < p + 1 → cutOk H cut opn kept P.length q = true := fun q hq => by rcases Nat.lt_succ_iff_lt_or_eq.1 hq with h | h; exact hpr q h; rw [h]; exact hc
                cases s
                all_goals
                  repeat' ((with_reducible (first | refine sCall.of (q2 _) ?_|refine st17 ?_|refine fG.split (fun _ => ?_) (fun _ => ?_)|refine fG.bool (fun _ => ?_) (fun _ => ?_)|refine gDn 8 ?_)) <;> (try (conv => whnf)))
                  refine loop_rule (ι := Nat) (fun a => [(1, .pt 1 1 0 [] 0 0), (3, i64 P.length), (4, bl (drawnB (List.take (p + 1) cut))), (5, i64 (p : Nat)), (6, i64 (a : Nat))])
                    (fun _ => [(1000000, ⟨0, 0, false, tInsSS P⟩), (1000001, ⟨0, 0, false, tStateS S⟩), (1000002, ⟨0, 0, false, tItemSS W⟩), (1000003, ⟨0, 0, false, tEventSS H⟩), (1000004, ⟨0, 0, false, tI cut⟩), (1000005, ⟨0, 0, false, tBool opn⟩), (1000006, ⟨0, 0, false, tIntSS kept⟩), (1, ⟨1, 0, false, bLive P S W H on cut opn kept⟩)])
                    (fun a => P.length - a) (fun a => a ≤ P.length) 0 (by rw [hdt]; exact fitOk) (Nat.zero_le _) (by simp [C]; omega) ?_
                  clear sl ob
                  rintro a sl ob ha
                  (try dsimp only [cond_true, cond_false])
                  (conv => whnf)
                  by_cases hal : a < P.length
                  all_goals
                    repeat' ((with_reducible (first | refine st17 ?_|refine fG.split (fun _ => ?_) (fun _ => ?_)|refine fG.bool (fun _ => ?_) (fun _ => ?_)|refine gDn 8 ?_)) <;> (try (conv => whnf)))
                    refine ⟨⟨⟨p + 1, drawnB (List.take (p + 1) cut)⟩, fitOk, ?_, ?_⟩⟩
                    · exact ⟨by show p + 1 ≤ _; omega, rfl, hpr2⟩
                    · show cut.length - (p + 1) < cut.length - p; omega
              · cases s
                all_goals
                  repeat' ((with_reducible (first | refine sCall.of (q2 _) ?_|refine st17 ?_|refine fG.split (fun _ => ?_) (fun _ => ?_)|refine fG.bool (fun _ => ?_) (fun _ => ?_)|refine gDn 8 ?_)) <;> (try (conv => whnf)))
                  refine loop_rule (ι := Nat) (fun a => [(1, .pt 1 1 0 [] 0 0), (3, i64 P.length), (4, bl (drawnB (List.take (p + 1) cut))), (5, i64 (p : Nat)), (6, i64 (a : Nat))])
                    (fun _ => [(1000000, ⟨0, 0, false, tInsSS P⟩), (1000001, ⟨0, 0, false, tStateS S⟩), (1000002, ⟨0, 0, false, tItemSS W⟩), (1000003, ⟨0, 0, false, tEventSS H⟩), (1000004, ⟨0, 0, false, tI cut⟩), (1000005, ⟨0, 0, false, tBool opn⟩), (1000006, ⟨0, 0, false, tIntSS kept⟩), (1, ⟨1, 0, false, bLive P S W H on cut opn kept⟩)])
                    (fun a => P.length - a) (fun a => a ≤ P.length ∧ ∀ b, b < a → (!(rd opn (b * P.length + p)) && decide ((rd kept (b * P.length + p)).length = 0)) = true) 0 (by rw [hdt]; exact fitOk) ⟨Nat.zero_le _, fun q h => absurd h (Nat.not_lt_zero q)⟩ (by simp [C]; omega) ?_
                  clear sl ob
                  rintro a sl ob ⟨ha, hbe⟩
                  (try dsimp only [cond_true, cond_false])
                  (conv => whnf)
                  by_cases hal : a < P.length
                  · have hpl4 := place_lt hal (show p < P.length by omega)
                    have w2 : IntKind.i64.wrap ((a : Int) * (P.length : Int)) = ((a * P.length : Nat) : Int) := by
                      rw [show (a : Int) * (P.length : Int) = ((a * P.length : Nat) : Int) by simp]; exact wrap_i64 _ (by omega) (by omega)
                    have w3 : IntKind.i64.wrap (((a * P.length : Nat) : Int) + (p : Int)) = ((a * P.length + p : Nat) : Int) := by rw [wrap_i64 _ (by omega) (by omega)]; simp
                    have hkk := hs.kk (a * P.length + p) (by omega)
                    have e5 : (List.map rI (rd kept (a * P.length + p))).length = (rd kept (a * P.length + p)).length := by simp
                    generalize hpp : a * P.length + p = pp at hpl4 w3 hkk e5
                    cases e6 : rd opn pp with
                    | true =>
                      rw [liveOk_cut (p := p) (by omega) (by simp only [cutOk, decide_eq_false c2, Bool.false_or, allBelow_no (f := fun a => !(rd opn (a * P.length + p)) && decide ((rd kept (a * P.length + p)).length = 0)) hal (by simp [hpp, e6]), Bool.and_false])]
                      repeat' ((with_reducible (first | refine sW.eq (w2) ?_|refine sW.eq (w3) ?_|refine st17 ?_|refine fG.split (fun _ => ?_) (fun _ => ?_)|refine fG.bool (fun _ => ?_) (fun _ => ?_)|refine gDn 8 ?_)) <;> (try (conv => whnf)))
                    | false =>
                      by_cases c5 : (rd kept pp).length = 0
                      · repeat' ((with_reducible (first | refine sW.eq (w2) ?_|refine sW.eq (w3) ?_|refine st17 ?_|refine fG.split (fun _ => ?_) (fun _ => ?_)|refine fG.bool (fun _ => ?_) (fun _ => ?_)|refine gDn 8 ?_)) <;> (try (conv => whnf)))
                        refine ⟨⟨a + 1, fitOk, ?_, ?_⟩⟩
                        · exact ⟨by show a + 1 ≤ _; omega, fun q hq => by rcases Nat.lt_succ_iff_lt_or_eq.1 hq with h | h; exact hbe q h; rw [h, hpp]; simp [e6, c5]⟩
                        · show P.length - (a + 1) < P.length - a; omega
                      · rw [liveOk_cut (p := p) (by omega) (by simp only [cutOk, decide_eq_false c2, Bool.false_or, allBelow_no (f := fun a => !(rd opn (a * P.length + p)) && decide ((rd kept (a * P.length + p)).length = 0)) hal (by simp [hpp, c5]), Bool.and_false])]
                        repeat' ((with_reducible (first | refine sW.eq (w2) ?_|refine sW.eq (w3) ?_|refine st17 ?_|refine fG.split (fun _ => ?_) (fun _ => ?_)|refine fG.bool (fun _ => ?_) (fun _ => ?_)|refine gDn 8 ?_)) <;> (try (conv => whnf)))
                  · repeat' ((with_reducible (first | refine st17 ?_|refine fG.split (fun _ => ?_) (fun _ => ?_)|refine fG.bool (fun _ => ?_) (fun _ => ?_)|refine gDn 8 ?_)) <;> (try (conv => whnf)))
                    refine ⟨⟨⟨p + 1, drawnB (List.take (p + 1) cut)⟩, fitOk, ?_, ?_⟩⟩
                    · refine ⟨by show p + 1 ≤ _; omega, rfl, fun q hq => ?_⟩
                      rcases Nat.lt_succ_iff_lt_or_eq.1 hq with h | h
                      · exact hpr q h
                      · rw [h]
                        simp only [cutOk, inB, decide_eq_true c1, decide_eq_false c2, Bool.false_or, Bool.true_and]
                        exact allBelow_yes fun b hb => hbe b (by omega)
                    · show cut.length - (p + 1) < cut.length - p; omega
            · rw [decide_eq_false c1] at q2
              rw [e4] at c1
              rw [liveOk_cut (p := p) (by omega) (by simp [cutOk, inB, c1])]
              repeat' ((with_reducible (first | refine sCall.of (q2 _) ?_|refine st17 ?_|refine fG.split (fun _ => ?_) (fun _ => ?_)|refine fG.bool (fun _ => ?_) (fun _ => ?_)|refine gDn 8 ?_)) <;> (try (conv => whnf)))
          · have ePr := allBelow_yes (f := cutOk H cut opn kept P.length) (n := P.length) fun q hq => hpr q (by omega)
            rw [List.take_of_length_le (by omega)] at hs'
            have q3 := fun k => ok_spec_l11Marks k P S W H hb
            rw [show liveOk P S W H on cut opn kept = (decide (on = s) && (on || !marksB W)) by simp only [liveOk, e, hL, ePr, hs', Bool.true_and]]
            cases on
            all_goals cases s
            all_goals cases em : marksB W
            all_goals
              simp only [em] at q3
              repeat' ((with_reducible (first | refine sCall.of (q3 _) ?_|refine st17 ?_|refine fG.split (fun _ => ?_) (fun _ => ?_)|refine fG.bool (fun _ => ?_) (fun _ => ?_)|refine gDn 8 ?_)) <;> (try (conv => whnf)))
            all_goals rfl
        · rw [liveOk_lens (by simp [shotLens, d3])]
          (refine fnI [ResultVar.tmp 2] Tryz.func16 ?_; conv => whnf)
          repeat' ((with_reducible (first | refine sCall.of (q1 _) ?_|refine sW.eq (w1) ?_|refine st17 ?_|refine fG.split (fun _ => ?_) (fun _ => ?_)|refine fG.bool (fun _ => ?_) (fun _ => ?_)|refine gDn 8 ?_)) <;> (try (conv => whnf)))
          all_goals first
            | rfl
            | (exfalso; omega)
      · rw [liveOk_lens (by simp [shotLens, d2])]
        (refine fnI [ResultVar.tmp 2] Tryz.func16 ?_; conv => whnf)
        repeat' ((with_reducible (first | refine sCall.of (q1 _) ?_|refine sW.eq (w1) ?_|refine st17 ?_|refine fG.split (fun _ => ?_) (fun _ => ?_)|refine fG.bool (fun _ => ?_) (fun _ => ?_)|refine gDn 8 ?_)) <;> (try (conv => whnf)))
        all_goals first
          | rfl
          | (exfalso; omega)
    · rw [liveOk_lens (by simp [shotLens, d1])]
      (refine fnI [ResultVar.tmp 2] Tryz.func16 ?_; conv => whnf)
      repeat' ((with_reducible (first | refine sCall.of (q1 _) ?_|refine sW.eq (w1) ?_|refine st17 ?_|refine fG.split (fun _ => ?_) (fun _ => ?_)|refine fG.bool (fun _ => ?_) (fun _ => ?_)|refine gDn 8 ?_)) <;> (try (conv => whnf)))
      all_goals first
        | rfl
        | (exfalso; omega)

end Go.Proofs.YtlobpiebphnkiaaGreat.Abs
namespace Go.Proofs.YtlobpiebphnkiaaGreat.Abs
open Go Go.Proofs
set_option linter.unusedVariables false
set_option linter.unusedSimpArgs false
attribute [local irreducible] callE
def shotDone (P : List (List Ins)) (S : List State) (W : List (List Item)) (H : List (List Event)) (on : Bool) (cut : List Int) (opn : List Bool) (kept : List (List Int)) : Bool :=
  liveOk P S W H on cut opn kept && (on && (!(cut.any fun x => decide (-1 = x)) && !(opn.any fun x => x)))
theorem liveOk_facts {P : List (List Ins)} {S : List State} {W : List (List Item)} {H : List (List Event)} {on : Bool} {cut : List Int} {opn : List Bool} {kept : List (List Int)} (h : liveOk P S W H on cut opn kept = true) :
    sysOk P S W H = true ∧ cut.length = P.length ∧ opn.length = P.length * P.length ∧ kept.length = P.length * P.length ∧ (∀ p, p < cut.length → -1 ≤ rd cut p ∧ rd cut p ≤ ((rd H p).length : Int)) ∧
      (∀ p, p < P.length → ∀ a, a < P.length → rd cut p < 0 → rd opn (a * P.length + p) = false ∧ (rd kept (a * P.length + p)).length = 0) ∧ on = drawnB cut ∧ (on = false → marksB W = false) := by
  simp only [liveOk, shotLens, Bool.and_eq_true, decide_eq_true_eq, allBelow_eq] at h
  obtain ⟨h1, ⟨h2, h3, h4⟩, h5, h6, h7⟩ := h
  refine ⟨h1, h2, h3, h4, fun p hp => ?_, fun p hp a ha hc => ?_, h6, fun h => ?_⟩
  · have h8 := h5 p (by omega)
    simp only [cutOk, inB, Bool.and_eq_true, decide_eq_true_eq] at h8
    exact h8.1
  · have h8 := h5 p hp
    simp only [cutOk, Bool.and_eq_true, Bool.or_eq_true, decide_eq_true_eq, allBelow_eq] at h8
    rcases h8.2 with h9 | h9
    · omega
    · have h10 := h9 a ha
      exact ⟨by simpa using h10.1, h10.2⟩
  · rw [h] at h7
    simpa using h7
end Go.Proofs.YtlobpiebphnkiaaGreat.Abs
namespace Go.Proofs.YtlobpiebphnkiaaGreat.Abs
open Go Go.Proofs
set_option linter.unusedVariables false
set_option linter.unusedSimpArgs false
attribute [local irreducible] callE
def mBool (m : Int) (x : Bool) : Bool := decide (m.tmod 3 = 0)
def wBool (x : Bool) : Nat := 1
theorem wts_wBool (l : List Bool) : wts wBool l = l.length := (wts_const 1 l).trans (Nat.one_mul _)
def mIntL (m : Int) (x : List Int) : List Int := marks mInt wInt m x
def wIntL (x : List Int) : Nat := x.length
theorem ok_laws_markBoolS (k : Nat) (l : List Bool) (m : Int) (hl : l.length ≤ 100000000000) (h0 : 0 ≤ m) (h1 : m ≤ 100000000000) : callE PR C (k + 1) 177 [.h 1000000 0 0 [] 1 0 l.length, i64 m] [tBool9 l] = some ⟨i64 (m + l.length), [], [some (tBool9 (marks mBool wBool m l))]⟩ := by
  (refine fnI [ResultVar.tmp 4] Tryz.func177 ?_; conv => whnf)
  repeat' ((with_reducible (first | refine st17 ?_|refine fG.split (fun _ => ?_) (fun _ => ?_)|refine fG.bool (fun _ => ?_) (fun _ => ?_))) <;> (try (conv => whnf)))
  refine loop_rule (ι := TM Bool) (fun x => [(0, .h 1000000 0 0 [] 1 0 l.length), (1, i64 x.m), (5, i64 (x.j : Nat))])
    (fun x => [(1000000, ⟨0, x.g, x.d, tBool9 x.l⟩)])
    (fun x => l.length - x.j) (fun x => x.j ≤ l.length ∧ x.l = half mBool wBool m l x.j ∧ x.m = m + x.j) ⟨0, m, l, 0, false⟩ fitOk ⟨Nat.zero_le _, (half_zero _ _ m l).symm, by simp⟩ (by simp [C]; omega) ?_
  rintro ⟨j, n, out, g, d⟩ sl ob ⟨hj, hout, hn⟩
  dsimp only at hj hout hn
  have hlen : out.length = l.length := by rw [hout, half_len]
  have hz : n.tmod 3 = n.tmod 3 := rfl
  (try dsimp only [cond_true, cond_false])
  (conv => whnf)
  repeat' ((with_reducible (first | refine sZ.eq (hz) ?_|refine st17 ?_|refine fG.split (fun _ => ?_) (fun _ => ?_)|refine fG.bool (fun _ => ?_) (fun _ => ?_))) <;> (try (conv => whnf)))
  case' refine_1 h =>
    refine ⟨⟨⟨j + 1, n + 1, out.set j (mBool n (rd out j)), _, _⟩, fitOk, ?_, ?_⟩⟩
    · refine ⟨by show j + 1 ≤ _; omega, ?_, by show _ = _; push_cast; omega⟩
      show _ = _
      rw [← half_set _ _ m l j (by omega), hout, hn]
      simp only [wts_wBool, List.length_take, mBool, show min j l.length = j by omega]
    · show l.length - (j + 1) < l.length - j; omega
  case refine_2 h =>
    have : j = l.length := by omega
    rw [hout, hn, this, half_all]
theorem ok_laws_markIntSS (k : Nat) (l : List (List Int)) (m : Int) (hl : l.length ≤ 100000000000) (h0 : 0 ≤ m) (h1 : m + wts wIntL l ≤ 10000000000) (hx : ∀ j : Nat, j < l.length → (rd l j).length ≤ 10000000000) :
    callE PR C (k + 2) 178 [.h 1000000 0 0 [] 1 0 l.length, i64 m] [tIntSS9 l] = some ⟨i64 (m + wts wIntL l), [], [some (tIntSS9 (marks mIntL wIntL m l))]⟩ := by
  (refine fnI [ResultVar.tmp 4] Tryz.func178 ?_; conv => whnf)
  repeat' ((with_reducible (first | refine st17 ?_|refine fG.split (fun _ => ?_) (fun _ => ?_)|refine fG.bool (fun _ => ?_) (fun _ => ?_))) <;> (try (conv => whnf)))
  refine loop_rule (ι := TM (List Int)) (fun x => [(0, .h 1000000 0 0 [] 1 0 l.length), (1, i64 x.m), (5, i64 (x.j : Nat))])
    (fun x => [(1000000, ⟨0, x.g, x.d, tIntSS9 x.l⟩)])
    (fun x => l.length - x.j) (fun x => x.j ≤ l.length ∧ x.l = half mIntL wIntL m l x.j ∧ x.m = m + wts wIntL (l.take x.j)) ⟨0, m, l, 0, false⟩ fitOk ⟨Nat.zero_le _, (half_zero _ _ m l).symm, by simp [wts]⟩ (by simp [C]; omega) ?_
  rintro ⟨j, n, out, g, d⟩ sl ob ⟨hj, hout, hn⟩
  dsimp only at hj hout hn
  have hlen : out.length = l.length := by rw [hout, half_len]
  have hn1 : n ≤ 10000000000 := by have := wts_le wIntL l j; omega
  have hn0 : 0 ≤ n := by omega
  have hrd : j < l.length → rd out j = rd l j := fun h => by rw [hout]; exact half_rd _ _ m l j h
  (try dsimp only [cond_true, cond_false])
  (conv => whnf)
  by_cases hjl : j < l.length
  · have hx1 : (rd out j).length ≤ 10000000000 := by rw [hrd hjl]; exact hx j hjl
    have hq := fun k => ok_laws_markIntS' k (rd out j) n (by omega) (by omega) (by omega)
    repeat' ((with_reducible (first | refine sCall.of (hq _) ?_|refine st17 ?_|refine fG.split (fun _ => ?_) (fun _ => ?_)|refine fG.bool (fun _ => ?_) (fun _ => ?_))) <;> (try (conv => whnf)))
    refine ⟨⟨⟨j + 1, n + (rd out j).length, out.set j (mIntL n (rd out j)), _, _⟩, fitOk, ?_, ?_⟩⟩
    · have e := wts_take wIntL l j hjl
      refine ⟨by show j + 1 ≤ _; omega, ?_, ?_⟩
      · show _ = _
        rw [← half_set _ _ m l j hjl, hrd hjl, hout, hn]
      · show _ = _
        rw [e, hrd hjl]
        simp only [wIntL]
        omega
    · show l.length - (j + 1) < l.length - j; omega
  · have : j = l.length := by omega
    repeat' ((with_reducible (first | refine st17 ?_|refine fG.split (fun _ => ?_) (fun _ => ?_)|refine fG.bool (fun _ => ?_) (fun _ => ?_))) <;> (try (conv => whnf)))
    rw [hout, hn, this, half_all, List.take_length]
def shotW (cut : List Int) (opn : List Bool) (kept : List (List Int)) : Nat := cut.length + (opn.length + wts wIntL kept)
theorem shotW_le (cut : List Int) (opn : List Bool) (kept : List (List Int)) : shotW cut opn kept ≤ shotSz cut opn kept := by
  have : wts wIntL kept = wts List.length kept := rfl
  unfold shotW shotSz
  omega
theorem ok_laws_markShot (k : Nat) (on : Bool) (cut : List Int) (opn : List Bool) (kept : List (List Int)) (m : Int) (hb : ShotB 1048576 cut opn kept) (h0 : 0 ≤ m) (h1 : m + shotW cut opn kept ≤ 10000000000) :
    callE PR C (k + 3) 91 [aShot 0 on cut opn kept, i64 m] [tI9 cut, tBool9 opn, tIntSS9 kept] = some ⟨i64 (m + shotW cut opn kept), [], [some (tI9 (marksI m cut)), some (tBool9 (marks mBool wBool (m + cut.length) opn)), some (tIntSS9 (marks mIntL wIntL (m + cut.length + opn.length) kept))]⟩ := by
  rw [show m + ((shotW cut opn kept : Nat) : Int) = m + cut.length + opn.length + wts wIntL kept by simp only [shotW]; omega]
  unfold shotW at h1
  have b1 := hb.c
  have b2 := hb.o
  have b3 := hb.k
  have q1 := fun k => ok_laws_markIntS9 k cut m (by omega) h0 (by omega)
  have q2 := fun k => ok_laws_markBoolS k opn (m + cut.length) (by omega) (by omega) (by omega)
  have q3 := fun k => ok_laws_markIntSS k kept (m + cut.length + opn.length) (by omega) (by omega) (by omega) (fun j hj => by have := hb.kk j hj; omega)
  have e1 := marks_len mInt wInt cut m
  have e2 := marks_len mBool wBool opn (m + cut.length)
  have e3 := marks_len mIntL wIntL kept (m + cut.length + opn.length)
  (refine fnI [ResultVar.tmp 4] Tryz.func91 ?_; conv => whnf)
  repeat' ((with_reducible (first | refine sCall.of (q1 _) ?_|refine sCall.of (q2 _) ?_|refine sCall.of (q3 _) ?_|refine st17 ?_|refine fG.split (fun _ => ?_) (fun _ => ?_)|refine fG.bool (fun _ => ?_) (fun _ => ?_))) <;> (try (conv => whnf)))
theorem ok_laws_markLive (k : Nat) (P : List (List Ins)) (S : List State) (W : List (List Item)) (H : List (List Event)) (on : Bool) (cut : List Int) (opn : List Bool) (kept : List (List Int)) (m : Int) (hb : SysB 1048576 P S W H) (hs : ShotB 1048576 cut opn kept) (h0 : 0 ≤ m) (h1 : m + sysW P S W H + shotW cut opn kept ≤ 1000000000) :
    callE PR C (k + 4) 33 [aLive 0 P S W H on cut opn kept, i64 m] [tInsSS9 P, tStateS9 S, tItemSS9 W, tEventSS9 H, tI9 cut, tBool9 opn, tIntSS9 kept] =
      some ⟨i64 (m + sysW P S W H + shotW cut opn kept), [], [some (tInsSS9 (mkP m P)), some (tStateS9 (mkS m P S)), some (tItemSS9 (mkW m P S W)), some (tEventSS9 (mkH m P S W H)), some (tI9 (marksI (m + sysW P S W H) cut)), some (tBool9 (marks mBool wBool (m + sysW P S W H + cut.length) opn)), some (tIntSS9 (marks mIntL wIntL (m + sysW P S W H + cut.length + opn.length) kept))]⟩ := by
  have q1 := fun k => ok_laws_markSys k P S W H m hb h0 (by omega)
  have q2 := fun k => ok_laws_markShot k on cut opn kept (m + sysW P S W H) hs (by omega) (by omega)
  have e1 : (mkP m P).length = P.length := marks_len _ _ _ _
  have e2 : (mkS m P S).length = S.length := marks_len _ _ _ _
  have e3 : (mkW m P S W).length = W.length := marks_len _ _ _ _
  have e4 : (mkH m P S W H).length = H.length := marks_len _ _ _ _
  have e5 := marks_len mInt wInt cut (m + sysW P S W H)
  have e6 := marks_len mBool wBool opn (m + sysW P S W H + cut.length)
  have e7 := marks_len mIntL wIntL kept (m + sysW P S W H + cut.length + opn.length)
  (refine fnI [ResultVar.tmp 4] Tryz.func33 ?_; conv => whnf)
  repeat' ((with_reducible (first | refine sCall.of (q1 _) ?_|refine sCall.of (q2 _) ?_|refine st17 ?_|refine fG.split (fun _ => ?_) (fun _ => ?_)|refine fG.bool (fun _ => ?_) (fun _ => ?_))) <;> (try (conv => whnf)))
theorem ok_laws_heldBoolS (k : Nat) (x l : List Bool) (m : Int) (hl : l.length ≤ 1000000000) (h0 : 0 ≤ m) (h1 : m ≤ 10000000000) (e : x = marks mBool wBool m l) : callE PR C (k + 1) 179 [.h 1000000 0 0 [] 1 0 x.length, i64 m] [tBool x] = some ⟨i64 (m + l.length), [], [none]⟩ := by
  have hxl : x.length = l.length := by rw [e, marks_len]
  (refine fnI [ResultVar.tmp 4] Tryz.func179 ?_; conv => whnf)
  repeat' ((with_reducible (first | refine st17 ?_|refine fG.split (fun _ => ?_) (fun _ => ?_)|refine fG.bool (fun _ => ?_) (fun _ => ?_))) <;> (try (conv => whnf)))
  refine loop_rule (ι := TH) (fun z => [(0, .h 1000000 0 0 [] 1 0 x.length), (1, i64 z.m), (5, i64 (z.j : Nat))])
    (fun z => [(1000000, ⟨0, 0, false, tBool x⟩)])
    (fun z => l.length - z.j) (fun z => z.j ≤ l.length ∧ z.m = m + z.j) ⟨0, m⟩ fitOk ⟨Nat.zero_le _, by simp⟩ (by simp [C]; omega) ?_
  rintro ⟨j, n⟩ sl ob ⟨hj, hn⟩
  dsimp only at hj hn
  (try dsimp only [cond_true, cond_false])
  (conv => whnf)
  by_cases hjl : j < l.length
  · have hr : rd x j = decide (n.tmod 3 = 0) := by
      rw [e, marks_rd _ _ _ _ _ hjl, wts_wBool, List.length_take, hn]
      rw [show min j l.length = j by omega]
      rfl
    clear e
    have hz : n.tmod 3 = n.tmod 3 := rfl
    repeat' ((with_reducible (first | refine sZ.eq (hz) ?_|refine gBeq ?_|refine st17 ?_|refine fG.split (fun _ => ?_) (fun _ => ?_)|refine fG.bool (fun _ => ?_) (fun _ => ?_))) <;> (try (conv => whnf)))
    refine ⟨⟨⟨j + 1, n + 1⟩, fitOk, ?_, ?_⟩⟩
    · exact ⟨by show j + 1 ≤ _; omega, by show _ = _; push_cast; omega⟩
    · show l.length - (j + 1) < l.length - j; omega
  · have : j = l.length := by omega
    repeat' ((with_reducible (first | refine st17 ?_|refine fG.split (fun _ => ?_) (fun _ => ?_)|refine fG.bool (fun _ => ?_) (fun _ => ?_))) <;> (try (conv => whnf)))
    rw [hn, this]
theorem ok_laws_heldIntSS (k : Nat) (x l : List (List Int)) (m : Int) (hl : l.length ≤ 1000000000) (h0 : 0 ≤ m) (h1 : m + wts wIntL l ≤ 10000000000) (hx : ∀ j : Nat, j < l.length → (rd l j).length ≤ 1000000000) (e : x = marks mIntL wIntL m l) :
    callE PR C (k + 2) 180 [.h 1000000 0 0 [] 1 0 x.length, i64 m] [tIntSS x] = some ⟨i64 (m + wts wIntL l), [], [none]⟩ := by
  have hxl : x.length = l.length := by rw [e, marks_len]
  (refine fnI [ResultVar.tmp 4] Tryz.func180 ?_; conv => whnf)
  repeat' ((with_reducible (first | refine st17 ?_|refine fG.split (fun _ => ?_) (fun _ => ?_)|refine fG.bool (fun _ => ?_) (fun _ => ?_))) <;> (try (conv => whnf)))
  refine loop_rule (ι := TH) (fun z => [(0, .h 1000000 0 0 [] 1 0 x.length), (1, i64 z.m), (5, i64 (z.j : Nat))])
    (fun z => [(1000000, ⟨0, 0, false, tIntSS x⟩)])
    (fun z => l.length - z.j) (fun z => z.j ≤ l.length ∧ z.m = m + wts wIntL (l.take z.j)) ⟨0, m⟩ fitOk ⟨Nat.zero_le _, by simp [wts]⟩ (by simp [C]; omega) ?_
  rintro ⟨j, n⟩ sl ob ⟨hj, hn⟩
  dsimp only at hj hn
  have hn1 : n ≤ 10000000000 := by have := wts_le wIntL l j; omega
  (try dsimp only [cond_true, cond_false])
  (conv => whnf)
  by_cases hjl : j < l.length
  · have hr : rd x j = marksI n (rd l j) := by rw [e, marks_rd _ _ _ _ _ hjl, hn]; rfl
    have hln : (rd x j).length = (rd l j).length := by rw [hr, marks_len]
    have hw := wts_take wIntL l j hjl
    have hw2 := wts_le wIntL l (j + 1)
    have hwj : wIntL (rd l j) = (rd x j).length := hln.symm
    have hxj := hx j hjl
    have hq := fun k => ok_laws_heldIntS k (rd x j) n (by omega) (by omega) (by omega) (fun i hi => by rw [hr] at hi ⊢; exact marksI_rd _ _ i hi)
    clear hr e
    repeat' ((with_reducible (first | refine sCall.of (hq _) ?_|refine st17 ?_|refine fG.split (fun _ => ?_) (fun _ => ?_)|refine fG.bool (fun _ => ?_) (fun _ => ?_))) <;> (try (conv => whnf)))
    refine ⟨⟨⟨j + 1, n + (rd x j).length⟩, fitOk, ?_, ?_⟩⟩
    · exact ⟨by show j + 1 ≤ _; omega, by show _ = _; rw [hw, hwj]; push_cast; omega⟩
    · show l.length - (j + 1) < l.length - j; omega
  · have : j = l.length := by omega
    repeat' ((with_reducible (first | refine st17 ?_|refine fG.split (fun _ => ?_) (fun _ => ?_)|refine fG.bool (fun _ => ?_) (fun _ => ?_))) <;> (try (conv => whnf)))
    rw [hn, this, List.take_length]
theorem ok_laws_heldShot (k : Nat) (on : Bool) (cut : List Int) (opn : List Bool) (kept : List (List Int)) (cut' : List Int) (opn' : List Bool) (kept' : List (List Int)) (m : Int) (hb : ShotB 1000000000 cut opn kept) (h0 : 0 ≤ m) (h1 : m + shotW cut opn kept ≤ 10000000000)
    (e1 : cut' = marksI m cut) (e2 : opn' = marks mBool wBool (m + cut.length) opn) (e3 : kept' = marks mIntL wIntL (m + cut.length + opn.length) kept) :
    callE PR C (k + 3) 92 [aShot 0 on cut' opn' kept', i64 m] [tI cut', tBool opn', tIntSS kept'] = some ⟨i64 (m + shotW cut opn kept), [], [none, none, none]⟩ := by
  rw [show m + ((shotW cut opn kept : Nat) : Int) = m + cut.length + opn.length + wts wIntL kept by simp only [shotW]; omega]
  unfold shotW at h1
  have b1 := hb.c
  have b2 := hb.o
  have b3 := hb.k
  have l1 : cut'.length = cut.length := by rw [e1, marksI_len]
  have q1 : ∀ k, callE PR C (k + 1) 30 [.h 1000000 0 0 [] 1 0 cut'.length, i64 m] [tI cut'] = some ⟨i64 (m + cut.length), [], [none]⟩ := fun k => by
    rw [← l1]
    exact ok_laws_heldIntS k cut' m (by omega) h0 (by omega) (fun i hi => by rw [e1] at hi ⊢; exact marksI_rd _ _ i hi)
  have q2 := fun k => ok_laws_heldBoolS k opn' opn (m + cut.length) (by omega) (by omega) (by omega) e2
  have q3 := fun k => ok_laws_heldIntSS k kept' kept (m + cut.length + opn.length) (by omega) (by omega) (by omega) hb.kk e3
  clear e1 e2 e3
  (refine fnI [ResultVar.tmp 4] Tryz.func92 ?_; conv => whnf)
  repeat' ((with_reducible (first | refine sCall.of (q1 _) ?_|refine sCall.of (q2 _) ?_|refine sCall.of (q3 _) ?_|refine st17 ?_|refine fG.split (fun _ => ?_) (fun _ => ?_)|refine fG.bool (fun _ => ?_) (fun _ => ?_))) <;> (try (conv => whnf)))
theorem ok_laws_heldLive (k : Nat) (P : List (List Ins)) (S : List State) (W : List (List Item)) (H : List (List Event)) (on : Bool) (cut : List Int) (opn : List Bool) (kept : List (List Int)) (P' : List (List Ins)) (S' : List State) (W' : List (List Item)) (H' : List (List Event)) (cut' : List Int) (opn' : List Bool) (kept' : List (List Int)) (m : Int) (hb : SysB 1000000000 P S W H) (hs : ShotB 1000000000 cut opn kept) (h0 : 0 ≤ m) (h1 : m + sysW P S W H + shotW cut opn kept ≤ 10000000000)
    (e1 : P' = mkP m P) (e2 : S' = mkS m P S) (e3 : W' = mkW m P S W) (e4 : H' = mkH m P S W H) (e5 : cut' = marksI (m + sysW P S W H) cut) (e6 : opn' = marks mBool wBool (m + sysW P S W H + cut.length) opn) (e7 : kept' = marks mIntL wIntL (m + sysW P S W H + cut.length + opn.length) kept) :
    callE PR C (k + 4) 34 [aLive 0 P' S' W' H' on cut' opn' kept', i64 m] [tInsSS P', tStateS S', tItemSS W', tEventSS H', tI cut', tBool opn', tIntSS kept'] = some ⟨i64 (m + sysW P S W H + shotW cut opn kept), [], [none, none, none, none, none, none, none]⟩ := by
  have q1 := fun k => ok_laws_heldSys k P S W H P' S' W' H' m hb h0 (by omega) e1 e2 e3 e4
  have q2 := fun k => ok_laws_heldShot k on cut opn kept cut' opn' kept' (m + sysW P S W H) hs (by omega) (by omega) e5 e6 e7
  clear e1 e2 e3 e4 e5 e6 e7
  (refine fnI [ResultVar.tmp 4] Tryz.func34 ?_; conv => whnf)
  repeat' ((with_reducible (first | refine sCall.of (q1 _) ?_|refine sCall.of (q2 _) ?_|refine st17 ?_|refine fG.split (fun _ => ?_) (fun _ => ?_)|refine fG.bool (fun _ => ?_) (fun _ => ?_))) <;> (try (conv => whnf)))

def picOk (W : List (List Item)) (kept : List (List Int)) : Bool := allBelow W.length fun i => decide (numbersOf (rd W i) = rd kept i)
def pictureIs (P : List (List Ins)) (S : List State) (W : List (List Item)) (H : List (List Event)) (on : Bool) (cut : List Int) (opn : List Bool) (kept : List (List Int)) : Sys × Bool :=
  if shotDone P S W H on cut opn kept = true then (if wholeB H cut = true ∧ waysFit (cutH H cut) P.length = true then (if picOk (waysOf (cutH H cut) P.length) kept = true then (atSys P (cutH H cut), true) else (⟨[], [], [], []⟩, false)) else (⟨[], [], [], []⟩, false)) else (⟨[], [], [], []⟩, false)
def sysResB (X : Sys) (t : Bool) (b : List (Option Cont)) : Res := ⟨.tu [nSys 0 X.progs X.states X.ways X.hist, bl t], [tInsSS9 X.progs, tStateS9 X.states, tItemSS9 X.ways, tEventSS9 X.hist], b⟩
structure PK where
  k : Nat
  bb : Nat
end Go.Proofs.YtlobpiebphnkiaaGreat.Abs
namespace Go.Proofs.YtlobpiebphnkiaaGreat.Abs
open Go Go.Proofs
set_option linter.unusedVariables false
set_option linter.unusedSimpArgs false
attribute [local irreducible] callE
theorem snoc_rIntL (l : List (List Int)) (x : List Int) : l.map rIntL ++ [[.sl 1 (x.map rI)]] = (l ++ [x]).map rIntL := by simp [rIntL]
theorem gI18 {p A : Prop} (h : A) (e : p := by first | with_reducible assumption | omega | (simp only [Nat.zero_add, Nat.add_zero, Nat.sub_zero, Int.toNat_natCast, Int.toNat_zero, Int.toNat_one, List.length_map, List.length_nil, Int.reduceToNat, Nat.reduceAdd, Nat.reduceSub, Int.sub_zero, Int.reduceAdd, Int.reduceSub, Nat.sub_self, Int.toNat_natCast_add_one, marks_len, bs_len, List.length_append, List.length_cons, List.length_set, List.length_replicate, List.length_range]; first | done | omega)) : sI p A := sI.mk e h
theorem gNum18 {r r' : Nat} {F : Nat → Prop} (h : F r') (e : r = r' := by first | (simp only [Nat.zero_add, Nat.add_zero, Nat.sub_zero, Int.toNat_natCast, Int.toNat_zero, Int.toNat_one, List.length_map, List.length_nil, Int.reduceToNat, Nat.reduceAdd, Nat.reduceSub, Int.sub_zero, Int.reduceAdd, Int.reduceSub, Nat.sub_self, Int.toNat_natCast_add_one, marks_len, bs_len]; rfl) | rfl) : sN r F := sN.eq e h
theorem gRow18 {r r' : List (List T)} {F : List (List T) → Prop} (h : F r') (e : r = r' := by first | (simp only [Nat.add_zero, Nat.zero_add, Nat.reduceAdd, List.drop_zero, List.take_succ_cons, List.take_nil, List.drop_succ_cons, List.drop_nil, List.take_zero, List.nil_append, List.append_nil, List.map_nil, drop_suf, take_pre, drop_map, List.take_length, take_len_set, take_len_app, List.set_set, List.length_map, snoc_rIntL, set_rIntL, rep_rIntL, snoc_rItem, snoc_rInsL, snoc_rItemL, snoc_rEventL, snoc_rState, set_rWho, rep_rWho, snoc_rWho, set_rState, rep_rState, set_rInsL, rep_rInsL, set_rItemL, rep_rItemL, set_rEventL, rep_rEventL, set_rItem, rep_rItem, rep_rKept, marks_take, set_rKept, set_rIns, rep_rIns, set_rEvent, rep_rEvent, snoc_rKept, snoc_rEvent, snoc_rIns, bytesT_bs, snoc_rI, snoc_rB, snoc_rBool, set_rI, set_rBool, rep_rI, rep_rBool, map_app]; rfl) | rfl) : sR r F := sR.eq e h
theorem st18 {P Q : Prop} (h : Q) (e : Q → P := by with_reducible first | exact fun h => gP h | exact fun h => gN h | exact fun h => fG.not h | exact fun h => gY h | exact fun h => gF h | exact fun h => fG.yes (flat_map (fun _ => rfl) _) h | exact fun h => gS64 h | exact fun h => gU8 h | exact fun h => gI18 h | exact fun h => fE.of rfl h | exact fun h => gNum18 h | exact fun h => gSet h | exact fun h => gRd h | exact fun h => gLk h | exact fun h => gRow18 h | exact fun h => gRf5 h) : P := e h
theorem ok_Clone_bool (k : Nat) (l : List Bool) (hl : l.length ≤ 100000000000) : callE PR C (k + 1) 200 [.h 1000000 0 0 [] 1 0 l.length] [tBool l] = some ⟨.h 2000000 1 0 [] 1 0 l.length, [tBool9 l], [none]⟩ := by
  have := callE_prim (k := k) (f := 200) rfl (cloneP_run (sz := 1) (bytes := 1) (wide_map (f := rBool) (fun _ => rfl) l) (flat_map (fun _ => rfl) l) (full_map (fun _ => rfl) l) (by simp; omega))
  simpa using this
abbrev zLive : Cont := .box [.nl 1, .nl 4, .nl 1, .nl 1, .s (.bool false), .nl 1, .nl 1, .nl 1]
set_option maxRecDepth 20000 in
set_option maxHeartbeats 4000000 in
theorem ok_impl_cloneLive (k : Nat) (P : List (List Ins)) (S : List State) (W : List (List Item)) (H : List (List Event)) (on : Bool) (cut : List Int) (opn : List Bool) (kept : List (List Int)) (hb : SysB 100000000000 P S W H) (hn : SysN P S W H) (hs : ShotB 1000000000 cut opn kept) (hk : 0 < kept.length) :
    callE PR C (k + 4) 119 [aLive 0 P S W H on cut opn kept] [tInsSS P, tStateS S, tItemSS W, tEventSS H, tI cut, tBool opn, tIntSS kept] = some ⟨nLive 0 P S W H on cut opn kept, [tInsSS9 P, tStateS9 S, tItemSS9 W, tEventSS9 H, tI9 cut, tBool9 opn, tIntSS9 kept], [none, none, none, none, none, none, none]⟩ := by
  have s1 := hs.c
  have s2 := hs.o
  have s3 := hs.k
  have q1 := fun k => ok_impl_cloneSys k P S W H hb hn
  have q2 := fun k => ok_Clone_int k cut (by omega)
  have q3 := fun k => ok_Clone_bool k opn (by omega)
  (refine fnI [ResultVar.cell 2 45] Tryz.func119 ?_; conv => whnf)
  repeat' ((with_reducible (first | refine sCall.of (q1 _) ?_|refine sCall.of (q2 _) ?_|refine sCall.of (q3 _) ?_|refine st18 ?_|refine fG.split (fun _ => ?_) (fun _ => ?_)|refine fG.bool (fun _ => ?_) (fun _ => ?_)|refine gD 1 [(2, 5), (2, 8), (5, 9), (2, 12), (9, 12), (5, 13), (1, 16), (2, 16), (5, 16), (8, 16), (9, 16), (12, 16), (13, 16)] ?_|refine gD 5 [(2, 4), (2, 5)] ?_)) <;> (try (conv => whnf)))
  refine loop_rule (ι := CS (List Int)) (fun z => [(2, .pt 2 1 0 [] 0 0), (3, .pt 3 1 0 [] 0 0), (24, .h 1000006 0 0 [] 1 0 kept.length), (25, i64 kept.length), (26, i64 (z.j : Nat))])
    (fun z => [(1000000, ⟨0, 0, false, tInsSS P⟩), (1000001, ⟨0, 0, false, tStateS S⟩), (1000002, ⟨0, 0, false, tItemSS W⟩), (1000003, ⟨0, 0, false, tEventSS H⟩), (1000004, ⟨0, 0, false, tI cut⟩), (1000005, ⟨0, 0, false, tBool opn⟩), (1000006, ⟨0, 0, false, tIntSS kept⟩), (2, ⟨1, 0, false, zLive⟩), (3, ⟨1, 0, z.dd, .box [.h 10008 1 0 [] 1 0 P.length, .h 20008 1 0 [] 4 0 S.length, .h 30008 1 0 [] 1 0 W.length, .h 40008 1 0 [] 1 0 H.length, bl on, .h 10015 1 0 [] 1 0 cut.length, .h 10019 1 0 [] 1 0 opn.length, z.v]⟩), (10008, ⟨1, 0, false, tInsSS9 P⟩), (20008, ⟨1, 0, false, tStateS9 S⟩), (30008, ⟨1, 0, false, tItemSS9 W⟩), (40008, ⟨1, 0, false, tEventSS9 H⟩), (10015, ⟨1, 0, false, tI9 cut⟩), (10019, ⟨1, 0, false, tBool9 opn⟩), (36, ⟨z.b, z.g, z.d, z.c⟩)])
    (fun z => kept.length - z.j) (fun z => z.j ≤ kept.length ∧ Grown 36 1 tIntSS9 kept z) ⟨0, [], .nl 1, 0, 0, false, .dead, _⟩ fitOk ⟨Nat.zero_le _, grown_nil⟩ (by simp [C]; omega) ?_
  clear q1 q2 q3
  rintro ⟨j, l, v, b0, g0, d0, c, dd⟩ sl ob ⟨hj, hl, hg⟩
  dsimp only at hj hl hg
  by_cases hjl : j < kept.length
  · have hx := hs.kk j hjl
    have q := fun k => ok_Clone_int k (rd kept j) (by omega)
    rcases hg with ⟨e1, e2, e3, e4, e5, e6⟩ | ⟨h0, e2, e3⟩
    all_goals dsimp only at *
    · subst e1 e2 e3 e4 e5 e6 hl
      (try dsimp only [cond_true, cond_false])
      (conv => whnf)
      repeat' ((with_reducible (first | refine sCall.of (q _) ?_|refine st18 ?_|refine fG.split (fun _ => ?_) (fun _ => ?_)|refine fG.bool (fun _ => ?_) (fun _ => ?_)|refine gD 1 [(2, 5), (2, 8), (5, 9), (2, 12), (9, 12), (5, 13), (1, 16), (2, 16), (5, 16), (8, 16), (9, 16), (12, 16), (13, 16)] ?_|refine gD 5 [(2, 4), (2, 5)] ?_)) <;> (try (conv => whnf)))
      refine ⟨⟨⟨0 + 1, [rd kept 0], _, _, _, _, _, _⟩, fitOk, ?_, ?_⟩⟩
      · exact ⟨by show 0 + 1 ≤ _; omega, grown_one hjl⟩
      · show kept.length - (0 + 1) < kept.length - 0; omega
    · subst e2 e3
      have hle : l.length = j := by rw [hl]; simp; omega
      (try dsimp only [cond_true, cond_false])
      (conv => whnf)
      repeat' ((with_reducible (first | refine sCall.of (q _) ?_|refine st18 ?_|refine fG.split (fun _ => ?_) (fun _ => ?_)|refine fG.bool (fun _ => ?_) (fun _ => ?_)|refine gD 1 [(2, 5), (2, 8), (5, 9), (2, 12), (9, 12), (5, 13), (1, 16), (2, 16), (5, 16), (8, 16), (9, 16), (12, 16), (13, 16)] ?_|refine gD 5 [(2, 4), (2, 5)] ?_)) <;> (try (conv => whnf)))
      refine ⟨⟨⟨j + 1, l ++ [rd kept j], _, _, _, _, _, _⟩, fitOk, ?_, ?_⟩⟩
      · exact ⟨by show j + 1 ≤ _; omega, grown_more hjl hl⟩
      · show kept.length - (j + 1) < kept.length - j; omega
  rcases hg with ⟨e1, e2, e3, e4, e5, e6⟩ | ⟨h0, e2, e3⟩
  all_goals dsimp only at *
  · exfalso; omega
  rw [List.take_of_length_le (by omega)] at hl
  rw [hl] at e2 e3
  subst e2 e3
  (try dsimp only [cond_true, cond_false])
  (conv => whnf)
  repeat' ((with_reducible (first | refine st18 ?_|refine fG.split (fun _ => ?_) (fun _ => ?_)|refine fG.bool (fun _ => ?_) (fun _ => ?_)|refine gD 1 [(2, 5), (2, 8), (5, 9), (2, 12), (9, 12), (5, 13), (1, 16), (2, 16), (5, 16), (8, 16), (9, 16), (12, 16), (13, 16)] ?_|refine gD 5 [(2, 4), (2, 5)] ?_)) <;> (try (conv => whnf)))
set_option maxRecDepth 20000 in
set_option maxHeartbeats 4000000 in
theorem ok_spec_l11Copy (k : Nat) (P : List (List Ins)) (S : List State) (W : List (List Item)) (H : List (List Event)) (on : Bool) (cut : List Int) (opn : List Bool) (kept : List (List Int)) (hb : SysB 100000000000 P S W H) (hn : SysN P S W H) (hs : ShotB 1000000000 cut opn kept) (hk : 0 < kept.length) :
    callE PR C (k + 3) 117 [aLive 0 P S W H on cut opn kept] [tInsSS P, tStateS S, tItemSS W, tEventSS H, tI cut, tBool opn, tIntSS kept] = some ⟨nLive 0 P S W H on cut opn kept, [tInsSS9 P, tStateS9 S, tItemSS9 W, tEventSS9 H, tI9 cut, tBool9 opn, tIntSS9 kept], [none, none, none, none, none, none, none]⟩ := by
  have s1 := hs.c
  have s2 := hs.o
  have s3 := hs.k
  have q1 := fun k => ok_spec_l4Copy k P S W H hb hn
  (refine fnI [ResultVar.cell 2 45] Tryz.func117 ?_; conv => whnf)
  repeat' ((with_reducible (first | refine sCall.of (q1 _) ?_|refine st18 ?_|refine fG.split (fun _ => ?_) (fun _ => ?_)|refine fG.bool (fun _ => ?_) (fun _ => ?_)|refine gD 1 [(2, 5), (1, 6), (2, 6), (5, 6), (2, 9), (6, 9), (5, 10), (1, 11), (2, 11), (5, 11), (6, 11), (9, 11), (10, 11), (2, 14), (6, 14), (10, 14), (11, 14), (5, 15), (1, 18), (2, 18), (5, 18), (6, 18), (9, 18), (10, 18), (11, 18), (14, 18), (15, 18)] ?_|refine gD 5 [(2, 3), (3, 6), (3, 9), (2, 10), (2, 11)] ?_)) <;> (try (conv => whnf)))
  refine loop_rule (ι := CS (List Int)) (fun z => [(1, .pt 1 1 0 [] 0 0), (2, .pt 2 1 0 [] 0 0), (3, .pt 3 1 0 [] 0 0), (4, i64 (z.j : Nat))])
    (fun z => [(1000000, ⟨0, 0, false, tInsSS P⟩), (1000001, ⟨0, 0, false, tStateS S⟩), (1000002, ⟨0, 0, false, tItemSS W⟩), (1000003, ⟨0, 0, false, tEventSS H⟩), (1000004, ⟨0, 0, false, tI cut⟩), (1000005, ⟨0, 0, false, tBool opn⟩), (1000006, ⟨0, 0, false, tIntSS kept⟩), (1, ⟨1, 0, false, bLive P S W H on cut opn kept⟩), (2, ⟨1, 0, false, zLive⟩), (3, ⟨1, 0, z.dd, .box [.h 10007 1 0 [] 1 0 P.length, .h 20007 1 0 [] 4 0 S.length, .h 30007 1 0 [] 1 0 W.length, .h 40007 1 0 [] 1 0 H.length, bl on, .h 15 1 0 [] 1 0 cut.length, .h 20 1 0 [] 1 0 opn.length, z.v]⟩), (10007, ⟨1, 0, false, tInsSS9 P⟩), (20007, ⟨1, 0, false, tStateS9 S⟩), (30007, ⟨1, 0, false, tItemSS9 W⟩), (40007, ⟨1, 0, false, tEventSS9 H⟩), (15, ⟨1, 0, false, tI9 cut⟩), (20, ⟨1, 0, false, tBool9 opn⟩), (43, ⟨z.b, z.g, z.d, z.c⟩)])
    (fun z => kept.length - z.j) (fun z => z.j ≤ kept.length ∧ Grown 43 1 tIntSS9 kept z) ⟨0, [], .nl 1, 0, 0, false, .dead, _⟩ fitOk ⟨Nat.zero_le _, grown_nil⟩ (by simp [C]; omega) ?_
  clear q1
  rintro ⟨j, l, v, b0, g0, d0, c, dd⟩ sl ob ⟨hj, hl, hg⟩
  dsimp only at hj hl hg
  by_cases hjl : j < kept.length
  · have hx := hs.kk j hjl
    rcases hg with ⟨e1, e2, e3, e4, e5, e6⟩ | ⟨h0, e2, e3⟩
    all_goals dsimp only at *
    · subst e1 e2 e3 e4 e5 e6 hl
      (try dsimp only [cond_true, cond_false])
      (conv => whnf)
      repeat' ((with_reducible (first | refine st18 ?_|refine fG.split (fun _ => ?_) (fun _ => ?_)|refine fG.bool (fun _ => ?_) (fun _ => ?_)|refine gD 1 [(2, 5), (1, 6), (2, 6), (5, 6), (2, 9), (6, 9), (5, 10), (1, 11), (2, 11), (5, 11), (6, 11), (9, 11), (10, 11), (2, 14), (6, 14), (10, 14), (11, 14), (5, 15), (1, 18), (2, 18), (5, 18), (6, 18), (9, 18), (10, 18), (11, 18), (14, 18), (15, 18)] ?_|refine gD 5 [(2, 3), (3, 6), (3, 9), (2, 10), (2, 11)] ?_)) <;> (try (conv => whnf)))
      refine ⟨⟨⟨0 + 1, [rd kept 0], _, _, _, _, _, _⟩, fitOk, ?_, ?_⟩⟩
      · exact ⟨by show 0 + 1 ≤ _; omega, grown_one hjl⟩
      · show kept.length - (0 + 1) < kept.length - 0; omega
    · subst e2 e3
      have hle : l.length = j := by rw [hl]; simp; omega
      (try dsimp only [cond_true, cond_false])
      (conv => whnf)
      repeat' ((with_reducible (first | refine st18 ?_|refine fG.split (fun _ => ?_) (fun _ => ?_)|refine fG.bool (fun _ => ?_) (fun _ => ?_)|refine gD 1 [(2, 5), (1, 6), (2, 6), (5, 6), (2, 9), (6, 9), (5, 10), (1, 11), (2, 11), (5, 11), (6, 11), (9, 11), (10, 11), (2, 14), (6, 14), (10, 14), (11, 14), (5, 15), (1, 18), (2, 18), (5, 18), (6, 18), (9, 18), (10, 18), (11, 18), (14, 18), (15, 18)] ?_|refine gD 5 [(2, 3), (3, 6), (3, 9), (2, 10), (2, 11)] ?_)) <;> (try (conv => whnf)))
      refine ⟨⟨⟨j + 1, l ++ [rd kept j], _, _, _, _, _, _⟩, fitOk, ?_, ?_⟩⟩
      · exact ⟨by show j + 1 ≤ _; omega, grown_more hjl hl⟩
      · show kept.length - (j + 1) < kept.length - j; omega
  rcases hg with ⟨e1, e2, e3, e4, e5, e6⟩ | ⟨h0, e2, e3⟩
  all_goals dsimp only at *
  · exfalso; omega
  rw [List.take_of_length_le (by omega)] at hl
  rw [hl] at e2 e3
  subst e2 e3
  (try dsimp only [cond_true, cond_false])
  (conv => whnf)
  repeat' ((with_reducible (first | refine st18 ?_|refine fG.split (fun _ => ?_) (fun _ => ?_)|refine fG.bool (fun _ => ?_) (fun _ => ?_)|refine gD 1 [(2, 5), (1, 6), (2, 6), (5, 6), (2, 9), (6, 9), (5, 10), (1, 11), (2, 11), (5, 11), (6, 11), (9, 11), (10, 11), (2, 14), (6, 14), (10, 14), (11, 14), (5, 15), (1, 18), (2, 18), (5, 18), (6, 18), (9, 18), (10, 18), (11, 18), (14, 18), (15, 18)] ?_|refine gD 5 [(2, 3), (3, 6), (3, 9), (2, 10), (2, 11)] ?_)) <;> (try (conv => whnf)))

def askedOf (x : Ins) (peer : Int) : Int := if x.n = 9 then peer else x.n
def srcIs (n : Nat) (W : List (List Item)) (p : Nat) (q : Int) : Int × Int :=
  if 0 ≤ q ∧ q ≤ (n : Int) - 1 then (if (rd W (q.toNat * n + p)).length = 0 then (0, 3) else if (rd (rd W (q.toNat * n + p)) 0).mark = true then (0, 5) else (q, 0)) else (0, 2)
def wantsOf (P : List (List Ins)) (S : List State) (p : Nat) : Event := next (rd P p) (rd S p)
def insAt (P : List (List Ins)) (S : List State) (p : Nat) : Ins := rd (rd P p) (rd S p).at_.toNat
def comingIs (P : List (List Ins)) (S : List State) (W : List (List Item)) (H : List (List Event)) (p peer : Int) : Event × Int :=
  if 0 ≤ p ∧ p ≤ (P.length : Int) - 1 then
    (if (rd S p.toNat).code = 0 then
      (if (200 : Int) ≤ ((rd H p.toNat).length : Int) then (⟨0, 0, 0⟩, 4) else
        if (wantsOf P S p.toNat).kind = 2 then (if (12 : Int) ≤ ((rd W (p.toNat * P.length + (wantsOf P S p.toNat).peer.toNat)).length : Int) then (⟨0, 0, 0⟩, 4) else (wantsOf P S p.toNat, 0))
        else if (wantsOf P S p.toNat).kind = 3 then
          (if (srcIs P.length W p.toNat (askedOf (insAt P S p.toNat) peer)).2 = 0 then (⟨3, askedOf (insAt P S p.toNat) peer, (rd (rd W ((askedOf (insAt P S p.toNat) peer).toNat * P.length + p.toNat)) 0).v⟩, 0) else (⟨0, 0, 0⟩, (srcIs P.length W p.toNat (askedOf (insAt P S p.toNat) peer)).2))
        else (wantsOf P S p.toNat, 0))
    else (⟨0, 0, 0⟩, 6))
  else (⟨0, 0, 0⟩, 2)
def stepW (n : Nat) (W : List (List Item)) (p : Nat) (e : Event) : List (List Item) :=
  if e.kind = 2 then W.set (p * n + e.peer.toNat) (rd W (p * n + e.peer.toNat) ++ [⟨false, e.v⟩]) else if e.kind = 3 then W.set (e.peer.toNat * n + p) ((rd W (e.peer.toNat * n + p)).drop 1) else W
def stepS (P : List (List Ins)) (S : List State) (W : List (List Item)) (H : List (List Event)) (p : Nat) (e : Event) : Sys :=
  ⟨P, S.set p (did (rd P p) (rd S p) e), stepW P.length W p e, H.set p (rd H p ++ [e])⟩
def stepIs (P : List (List Ins)) (S : List State) (W : List (List Item)) (H : List (List Event)) (p peer : Int) : Sys × Int :=
  if (comingIs P S W H p peer).2 = 0 then (stepS P S W H p.toNat (comingIs P S W H p peer).1, 0) else (⟨P, S, W, H⟩, (comingIs P S W H p peer).2)
structure ComesAt (P : List (List Ins)) (S : List State) (W : List (List Item)) (H : List (List Event)) (p : Nat) (e : Event) : Prop where
  lt : p < P.length
  code : (rd S p).code = 0
  few : (rd H p).length < 200
  comes : comes e (next (rd P p) (rd S p)) = true
  send : e.kind = 2 → (0 ≤ e.peer ∧ e.peer.toNat < P.length) ∧ (rd W (p * P.length + e.peer.toNat)).length < 12
  take : e.kind = 3 → (0 ≤ e.peer ∧ e.peer.toNat < P.length) ∧ 0 < (rd W (e.peer.toNat * P.length + p)).length ∧ (rd (rd W (e.peer.toNat * P.length + p)) 0).mark = false ∧ e.v = (rd (rd W (e.peer.toNat * P.length + p)) 0).v
theorem next_kind {l : List Ins} {s : State} : (next l s).kind = 2 ∧ (rd l s.at_.toNat).op = 6 ∧ (next l s).peer = (rd l s.at_.toNat).n ∨ (next l s).kind = 3 ∧ (rd l s.at_.toNat).op = 7 ∧ next l s = ⟨3, (rd l s.at_.toNat).n, 0⟩ ∨ (next l s).kind ≠ 2 ∧ (next l s).kind ≠ 3 := by
  unfold next
  by_cases h6 : (rd l s.at_.toNat).op = 6
  · left; simp [h6]
  · by_cases h7 : (rd l s.at_.toNat).op = 7
    · right; left; simp [h7]
    · right; right
      by_cases h8 : (rd l s.at_.toNat).op = 8 <;> simp [h6, h7, h8]
theorem insOk_peer {x : Ins} {m n : Int} (h : insOk x m n = true) (h6 : x.op = 6) : 0 ≤ x.n ∧ x.n ≤ n - 1 := by
  simp only [insOk, h6, inB, Bool.and_eq_true, decide_eq_true_eq] at h
  simp at h
  omega
theorem rd_put {α : Type} [Inhabited α] {l : List α} {b q : Nat} (x : α) (hb : b < l.length) : rd (l.set b x) q = if q = b then x else rd l q := by
  simp only [rd, List.getD_eq_getElem?_getD, List.getElem?_set]
  by_cases h : b = q
  · subst h; simp [hb]
  · rw [if_neg h, if_neg (fun e => h e.symm)]
theorem ok_impl_wayAt_no (k : Nat) (P : List (List Ins)) (S : List State) (W : List (List Item)) (H : List (List Event)) (a b : Int) (hp : P.length ≤ 100000000000) (h : ¬ (0 ≤ a ∧ a ≤ (P.length : Int) - 1)) :
    callE PR C (k + 2) 122 [aSys 0 P S W H, i64 a, i64 b] [tInsSS P, tStateS S, tItemSS W, tEventSS H] = some ⟨i64 (-1), [], [none, none, none, none]⟩ := by
  have q1 := fun k => ok_impl_in k a 0 ((P.length : Int) - 1)
  rw [decide_eq_false h] at q1
  (refine fnI [ResultVar.tmp 6] Tryz.func122 ?_; conv => whnf)
  repeat' ((with_reducible (first | refine sCall.of (q1 _) ?_|refine st18 ?_|refine fG.split (fun _ => ?_) (fun _ => ?_)|refine fG.bool (fun _ => ?_) (fun _ => ?_))) <;> (try (conv => whnf)))
  all_goals rfl
structure ProcF (P : List (List Ins)) (S : List State) (H : List (List Event)) (p : Nat) : Prop where
  ok : SOk (rd P p).length (rd S p)
  io : IOk (rd P p).length (rd (rd P p) (rd S p).at_.toNat)
  pl : (rd P p).length ≤ 30
  peer : (next (rd P p) (rd S p)).kind = 2 → 0 ≤ (next (rd P p) (rd S p)).peer ∧ (next (rd P p) (rd S p)).peer ≤ (P.length : Int) - 1
theorem procF_of {P : List (List Ins)} {S : List State} {W : List (List Item)} {H : List (List Event)} {p : Nat} (hs : sysOk P S W H = true) (hp : p < P.length) : ProcF P S H p := by
  simp only [sysOk, Bool.and_eq_true, allBelow_eq] at hs
  have hpr := hs.2.2.1 p hp
  simp only [procOk, Bool.and_eq_true] at hpr
  obtain ⟨e1, e2, e3, e4, e5⟩ := stood_evOk hpr.2.2
  have hat0 := e2.at0
  have hat1 := e2.at1
  refine ⟨e2, progOk_iok e3 (by omega), (progOk_len e3).2, fun h => ?_⟩
  rcases @next_kind (rd P p) (rd S p) with hk | hk | hk
  · rw [hk.2.2]
    have h1 := hpr.1
    simp only [progOk, Bool.and_eq_true, List.all_eq_true] at h1
    exact insOk_peer (h1.2 _ (rd_mem (by omega))) hk.2.1
  · omega
  · exact absurd h hk.1
end Go.Proofs.YtlobpiebphnkiaaGreat.Abs
namespace Go.Proofs.YtlobpiebphnkiaaGreat.Abs
open Go Go.Proofs
set_option linter.unusedVariables false
set_option linter.unusedSimpArgs false
attribute [local irreducible] callE
theorem gRec {a v : AV} {F : Bool → Prop} (h : F true) (e : isRecut a v = true := by simp [isRecut]) : sBool (isRecut a v) F := sBool.eq e h
theorem dropLim {l : List Item} {t n m : Nat} (h : l.length ≤ 10000000000) (hm : m ≤ 16) : (0 + (List.map rItem (List.take t (List.drop n l))).length) * m ≤ 140737488355328 ∧ 0 + (List.map rItem (List.take t (List.drop n l))).length ≤ 140737488355328 := by
  have h1 : 0 + (List.map rItem (List.take t (List.drop n l))).length ≤ 10000000000 := by simp; omega
  have h2 := Nat.mul_le_mul h1 hm
  exact ⟨by omega, by omega⟩
end Go.Proofs.YtlobpiebphnkiaaGreat.Abs
namespace Go.Proofs.YtlobpiebphnkiaaGreat.Abs
open Go Go.Proofs
set_option linter.unusedVariables false
set_option linter.unusedSimpArgs false
attribute [local irreducible] callE
structure LiveV where
  s : Sys
  on : Bool
  cut : List Int
  opn : List Bool
  kept : List (List Int)
def liveRes (X : LiveV) (n : Int) (b : List (Option Cont)) : Res :=
  ⟨.tu [nLive 0 X.s.progs X.s.states X.s.ways X.s.hist X.on X.cut X.opn X.kept, i64 n], [tInsSS9 X.s.progs, tStateS9 X.s.states, tItemSS9 X.s.ways, tEventSS9 X.s.hist, tI9 X.cut, tBool9 X.opn, tIntSS9 X.kept], b⟩
def zeroV : LiveV := ⟨⟨[], [], [], []⟩, false, [], [], []⟩
def keptBy (n : Nat) (opn : List Bool) (kept : List (List Int)) (p : Nat) (e : Event) : List (List Int) :=
  if e.kind = 3 ∧ rd opn (e.peer.toNat * n + p) = true then kept.set (e.peer.toNat * n + p) (rd kept (e.peer.toNat * n + p) ++ [e.v]) else kept
def liveStepIs (P : List (List Ins)) (S : List State) (W : List (List Item)) (H : List (List Event)) (on : Bool) (cut : List Int) (opn : List Bool) (kept : List (List Int)) (p peer : Int) : LiveV × Int :=
  if liveOk P S W H on cut opn kept = true then
    (if (comingIs P S W H p peer).2 = 0 then (⟨stepS P S W H p.toNat (comingIs P S W H p peer).1, on, cut, opn, keptBy P.length opn kept p.toNat (comingIs P S W H p peer).1⟩, 0)
     else (⟨⟨P, S, W, H⟩, on, cut, opn, kept⟩, (comingIs P S W H p peer).2))
  else (zeroV, 1)
theorem ShotB.mono9 {cut : List Int} {opn : List Bool} {kept : List (List Int)} (h : ShotB 1000000000 cut opn kept) : ShotB 10000000000 cut opn kept :=
  ⟨by have := h.c; omega, by have := h.o; omega, by have := h.k; omega, fun j hj => by have := h.kk j hj; omega⟩
theorem sysOk_G {P : List (List Ins)} {S : List State} {W : List (List Item)} {H : List (List Event)} (h : sysOk P S W H = true) : SysG ⟨P, S, W, H⟩ := by
  obtain ⟨hI, hP, hS, h200⟩ := sysOk_facts h
  have hN := hI.n
  have hsl := hI.s
  have hwl := hI.w
  have hHl := hI.h
  have hnn : P.length * P.length ≤ 4 * 4 := Nat.mul_le_mul hN.2 hN.2
  have h' := h
  simp only [sysOk, Bool.and_eq_true, List.all_eq_true] at h'
  refine sysG_of ⟨by show P.length ≤ _; omega, fun j hj => ?_, by show S.length ≤ _; omega, fun j hj => ?_, by show W.length ≤ _; omega, fun j hj => ?_, by show H.length ≤ _; omega, fun j hj => ?_⟩ hN.2 (by show S.length ≤ _; omega) (by show W.length ≤ _; omega) (by show H.length ≤ _; omega)
  · have hj : j < P.length := hj
    have := (procF_of h hj).pl
    show (rd P j).length ≤ _
    omega
  · have hj : j < S.length := hj
    have h1 := (procF_of (p := j) h (by omega)).ok
    have h2 := h1.regs
    have h3 := h1.out
    show (rd S j).regs.length ≤ _ ∧ (rd S j).out.length ≤ _
    omega
  · have hj : j < W.length := hj
    have h1 := h'.2.1 _ (rd_mem hj)
    simp only [wayOk, Bool.and_eq_true, decide_eq_true_eq] at h1
    show (rd W j).length ≤ _
    omega
  · have hj : j < H.length := hj
    have := h200 j hj
    show (rd H j).length ≤ _
    omega
structure LiveG (X : LiveV) : Prop where
  g : SysG X.s
  s : ShotB 1048576 X.cut X.opn X.kept
  w : shotW X.cut X.opn X.kept ≤ 250000000
theorem liveG_zero : LiveG zeroV := ⟨sysG_empty, ⟨by simp [zeroV], by simp [zeroV], by simp [zeroV], fun j hj => by simp [zeroV] at hj⟩, by simp [zeroV, shotW, wts]⟩
theorem liveG_self {P : List (List Ins)} {S : List State} {W : List (List Item)} {H : List (List Event)} {on : Bool} {cut : List Int} {opn : List Bool} {kept : List (List Int)} (h : sysSz P S W H + shotSz cut opn kept ≤ 1048576) : LiveG ⟨⟨P, S, W, H⟩, on, cut, opn, kept⟩ := by
  have := shotW_le cut opn kept
  exact ⟨sysG_self P S W H (by omega), shotB_of (by show shotSz cut opn kept ≤ _; omega), by show shotW cut opn kept ≤ _; omega⟩
theorem liveG_of {X : LiveV} (hg : SysG X.s) (hs : ShotB 1048576 X.cut X.opn X.kept) (h1 : X.cut.length ≤ 4) (h2 : X.opn.length ≤ 16) (h3 : X.kept.length ≤ 16) : LiveG X := by
  refine ⟨hg, hs, ?_⟩
  have := wts_bound wIntL 1048576 X.kept fun j hj => hs.kk j hj
  unfold shotW
  omega
end Go.Proofs.YtlobpiebphnkiaaGreat.Abs
namespace Go.Proofs.YtlobpiebphnkiaaGreat.Abs
open Go Go.Proofs
set_option linter.unusedVariables false
set_option linter.unusedSimpArgs false
attribute [local irreducible] callE
def drawW (n p : Nat) (W : List (List Item)) : Nat → List (List Item)
  | 0 => W
  | k + 1 => (drawW n p W k).set (p * n + k) (rd W (p * n + k) ++ [⟨true, 0⟩])
def drawO (n p : Nat) (opn : List Bool) : Nat → List Bool
  | 0 => opn
  | k + 1 => (drawO n p opn k).set (k * n + p) true
theorem drawW_len (n p : Nat) (W : List (List Item)) : ∀ k, (drawW n p W k).length = W.length
  | 0 => rfl
  | k + 1 => by rw [drawW, List.length_set, drawW_len n p W k]
theorem drawO_len (n p : Nat) (opn : List Bool) : ∀ k, (drawO n p opn k).length = opn.length
  | 0 => rfl
  | k + 1 => by rw [drawO, List.length_set, drawO_len n p opn k]
theorem drawW_rd {n p : Nat} {W : List (List Item)} : ∀ {k : Nat} {i : Nat}, (∀ j, j < k → p * n + j < W.length) → rd (drawW n p W k) (p * n + i) = if i < k then rd W (p * n + i) ++ [⟨true, 0⟩] else rd W (p * n + i)
  | 0, i, _ => by rw [drawW, if_neg (Nat.not_lt_zero i)]
  | k + 1, i, h => by
    rw [drawW, rd_put _ (by rw [drawW_len]; exact h k (Nat.lt_succ_self k)), drawW_rd fun j hj => h j (Nat.lt_succ_of_lt hj)]
    by_cases e : i = k
    · subst e; rw [if_pos rfl, if_pos (Nat.lt_succ_self i)]
    · rw [if_neg (by omega)]
      by_cases e2 : i < k
      · rw [if_pos e2, if_pos (by omega)]
      · rw [if_neg e2, if_neg (by omega)]
structure DW where
  k : Nat
  w : List (List Item)
  o : List Bool
  gw : Nat
  dw : Bool
  go : Nat
  do_ : Bool
  gc : Nat
  dc : Bool
set_option maxRecDepth 20000 in
set_option maxHeartbeats 4000000 in
theorem ok_impl_draw (k : Nat) (P : List (List Ins)) (S : List State) (W : List (List Item)) (H : List (List Event)) (on : Bool) (cut : List Int) (opn : List Bool) (kept : List (List Int)) (p : Nat) (hp : p < P.length) (hn : P.length ≤ 4) (hw : W.length = P.length * P.length) (ho : opn.length = P.length * P.length) (hc : cut.length = P.length) (hh : H.length = P.length) (h200 : (rd H p).length ≤ 200) (hww : ∀ j : Nat, j < W.length → (rd W j).length ≤ 1000000000) :
    callE PR C (k + 1) 121 [.pt 1000007 0 0 [] 0 0, i64 (p : Nat)] [tInsSS P, tStateS S, tItemSS9 W, tEventSS H, tI9 cut, tBool9 opn, tIntSS kept, bLive P S W H on cut opn kept] =
      some ⟨.tu [], [tItemSS9 (drawW P.length p W P.length), tI9 (cut.set p ((rd H p).length : Int)), tBool9 (drawO P.length p opn P.length)], [none, none, some .dead, none, some .dead, some .dead, none,
        some (.box [.h 1000000 0 0 [] 1 0 P.length, .h 1000001 0 0 [] 4 0 S.length, .h 2000000 1 0 [] 1 0 W.length, .h 1000003 0 0 [] 1 0 H.length, bl true, .h 2000001 1 0 [] 1 0 cut.length, .h 2000002 1 0 [] 1 0 opn.length, .h 1000006 0 0 [] 1 0 kept.length])]⟩ := by
  have e4 : (List.map rEvent (rd H p)).length = (rd H p).length := by simp
  (refine fnI [] Tryz.func121 ?_; conv => whnf)
  repeat' ((with_reducible (first | refine st18 ?_|refine fG.split (fun _ => ?_) (fun _ => ?_)|refine fG.bool (fun _ => ?_) (fun _ => ?_)|refine gDn 2 ?_|refine gD 7 [(4, 23), (14, 23), (21, 23), (4, 24)] ?_)) <;> (try (conv => whnf)))
  refine loop_rule (ι := DW) (fun z => [(0, .pt 1000007 0 0 [] 0 0), (1, i64 (p : Nat)), (4, i64 P.length), (32, i64 P.length), (33, i64 (z.k : Nat))])
    (fun z => [(1000000, ⟨0, 0, false, tInsSS P⟩), (1000001, ⟨0, 0, false, tStateS S⟩), (1000002, ⟨0, z.gw, z.dw, tItemSS9 z.w⟩), (1000003, ⟨0, 0, false, tEventSS H⟩), (1000004, ⟨0, z.gc, z.dc, tI9 (cut.set p ((rd H p).length : Int))⟩), (1000005, ⟨0, z.go, z.do_, tBool9 z.o⟩), (1000006, ⟨0, 0, false, tIntSS kept⟩), (1000007, ⟨0, 0, true, bLive P S W H true cut opn kept⟩)])
    (fun z => P.length - z.k) (fun z => z.k ≤ P.length ∧ z.w = drawW P.length p W z.k ∧ z.o = drawO P.length p opn z.k) ⟨0, W, opn, _, _, _, _, _, _⟩ fitOk ⟨Nat.zero_le _, rfl, rfl⟩ (by simp [C]; omega) ?_
  rintro ⟨j, w, o, gw, dw, go, dd, gc, dc⟩ sl ob ⟨hj, hw', ho'⟩
  dsimp only at hj hw' ho'
  have hwl : w.length = W.length := by rw [hw', drawW_len]
  have hol : o.length = opn.length := by rw [ho', drawO_len]
  by_cases hjl : j < P.length
  · have hpl := place_lt hp hjl
    have hpl2 := place_lt hjl hp
    have hrd : rd w (p * P.length + j) = rd W (p * P.length + j) := by rw [hw', drawW_rd fun i hi => by have := place_lt hp (show i < P.length by omega); omega, if_neg (Nat.lt_irrefl j)]
    have hx := hww (p * P.length + j) (by omega)
    have hW1 : drawW P.length p W (j + 1) = w.set (p * P.length + j) (rd w (p * P.length + j) ++ [⟨true, 0⟩]) := by rw [drawW, hw', hrd.symm.trans (by rw [hw'])]
    have hO1 : drawO P.length p opn (j + 1) = o.set (j * P.length + p) true := by rw [drawO, ho']
    have wm : IntKind.i64.wrap ((j : Int) * (P.length : Int)) = ((j * P.length : Nat) : Int) := by
      have := Nat.mul_le_mul (show j ≤ 4 by omega) hn
      rw [show (j : Int) * (P.length : Int) = ((j * P.length : Nat) : Int) by simp]; exact wrap_i64 _ (by omega) (by omega)
    have wa : IntKind.i64.wrap (((j * P.length : Nat) : Int) + (p : Int)) = ((j * P.length + p : Nat) : Int) := by
      have := Nat.mul_le_mul (show j ≤ 4 by omega) hn
      rw [wrap_i64 _ (by omega) (by omega)]; simp
    have wm2 : IntKind.i64.wrap ((p : Int) * (P.length : Int)) = ((p * P.length : Nat) : Int) := by
      have := Nat.mul_le_mul (show p ≤ 4 by omega) hn
      rw [show (p : Int) * (P.length : Int) = ((p * P.length : Nat) : Int) by simp]; exact wrap_i64 _ (by omega) (by omega)
    have wa2 : IntKind.i64.wrap (((p * P.length : Nat) : Int) + (j : Int)) = ((p * P.length + j : Nat) : Int) := by
      have := Nat.mul_le_mul (show p ≤ 4 by omega) hn
      rw [wrap_i64 _ (by omega) (by omega)]; simp
    have hwx : (rd w (p * P.length + j)).length ≤ 1000000000 := by rw [hrd]; exact hx
    generalize p * P.length + j = ix at *
    generalize j * P.length + p = iy at *
    generalize p * P.length = pm at *
    generalize j * P.length = jm at *
    (try dsimp only [cond_true, cond_false])
    (conv => whnf)
    repeat' ((with_reducible (first | refine sW.eq (wm) ?_|refine sW.eq (wa) ?_|refine sW.eq (wm2) ?_|refine sW.eq (wa2) ?_|refine gHole ?_|refine st18 ?_|refine fG.split (fun _ => ?_) (fun _ => ?_)|refine fG.bool (fun _ => ?_) (fun _ => ?_)|refine gDn 2 ?_|refine gD 7 [(4, 23), (14, 23), (21, 23), (4, 24)] ?_)) <;> (try (conv => whnf)))
    refine ⟨⟨⟨j + 1, w.set ix (rd w ix ++ [⟨true, 0⟩]), o.set iy true, _, _, _, _, _, _⟩, fitOk, ?_, ?_⟩⟩
    · exact ⟨by show j + 1 ≤ _; omega, hW1.symm, hO1.symm⟩
    · show P.length - (j + 1) < P.length - j; omega
  · rw [show j = P.length by omega] at hw' ho'
    subst hw' ho'
    have et1 : List.take W.length (drawW P.length p W P.length) = drawW P.length p W P.length := List.take_of_length_le (by omega)
    have et2 : List.take opn.length (drawO P.length p opn P.length) = drawO P.length p opn P.length := List.take_of_length_le (by omega)
    (try dsimp only [cond_true, cond_false])
    (conv => whnf)
    repeat' ((with_reducible (first | refine st18 ?_|refine fG.split (fun _ => ?_) (fun _ => ?_)|refine fG.bool (fun _ => ?_) (fun _ => ?_)|refine gDn 2 ?_|refine gD 7 [(4, 23), (14, 23), (21, 23), (4, 24)] ?_)) <;> (try (conv => whnf)))
    simp only [et1, et2] <;> rfl

def crowdB (n p : Nat) (W : List (List Item)) : Bool := !(allBelow n fun b => decide ((rd W (p * n + b)).length < 12))
theorem least {q : Nat → Prop} {n : Nat} (h : ∃ b, b < n ∧ q b) : ∃ b, b < n ∧ q b ∧ ∀ c, c < b → ¬ q c := by
  obtain ⟨b, hb, hq⟩ := h
  induction b using Nat.strongRecOn with
  | _ b ih =>
    by_cases hc : ∃ c, c < b ∧ q c
    · obtain ⟨c, h1, h2⟩ := hc
      exact ih c h1 (by omega) h2
    · exact ⟨b, hb, hq, fun c h1 h2 => hc ⟨c, h1, h2⟩⟩
theorem crowd_no {n p : Nat} {W : List (List Item)} (h : crowdB n p W = false) : ∀ b, b < n → (rd W (p * n + b)).length < 12 := by
  simp only [crowdB, Bool.not_eq_false', allBelow_eq, decide_eq_true_eq] at h
  exact h
theorem crowd_yes {n p : Nat} {W : List (List Item)} (h : crowdB n p W = true) : ∃ b, b < n ∧ ¬ (rd W (p * n + b)).length < 12 ∧ ∀ c, c < b → ¬ ¬ (rd W (p * n + c)).length < 12 := by
  apply least
  apply Classical.byContradiction
  intro hn
  have : crowdB n p W = false := by
    simp only [crowdB, Bool.not_eq_false', allBelow_eq, decide_eq_true_eq]
    intro b hb
    apply Decidable.byContradiction
    intro h2
    exact hn ⟨b, hb, h2⟩
  rw [this] at h; cases h
set_option maxRecDepth 20000 in
theorem ok_impl_crowded (k : Nat) (P : List (List Ins)) (S : List State) (W : List (List Item)) (H : List (List Event)) (p : Nat) (hb : SysB 100000000000 P S W H) (hp : p < P.length) (hn : P.length ≤ 4) (hw : W.length = P.length * P.length) :
    callE PR C (k + 3) 120 [aSys 0 P S W H, i64 (p : Nat)] [tInsSS P, tStateS S, tItemSS W, tEventSS H] = some ⟨bl (crowdB P.length p W), [], [none, none, none, none]⟩ := by
  (refine fnI [ResultVar.tmp 4] Tryz.func120 ?_; conv => whnf)
  repeat' ((with_reducible (first | refine st18 ?_|refine fG.split (fun _ => ?_) (fun _ => ?_)|refine fG.bool (fun _ => ?_) (fun _ => ?_)|refine gD 4 [(1, 5)] ?_)) <;> (try (conv => whnf)))
  refine loop_rule (ι := Nat) (fun b => [(1, i64 (p : Nat)), (2, .pt 2 1 0 [] 0 0), (8, i64 P.length), (9, i64 (b : Nat))])
    (fun _ => [(1000000, ⟨0, 0, false, tInsSS P⟩), (1000001, ⟨0, 0, false, tStateS S⟩), (1000002, ⟨0, 0, false, tItemSS W⟩), (1000003, ⟨0, 0, false, tEventSS H⟩), (2, ⟨1, 0, false, bSys P S W H⟩)])
    (fun b => P.length - b) (fun b => b ≤ P.length ∧ ∀ c, c < b → (rd W (p * P.length + c)).length < 12) 0 fitOk ⟨Nat.zero_le _, fun c h => absurd h (Nat.not_lt_zero c)⟩ (by simp [C]; omega) ?_
  rintro b sl ob ⟨hbn, hall⟩
  (try dsimp only [cond_true, cond_false])
  (conv => whnf)
  by_cases hbl : b < P.length
  · have q1 := fun k => ok_impl_wayAt k P S W H p b hb hp hbl hn hw
    have hpl := place_lt hp hbl
    have hno : ¬ (rd W (p * P.length + b)).length < 12 → crowdB P.length p W = true := fun h => by
      simp only [crowdB, Bool.not_eq_true', allBelow_no (f := fun b => decide ((rd W (p * P.length + b)).length < 12)) hbl (decide_eq_false h)]
    have hst : (rd W (p * P.length + b)).length < 12 → ∀ c, c < b + 1 → (rd W (p * P.length + c)).length < 12 := fun h c hc => by rcases Nat.lt_succ_iff_lt_or_eq.1 hc with h2 | h2; exact hall c h2; rw [h2]; exact h
    generalize p * P.length + b = ix at q1 hpl hno hst
    have e5 : (List.map rItem (rd W ix)).length = (rd W ix).length := by simp
    by_cases cl : (rd W ix).length < 12
    · repeat' ((with_reducible (first | refine sCall.of (q1 _) ?_|refine st18 ?_|refine fG.split (fun _ => ?_) (fun _ => ?_)|refine fG.bool (fun _ => ?_) (fun _ => ?_)|refine gD 4 [(1, 5)] ?_)) <;> (try (conv => whnf)))
      refine ⟨⟨b + 1, fitOk, ?_, ?_⟩⟩
      · exact ⟨by show b + 1 ≤ _; omega, hst cl⟩
      · show P.length - (b + 1) < P.length - b; omega
    · rw [hno cl]
      repeat' ((with_reducible (first | refine sCall.of (q1 _) ?_|refine st18 ?_|refine fG.split (fun _ => ?_) (fun _ => ?_)|refine fG.bool (fun _ => ?_) (fun _ => ?_)|refine gD 4 [(1, 5)] ?_)) <;> (try (conv => whnf)))
  · have hy : (allBelow P.length fun b => decide ((rd W (p * P.length + b)).length < 12)) = true := allBelow_yes fun c hc => decide_eq_true (hall c (by omega))
    rw [show crowdB P.length p W = false by unfold crowdB; rw [hy]; rfl]
    repeat' ((with_reducible (first | refine st18 ?_|refine fG.split (fun _ => ?_) (fun _ => ?_)|refine fG.bool (fun _ => ?_) (fun _ => ?_)|refine gD 4 [(1, 5)] ?_)) <;> (try (conv => whnf)))
def dead7 : List (Option Cont) := [some .dead, some .dead, some .dead, some .dead, some .dead, some .dead, some .dead]
def drawRes (P : List (List Ins)) (S : List State) (W : List (List Item)) (H : List (List Event)) (on : Bool) (cut : List Int) (opn : List Bool) (kept : List (List Int)) (t : Bool) : Res :=
  ⟨.tu [nLive 0 P S W H on cut opn kept, bl t], [tInsSS9 P, tStateS9 S, tItemSS9 W, tEventSS9 H, tI9 cut, tBool9 opn, tIntSS9 kept], dead7⟩
structure DrawTo (n p : Nat) (W : List (List Item)) (m : Nat) (t : Bool) : Prop where
  le : m ≤ n
  few : ∀ b, b < m → ¬ (rd W (p * n + b)).length = 12
  stop : t = false → m < n ∧ (rd W (p * n + m)).length = 12
  all : t = true → m = n
set_option maxRecDepth 20000 in
set_option maxHeartbeats 8000000 in
theorem ok_spec_l11DrawIt (k : Nat) (P : List (List Ins)) (S : List State) (W : List (List Item)) (H : List (List Event)) (on : Bool) (cut : List Int) (opn : List Bool) (kept : List (List Int)) (p m : Nat) (t : Bool) (hp : p < P.length) (hn : P.length ≤ 4) (hw : W.length = P.length * P.length) (ho : opn.length = P.length * P.length) (hc : cut.length = P.length) (hh : H.length = P.length) (h200 : (rd H p).length ≤ 200) (hww : ∀ j : Nat, j < W.length → (rd W j).length ≤ 1000000000) (hd : DrawTo P.length p W m t) :
    callE PR C (k + 1) 118 [aLive 0 P S W H on cut opn kept, i64 (p : Nat)] [tInsSS9 P, tStateS9 S, tItemSS9 W, tEventSS9 H, tI9 cut, tBool9 opn, tIntSS9 kept] =
      some (drawRes P S (drawW P.length p W m) H (on || t) (if t = true then cut.set p ((rd H p).length : Int) else cut) (drawO P.length p opn m) kept t) := by
  have e4 : (List.map rEvent (rd H p)).length = (rd H p).length := by simp
  have hm := hd.le
  (refine fnI [ResultVar.cell 4 45, ResultVar.tmp 5] Tryz.func118 ?_; conv => whnf)
  repeat' ((with_reducible (first | refine st18 ?_|refine fG.split (fun _ => ?_) (fun _ => ?_)|refine fG.bool (fun _ => ?_) (fun _ => ?_)|refine gD 7 [(2, 19), (10, 19), (17, 19), (2, 20)] ?_|refine gDn 9 ?_)) <;> (try (conv => whnf)))
  refine loop_rule (ι := DW) (fun z => [(1, i64 (p : Nat)), (2, .pt 2 1 0 [] 0 0), (4, .pt 4 1 0 [] 0 0), (6, i64 P.length), (7, i64 (z.k : Nat))])
    (fun z => [(1000000, ⟨0, 0, false, tInsSS9 P⟩), (1000001, ⟨0, 0, false, tStateS9 S⟩), (1000002, ⟨0, z.gw, z.dw, tItemSS9 z.w⟩), (1000003, ⟨0, 0, false, tEventSS9 H⟩), (1000004, ⟨0, 0, false, tI9 cut⟩), (1000005, ⟨0, z.go, z.do_, tBool9 z.o⟩), (1000006, ⟨0, 0, false, tIntSS9 kept⟩), (2, ⟨1, 0, false, bLive P S W H on cut opn kept⟩), (4, ⟨1, 0, false, zLive⟩)])
    (fun z => P.length - z.k) (fun z => z.k ≤ m ∧ z.w = drawW P.length p W z.k ∧ z.o = drawO P.length p opn z.k) ⟨0, W, opn, _, _, _, _, 0, false⟩ fitOk ⟨Nat.zero_le _, rfl, rfl⟩ (by simp [C]; omega) ?_
  rintro ⟨j, w, o, gw, dw, go, dd, _, _⟩ sl ob ⟨hj, hw', ho'⟩
  dsimp only at hj hw' ho'
  have hwl : w.length = W.length := by rw [hw', drawW_len]
  have hol : o.length = opn.length := by rw [ho', drawO_len]
  have et1 : List.take W.length w = w := List.take_of_length_le (by omega)
  have et2 : List.take opn.length o = o := List.take_of_length_le (by omega)
  by_cases hjl : j < P.length
  · have hpl := place_lt hp hjl
    have hpl2 := place_lt hjl hp
    have hrd : rd w (p * P.length + j) = rd W (p * P.length + j) := by rw [hw', drawW_rd fun i hi => by have := place_lt hp (show i < P.length by omega); omega, if_neg (Nat.lt_irrefl j)]
    have hx := hww (p * P.length + j) (by omega)
    have hW1 : drawW P.length p W (j + 1) = w.set (p * P.length + j) (rd w (p * P.length + j) ++ [⟨true, 0⟩]) := by rw [drawW, hw', hrd.symm.trans (by rw [hw'])]
    have hO1 : drawO P.length p opn (j + 1) = o.set (j * P.length + p) true := by rw [drawO, ho']
    have wm : IntKind.i64.wrap ((j : Int) * (P.length : Int)) = ((j * P.length : Nat) : Int) := by
      have := Nat.mul_le_mul (show j ≤ 4 by omega) hn
      rw [show (j : Int) * (P.length : Int) = ((j * P.length : Nat) : Int) by simp]; exact wrap_i64 _ (by omega) (by omega)
    have wa : IntKind.i64.wrap (((j * P.length : Nat) : Int) + (p : Int)) = ((j * P.length + p : Nat) : Int) := by
      have := Nat.mul_le_mul (show j ≤ 4 by omega) hn
      rw [wrap_i64 _ (by omega) (by omega)]; simp
    have wm2 : IntKind.i64.wrap ((p : Int) * (P.length : Int)) = ((p * P.length : Nat) : Int) := by
      have := Nat.mul_le_mul (show p ≤ 4 by omega) hn
      rw [show (p : Int) * (P.length : Int) = ((p * P.length : Nat) : Int) by simp]; exact wrap_i64 _ (by omega) (by omega)
    have wa2 : IntKind.i64.wrap (((p * P.length : Nat) : Int) + (j : Int)) = ((p * P.length + j : Nat) : Int) := by
      have := Nat.mul_le_mul (show p ≤ 4 by omega) hn
      rw [wrap_i64 _ (by omega) (by omega)]; simp
    have hwx : (rd w (p * P.length + j)).length ≤ 1000000000 := by rw [hrd]; exact hx
    by_cases hjm : j < m
    · have hf : ¬ (rd w (p * P.length + j)).length = 12 := by rw [hrd]; exact hd.few j hjm
      generalize p * P.length + j = ix at *
      generalize j * P.length + p = iy at *
      generalize p * P.length = pm at *
      generalize j * P.length = jm at *
      have e5 : (List.map rItem (rd w ix)).length = (rd w ix).length := by simp
      clear hd
      (try dsimp only [cond_true, cond_false])
      (conv => whnf)
      repeat' ((with_reducible (first | refine sW.eq (wm) ?_|refine sW.eq (wa) ?_|refine sW.eq (wm2) ?_|refine sW.eq (wa2) ?_|refine gHole ?_|refine st18 ?_|refine fG.split (fun _ => ?_) (fun _ => ?_)|refine fG.bool (fun _ => ?_) (fun _ => ?_)|refine gD 7 [(2, 19), (10, 19), (17, 19), (2, 20)] ?_|refine gDn 9 ?_)) <;> (try (conv => whnf)))
      refine ⟨⟨⟨j + 1, w.set ix (rd w ix ++ [⟨true, 0⟩]), o.set iy true, _, _, _, _, 0, false⟩, fitOk, ?_, ?_⟩⟩
      · exact ⟨by show j + 1 ≤ _; omega, hW1.symm, hO1.symm⟩
      · show P.length - (j + 1) < P.length - j; omega
    · have ejm : j = m := by omega
      cases t with
      | true => have := hd.all rfl; omega
      | false =>
        have hf : (rd w (p * P.length + j)).length = 12 := by rw [hrd, ejm]; exact (hd.stop rfl).2
        subst ejm
        rw [← hw', ← ho', Bool.or_false]
        generalize p * P.length + j = ix at *
        generalize j * P.length + p = iy at *
        generalize p * P.length = pm at *
        generalize j * P.length = jm at *
        have e5 : (List.map rItem (rd w ix)).length = (rd w ix).length := by simp
        clear hd
        simp only [Bool.false_eq_true, if_false, drawRes, nLive, hwl, hol]
        (try dsimp only [cond_true, cond_false])
        (conv => whnf)
        repeat' ((with_reducible (first | refine sW.eq (wm) ?_|refine sW.eq (wa) ?_|refine sW.eq (wm2) ?_|refine sW.eq (wa2) ?_|refine st18 ?_|refine fG.split (fun _ => ?_) (fun _ => ?_)|refine fG.bool (fun _ => ?_) (fun _ => ?_)|refine gD 7 [(2, 19), (10, 19), (17, 19), (2, 20)] ?_|refine gDn 9 ?_)) <;> (try (conv => whnf)))
        all_goals (try simp only [et1, et2])
        all_goals rfl
  · have ejm : j = m := by omega
    cases t with
    | false => have := (hd.stop rfl).1; omega
    | true =>
      subst ejm
      rw [← hw', ← ho', Bool.or_true, if_pos rfl]
      clear hd
      simp only [drawRes, nLive, hwl, hol, List.length_set]
      (try dsimp only [cond_true, cond_false])
      (conv => whnf)
      repeat' ((with_reducible (first | refine st18 ?_|refine fG.split (fun _ => ?_) (fun _ => ?_)|refine fG.bool (fun _ => ?_) (fun _ => ?_)|refine gD 7 [(2, 19), (10, 19), (17, 19), (2, 20)] ?_|refine gDn 9 ?_)) <;> (try (conv => whnf)))
      all_goals (try simp only [et1, et2])
      all_goals rfl

def drawnV (P : List (List Ins)) (S : List State) (W : List (List Item)) (H : List (List Event)) (cut : List Int) (opn : List Bool) (kept : List (List Int)) (p : Nat) : LiveV :=
  ⟨⟨P, S, drawW P.length p W P.length, H⟩, true, cut.set p ((rd H p).length : Int), drawO P.length p opn P.length, kept⟩
def beginIs (P : List (List Ins)) (S : List State) (W : List (List Item)) (H : List (List Event)) (on : Bool) (cut : List Int) (opn : List Bool) (kept : List (List Int)) (p : Int) : LiveV × Int :=
  if liveOk P S W H on cut opn kept = true then
    (if 0 ≤ p ∧ p ≤ (P.length : Int) - 1 then (if on = true then (⟨⟨P, S, W, H⟩, on, cut, opn, kept⟩, 3) else if crowdB P.length p.toNat W = true then (⟨⟨P, S, W, H⟩, on, cut, opn, kept⟩, 5) else (drawnV P S W H cut opn kept p.toNat, 0)) else (⟨⟨P, S, W, H⟩, on, cut, opn, kept⟩, 2))
  else (zeroV, 1)
theorem drawTo_yes {n p : Nat} {W : List (List Item)} (h : crowdB n p W = false) : DrawTo n p W n true :=
  ⟨Nat.le_refl _, fun b hb h2 => by have := crowd_no h b hb; omega, (fun h => by cases h), fun _ => rfl⟩
theorem drawTo_no {n p : Nat} {W : List (List Item)} (h : crowdB n p W = true) (hw : ∀ b, b < n → (rd W (p * n + b)).length ≤ 12) : ∃ m, DrawTo n p W m false := by
  obtain ⟨m, h1, h2, h3⟩ := crowd_yes h
  refine ⟨m, Nat.le_of_lt h1, fun b hb h4 => ?_, fun _ => ⟨h1, by have := hw m h1; omega⟩, (fun h => by cases h)⟩
  have := h3 b hb
  omega
theorem drawW_le (n p : Nat) (W : List (List Item)) : ∀ (k j : Nat), (rd (drawW n p W k) j).length ≤ (rd W j).length + 1
  | 0, j => by rw [drawW]; omega
  | k + 1, j => by
    have ih := drawW_le n p W k j
    rw [drawW]
    by_cases h : p * n + k < (drawW n p W k).length
    · rw [rd_put _ h]
      split
      · rename_i e; rw [e]; simp
      · exact ih
    · rw [List.set_eq_of_length_le (by omega)]; exact ih
end Go.Proofs.YtlobpiebphnkiaaGreat.Abs
namespace Go.Proofs.YtlobpiebphnkiaaGreat.Abs
open Go Go.Proofs
set_option linter.unusedVariables false
set_option linter.unusedSimpArgs false
attribute [local irreducible] callE
def takenW (W : List (List Item)) (i : Nat) : List (List Item) := W.set i ((rd W i).drop 1)
def markIs (P : List (List Ins)) (S : List State) (W : List (List Item)) (H : List (List Event)) (on : Bool) (cut : List Int) (opn : List Bool) (kept : List (List Int)) (a b : Int) : LiveV × Int :=
  if liveOk P S W H on cut opn kept = true then
    (if (0 ≤ a ∧ a ≤ (P.length : Int) - 1) ∧ (0 ≤ b ∧ b ≤ (P.length : Int) - 1) then
      (if on = true ∧ 0 < (rd W (a.toNat * P.length + b.toNat)).length ∧ (rd (rd W (a.toNat * P.length + b.toNat)) 0).mark = true then
        (if rd cut b.toNat < 0 then
          (if crowdB P.length b.toNat (takenW W (a.toNat * P.length + b.toNat)) = true then (⟨⟨P, S, W, H⟩, on, cut, opn, kept⟩, 5)
           else (⟨⟨P, S, drawW P.length b.toNat (takenW W (a.toNat * P.length + b.toNat)) P.length, H⟩, true, cut.set b.toNat ((rd H b.toNat).length : Int), (drawO P.length b.toNat opn P.length).set (a.toNat * P.length + b.toNat) false, kept⟩, 0))
         else (⟨⟨P, S, takenW W (a.toNat * P.length + b.toNat), H⟩, on, cut, opn.set (a.toNat * P.length + b.toNat) false, kept⟩, 0))
       else (⟨⟨P, S, W, H⟩, on, cut, opn, kept⟩, 4))
     else (⟨⟨P, S, W, H⟩, on, cut, opn, kept⟩, 2))
  else (zeroV, 1)
theorem ok_impl_wayAt_nob (k : Nat) (P : List (List Ins)) (S : List State) (W : List (List Item)) (H : List (List Event)) (a b : Int) (hp : P.length ≤ 100000000000) (ha : 0 ≤ a ∧ a ≤ (P.length : Int) - 1) (h : ¬ (0 ≤ b ∧ b ≤ (P.length : Int) - 1)) :
    callE PR C (k + 2) 122 [aSys 0 P S W H, i64 a, i64 b] [tInsSS P, tStateS S, tItemSS W, tEventSS H] = some ⟨i64 (-1), [], [none, none, none, none]⟩ := by
  have q1 := fun k => ok_impl_in k a 0 ((P.length : Int) - 1)
  have q2 := fun k => ok_impl_in k b 0 ((P.length : Int) - 1)
  rw [decide_eq_true ha] at q1
  rw [decide_eq_false h] at q2
  (refine fnI [ResultVar.tmp 6] Tryz.func122 ?_; conv => whnf)
  repeat' ((with_reducible (first | refine sCall.of (q1 _) ?_|refine sCall.of (q2 _) ?_|refine st18 ?_|refine fG.split (fun _ => ?_) (fun _ => ?_)|refine fG.bool (fun _ => ?_) (fun _ => ?_))) <;> (try (conv => whnf)))
  all_goals rfl
theorem take_drop_one (l : List Item) : List.take (l.length - 1) (List.drop 1 l) = List.drop 1 l := List.take_of_length_le (by simp)
theorem markIs_eq {P : List (List Ins)} {S : List State} {W : List (List Item)} {H : List (List Event)} {on : Bool} {cut : List Int} {opn : List Bool} {kept : List (List Int)} {a b ix : Nat} (e : liveOk P S W H on cut opn kept = true) (ha : a < P.length) (hb : b < P.length) (hix : ix = a * P.length + b) :
    markIs P S W H on cut opn kept a b =
      (if on = true ∧ 0 < (rd W ix).length ∧ (rd (rd W ix) 0).mark = true then
        (if rd cut b < 0 then (if crowdB P.length b (W.set ix (List.take ((rd W ix).length - 1) (List.drop 1 (rd W ix)))) = true then (⟨⟨P, S, W, H⟩, on, cut, opn, kept⟩, 5) else (⟨⟨P, S, drawW P.length b (W.set ix (List.take ((rd W ix).length - 1) (List.drop 1 (rd W ix)))) P.length, H⟩, true, cut.set b ((rd H b).length : Int), (drawO P.length b opn P.length).set ix false, kept⟩, 0))
         else (⟨⟨P, S, W.set ix (List.take ((rd W ix).length - 1) (List.drop 1 (rd W ix))), H⟩, on, cut, opn.set ix false, kept⟩, 0)) else (⟨⟨P, S, W, H⟩, on, cut, opn, kept⟩, 4)) := by
  rw [take_drop_one]
  unfold markIs takenW
  rw [if_pos e, if_pos ⟨⟨by omega, by omega⟩, by omega, by omega⟩, hix]
  rfl
set_option maxRecDepth 20000 in
set_option maxHeartbeats 8000000 in
theorem ok_impl_Mark (k : Nat) (P : List (List Ins)) (S : List State) (W : List (List Item)) (H : List (List Event)) (on : Bool) (cut : List Int) (opn : List Bool) (kept : List (List Int)) (a b : Int) (hb : SysB 1000000000 P S W H) (hs : ShotB 1000000000 cut opn kept) :
    callE PR C (k + 13) 56 [aLive 0 P S W H on cut opn kept, i64 a, i64 b] [tInsSS P, tStateS S, tItemSS W, tEventSS H, tI cut, tBool opn, tIntSS kept] = some (liveRes (markIs P S W H on cut opn kept a b).1 (markIs P S W H on cut opn kept a b).2 [none, none, none, none, none, none, none]) := by
  have q1 := fun k => ok_impl_LiveOk k P S W H on cut opn kept (hb.mono (by decide)) hs.mono9
  cases e : liveOk P S W H on cut opn kept with
  | false =>
    simp only [e] at q1
    rw [show markIs P S W H on cut opn kept a b = (zeroV, 1) by unfold markIs; rw [e]; rfl]
    (refine fnI [ResultVar.cell 6 45, ResultVar.tmp 7] Tryz.func56 ?_; conv => whnf)
    repeat' ((with_reducible (first | refine sCall.of (q1 _) ?_|refine st18 ?_|refine fG.split (fun _ => ?_) (fun _ => ?_)|refine fG.bool (fun _ => ?_) (fun _ => ?_)|refine gDn 9 ?_)) <;> (try (conv => whnf)))
    all_goals rfl
  | true =>
    simp only [e] at q1
    obtain ⟨f1, l1, l2, l3, f5, _⟩ := liveOk_facts e
    obtain ⟨hI, hP, hS', h200⟩ := sysOk_facts f1
    have hN := hI.n
    have hwl := hI.w
    have hHl := hI.h
    have hn0 : 0 < P.length * P.length := Nat.mul_pos (by omega) (by omega)
    have q2 := fun k => ok_impl_cloneLive k P S W H on cut opn kept (hb.mono (by decide)) hI.some hs (by omega)
    by_cases c1 : 0 ≤ a ∧ a ≤ (P.length : Int) - 1
    · by_cases c2 : 0 ≤ b ∧ b ≤ (P.length : Int) - 1
      · obtain ⟨a, rfl⟩ : ∃ n : Nat, a = (n : Int) := ⟨a.toNat, by omega⟩
        obtain ⟨b, rfl⟩ : ∃ n : Nat, b = (n : Int) := ⟨b.toNat, by omega⟩
        have ha : a < P.length := by omega
        have hbl : b < P.length := by omega
        have hpl := place_lt ha hbl
        have q3 := fun k => ok_impl_wayAt k P S W H a b (hb.mono (by decide)) ha hbl hN.2 hwl
        obtain ⟨ix, hix⟩ : ∃ ix, ix = a * P.length + b := ⟨_, rfl⟩
        rw [markIs_eq e ha hbl hix]
        rw [← hix] at q3 hpl
        have hwx := hb.ww ix (by omega)
        have e5 : (List.map rItem (rd W ix)).length = (rd W ix).length := by simp
        have hk3 := f5 b (by omega)
        cases on with
        | false =>
          rw [if_neg (by simp)]
          clear e
          (refine fnI [ResultVar.cell 6 45, ResultVar.tmp 7] Tryz.func56 ?_; conv => whnf)
          repeat' ((with_reducible (first | refine sCall.of (q1 _) ?_|refine sCall.of (q2 _) ?_|refine sCall.of (q3 _) ?_|refine st18 ?_|refine fG.split (fun _ => ?_) (fun _ => ?_)|refine fG.bool (fun _ => ?_) (fun _ => ?_)|refine gDn 9 ?_)) <;> (try (conv => whnf)))
          all_goals rfl
        | true =>
          by_cases d1 : 0 < (rd W ix).length
          · cases d2 : (rd (rd W ix) 0).mark with
            | false =>
              rw [if_neg (by simp)]
              clear e
              (refine fnI [ResultVar.cell 6 45, ResultVar.tmp 7] Tryz.func56 ?_; conv => whnf)
              repeat' ((with_reducible (first | refine sCall.of (q1 _) ?_|refine sCall.of (q2 _) ?_|refine sCall.of (q3 _) ?_|refine st18 ?_|refine fG.split (fun _ => ?_) (fun _ => ?_)|refine fG.bool (fun _ => ?_) (fun _ => ?_)|refine gDn 9 ?_)) <;> (try (conv => whnf)))
              all_goals rfl
            | true =>
              rw [if_pos ⟨rfl, d1, rfl⟩]
              have hB1 : SysB 100000000000 P S (W.set ix (List.take ((rd W ix).length - 1) (List.drop 1 (rd W ix)))) H := by
                have h := hb.mono (B' := 100000000000) (by decide)
                refine ⟨h.p, h.pp, h.s, h.ss, by rw [List.length_set]; exact h.w, fun j hj => ?_, h.h, h.hh⟩
                rw [List.length_set] at hj
                rw [rd_put _ (by omega)]
                split
                · simp; omega
                · exact h.ww j hj
              have hww1 : ∀ j : Nat, j < (W.set ix (List.take ((rd W ix).length - 1) (List.drop 1 (rd W ix)))).length → (rd (W.set ix (List.take ((rd W ix).length - 1) (List.drop 1 (rd W ix)))) j).length ≤ 1000000000 := fun j hj => by
                rw [List.length_set] at hj
                rw [rd_put _ (by omega)]
                split
                · simp; omega
                · exact hb.ww j hj
              have hwl1 : (W.set ix (List.take ((rd W ix).length - 1) (List.drop 1 (rd W ix)))).length = P.length * P.length := by rw [List.length_set]; exact hwl
              by_cases c3 : rd cut b < 0
              · rw [if_pos c3]
                have q4 := fun k => ok_impl_crowded k P S (W.set ix (List.take ((rd W ix).length - 1) (List.drop 1 (rd W ix)))) H b hB1 hbl hN.2 hwl1
                cases cr : crowdB P.length b (W.set ix (List.take ((rd W ix).length - 1) (List.drop 1 (rd W ix)))) with
                | true =>
                  simp only [cr] at q4
                  rw [if_pos rfl]
                  clear e cr hB1 hww1
                  (refine fnI [ResultVar.cell 6 45, ResultVar.tmp 7] Tryz.func56 ?_; conv => whnf)
                  repeat' ((with_reducible (first | refine sCall.of (q1 _) ?_|refine sCall.of (q2 _) ?_|refine sCall.of (q3 _) ?_|refine sCall.of (q4 _) ?_|refine gRec ?_|refine st18 ?_|refine fG.split (fun _ => ?_) (fun _ => ?_)|refine fG.bool (fun _ => ?_) (fun _ => ?_)|refine gDn 9 ?_)) <;> (try (conv => whnf)))
                  all_goals rfl
                | false =>
                  simp only [cr] at q4
                  rw [if_neg (by decide)]
                  have q5 := fun k => ok_impl_draw k P S (W.set ix (List.take ((rd W ix).length - 1) (List.drop 1 (rd W ix)))) H true cut opn kept b hbl hN.2 hwl1 (by omega) (by omega) hHl (h200 b (by omega)) hww1
                  have d1 := drawW_len P.length b (W.set ix (List.take ((rd W ix).length - 1) (List.drop 1 (rd W ix)))) P.length
                  have d2 := drawO_len P.length b opn P.length
                  rw [List.length_set] at d1
                  simp only [liveRes, nLive, List.length_set, d1, d2]
                  generalize drawW P.length b (W.set ix (List.take ((rd W ix).length - 1) (List.drop 1 (rd W ix)))) P.length = W2 at *
                  generalize drawO P.length b opn P.length = o2 at *
                  simp only [bLive, List.length_set] at q5
                  have et1 : List.take W.length W2 = W2 := List.take_of_length_le (by omega)
                  have et2 : List.take opn.length (o2.set ix false) = o2.set ix false := List.take_of_length_le (by rw [List.length_set]; omega)
                  clear e cr hB1 hww1
                  (refine fnI [ResultVar.cell 6 45, ResultVar.tmp 7] Tryz.func56 ?_; conv => whnf)
                  repeat' ((with_reducible (first | refine sCall.of (q1 _) ?_|refine sCall.of (q2 _) ?_|refine sCall.of (q3 _) ?_|refine sCall.of (q4 _) ?_|refine sCall.of (q5 _) ?_|refine gRec ?_|refine st18 ?_|refine fG.split (fun _ => ?_) (fun _ => ?_)|refine fG.bool (fun _ => ?_) (fun _ => ?_)|refine gDn 9 ?_)) <;> (try (conv => whnf)))
                  all_goals (try simp only [et1, et2])
                  all_goals rfl
              · rw [if_neg c3]
                simp only [liveRes, nLive, List.length_set]
                clear e hB1 hww1
                (refine fnI [ResultVar.cell 6 45, ResultVar.tmp 7] Tryz.func56 ?_; conv => whnf)
                repeat' ((with_reducible (first | refine sCall.of (q1 _) ?_|refine sCall.of (q2 _) ?_|refine sCall.of (q3 _) ?_|refine gRec ?_|refine st18 ?_|refine fG.split (fun _ => ?_) (fun _ => ?_)|refine fG.bool (fun _ => ?_) (fun _ => ?_)|refine gDn 9 ?_)) <;> (try (conv => whnf)))
                all_goals rfl
          · rw [if_neg (by simp [d1])]
            clear e
            (refine fnI [ResultVar.cell 6 45, ResultVar.tmp 7] Tryz.func56 ?_; conv => whnf)
            repeat' ((with_reducible (first | refine sCall.of (q1 _) ?_|refine sCall.of (q2 _) ?_|refine sCall.of (q3 _) ?_|refine st18 ?_|refine fG.split (fun _ => ?_) (fun _ => ?_)|refine fG.bool (fun _ => ?_) (fun _ => ?_)|refine gDn 9 ?_)) <;> (try (conv => whnf)))
            all_goals rfl
      · have q3 := fun k => ok_impl_wayAt_nob k P S W H a b (by omega) c1 c2
        rw [show markIs P S W H on cut opn kept a b = (⟨⟨P, S, W, H⟩, on, cut, opn, kept⟩, 2) by unfold markIs; rw [if_pos e, if_neg (fun h => c2 h.2)]]
        (refine fnI [ResultVar.cell 6 45, ResultVar.tmp 7] Tryz.func56 ?_; conv => whnf)
        repeat' ((with_reducible (first | refine sCall.of (q1 _) ?_|refine sCall.of (q2 _) ?_|refine sCall.of (q3 _) ?_|refine st18 ?_|refine fG.split (fun _ => ?_) (fun _ => ?_)|refine fG.bool (fun _ => ?_) (fun _ => ?_)|refine gDn 9 ?_)) <;> (try (conv => whnf)))
        all_goals rfl
    · have q3 := fun k => ok_impl_wayAt_no k P S W H a b (by omega) c1
      rw [show markIs P S W H on cut opn kept a b = (⟨⟨P, S, W, H⟩, on, cut, opn, kept⟩, 2) by unfold markIs; rw [if_pos e, if_neg (fun h => c1 h.1)]]
      (refine fnI [ResultVar.cell 6 45, ResultVar.tmp 7] Tryz.func56 ?_; conv => whnf)
      repeat' ((with_reducible (first | refine sCall.of (q1 _) ?_|refine sCall.of (q2 _) ?_|refine sCall.of (q3 _) ?_|refine st18 ?_|refine fG.split (fun _ => ?_) (fun _ => ?_)|refine fG.bool (fun _ => ?_) (fun _ => ?_)|refine gDn 9 ?_)) <;> (try (conv => whnf)))
      all_goals rfl

set_option maxRecDepth 20000 in
set_option maxHeartbeats 8000000 in
theorem ok_spec_Mark (k : Nat) (P : List (List Ins)) (S : List State) (W : List (List Item)) (H : List (List Event)) (on : Bool) (cut : List Int) (opn : List Bool) (kept : List (List Int)) (a b : Int) (hb : SysB 1000000000 P S W H) (hs : ShotB 1000000000 cut opn kept) :
    callE PR C (k + 9) 55 [aLive 0 P S W H on cut opn kept, i64 a, i64 b] [tInsSS P, tStateS S, tItemSS W, tEventSS H, tI cut, tBool opn, tIntSS kept] = some (liveRes (markIs P S W H on cut opn kept a b).1 (markIs P S W H on cut opn kept a b).2 [none, none, none, none, none, none, none]) := by
  have q1 := fun k => ok_spec_LiveOk k P S W H on cut opn kept (hb.mono (by decide)) hs.mono9
  have hPl := hb.p
  cases e : liveOk P S W H on cut opn kept with
  | false =>
    simp only [e] at q1
    rw [show markIs P S W H on cut opn kept a b = (zeroV, 1) by unfold markIs; rw [e]; rfl]
    (refine fnI [ResultVar.cell 6 45, ResultVar.tmp 7] Tryz.func55 ?_; conv => whnf)
    repeat' ((with_reducible (first | refine sCall.of (q1 _) ?_|refine st18 ?_|refine fG.split (fun _ => ?_) (fun _ => ?_)|refine fG.bool (fun _ => ?_) (fun _ => ?_)|refine gD 9 [(2, 8), (8, 11), (8, 18), (2, 20)] ?_)) <;> (try (conv => whnf)))
    all_goals rfl
  | true =>
    simp only [e] at q1
    obtain ⟨f1, l1, l2, l3, f5, _⟩ := liveOk_facts e
    obtain ⟨hI, hP, hS', h200⟩ := sysOk_facts f1
    have hN := hI.n
    have hwl := hI.w
    have hHl := hI.h
    have hn0 : 0 < P.length * P.length := Nat.mul_pos (by omega) (by omega)
    have q2 := fun k => ok_spec_l11Copy k P S W H on cut opn kept (hb.mono (by decide)) hI.some hs (by omega)
    have qa := fun k => ok_spec_l1In k a 0 ((P.length : Int) - 1)
    have qb := fun k => ok_spec_l1In k b 0 ((P.length : Int) - 1)
    by_cases c1 : 0 ≤ a ∧ a ≤ (P.length : Int) - 1
    · rw [decide_eq_true c1] at qa
      by_cases c2 : 0 ≤ b ∧ b ≤ (P.length : Int) - 1
      · rw [decide_eq_true c2] at qb
        obtain ⟨a, rfl⟩ : ∃ n : Nat, a = (n : Int) := ⟨a.toNat, by omega⟩
        obtain ⟨b, rfl⟩ : ∃ n : Nat, b = (n : Int) := ⟨b.toNat, by omega⟩
        have ha : a < P.length := by omega
        have hbl : b < P.length := by omega
        have hpl := place_lt ha hbl
        obtain ⟨ix, hix⟩ : ∃ ix, ix = a * P.length + b := ⟨_, rfl⟩
        rw [markIs_eq e ha hbl hix]
        rw [← hix] at hpl
        have wm : IntKind.i64.wrap ((a : Int) * (P.length : Int)) = ((a * P.length : Nat) : Int) := by
          have := Nat.mul_le_mul (show a ≤ 4 by omega) hN.2
          rw [show (a : Int) * (P.length : Int) = ((a * P.length : Nat) : Int) by simp]; exact wrap_i64 _ (by omega) (by omega)
        have wa : IntKind.i64.wrap (((a * P.length : Nat) : Int) + (b : Int)) = (ix : Int) := by
          have := Nat.mul_le_mul (show a ≤ 4 by omega) hN.2
          rw [hix, wrap_i64 _ (by omega) (by omega)]; simp
        clear hix
        generalize a * P.length = pm at *
        have hwx := hb.ww ix (by omega)
        have hdl := dropLim (t := (rd W ix).length - 1) (n := 1) (m := 15 + 1) (l := rd W ix) (by omega) (by decide)
        have e5 : (List.map rItem (rd W ix)).length = (rd W ix).length := by simp
        cases on with
        | false =>
          rw [if_neg (by simp)]
          clear e
          (refine fnI [ResultVar.cell 6 45, ResultVar.tmp 7] Tryz.func55 ?_; conv => whnf)
          repeat' ((with_reducible (first | refine sCall.of (q1 _) ?_|refine sCall.of (q2 _) ?_|refine sCall.of (qa _) ?_|refine sCall.of (qb _) ?_|refine sW.eq (wm) ?_|refine sW.eq (wa) ?_|refine st18 ?_|refine fG.split (fun _ => ?_) (fun _ => ?_)|refine fG.bool (fun _ => ?_) (fun _ => ?_)|refine gD 9 [(2, 8), (8, 11), (8, 18), (2, 20)] ?_)) <;> (try (conv => whnf)))
          all_goals rfl
        | true =>
          by_cases d1 : 0 < (rd W ix).length
          · cases d2 : (rd (rd W ix) 0).mark with
            | false =>
              rw [if_neg (by simp)]
              clear e
              (refine fnI [ResultVar.cell 6 45, ResultVar.tmp 7] Tryz.func55 ?_; conv => whnf)
              repeat' ((with_reducible (first | refine sCall.of (q1 _) ?_|refine sCall.of (q2 _) ?_|refine sCall.of (qa _) ?_|refine sCall.of (qb _) ?_|refine sW.eq (wm) ?_|refine sW.eq (wa) ?_|refine st18 ?_|refine fG.split (fun _ => ?_) (fun _ => ?_)|refine fG.bool (fun _ => ?_) (fun _ => ?_)|refine gD 9 [(2, 8), (8, 11), (8, 18), (2, 20)] ?_)) <;> (try (conv => whnf)))
              all_goals rfl
            | true =>
              rw [if_pos ⟨rfl, d1, rfl⟩]
              have hwx12 : ∀ j, j < W.length → (rd W j).length ≤ 12 := fun j hj => by
                simp only [sysOk, Bool.and_eq_true, List.all_eq_true] at f1
                have h1 := f1.2.1 _ (rd_mem (l := W) (n := j) hj)
                simp only [wayOk, Bool.and_eq_true, decide_eq_true_eq] at h1
                exact h1.1
              have hww1 : ∀ j : Nat, j < (W.set ix (List.take ((rd W ix).length - 1) (List.drop 1 (rd W ix)))).length → (rd (W.set ix (List.take ((rd W ix).length - 1) (List.drop 1 (rd W ix)))) j).length ≤ 12 := fun j hj => by
                rw [List.length_set] at hj
                rw [rd_put _ (by omega)]
                have h1 := hwx12 ix (by omega)
                split
                · simp; omega
                · exact hwx12 j hj
              have hwl1 : (W.set ix (List.take ((rd W ix).length - 1) (List.drop 1 (rd W ix)))).length = P.length * P.length := by rw [List.length_set]; exact hwl
              have hww2 : ∀ j : Nat, j < (W.set ix (List.take ((rd W ix).length - 1) (List.drop 1 (rd W ix)))).length → (rd (W.set ix (List.take ((rd W ix).length - 1) (List.drop 1 (rd W ix)))) j).length ≤ 1000000000 := fun j hj => by have := hww1 j hj; omega
              by_cases c3 : rd cut b < 0
              · rw [if_pos c3]
                cases cr : crowdB P.length b (W.set ix (List.take ((rd W ix).length - 1) (List.drop 1 (rd W ix)))) with
                | true =>
                  rw [if_pos rfl]
                  obtain ⟨m, hd⟩ := drawTo_no cr fun c hc => hww1 _ (by have := place_lt hbl hc; omega)
                  have q5 := fun k => ok_spec_l11DrawIt k P S (W.set ix (List.take ((rd W ix).length - 1) (List.drop 1 (rd W ix)))) H true cut opn kept b m false hbl hN.2 hwl1 (by omega) (by omega) hHl (h200 b (by omega)) hww2 hd
                  simp only [drawRes, dead7, aLive, List.length_set] at q5
                  clear e cr hd hww1 hww2 hwx12
                  generalize drawW P.length b (W.set ix (List.take ((rd W ix).length - 1) (List.drop 1 (rd W ix)))) m = W2 at *
                  generalize drawO P.length b opn m = o2 at *
                  (refine fnI [ResultVar.cell 6 45, ResultVar.tmp 7] Tryz.func55 ?_; conv => whnf)
                  repeat' ((with_reducible (first | refine sCall.of (q1 _) ?_|refine sCall.of (q2 _) ?_|refine sCall.of (qa _) ?_|refine sCall.of (qb _) ?_|refine sCall.of (q5 _) ?_|refine sW.eq (wm) ?_|refine sW.eq (wa) ?_|refine gHole ?_|refine sI.mk hdl ?_|refine st18 ?_|refine fG.split (fun _ => ?_) (fun _ => ?_)|refine fG.bool (fun _ => ?_) (fun _ => ?_)|refine gD 9 [(2, 8), (8, 11), (8, 18), (2, 20)] ?_)) <;> (try (conv => whnf)))
                  all_goals rfl
                | false =>
                  rw [if_neg (by decide)]
                  have q5 := fun k => ok_spec_l11DrawIt k P S (W.set ix (List.take ((rd W ix).length - 1) (List.drop 1 (rd W ix)))) H true cut opn kept b P.length true hbl hN.2 hwl1 (by omega) (by omega) hHl (h200 b (by omega)) hww2 (drawTo_yes cr)
                  have d1 := drawW_len P.length b (W.set ix (List.take ((rd W ix).length - 1) (List.drop 1 (rd W ix)))) P.length
                  have d2 := drawO_len P.length b opn P.length
                  rw [List.length_set] at d1
                  simp only [drawRes, dead7, aLive, nLive, List.length_set, if_true, Bool.true_or, d1, d2] at q5
                  simp only [liveRes, nLive, List.length_set, d1, d2]
                  generalize drawW P.length b (W.set ix (List.take ((rd W ix).length - 1) (List.drop 1 (rd W ix)))) P.length = W2 at *
                  generalize drawO P.length b opn P.length = o2 at *
                  have et1 : List.take W.length W2 = W2 := List.take_of_length_le (by omega)
                  have et2 : List.take opn.length (o2.set ix false) = o2.set ix false := List.take_of_length_le (by rw [List.length_set]; omega)
                  clear e cr hww1 hww2 hwx12
                  (refine fnI [ResultVar.cell 6 45, ResultVar.tmp 7] Tryz.func55 ?_; conv => whnf)
                  repeat' ((with_reducible (first | refine sCall.of (q1 _) ?_|refine sCall.of (q2 _) ?_|refine sCall.of (qa _) ?_|refine sCall.of (qb _) ?_|refine sCall.of (q5 _) ?_|refine sW.eq (wm) ?_|refine sW.eq (wa) ?_|refine gHole ?_|refine sI.mk hdl ?_|refine st18 ?_|refine fG.split (fun _ => ?_) (fun _ => ?_)|refine fG.bool (fun _ => ?_) (fun _ => ?_)|refine gD 9 [(2, 8), (8, 11), (8, 18), (2, 20)] ?_)) <;> (try (conv => whnf)))
                  all_goals (try simp only [et1, et2])
                  all_goals rfl
              · rw [if_neg c3]
                simp only [liveRes, nLive, List.length_set]
                clear e hww1 hww2 hwx12
                (refine fnI [ResultVar.cell 6 45, ResultVar.tmp 7] Tryz.func55 ?_; conv => whnf)
                repeat' ((with_reducible (first | refine sCall.of (q1 _) ?_|refine sCall.of (q2 _) ?_|refine sCall.of (qa _) ?_|refine sCall.of (qb _) ?_|refine sW.eq (wm) ?_|refine sW.eq (wa) ?_|refine gHole ?_|refine sI.mk hdl ?_|refine st18 ?_|refine fG.split (fun _ => ?_) (fun _ => ?_)|refine fG.bool (fun _ => ?_) (fun _ => ?_)|refine gD 9 [(2, 8), (8, 11), (8, 18), (2, 20)] ?_)) <;> (try (conv => whnf)))
                all_goals rfl
          · rw [if_neg (by simp [d1])]
            clear e
            (refine fnI [ResultVar.cell 6 45, ResultVar.tmp 7] Tryz.func55 ?_; conv => whnf)
            repeat' ((with_reducible (first | refine sCall.of (q1 _) ?_|refine sCall.of (q2 _) ?_|refine sCall.of (qa _) ?_|refine sCall.of (qb _) ?_|refine sW.eq (wm) ?_|refine sW.eq (wa) ?_|refine st18 ?_|refine fG.split (fun _ => ?_) (fun _ => ?_)|refine fG.bool (fun _ => ?_) (fun _ => ?_)|refine gD 9 [(2, 8), (8, 11), (8, 18), (2, 20)] ?_)) <;> (try (conv => whnf)))
            all_goals rfl
      · rw [decide_eq_false c2] at qb
        rw [show markIs P S W H on cut opn kept a b = (⟨⟨P, S, W, H⟩, on, cut, opn, kept⟩, 2) by unfold markIs; rw [if_pos e, if_neg (fun h => c2 h.2)]]
        (refine fnI [ResultVar.cell 6 45, ResultVar.tmp 7] Tryz.func55 ?_; conv => whnf)
        repeat' ((with_reducible (first | refine sCall.of (q1 _) ?_|refine sCall.of (q2 _) ?_|refine sCall.of (qa _) ?_|refine sCall.of (qb _) ?_|refine st18 ?_|refine fG.split (fun _ => ?_) (fun _ => ?_)|refine fG.bool (fun _ => ?_) (fun _ => ?_)|refine gD 9 [(2, 8), (8, 11), (8, 18), (2, 20)] ?_)) <;> (try (conv => whnf)))
        all_goals rfl
    · rw [decide_eq_false c1] at qa
      rw [show markIs P S W H on cut opn kept a b = (⟨⟨P, S, W, H⟩, on, cut, opn, kept⟩, 2) by unfold markIs; rw [if_pos e, if_neg (fun h => c1 h.1)]]
      (refine fnI [ResultVar.cell 6 45, ResultVar.tmp 7] Tryz.func55 ?_; conv => whnf)
      repeat' ((with_reducible (first | refine sCall.of (q1 _) ?_|refine sCall.of (q2 _) ?_|refine sCall.of (qa _) ?_|refine st18 ?_|refine fG.split (fun _ => ?_) (fun _ => ?_)|refine fG.bool (fun _ => ?_) (fun _ => ?_)|refine gD 9 [(2, 8), (8, 11), (8, 18), (2, 20)] ?_)) <;> (try (conv => whnf)))
      all_goals rfl

theorem sysG_ways {P : List (List Ins)} {S : List State} {W W2 : List (List Item)} {H : List (List Event)} (f1 : sysOk P S W H = true) (hl : W2.length = W.length) (hw : ∀ j, j < W2.length → (rd W2 j).length ≤ 1000) : SysG ⟨P, S, W2, H⟩ := by
  obtain ⟨hI, _, _, _⟩ := sysOk_facts f1
  have hN := hI.n
  have hsl := hI.s
  have hwl := hI.w
  have hHl := hI.h
  have hnn : P.length * P.length ≤ 4 * 4 := Nat.mul_le_mul hN.2 hN.2
  have g := (sysOk_G f1).b
  exact sysG_of ⟨g.p, g.pp, g.s, g.ss, by show W2.length ≤ _; omega, fun j hj => by have := hw j hj; show (rd W2 j).length ≤ _; omega, g.h, g.hh⟩ hN.2 (by show S.length ≤ _; omega) (by show W2.length ≤ _; omega) (by show H.length ≤ _; omega)
theorem markIs_G {P : List (List Ins)} {S : List State} {W : List (List Item)} {H : List (List Event)} (on : Bool) (cut : List Int) (opn : List Bool) (kept : List (List Int)) (a b : Int) (h : sysSz P S W H + shotSz cut opn kept ≤ 1048576) : LiveG (markIs P S W H on cut opn kept a b).1 := by
  unfold markIs
  split
  · rename_i e
    obtain ⟨f1, l1, l2, l3, _⟩ := liveOk_facts e
    obtain ⟨hI, _, _, _⟩ := sysOk_facts f1
    have hN := hI.n
    have hwl := hI.w
    have hnn : P.length * P.length ≤ 4 * 4 := Nat.mul_le_mul hN.2 hN.2
    have hS : ShotB 1048576 cut opn kept := shotB_of (by omega)
    have hw12 : ∀ j, j < W.length → (rd W j).length ≤ 12 := fun j hj => by
      simp only [sysOk, Bool.and_eq_true, List.all_eq_true] at f1
      have h1 := f1.2.1 _ (rd_mem (l := W) (n := j) hj)
      simp only [wayOk, Bool.and_eq_true, decide_eq_true_eq] at h1
      exact h1.1
    have htl : ∀ i, (takenW W i).length = W.length := fun i => List.length_set
    have htw : ∀ i j, j < W.length → (rd (takenW W i) j).length ≤ 12 := fun i j hj => by
      unfold takenW
      by_cases hi : i < W.length
      · rw [rd_put _ hi]
        have := hw12 i hi
        split
        · simp; omega
        · exact hw12 j hj
      · rw [List.set_eq_of_length_le (by omega)]; exact hw12 j hj
    have hc := hS.c
    have ho := hS.o
    split
    · split
      · generalize a.toNat * P.length + b.toNat = ix
        split
        · split
          · exact liveG_self h
          · have d1 := drawW_len P.length b.toNat (takenW W ix) P.length
            have d2 := drawO_len P.length b.toNat opn P.length
            refine liveG_of (sysG_ways f1 (by rw [d1, htl]) fun j hj => ?_) ⟨by show (cut.set _ _).length ≤ _; rw [List.length_set]; exact hc, by show (List.set _ _ _).length ≤ _; rw [List.length_set]; omega, hS.k, hS.kk⟩ (by show (cut.set _ _).length ≤ _; rw [List.length_set]; omega) (by show (List.set _ _ _).length ≤ _; rw [List.length_set]; omega) (by show kept.length ≤ _; omega)
            rw [d1, htl] at hj
            have h1 := drawW_le P.length b.toNat (takenW W ix) P.length j
            have h2 := htw ix j hj
            omega
        · refine liveG_of (sysG_ways f1 (htl ix) fun j hj => ?_) ⟨hc, by show (List.set _ _ _).length ≤ _; rw [List.length_set]; exact ho, hS.k, hS.kk⟩ (by show cut.length ≤ _; omega) (by show (List.set _ _ _).length ≤ _; rw [List.length_set]; omega) (by show kept.length ≤ _; omega)
          rw [htl] at hj
          have := htw ix j hj
          omega
      · exact liveG_self h
    · exact liveG_self h
  · exact liveG_zero
set_option maxRecDepth 20000 in
set_option maxHeartbeats 8000000 in
theorem ok_laws_FnExactMark (k : Nat) (P : List (List Ins)) (S : List State) (W : List (List Item)) (H : List (List Event)) (on : Bool) (cut : List Int) (opn : List Bool) (kept : List (List Int)) (a b : Int) (hb : SysB 140737488355328 P S W H) (hs : ShotB 140737488355328 cut opn kept) :
    callE PR C (k + 14) 12 [aLive 0 P S W H on cut opn kept, i64 a, i64 b] [tInsSS P, tStateS S, tItemSS W, tEventSS H, tI cut, tBool opn, tIntSS kept] = some ⟨bl true, [], [none, none, none, none, none, none, none]⟩ := by
  have q0 := fun k => ok_laws_szLive k P S W H on cut opn kept 1048576 (by omega) (by omega) hb hs
  by_cases c : left 1048576 ((sysSz P S W H + shotSz cut opn kept : Nat)) < 0
  · rw [left_m1 c] at q0
    (refine fnI [ResultVar.tmp 6] Tryz.func12 ?_; conv => whnf)
    repeat' ((with_reducible (first | refine sCall.of (q0 _) ?_|refine st18 ?_|refine fG.split (fun _ => ?_) (fun _ => ?_)|refine fG.bool (fun _ => ?_) (fun _ => ?_)|refine gD 10 [(0, 2)] ?_)) <;> (try (conv => whnf)))
  · obtain ⟨c1, c2⟩ := left_pos c
    have hB : SysB 1048576 P S W H := sysB_of (by omega)
    have hS : ShotB 1048576 cut opn kept := shotB_of (by omega)
    have hw := sysW_le P S W H
    have hw2 := shotW_le cut opn kept
    have q1 := fun k => ok_laws_toLive k P S W H on cut opn kept (hB.mono (by decide)) (hS.mono (by decide))
    have q2 := fun k => ok_laws_eqLive k P S W H on cut opn kept (hB.mono (by decide)) (hS.mono (by decide))
    have q3 := fun k => ok_impl_Mark k P S W H on cut opn kept a b (hB.mono (by decide)) (hS.mono (by decide))
    have q4 := fun k => ok_spec_Mark k P S W H on cut opn kept a b (hB.mono (by decide)) (hS.mono (by decide))
    have q6 := fun k => ok_laws_markLive k P S W H on cut opn kept 1 hB hS (by omega) (by omega)
    have e1 : (mkP 1 P).length = P.length := marks_len _ _ _ _
    have e2 : (mkS 1 P S).length = S.length := marks_len _ _ _ _
    have e3 : (mkW 1 P S W).length = W.length := marks_len _ _ _ _
    have e4 : (mkH 1 P S W H).length = H.length := marks_len _ _ _ _
    have e9 := marks_len mInt wInt cut (1 + sysW P S W H)
    have e10 := marks_len mBool wBool opn (1 + sysW P S W H + cut.length)
    have e11 := marks_len mIntL wIntL kept (1 + sysW P S W H + cut.length + opn.length)
    have hG := markIs_G on cut opn kept a b (show sysSz P S W H + shotSz cut opn kept ≤ 1048576 by omega)
    generalize markIs P S W H on cut opn kept a b = X at hG q3 q4
    obtain ⟨⟨⟨P', S', W', H'⟩, on', cut', opn', kept'⟩, n⟩ := X
    obtain ⟨⟨hB', hw'⟩, hS', hw2'⟩ := hG
    dsimp only at hB' hw' hS' hw2' q3 q4
    simp only [liveRes] at q3 q4
    have q5 := fun k => ok_laws_eqLive k P' S' W' H' on' cut' opn' kept' (hB'.mono (by decide)) (hS'.mono (by decide))
    have q7 := fun k => ok_laws_markLive k P' S' W' H' on' cut' opn' kept' 1 hB' hS' (by omega) (by omega)
    have q8 := fun k => ok_laws_heldLive k P' S' W' H' on' cut' opn' kept' (mkP 1 P') (mkS 1 P' S') (mkW 1 P' S' W') (mkH 1 P' S' W' H') (marksI (1 + sysW P' S' W' H') cut') (marks mBool wBool (1 + sysW P' S' W' H' + cut'.length) opn') (marks mIntL wIntL (1 + sysW P' S' W' H' + cut'.length + opn'.length) kept') 1 (hB'.mono (by decide)) (hS'.mono (by decide)) (by omega) (by omega) rfl rfl rfl rfl rfl rfl rfl
    simp only [mkP, mkS, mkW, mkH] at q7
    simp only [aLive, mkP, mkS, mkW, mkH, marks_len] at q8
    have e5 := marks_len mInsL wInsL P' 1
    have e6 := marks_len mState wState S' (1 + wts wInsL P')
    have e7 := marks_len mItemL wItemL W' (1 + wts wInsL P' + wts wState S')
    have e8 := marks_len mEventL wEventL H' (1 + wts wInsL P' + wts wState S' + wts wItemL W')
    have e12 := marks_len mInt wInt cut' (1 + sysW P' S' W' H')
    have e13 := marks_len mBool wBool opn' (1 + sysW P' S' W' H' + cut'.length)
    have e14 := marks_len mIntL wIntL kept' (1 + sysW P' S' W' H' + cut'.length + opn'.length)
    clear hb hs hB hS hB' hS' c
    (refine fnI [ResultVar.tmp 6] Tryz.func12 ?_; conv => whnf)
    repeat' ((with_reducible (first | refine sCall.of (q0 _) ?_|refine sCall.of (q1 _) ?_|refine sCall.of (q2 _) ?_|refine sCall.of (q3 _) ?_|refine sCall.of (q4 _) ?_|refine sCall.of (q5 _) ?_|refine sCall.of (q6 _) ?_|refine sCall.of (q7 _) ?_|refine sCall.of (q8 _) ?_|refine st18 ?_|refine fG.split (fun _ => ?_) (fun _ => ?_)|refine fG.bool (fun _ => ?_) (fun _ => ?_)|refine gD 10 [(0, 2)] ?_)) <;> (try (conv => whnf)))

end Go.Proofs.YtlobpiebphnkiaaGreat.Abs
namespace Go.Proofs.YtlobpiebphnkiaaGreat.Abs
open Go
set_option linter.unusedVariables false

def Opens (P : Program) (t : TypeId) (n : Nat) (M : List T → Prop) : Prop :=
  ∀ (H : Type) (enc : TypeId × Value → H) (w : World) (base : Nat) (sp : Nat → Bool) (held : Bool) (fuel : Nat) (cs : List Value) (x : DataW H × List MemPlace),
    DataW.trod enc P w base sp held fuel t cs = some x → (∀ m ∈ x.1.weights P t, m ≤ reachBytes) →
      cs.length = n ∧ ∃ ts : List T, ts.length = n ∧ M ts ∧ ∀ (i : Nat) v t', cs[i]? = some v → ts[i]? = some t' → Ow (fun k => k < w.heap.size) w 0 v t' none_
theorem Opens.mono {P : Program} {t : TypeId} {n : Nat} {M M' : List T → Prop} (h : Opens P t n M) (hm : ∀ ts, M ts → M' ts) : Opens P t n M' := by
  intro H enc w base sp held fuel cs x hx hw
  obtain ⟨h1, ts, h2, h3, h4⟩ := h H enc w base sp held fuel cs x hx hw
  exact ⟨h1, ts, h2, hm _ h3, h4⟩
theorem one_ow {w : World} {v0 : Value} {t0 : T} (h : Ow (fun k => k < w.heap.size) w 0 v0 t0 none_) : ∀ (i : Nat) v t', [v0][i]? = some v → [t0][i]? = some t' → Ow (fun k => k < w.heap.size) w 0 v t' none_ := by
  rintro (_ | i) v t' h1 h2
  · simp at h1 h2; subst h1; subst h2; exact h
  · simp at h1
theorem Opens.int {P : Program} {t : TypeId} {k : IntKind} (ht : P.underlying t = some (.int k)) : Opens P t 1 (fun ts => ∃ n, (Lit.int k n).wf = true ∧ ts = [.v (.int k n)]) := by
  intro H enc w base sp held fuel cs x hx hw
  obtain ⟨n, rfl, rfl, h⟩ := DataW.trod_int ht hx
  exact ⟨rfl, _, rfl, ⟨n, h, rfl⟩, one_ow (.v rfl)⟩
theorem Opens.bool {P : Program} {t : TypeId} (ht : P.underlying t = some .bool) : Opens P t 1 (fun ts => ∃ b, ts = [.v (.bool b)]) := by
  intro H enc w base sp held fuel cs x hx hw
  obtain ⟨b, rfl, rfl⟩ := DataW.trod_bool ht hx
  exact ⟨rfl, _, rfl, ⟨b, rfl⟩, one_ow (.v rfl)⟩
theorem Opens.str {P : Program} {t : TypeId} (ht : P.underlying t = some .string) : Opens P t 1 (fun ts => ∃ s : ByteArray, s.size ≤ reachBytes ∧ ts = [.v (.string s)]) := by
  intro H enc w base sp held fuel cs x hx hw
  obtain ⟨s, rfl, rfl, h⟩ := DataW.trod_string ht hx
  refine ⟨rfl, _, rfl, ⟨s, ?_, rfl⟩, one_ow (.v rfl)⟩
  have := hw s.data.toList.length (by simp [DataW.weights])
  simpa using this
def Parts (P : Program) : List Field → Nat → Nat → (List T → Prop) → Prop
  | [], _, n, M => n = 0 ∧ M []
  | f :: r, off, n, M => f.offset = off ∧ ∃ n1 n2 M1 M2, P.cellsOf f.type = n1 ∧ Opens P f.type n1 M1 ∧ Parts P r (off + n1) n2 M2 ∧ n = n1 + n2 ∧ ∀ a b, M1 a → M2 b → M (a ++ b)
theorem weights_part {P : Program} {H : Type} {ts : List TypeId} : ∀ {ds : List (DataW H)} {R : Nat}, (∀ m ∈ DataW.weightsEach P ts ds, m ≤ R) → ∀ (j : Nat) t d, ts[j]? = some t → ds[j]? = some d → ∀ m ∈ d.weights P t, m ≤ R :=
  fun h j t d ht hd m hm => h m (DataW.weights_mem_each ht hd m hm)
theorem Parts.opens {P : Program} {H : Type} {enc : TypeId × Value → H} {w : World} {base : Nat} {sp : Nat → Bool} {held : Bool} {fuel : Nat} {cs : List Value} : ∀ {fs : List Field} {off n : Nat} {M : List T → Prop}, Parts P fs off n M → off + n = cs.length →
    (∀ f ∈ fs, ∃ x, DataW.trod enc P w base sp held fuel f.type ((cs.drop f.offset).take (P.cellsOf f.type)) = some x ∧ (∀ m ∈ x.1.weights P f.type, m ≤ reachBytes)) →
    ∃ ts : List T, ts.length = n ∧ M ts ∧ ∀ (i : Nat) v t', cs[off + i]? = some v → ts[i]? = some t' → Ow (fun k => k < w.heap.size) w 0 v t' none_ := by
  intro fs
  induction fs with
  | nil =>
    intro off n M h hl _
    exact ⟨[], h.1.symm, h.2, fun i v t' _ h2 => by simp at h2⟩
  | cons f r ih =>
    intro off n M h hl hx
    obtain ⟨rfl, n1, n2, M1, M2, h1, h2, h3, rfl, h4⟩ := h
    obtain ⟨x, hx1, hx2⟩ := hx f (by simp)
    rw [h1] at hx1
    obtain ⟨k1, t1, k2, k3, k4⟩ := h2 H enc w base sp held fuel _ x hx1 hx2
    obtain ⟨t2, q1, q2, q3⟩ := ih h3 (by omega) fun g hg => hx g (by simp [hg])
    refine ⟨t1 ++ t2, by simp [k2, q1], h4 _ _ k3 q2, fun i v t' hv ht' => ?_⟩
    by_cases hi : i < n1
    · rw [List.getElem?_append_left (by omega)] at ht'
      exact k4 i v t' (by rw [List.getElem?_take, if_pos hi, List.getElem?_drop]; exact hv) ht'
    · rw [List.getElem?_append_right (by omega), k2] at ht'
      exact q3 (i - n1) v t' (by rw [show f.offset + n1 + (i - n1) = f.offset + i by omega]; exact hv) ht'
theorem Opens.struct {P : Program} {t : TypeId} {fs : Array Field} {n : Nat} {M : List T → Prop} (ht : P.underlying t = some (.struct fs)) (hc : P.cellsOf t = n) (hp : Parts P fs.toList 0 n M) : Opens P t n M := by
  intro H enc w base sp held fuel cs x hx hw
  obtain ⟨xs, m, _, rfl, hl, hlen, hf⟩ := DataW.trod_struct ht hx
  have hl' : cs.length = n := hl.trans hc
  obtain ⟨ts, h1, h2, h3⟩ := hp.opens (enc := enc) (w := w) (base := base) (sp := sp) (held := held) (fuel := m) (cs := cs) (by omega) (by
    intro f hfm
    obtain ⟨i, hi⟩ := List.getElem?_of_mem hfm
    have hi' : fs[i]? = some f := by simpa using hi
    have hlt : i < xs.length := by rw [hlen]; exact (Array.getElem?_eq_some_iff.1 hi').1
    have hy : xs[i]? = some xs[i] := List.getElem?_eq_getElem hlt
    refine ⟨xs[i], (hf i f hi').trans hy, ?_⟩
    refine weights_part (ts := fs.toList.map (·.type)) (ds := xs.map (·.1)) ?_ i f.type xs[i].1 (by simp [hi']) (by rw [List.getElem?_map, hy]; rfl)
    intro q hq
    refine hw q ?_
    simpa [DataW.weights, ht] using hq)
  exact ⟨hl', ts, h1, h2, fun i v t' hv ht' => h3 i v t' (by simpa using hv) ht'⟩
def IntsM (n : Nat) (ts : List T) : Prop := ∃ zs : List Int, zs.length = n ∧ ts = zs.map fun z => T.v (.int .i64 z)
theorem Parts.nil {P : Program} {off : Nat} : Parts P [] off 0 (IntsM 0) := ⟨rfl, [], rfl, rfl⟩
theorem Parts.int {P : Program} {f : Field} {r : List Field} {off n : Nat} (ho : f.offset = off) (hc : P.cellsOf f.type = 1) (ht : P.underlying f.type = some (.int .i64)) (h : Parts P r (off + 1) n (IntsM n)) :
    Parts P (f :: r) off (1 + n) (IntsM (1 + n)) := by
  refine ⟨ho, 1, n, _, _, hc, Opens.int ht, h, rfl, ?_⟩
  rintro a b ⟨z, _, rfl⟩ ⟨zs, hz, rfl⟩
  exact ⟨z :: zs, by simp [hz]; omega, rfl⟩
def Ms : List (List T → Prop) → List T → Prop
  | [], ts => ts = []
  | M :: r, ts => ∃ a b, ts = a ++ b ∧ M a ∧ Ms r b
theorem Parts.mnil {P : Program} {off : Nat} : Parts P [] off 0 (Ms []) := ⟨rfl, rfl⟩
theorem Parts.mcons {P : Program} {f : Field} {r : List Field} {off n1 n : Nat} {M : List T → Prop} {l : List (List T → Prop)} (ho : f.offset = off) (hc : P.cellsOf f.type = n1) (ht : Opens P f.type n1 M) (h : Parts P r (off + n1) n (Ms l)) :
    Parts P (f :: r) off (n1 + n) (Ms (M :: l)) :=
  ⟨ho, n1, n, _, _, hc, ht, h, rfl, fun a b ha hb => ⟨a, b, rfl, ha, hb⟩⟩

theorem rows_map {α : Type} {f : α → List T} {p : α → Prop} {rows : List (List T)} (h : ∀ r ∈ rows, ∃ x, p x ∧ r = f x) : ∃ l : List α, rows = l.map f ∧ ∀ x ∈ l, p x := by
  induction rows with
  | nil => exact ⟨[], rfl, by simp⟩
  | cons r rows ih =>
    obtain ⟨x, hx, rfl⟩ := h r (by simp)
    obtain ⟨l, rfl, hl⟩ := ih fun q hq => h q (by simp [hq])
    exact ⟨x :: l, rfl, by simpa using ⟨hx, hl⟩⟩
theorem weights_all {P : Program} {H : Type} {e : TypeId} {d : DataW H} : ∀ {l : List (DataW H)}, d ∈ l → ∀ m ∈ d.weights P e, m ∈ DataW.weightsAll P e l
  | a :: r, hd, m, hm => by
    simp only [DataW.weightsAll, List.mem_append]
    rcases List.mem_cons.1 hd with rfl | hd
    · exact .inl hm
    · exact .inr (weights_all hd m hm)
theorem Opens.slice {P : Program} {t e : TypeId} {sz B : Nat} {M : List T → Prop} (ht : P.underlying t = some (.slice e)) (hc : P.cellsOf e = sz) (hB : P.bytesOf e = B) (hsz : 0 < sz) (hE : Opens P e sz M) :
    Opens P t 1 (fun ts => ∃ rows, ts = [.sl sz rows] ∧ (∀ x ∈ rows, M x) ∧ rows.length * B ≤ reachBytes) := by
  intro H enc w base sp held fuel cs0 x hx hw
  rcases DataW.trod_slice ht hx with ⟨rfl, _⟩ | ⟨a, len, cap, elems, rest, n, _, rfl, rfl, _, hl, _, hlen, hel, _⟩
  · exact ⟨rfl, _, rfl, ⟨[], rfl, by simp, by simp⟩, one_ow .nil⟩
  · have hw1 : (elems.length + rest.length) * B ≤ reachBytes := by
      have := hw ((elems.length + rest.length) * P.bytesOf e) (by simp [DataW.weights, ht])
      rwa [hB] at this
    have hcell : ∀ i : Nat, ∃ q : List Value × List T, i < len → q.1.length = sz ∧ q.2.length = sz ∧ M q.2 ∧ (∀ j, j < sz → w.cell? ((a.add (i * sz)).add j) = q.1[j]?) ∧
        ∀ (j : Nat) v t', q.1[j]? = some v → q.2[j]? = some t' → Ow (fun k => k < w.heap.size) w 0 v t' none_ := by
      intro i
      by_cases hi : i < len
      · have hy : elems[i]? = some (elems[i]'(by omega)) := List.getElem?_eq_getElem (by omega)
        have h1 := hel i hi
        rw [hy, hc, Option.bind_eq_some_iff] at h1
        obtain ⟨cs, hcs, htr⟩ := h1
        obtain ⟨k1, ts, k2, k3, k4⟩ := hE H enc w base sp held n cs _ htr (by
          intro m hm
          refine hw m ?_
          have := weights_all (P := P) (e := e) (l := elems.map (·.1)) (List.mem_map_of_mem (List.getElem_mem (by omega : i < elems.length))) m hm
          simp [DataW.weights, ht, this])
        obtain ⟨_, g1, g2⟩ := World.cells?_some hcs
        exact ⟨(cs, ts), fun _ => ⟨k1, k2, k3, g2, k4⟩⟩
      · exact ⟨([], []), fun h => absurd h hi⟩
    obtain ⟨c, hc2⟩ := Classical.axiomOfChoice hcell
    have hblk : 0 < len → a.block < w.heap.size := by
      intro h0
      obtain ⟨k1, k2, k3, k4, k5⟩ := hc2 0 h0
      have h1 := k4 0 hsz
      have h2 : (c 0).1[0]? = some ((c 0).1[0]'(by omega)) := List.getElem?_eq_getElem (by omega)
      rw [h2] at h1
      by_cases hlt : a.block < w.heap.size
      · exact hlt
      · unfold World.cell? at h1
        rw [add_block, add_block, Array.getElem?_eq_none (by omega)] at h1
        simp at h1
    have hat : ∀ i j t', cellT ((List.range len).map fun i => (c i).2) i j = some t' → i < len ∧ (c i).2[j]? = some t' := by
      intro i j t' h'
      unfold cellT at h'
      rw [List.getElem?_map] at h'
      by_cases hi : i < len
      · have hr : (List.range len)[i]? = some i := by simp [hi]
        rw [hr] at h'
        exact ⟨hi, by simpa using h'⟩
      · have hr : (List.range len)[i]? = none := by simp; omega
        rw [hr] at h'
        simp at h'
    refine ⟨rfl, [.sl sz ((List.range len).map fun i => (c i).2)], rfl, ⟨_, rfl, ?_, ?_⟩, one_ow ?_⟩
    · intro x hx
      obtain ⟨i, hi, rfl⟩ := List.mem_map.1 hx
      exact (hc2 i (List.mem_range.1 hi)).2.2.1
    · rw [List.length_map, List.length_range]
      exact Nat.le_trans (Nat.mul_le_mul_right _ (by omega)) hw1
    · have hro := Ow.ro (Z := fun k => k < w.heap.size) (w := w) (a := a) (c := cap) (rows := (List.range len).map fun i => (c i).2) (sz := sz) (fun i j => (c i).1.getD j undef) (by simpa using hl)
        (by
          intro r hr
          obtain ⟨i, hi, rfl⟩ := List.mem_map.1 hr
          exact (hc2 i (List.mem_range.1 hi)).2.1) (fun hne => hblk (by
            rcases Nat.eq_zero_or_pos len with h0 | h0
            · subst h0; exact absurd rfl hne
            · exact h0))
        (by
          intro i j t' h'
          obtain ⟨hi, hj⟩ := hat i j t' h'
          obtain ⟨k1, k2, k3, k4, k5⟩ := hc2 i hi
          have hj' : j < sz := by rw [← k2]; exact (List.getElem?_eq_some_iff.1 hj).1
          rw [← Addr.add_add, k4 j hj', List.getElem?_eq_getElem (by omega)]
          simp [List.getD, show j < (c i).1.length by omega])
        (by
          intro i j t' h'
          obtain ⟨hi, hj⟩ := hat i j t' h'
          obtain ⟨k1, k2, k3, k4, k5⟩ := hc2 i hi
          have hj' : j < sz := by rw [← k2]; exact (List.getElem?_eq_some_iff.1 hj).1
          refine k5 j _ t' ?_ hj
          rw [List.getElem?_eq_getElem (by omega)]
          simp [List.getD, show j < (c i).1.length by omega])
      simpa using hro
theorem Opens.one {P : Program} {t : TypeId} {M : List T → Prop} (h : Opens P t 1 M) {H : Type} {enc : TypeId × Value → H} {w : World} {base : Nat} {sp : Nat → Bool} {held : Bool} {v : Value} {d : DataW H} {ps : List MemPlace}
    (hv : v.cells.toList = [v]) (hd : DataW.Trod enc P w base sp held t v d ps) (hw : ∀ m ∈ d.weights P t, m ≤ reachBytes) : ∃ t', M [t'] ∧ Ow (fun k => k < w.heap.size) w 0 v t' none_ := by
  obtain ⟨fuel, hf⟩ := hd
  rw [hv] at hf
  obtain ⟨_, ts, h1, h2, h3⟩ := h H enc w base sp held fuel _ _ hf hw
  obtain ⟨t', rfl⟩ := List.length_eq_one_iff.1 h1
  exact ⟨t', h2, h3 0 v t' rfl rfl⟩
end Go.Proofs.YtlobpiebphnkiaaGreat.Abs
namespace Go.Proofs.YtlobpiebphnkiaaGreat.Abs
open Go Go.RowKit
set_option linter.unusedVariables false

theorem Ow.slice_inv {Z : Fp} {w : World} {v : Value} {sz : Nat} {rows : List (List T)} {F : Fp} {l : Nat} (h : Ow Z w l v (.sl sz rows) F) :
    (v = .slice none 0 0 ∧ rows = []) ∨ ∃ a c, v = .slice (some a) rows.length c ∧ rows.length ≤ c := by
  cases h with
  | nil => exact .inl ⟨rfl, rfl⟩
  | ro xs hc hs hz hx ht => exact .inr ⟨_, _, rfl, hc⟩
  | own xs F hb hfr hc hoff hmax hs hx ht hF hnb hd => exact .inr ⟨_, _, rfl, hc⟩
theorem arg_slice {Z : Fp} {w : World} {ob : Objs} {ρ : Nat → Value} {o sz : Nat} {rows : List (List T)} {v : Value} (h1 : ob o = ⟨0, 0, false, .tree 0 (.sl sz rows)⟩) (h2 : ρ o = v) (h3 : Ow Z w 0 v (.sl sz rows) none_) :
    AVR w ob ρ (.h o 0 0 [] sz 0 rows.length) v := by
  have hin := h3.slice_inv
  refine .h ?_ ?_ fun _ => ?_
  · rw [h1]; exact ⟨Nat.le_refl _, fun _ h => absurd rfl h⟩
  · rcases hin with ⟨rfl, rfl⟩ | ⟨a, c, rfl, hc⟩
    · exact ⟨none, 0, rfl, Nat.le_refl _, fun _ => rfl⟩
    · exact ⟨some a, c, rfl, hc, fun h => by cases h⟩
  · rw [h1, h2]
    refine ⟨fun cells h => by (dsimp only at h; cases h), fun lvl t hc => ?_⟩
    dsimp only at hc
    cases hc
    refine ⟨v, rows, .here, by omega, ?_⟩
    rcases hin with ⟨rfl, rfl⟩ | ⟨a, c, rfl, hc⟩
    · exact .inl ⟨rfl, rfl, rfl, rfl⟩
    · refine .inr ⟨a, rows.length, c, 0, c, rfl, ?_, hc, by omega, Nat.le_refl _, fun _ => rfl⟩
      rw [Nat.zero_mul]
      cases a with
      | mk b off s => cases s <;> simp [Addr.add]
theorem FnOk.outside {P : Program} {W : World} {f : FuncId} {args : List AV} {conts : List Cont} {r : Res} (h : FnOk P f args conts r) (vals : List Value)
    (ho : ∀ (i : Nat) c, conts[i]? = some c → ∃ t v, c = .tree 0 t ∧ vals[i]? = some v ∧ Ow (fun k => k < W.heap.size) W 0 v t none_) (vs : Array Value) (hs : vs.size = args.length)
    (hA : ∀ (i : Nat) x, args[i]? = some x → AVR W (obIn conts) (fun o => vals.getD (o - 1000000) undef) x (vs.getD i undef)) :
    Calls P f vs W (fun e w' => ∃ v, e = .returned v ∧ Below W.heap.size W w' ∧ ∃ ob' ρ', AVR w' ob' ρ' r.v v) := by
  have hI : OInv W none_ (obIn conts) W (fun o => vals.getD (o - 1000000) undef) (fun _ => none_) (fun k => k < W.heap.size) := by
    refine ⟨Keep.refl _ _, fun k hk _ => hk, fun k hk => hk, fun o k hk => hk.elim, fun o o' k hk => hk.elim, fun o k hk => hk.elim, fun o => ?_⟩
    unfold ObOk
    by_cases h1 : 1000000 ≤ o
    · simp only [obIn, h1, if_true]
      cases hc : conts[o - 1000000]? with
      | none =>
        have e : conts.getD (o - 1000000) .dead = .dead := by simp [List.getD, hc]
        rw [e]
        exact fun k hk => hk
      | some c =>
        obtain ⟨t, v, rfl, hv, how⟩ := ho _ _ hc
        have e : conts.getD (o - 1000000) .dead = .tree 0 t := by simp [List.getD, hc]
        have e2 : vals.getD (o - 1000000) undef = v := by simp [List.getD, hv]
        rw [e, e2]
        exact how
    · simp only [obIn, h1, if_false]
      exact fun k hk => hk
  have hr := h.run W none_ _ _ _ vs hI (fun k _ hk => hk) hs hA
  intro cs
  obtain ⟨e, w', fr, hR, hC, hfn, hl⟩ := hr cs
  refine ⟨e, w', fr, ?_, hC, hfn, hl⟩
  cases e with
  | returned v =>
    obtain ⟨ρ', φ', Z', hst, hav⟩ := hR
    exact ⟨v, rfl, ⟨hst.inv.keep.os, hst.inv.keep.tape, hst.inv.keep.output, hst.inv.keep.size, fun k hk => hst.inv.keep.block k hk id⟩, _, _, hav⟩
  | _ => exact hR.elim
theorem AVR.bool_inv {w : World} {ob : Objs} {ρ : Nat → Value} {b : Bool} {v : Value} (h : AVR w ob ρ (.s (.bool b)) v) : v = .bool b := by
  cases h; rfl
end Go.Proofs.YtlobpiebphnkiaaGreat.Abs
