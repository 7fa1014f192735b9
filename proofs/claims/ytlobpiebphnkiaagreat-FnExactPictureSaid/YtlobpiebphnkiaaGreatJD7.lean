/- FnExactPicture returns true for every input, and leaves its arguments as they read. Conditions: none beside the row's own. -/
import Derived.ChangeSame
import Derived.SizedLaws
import Derived.DataReads
import Derived.Carry
import Derived.WideShapes
import Derived.KernelRfl
import Derived.Test.YtlobpiebphnkiaaGreatRows
import Derived.WalkKit
import Derived.ProofKit
import Derived.OpenShut
import Derived.ShutString
import Derived.ChangeOld
import Derived.Below
import Derived.Test.YtlobpiebphnkiaaGreatJD6
namespace Go.Proofs.YtlobpiebphnkiaaGreat.Abs
open Go Go.Proofs
set_option linter.unusedVariables false
set_option linter.unusedSimpArgs false
attribute [local irreducible] callE
def mBool (m : Int) (x : Bool) : Bool := decide (m.tmod 3 = 0)
def wBool (x : Bool) : Nat := 1
theorem wts_wBool (l : List Bool) : wts wBool l = l.length := (wts_const 1 l).trans (Nat.one_mul _)
def mIntL (m : Int) (x : List Int) : List Int := marks mInt wInt m x
def wIntL (x : List Int) : Nat := x.length
theorem ok_laws_markBoolS (k : Nat) (l : List Bool) (m : Int) (hl : l.length ≤ 100000000000) (h0 : 0 ≤ m) (h1 : m ≤ 100000000000) : callE PR C (k + 1) 177 [.h 1000000 0 0 [] 1 0 l.length, i64 m] [tBool9 l] = some ⟨i64 (m + l.length), [], [some (tBool9 (marks mBool wBool m l))]⟩ := by
  (refine fnI [ResultVar.tmp 4] Tryz.func177 ?_; conv => whnf)
  repeat' ((with_reducible (first | refine st17 ?_|refine fG.split (fun _ => ?_) (fun _ => ?_)|refine fG.bool (fun _ => ?_) (fun _ => ?_))) <;> (try (conv => whnf)))
  refine loop_rule (ι := TM Bool) (fun x => [(0, .h 1000000 0 0 [] 1 0 l.length), (1, i64 x.m), (5, i64 (x.j : Nat))])
    (fun x => [(1000000, ⟨0, x.g, x.d, tBool9 x.l⟩)])
    (fun x => l.length - x.j) (fun x => x.j ≤ l.length ∧ x.l = half mBool wBool m l x.j ∧ x.m = m + x.j) ⟨0, m, l, 0, false⟩ fitOk ⟨Nat.zero_le _, (half_zero _ _ m l).symm, by simp⟩ (by simp [C]; omega) ?_
  rintro ⟨j, n, out, g, d⟩ sl ob ⟨hj, hout, hn⟩
  dsimp only at hj hout hn
  have hlen : out.length = l.length := by rw [hout, half_len]
  have hz : n.tmod 3 = n.tmod 3 := rfl
  (try dsimp only [cond_true, cond_false])
  (conv => whnf)
  repeat' ((with_reducible (first | refine sZ.eq (hz) ?_|refine st17 ?_|refine fG.split (fun _ => ?_) (fun _ => ?_)|refine fG.bool (fun _ => ?_) (fun _ => ?_))) <;> (try (conv => whnf)))
  case' refine_1 h =>
    refine ⟨⟨⟨j + 1, n + 1, out.set j (mBool n (rd out j)), _, _⟩, fitOk, ?_, ?_⟩⟩
    · refine ⟨by show j + 1 ≤ _; omega, ?_, by show _ = _; push_cast; omega⟩
      show _ = _
      rw [← half_set _ _ m l j (by omega), hout, hn]
      simp only [wts_wBool, List.length_take, mBool, show min j l.length = j by omega]
    · show l.length - (j + 1) < l.length - j; omega
  case refine_2 h =>
    have : j = l.length := by omega
    rw [hout, hn, this, half_all]
theorem ok_laws_markIntSS (k : Nat) (l : List (List Int)) (m : Int) (hl : l.length ≤ 100000000000) (h0 : 0 ≤ m) (h1 : m + wts wIntL l ≤ 10000000000) (hx : ∀ j : Nat, j < l.length → (rd l j).length ≤ 10000000000) :
    callE PR C (k + 2) 178 [.h 1000000 0 0 [] 1 0 l.length, i64 m] [tIntSS9 l] = some ⟨i64 (m + wts wIntL l), [], [some (tIntSS9 (marks mIntL wIntL m l))]⟩ := by
  (refine fnI [ResultVar.tmp 4] Tryz.func178 ?_; conv => whnf)
  repeat' ((with_reducible (first | refine st17 ?_|refine fG.split (fun _ => ?_) (fun _ => ?_)|refine fG.bool (fun _ => ?_) (fun _ => ?_))) <;> (try (conv => whnf)))
  refine loop_rule (ι := TM (List Int)) (fun x => [(0, .h 1000000 0 0 [] 1 0 l.length), (1, i64 x.m), (5, i64 (x.j : Nat))])
    (fun x => [(1000000, ⟨0, x.g, x.d, tIntSS9 x.l⟩)])
    (fun x => l.length - x.j) (fun x => x.j ≤ l.length ∧ x.l = half mIntL wIntL m l x.j ∧ x.m = m + wts wIntL (l.take x.j)) ⟨0, m, l, 0, false⟩ fitOk ⟨Nat.zero_le _, (half_zero _ _ m l).symm, by simp [wts]⟩ (by simp [C]; omega) ?_
  rintro ⟨j, n, out, g, d⟩ sl ob ⟨hj, hout, hn⟩
  dsimp only at hj hout hn
  have hlen : out.length = l.length := by rw [hout, half_len]
  have hn1 : n ≤ 10000000000 := by have := wts_le wIntL l j; omega
  have hn0 : 0 ≤ n := by omega
  have hrd : j < l.length → rd out j = rd l j := fun h => by rw [hout]; exact half_rd _ _ m l j h
  (try dsimp only [cond_true, cond_false])
  (conv => whnf)
  by_cases hjl : j < l.length
  · have hx1 : (rd out j).length ≤ 10000000000 := by rw [hrd hjl]; exact hx j hjl
    have hq := fun k => ok_laws_markIntS' k (rd out j) n (by omega) (by omega) (by omega)
    repeat' ((with_reducible (first | refine sCall.of (hq _) ?_|refine st17 ?_|refine fG.split (fun _ => ?_) (fun _ => ?_)|refine fG.bool (fun _ => ?_) (fun _ => ?_))) <;> (try (conv => whnf)))
    refine ⟨⟨⟨j + 1, n + (rd out j).length, out.set j (mIntL n (rd out j)), _, _⟩, fitOk, ?_, ?_⟩⟩
    · have e := wts_take wIntL l j hjl
      refine ⟨by show j + 1 ≤ _; omega, ?_, ?_⟩
      · show _ = _
        rw [← half_set _ _ m l j hjl, hrd hjl, hout, hn]
      · show _ = _
        rw [e, hrd hjl]
        simp only [wIntL]
        omega
    · show l.length - (j + 1) < l.length - j; omega
  · have : j = l.length := by omega
    repeat' ((with_reducible (first | refine st17 ?_|refine fG.split (fun _ => ?_) (fun _ => ?_)|refine fG.bool (fun _ => ?_) (fun _ => ?_))) <;> (try (conv => whnf)))
    rw [hout, hn, this, half_all, List.take_length]
def shotW (cut : List Int) (opn : List Bool) (kept : List (List Int)) : Nat := cut.length + (opn.length + wts wIntL kept)
theorem shotW_le (cut : List Int) (opn : List Bool) (kept : List (List Int)) : shotW cut opn kept ≤ shotSz cut opn kept := by
  have : wts wIntL kept = wts List.length kept := rfl
  unfold shotW shotSz
  omega
theorem ok_laws_markShot (k : Nat) (on : Bool) (cut : List Int) (opn : List Bool) (kept : List (List Int)) (m : Int) (hb : ShotB 1048576 cut opn kept) (h0 : 0 ≤ m) (h1 : m + shotW cut opn kept ≤ 10000000000) :
    callE PR C (k + 3) 91 [aShot 0 on cut opn kept, i64 m] [tI9 cut, tBool9 opn, tIntSS9 kept] = some ⟨i64 (m + shotW cut opn kept), [], [some (tI9 (marksI m cut)), some (tBool9 (marks mBool wBool (m + cut.length) opn)), some (tIntSS9 (marks mIntL wIntL (m + cut.length + opn.length) kept))]⟩ := by
  rw [show m + ((shotW cut opn kept : Nat) : Int) = m + cut.length + opn.length + wts wIntL kept by simp only [shotW]; omega]
  unfold shotW at h1
  have b1 := hb.c
  have b2 := hb.o
  have b3 := hb.k
  have q1 := fun k => ok_laws_markIntS9 k cut m (by omega) h0 (by omega)
  have q2 := fun k => ok_laws_markBoolS k opn (m + cut.length) (by omega) (by omega) (by omega)
  have q3 := fun k => ok_laws_markIntSS k kept (m + cut.length + opn.length) (by omega) (by omega) (by omega) (fun j hj => by have := hb.kk j hj; omega)
  have e1 := marks_len mInt wInt cut m
  have e2 := marks_len mBool wBool opn (m + cut.length)
  have e3 := marks_len mIntL wIntL kept (m + cut.length + opn.length)
  (refine fnI [ResultVar.tmp 4] Tryz.func91 ?_; conv => whnf)
  repeat' ((with_reducible (first | refine sCall.of (q1 _) ?_|refine sCall.of (q2 _) ?_|refine sCall.of (q3 _) ?_|refine st17 ?_|refine fG.split (fun _ => ?_) (fun _ => ?_)|refine fG.bool (fun _ => ?_) (fun _ => ?_))) <;> (try (conv => whnf)))
theorem ok_laws_markLive (k : Nat) (P : List (List Ins)) (S : List State) (W : List (List Item)) (H : List (List Event)) (on : Bool) (cut : List Int) (opn : List Bool) (kept : List (List Int)) (m : Int) (hb : SysB 1048576 P S W H) (hs : ShotB 1048576 cut opn kept) (h0 : 0 ≤ m) (h1 : m + sysW P S W H + shotW cut opn kept ≤ 1000000000) :
    callE PR C (k + 4) 33 [aLive 0 P S W H on cut opn kept, i64 m] [tInsSS9 P, tStateS9 S, tItemSS9 W, tEventSS9 H, tI9 cut, tBool9 opn, tIntSS9 kept] =
      some ⟨i64 (m + sysW P S W H + shotW cut opn kept), [], [some (tInsSS9 (mkP m P)), some (tStateS9 (mkS m P S)), some (tItemSS9 (mkW m P S W)), some (tEventSS9 (mkH m P S W H)), some (tI9 (marksI (m + sysW P S W H) cut)), some (tBool9 (marks mBool wBool (m + sysW P S W H + cut.length) opn)), some (tIntSS9 (marks mIntL wIntL (m + sysW P S W H + cut.length + opn.length) kept))]⟩ := by
  have q1 := fun k => ok_laws_markSys k P S W H m hb h0 (by omega)
  have q2 := fun k => ok_laws_markShot k on cut opn kept (m + sysW P S W H) hs (by omega) (by omega)
  have e1 : (mkP m P).length = P.length := marks_len _ _ _ _
  have e2 : (mkS m P S).length = S.length := marks_len _ _ _ _
  have e3 : (mkW m P S W).length = W.length := marks_len _ _ _ _
  have e4 : (mkH m P S W H).length = H.length := marks_len _ _ _ _
  have e5 := marks_len mInt wInt cut (m + sysW P S W H)
  have e6 := marks_len mBool wBool opn (m + sysW P S W H + cut.length)
  have e7 := marks_len mIntL wIntL kept (m + sysW P S W H + cut.length + opn.length)
  (refine fnI [ResultVar.tmp 4] Tryz.func33 ?_; conv => whnf)
  repeat' ((with_reducible (first | refine sCall.of (q1 _) ?_|refine sCall.of (q2 _) ?_|refine st17 ?_|refine fG.split (fun _ => ?_) (fun _ => ?_)|refine fG.bool (fun _ => ?_) (fun _ => ?_))) <;> (try (conv => whnf)))
theorem shotDone_facts {P : List (List Ins)} {S : List State} {W : List (List Item)} {H : List (List Event)} {on : Bool} {cut : List Int} {opn : List Bool} {kept : List (List Int)} (h : shotDone P S W H on cut opn kept = true) :
    sysOk P S W H = true ∧ FOk H cut ∧ kept.length = P.length * P.length := by
  simp only [shotDone, Bool.and_eq_true, Bool.not_eq_true', List.any_eq_false, decide_eq_true_eq] at h
  obtain ⟨h1, h2, h3, h4⟩ := h
  obtain ⟨f1, f2, f3, f4, f5, _⟩ := liveOk_facts h1
  have hI := (sysOk_facts f1).1
  have hHl := hI.h
  refine ⟨f1, ⟨by omega, fun q hq => ?_⟩, f4⟩
  have h5 := f5 q (by omega)
  have h6 := h3 (rd cut q) (rd_mem (by omega))
  omega
def picOk (W : List (List Item)) (kept : List (List Int)) : Bool := allBelow W.length fun i => decide (numbersOf (rd W i) = rd kept i)
def pictureIs (P : List (List Ins)) (S : List State) (W : List (List Item)) (H : List (List Event)) (on : Bool) (cut : List Int) (opn : List Bool) (kept : List (List Int)) : Sys × Bool :=
  if shotDone P S W H on cut opn kept = true then (if wholeB H cut = true ∧ waysFit (cutH H cut) P.length = true then (if picOk (waysOf (cutH H cut) P.length) kept = true then (atSys P (cutH H cut), true) else (⟨[], [], [], []⟩, false)) else (⟨[], [], [], []⟩, false)) else (⟨[], [], [], []⟩, false)
def sysResB (X : Sys) (t : Bool) (b : List (Option Cont)) : Res := ⟨.tu [nSys 0 X.progs X.states X.ways X.hist, bl t], [tInsSS9 X.progs, tStateS9 X.states, tItemSS9 X.ways, tEventSS9 X.hist], b⟩
theorem waysFit_len {H : List (List Event)} {n : Nat} (h : waysFit H n = true) {i : Nat} (hi : i < n * n) : (rd (waysOf H n) i).length ≤ 12 := by
  have hn : 0 < n := by
    rcases Nat.eq_zero_or_pos n with e | e
    · subst e; omega
    · exact e
  have h1 := allBelow_eq.1 (allBelow_eq.1 h (i / n) (Nat.div_lt_of_lt_mul (by omega))) (i % n) (Nat.mod_lt _ hn)
  unfold waysOf
  rw [rd_range _ hi]
  simpa [wayOf] using h1
set_option maxRecDepth 20000 in
set_option maxHeartbeats 8000000 in
theorem ok_impl_Picture (k : Nat) (P : List (List Ins)) (S : List State) (W : List (List Item)) (H : List (List Event)) (on : Bool) (cut : List Int) (opn : List Bool) (kept : List (List Int)) (hb : SysB 1000000000 P S W H) (hs : ShotB 1000000000 cut opn kept) :
    callE PR C (k + 15) 58 [aLive 0 P S W H on cut opn kept] [tInsSS P, tStateS S, tItemSS W, tEventSS H, tI cut, tBool opn, tIntSS kept] = some (sysResB (pictureIs P S W H on cut opn kept).1 (pictureIs P S W H on cut opn kept).2 [none, none, none, none, none, none, none]) := by
  have q1 := fun k => ok_impl_ShotDone k P S W H on cut opn kept (hb.mono (by decide)) ⟨by have := hs.c; omega, by have := hs.o; omega, by have := hs.k; omega, fun j hj => by have := hs.kk j hj; omega⟩
  unfold pictureIs
  cases e : shotDone P S W H on cut opn kept with
  | false =>
    simp only [e] at q1
    rw [if_neg (by decide)]
    (refine fnI [ResultVar.cell 2 42, ResultVar.tmp 3] Tryz.func58 ?_; conv => whnf)
    repeat' ((with_reducible (first | refine sCall.of (q1 _) ?_|refine st17 ?_|refine fG.split (fun _ => ?_) (fun _ => ?_)|refine fG.bool (fun _ => ?_) (fun _ => ?_)|refine gD 9 [(1, 4), (1, 7)] ?_)) <;> (try (conv => whnf)))
    all_goals rfl
  | true =>
    simp only [e] at q1
    rw [if_pos rfl]
    obtain ⟨f1, f2, f3⟩ := shotDone_facts e
    obtain ⟨hI, hP, hS, h200⟩ := sysOk_facts f1
    have hN := hI.n
    have hHl := hI.h
    have q2 := fun k => ok_impl_At k P S W H cut hb f1 f2
    by_cases c1 : wholeB H cut = true ∧ waysFit (cutH H cut) P.length = true
    · simp only [c1, and_self, if_true, atRes] at q2 ⊢
      have hfit := fun i hi => waysFit_len c1.2 (i := i) hi
      have hWl := waysOf_len (cutH H cut) P.length
      have hnn : P.length * P.length ≤ 4 * 4 := Nat.mul_le_mul hN.2 hN.2
      generalize cutH H cut = H' at *
      generalize hWe : waysOf H' P.length = W' at *
      generalize hSe : stsOf P H' = S' at *
      (refine fnI [ResultVar.cell 2 42, ResultVar.tmp 3] Tryz.func58 ?_; conv => whnf)
      repeat' ((with_reducible (first | refine sCall.of (q1 _) ?_|refine sCall.of (q2 _) ?_|refine st17 ?_|refine fG.split (fun _ => ?_) (fun _ => ?_)|refine fG.bool (fun _ => ?_) (fun _ => ?_)|refine gD 9 [(1, 4), (1, 7)] ?_)) <;> (try (conv => whnf)))
      refine loop_rule (ι := Nat) (fun i => [(1, .pt 1 1 0 [] 0 0), (2, .pt 2 1 0 [] 0 0), (4, .pt 4 1 0 [] 0 0), (25, .h 30018 1 0 [] 1 0 W'.length), (26, i64 W'.length), (27, i64 (i : Nat))])
        (fun _ => [(1000000, ⟨0, 0, false, tInsSS P⟩), (1000001, ⟨0, 0, false, tStateS S⟩), (1000002, ⟨0, 0, false, tItemSS W⟩), (1000003, ⟨0, 0, false, tEventSS H⟩), (1000004, ⟨0, 0, false, tI cut⟩), (1000005, ⟨0, 0, false, tBool opn⟩), (1000006, ⟨0, 0, false, tIntSS kept⟩), (1, ⟨1, 0, false, bLive P S W H on cut opn kept⟩), (2, ⟨1, 0, false, .box [.nl 1, .nl 4, .nl 1, .nl 1]⟩), (4, ⟨1, 0, true, .box [.h 10018 1 0 [] 1 0 P.length, .h 20018 1 0 [] 4 0 S'.length, .h 30018 1 0 [] 1 0 W'.length, .h 40018 1 0 [] 1 0 H'.length]⟩), (10018, ⟨1, 0, false, tInsSS9 P⟩), (20018, ⟨1, 0, false, tStateS9 S'⟩), (30018, ⟨1, 0, false, tItemSS9 W'⟩), (40018, ⟨1, 0, false, tEventSS9 H'⟩)])
        (fun i => W'.length - i) (fun i => i ≤ W'.length ∧ ∀ j, j < i → decide (numbersOf (rd W' j) = rd kept j) = true) 0 fitOk ⟨Nat.zero_le _, fun q h => absurd h (Nat.not_lt_zero q)⟩ (by simp [C]; omega) ?_
      clear q1 q2
      rintro i sl ob ⟨hi, hall⟩
      (try dsimp only [cond_true, cond_false])
      (conv => whnf)
      by_cases hil : i < W'.length
      · have hw := hfit i (by omega)
        have hnl := numbers_le (rd W' i)
        have hk := hs.kk i (by omega)
        have q3 := fun k => ok_impl_Numbers k (rd W' i) (by omega)
        have q4 := fun k => ok_Equal_int k (numbersOf (rd W' i)) (rd kept i) (by omega) (by omega)
        cases c2 : decide (numbersOf (rd W' i) = rd kept i) with
        | true =>
          simp only [c2] at q4
          repeat' ((with_reducible (first | refine sCall.of (q3 _) ?_|refine sCall.of (q4 _) ?_|refine st17 ?_|refine fG.split (fun _ => ?_) (fun _ => ?_)|refine fG.bool (fun _ => ?_) (fun _ => ?_)|refine gD 9 [(1, 4), (1, 7)] ?_)) <;> (try (conv => whnf)))
          refine ⟨⟨i + 1, fitOk, ?_, ?_⟩⟩
          · exact ⟨by show i + 1 ≤ _; omega, fun q hq => by rcases Nat.lt_succ_iff_lt_or_eq.1 hq with h | h; exact hall q h; rw [h]; exact c2⟩
          · show W'.length - (i + 1) < W'.length - i; omega
        | false =>
          simp only [c2] at q4
          rw [if_neg (by rw [picOk, allBelow_no (f := fun i => decide (numbersOf (rd W' i) = rd kept i)) hil c2]; decide)]
          repeat' ((with_reducible (first | refine sCall.of (q3 _) ?_|refine sCall.of (q4 _) ?_|refine st17 ?_|refine fG.split (fun _ => ?_) (fun _ => ?_)|refine fG.bool (fun _ => ?_) (fun _ => ?_)|refine gD 9 [(1, 4), (1, 7)] ?_)) <;> (try (conv => whnf)))
          all_goals rfl
      · rw [if_pos (show picOk W' kept = true from allBelow_yes fun j hj => hall j (by omega))]
        unfold atSys
        repeat' ((with_reducible (first | refine st17 ?_|refine fG.split (fun _ => ?_) (fun _ => ?_)|refine fG.bool (fun _ => ?_) (fun _ => ?_)|refine gD 9 [(1, 4), (1, 7)] ?_)) <;> (try (conv => whnf)))
        simp only [sysResB, hWe, hSe] <;> rfl
    · rw [if_neg c1] at q2 ⊢
      simp only [zeroRes] at q2
      (refine fnI [ResultVar.cell 2 42, ResultVar.tmp 3] Tryz.func58 ?_; conv => whnf)
      repeat' ((with_reducible (first | refine sCall.of (q1 _) ?_|refine sCall.of (q2 _) ?_|refine st17 ?_|refine fG.split (fun _ => ?_) (fun _ => ?_)|refine fG.bool (fun _ => ?_) (fun _ => ?_)|refine gD 9 [(1, 4), (1, 7)] ?_)) <;> (try (conv => whnf)))
      all_goals rfl
theorem ok_spec_l8Cut (k : Nat) (P : List (List Ins)) (S : List State) (W : List (List Item)) (H : List (List Event)) (c : List Int) (hc : FOk H c) (hl : ∀ j : Nat, j < H.length → (rd H j).length ≤ 1000000000) (hn : H.length ≤ 1000) (hh : H.length = P.length) :
    callE PR C (k + 2) 248 [aSys 0 P S W H, .h 1000004 0 0 [] 1 0 c.length] [tInsSS P, tStateS S, tItemSS W, tEventSS H, tI c] = some ⟨bl true, [], [none, none, none, none, none]⟩ := by
  have hcl := hc.len
  (refine fnI [ResultVar.tmp 4] Tryz.func248 ?_; conv => whnf)
  repeat' ((with_reducible (first | refine st17 ?_|refine fG.split (fun _ => ?_) (fun _ => ?_)|refine fG.bool (fun _ => ?_) (fun _ => ?_)|refine gDn 6 ?_)) <;> (try (conv => whnf)))
  refine loop_rule (ι := Nat) (fun j => [(1, .h 1000004 0 0 [] 1 0 c.length), (2, .pt 2 1 0 [] 0 0), (5, i64 (j : Nat))])
    (fun _ => [(1000000, ⟨0, 0, false, tInsSS P⟩), (1000001, ⟨0, 0, false, tStateS S⟩), (1000002, ⟨0, 0, false, tItemSS W⟩), (1000003, ⟨0, 0, false, tEventSS H⟩), (1000004, ⟨0, 0, false, tI c⟩), (2, ⟨1, 0, false, bSys P S W H⟩)])
    (fun j => c.length - j) (fun j => j ≤ c.length) 0 fitOk (Nat.zero_le _) (by simp [C]; omega) ?_
  rintro j sl ob hj
  (try dsimp only [cond_true, cond_false])
  (conv => whnf)
  by_cases hjl : j < c.length
  · have hr := hc.rng j (by omega)
    have hlj := hl j (by omega)
    have e4 : (List.map rEvent (rd H j)).length = (rd H j).length := by simp
    have q := fun k => ok_spec_l1In k (rd c j) 0 ((List.map rEvent (rd H j)).length : Int)
    rw [decide_eq_true (by omega)] at q
    repeat' ((with_reducible (first | refine sCall.of (q _) ?_|refine st17 ?_|refine fG.split (fun _ => ?_) (fun _ => ?_)|refine fG.bool (fun _ => ?_) (fun _ => ?_)|refine gDn 6 ?_)) <;> (try (conv => whnf)))
    refine ⟨⟨j + 1, fitOk, ?_, ?_⟩⟩
    · show j + 1 ≤ _; omega
    · show c.length - (j + 1) < c.length - j; omega
  · repeat' ((with_reducible (first | refine st17 ?_|refine fG.split (fun _ => ?_) (fun _ => ?_)|refine fG.bool (fun _ => ?_) (fun _ => ?_)|refine gDn 6 ?_)) <;> (try (conv => whnf)))
theorem ok_spec_CutOk (k : Nat) (P : List (List Ins)) (S : List State) (W : List (List Item)) (H : List (List Event)) (c : List Int) (hb : SysB 10000000000 P S W H) (e : sysOk P S W H = true) (hc : FOk H c) :
    callE PR C (k + 8) 238 [aSys 0 P S W H, .h 1000004 0 0 [] 1 0 c.length] [tInsSS P, tStateS S, tItemSS W, tEventSS H, tI c] = some ⟨bl true, [], [none, none, none, none, none]⟩ := by
  have q1 := fun k => ok_spec_SysOk k P S W H hb
  simp only [e] at q1
  obtain ⟨hI, hP, hS, h200⟩ := sysOk_facts e
  have hN := hI.n
  have hHl := hI.h
  have q2 := fun k => ok_spec_l8Cut k P S W H c hc (fun j hj => by have := h200 j hj; omega) (by omega) hHl
  (refine fnI [ResultVar.tmp 4] Tryz.func238 ?_; conv => whnf)
  repeat' ((with_reducible (first | refine sCall.of (q1 _) ?_|refine sCall.of (q2 _) ?_|refine st17 ?_|refine fG.split (fun _ => ?_) (fun _ => ?_)|refine fG.bool (fun _ => ?_) (fun _ => ?_))) <;> (try (conv => whnf)))
theorem ok_spec_Whole (k : Nat) (P : List (List Ins)) (S : List State) (W : List (List Item)) (H : List (List Event)) (c : List Int) (hb : SysB 10000000000 P S W H) (e : sysOk P S W H = true) (hc : FOk H c) :
    callE PR C (k + 9) 201 [aSys 0 P S W H, .h 1000004 0 0 [] 1 0 c.length] [tInsSS P, tStateS S, tItemSS W, tEventSS H, tI c] = some ⟨bl (wholeB H c), [], [none, none, none, none, none]⟩ := by
  have q1 := fun k => ok_spec_CutOk k P S W H c hb e hc
  obtain ⟨hI, hP, hS, h200⟩ := sysOk_facts e
  have hN := hI.n
  have hHl := hI.h
  have q2 := fun k => ok_spec_l8Whole k P S W H c hc (fun j hj => by have := h200 j hj; omega) (by omega)
  (refine fnI [ResultVar.tmp 4] Tryz.func201 ?_; conv => whnf)
  repeat' ((with_reducible (first | refine sCall.of (q1 _) ?_|refine sCall.of (q2 _) ?_|refine st17 ?_|refine fG.split (fun _ => ?_) (fun _ => ?_)|refine fG.bool (fun _ => ?_) (fun _ => ?_))) <;> (try (conv => whnf)))
theorem ok_spec_At (k : Nat) (P : List (List Ins)) (S : List State) (W : List (List Item)) (H : List (List Event)) (c : List Int) (hb : SysB 1000000000 P S W H) (e : sysOk P S W H = true) (hc : FOk H c) :
    callE PR C (k + 10) 123 [aSys 0 P S W H, .h 1000004 0 0 [] 1 0 c.length] [tInsSS P, tStateS S, tItemSS W, tEventSS H, tI c] =
      some (if wholeB H c = true ∧ waysFit (cutH H c) P.length = true then atRes P (cutH H c) [none, none, none, none, none] else zeroRes [none, none, none, none, none]) := by
  have q1 := fun k => ok_spec_Whole k P S W H c (hb.mono (by decide)) e hc
  cases hw : wholeB H c with
  | false =>
    simp only [hw] at q1
    rw [if_neg (by simp)]
    (refine fnI [ResultVar.cell 4 42, ResultVar.tmp 5] Tryz.func123 ?_; conv => whnf)
    repeat' ((with_reducible (first | refine sCall.of (q1 _) ?_|refine st17 ?_|refine fG.split (fun _ => ?_) (fun _ => ?_)|refine fG.bool (fun _ => ?_) (fun _ => ?_))) <;> (try (conv => whnf)))
    all_goals rfl
  | true =>
    simp only [hw] at q1
    have q2 := fun k => ok_spec_l8At k P S W H c hb e hc hw
    cases hf : waysFit (cutH H c) P.length
    all_goals
      simp only [hf, if_true, if_false, and_true, and_false, and_self, Bool.false_eq_true, atRes, zeroRes] at q2 ⊢
      (refine fnI [ResultVar.cell 4 42, ResultVar.tmp 5] Tryz.func123 ?_; conv => whnf)
      repeat' ((with_reducible (first | refine sCall.of (q1 _) ?_|refine sCall.of (q2 _) ?_|refine st17 ?_|refine fG.split (fun _ => ?_) (fun _ => ?_)|refine fG.bool (fun _ => ?_) (fun _ => ?_))) <;> (try (conv => whnf)))
    all_goals rfl
structure PK where
  k : Nat
  bb : Nat
set_option maxRecDepth 20000 in
set_option maxHeartbeats 8000000 in
theorem ok_spec_Picture (k : Nat) (P : List (List Ins)) (S : List State) (W : List (List Item)) (H : List (List Event)) (on : Bool) (cut : List Int) (opn : List Bool) (kept : List (List Int)) (hb : SysB 1000000000 P S W H) (hs : ShotB 1000000000 cut opn kept) :
    callE PR C (k + 11) 57 [aLive 0 P S W H on cut opn kept] [tInsSS P, tStateS S, tItemSS W, tEventSS H, tI cut, tBool opn, tIntSS kept] = some (sysResB (pictureIs P S W H on cut opn kept).1 (pictureIs P S W H on cut opn kept).2 [none, none, none, none, none, none, none]) := by
  have q1 := fun k => ok_spec_ShotDone k P S W H on cut opn kept (hb.mono (by decide)) ⟨by have := hs.c; omega, by have := hs.o; omega, by have := hs.k; omega, fun j hj => by have := hs.kk j hj; omega⟩
  unfold pictureIs
  cases e : shotDone P S W H on cut opn kept with
  | false =>
    simp only [e] at q1
    rw [if_neg (by decide)]
    (refine fnI [ResultVar.cell 2 42, ResultVar.tmp 3] Tryz.func57 ?_; conv => whnf)
    repeat' ((with_reducible (first | refine sCall.of (q1 _) ?_|refine st17 ?_|refine fG.split (fun _ => ?_) (fun _ => ?_)|refine fG.bool (fun _ => ?_) (fun _ => ?_)|refine gDn 15 ?_)) <;> (try (conv => whnf)))
    all_goals rfl
  | true =>
    simp only [e] at q1
    rw [if_pos rfl]
    obtain ⟨f1, f2, f3⟩ := shotDone_facts e
    obtain ⟨hI, hP, hS, h200⟩ := sysOk_facts f1
    have hN := hI.n
    have hHl := hI.h
    have q2 := fun k => ok_spec_At k P S W H cut hb f1 f2
    by_cases c1 : wholeB H cut = true ∧ waysFit (cutH H cut) P.length = true
    · simp only [c1, and_self, if_true, atRes] at q2 ⊢
      have hfit := fun i hi => waysFit_len c1.2 (i := i) hi
      have hWl := waysOf_len (cutH H cut) P.length
      have hnn : P.length * P.length ≤ 4 * 4 := Nat.mul_le_mul hN.2 hN.2
      generalize cutH H cut = H' at *
      generalize hWe : waysOf H' P.length = W' at *
      generalize hSe : stsOf P H' = S' at *
      (refine fnI [ResultVar.cell 2 42, ResultVar.tmp 3] Tryz.func57 ?_; conv => whnf)
      repeat' ((with_reducible (first | refine sCall.of (q1 _) ?_|refine sCall.of (q2 _) ?_|refine st17 ?_|refine fG.split (fun _ => ?_) (fun _ => ?_)|refine fG.bool (fun _ => ?_) (fun _ => ?_)|refine gDn 15 ?_)) <;> (try (conv => whnf)))
      refine loop_rule (ι := Nat) (fun i => [(1, .pt 1 1 0 [] 0 0), (2, .pt 2 1 0 [] 0 0), (4, .pt 4 1 0 [] 0 0), (6, i64 (i : Nat))])
        (fun _ => [(1000000, ⟨0, 0, false, tInsSS P⟩), (1000001, ⟨0, 0, false, tStateS S⟩), (1000002, ⟨0, 0, false, tItemSS W⟩), (1000003, ⟨0, 0, false, tEventSS H⟩), (1000004, ⟨0, 0, false, tI cut⟩), (1000005, ⟨0, 0, false, tBool opn⟩), (1000006, ⟨0, 0, false, tIntSS kept⟩), (1, ⟨1, 0, false, bLive P S W H on cut opn kept⟩), (2, ⟨1, 0, false, .box [.nl 1, .nl 4, .nl 1, .nl 1]⟩), (4, ⟨1, 0, true, .box [.h 10019 1 0 [] 1 0 P.length, .h 20019 1 0 [] 4 0 S'.length, .h 30019 1 0 [] 1 0 W'.length, .h 40019 1 0 [] 1 0 H'.length]⟩), (10019, ⟨1, 0, false, tInsSS9 P⟩), (20019, ⟨1, 0, false, tStateS9 S'⟩), (30019, ⟨1, 0, false, tItemSS9 W'⟩), (40019, ⟨1, 0, false, tEventSS9 H'⟩)])
        (fun i => W'.length - i) (fun i => i ≤ W'.length ∧ ∀ j, j < i → decide (numbersOf (rd W' j) = rd kept j) = true) 0 fitOk ⟨Nat.zero_le _, fun q h => absurd h (Nat.not_lt_zero q)⟩ (by simp [C]; omega) ?_
      clear q1 q2
      rintro i sl ob ⟨hi, hall⟩
      (try dsimp only [cond_true, cond_false])
      (conv => whnf)
      by_cases hil : i < W'.length
      · have hw := hfit i (by omega)
        have hnl := numbers_le (rd W' i)
        have hk := hs.kk i (by omega)
        have q3 := fun k => ok_spec_Numbers k (rd W' i) (by omega)
        have hno : ¬ numbersOf (rd W' i) = rd kept i → picOk W' kept = false := fun h => allBelow_no (f := fun i => decide (numbersOf (rd W' i) = rd kept i)) hil (decide_eq_false h)
        have hyes : numbersOf (rd W' i) = rd kept i → ∀ j, j < i + 1 → decide (numbersOf (rd W' j) = rd kept j) = true := fun h q hq => by rcases Nat.lt_succ_iff_lt_or_eq.1 hq with h2 | h2; exact hall q h2; rw [h2]; exact decide_eq_true h
        generalize numbersOf (rd W' i) = now at *
        have e5 : (List.map rI (rd kept i)).length = (rd kept i).length := by simp
        by_cases cl : now.length = (rd kept i).length
        · repeat' ((with_reducible (first | refine sCall.of (q3 _) ?_|refine st17 ?_|refine fG.split (fun _ => ?_) (fun _ => ?_)|refine fG.bool (fun _ => ?_) (fun _ => ?_)|refine gDn 15 ?_)) <;> (try (conv => whnf)))
          refine loop_rule (ι := PK) (fun z => [(1, .pt 1 1 0 [] 0 0), (2, .pt 2 1 0 [] 0 0), (4, .pt 4 1 0 [] 0 0), (6, i64 (i : Nat)), (7, .h 10037 z.bb 0 [] 1 0 now.length), (8, i64 (z.k : Nat))])
            (fun z => [(1000000, ⟨0, 0, false, tInsSS P⟩), (1000001, ⟨0, 0, false, tStateS S⟩), (1000002, ⟨0, 0, false, tItemSS W⟩), (1000003, ⟨0, 0, false, tEventSS H⟩), (1000004, ⟨0, 0, false, tI cut⟩), (1000005, ⟨0, 0, false, tBool opn⟩), (1000006, ⟨0, 0, false, tIntSS kept⟩), (1, ⟨1, 0, false, bLive P S W H on cut opn kept⟩), (2, ⟨1, 0, false, .box [.nl 1, .nl 4, .nl 1, .nl 1]⟩), (4, ⟨1, 0, true, .box [.h 10019 1 0 [] 1 0 P.length, .h 20019 1 0 [] 4 0 S'.length, .h 30019 1 0 [] 1 0 W'.length, .h 40019 1 0 [] 1 0 H'.length]⟩), (10019, ⟨1, 0, false, tInsSS9 P⟩), (20019, ⟨1, 0, false, tStateS9 S'⟩), (30019, ⟨1, 0, false, tItemSS9 W'⟩), (40019, ⟨1, 0, false, tEventSS9 H'⟩), (10037, ⟨z.bb, 0, false, tI9 now⟩)])
            (fun z => now.length - z.k) (fun z => z.k ≤ now.length ∧ ∀ j, j < z.k → rd now j = rd (rd kept i) j) ⟨0, _⟩ fitOk ⟨Nat.zero_le _, fun q h => absurd h (Nat.not_lt_zero q)⟩ (by simp [C]; omega) ?_
          clear sl ob q3
          rintro ⟨m, bb⟩ sl ob ⟨hm, hsame⟩
          dsimp only at hm hsame
          (try dsimp only [cond_true, cond_false])
          (conv => whnf)
          by_cases hml : m < now.length
          · by_cases cv : rd now m = rd (rd kept i) m
            · repeat' ((with_reducible (first | refine st17 ?_|refine fG.split (fun _ => ?_) (fun _ => ?_)|refine fG.bool (fun _ => ?_) (fun _ => ?_)|refine gDn 15 ?_)) <;> (try (conv => whnf)))
              refine ⟨⟨⟨m + 1, _⟩, fitOk, ?_, ?_⟩⟩
              · exact ⟨by show m + 1 ≤ _; omega, fun q hq => by rcases Nat.lt_succ_iff_lt_or_eq.1 hq with h2 | h2; exact hsame q h2; rw [h2]; exact cv⟩
              · show now.length - (m + 1) < now.length - m; omega
            · rw [if_neg (by rw [hno fun h => cv (by rw [h])]; decide)]
              repeat' ((with_reducible (first | refine st17 ?_|refine fG.split (fun _ => ?_) (fun _ => ?_)|refine fG.bool (fun _ => ?_) (fun _ => ?_)|refine gDn 15 ?_)) <;> (try (conv => whnf)))
              all_goals rfl
          · have heq : now = rd kept i := rd_ext cl fun j hj => hsame j (by omega)
            repeat' ((with_reducible (first | refine st17 ?_|refine fG.split (fun _ => ?_) (fun _ => ?_)|refine fG.bool (fun _ => ?_) (fun _ => ?_)|refine gDn 15 ?_)) <;> (try (conv => whnf)))
            refine ⟨⟨i + 1, fitOk, ?_, ?_⟩⟩
            · exact ⟨by show i + 1 ≤ _; omega, hyes heq⟩
            · show W'.length - (i + 1) < W'.length - i; omega
        · rw [if_neg (by rw [hno fun h => cl (by rw [h])]; decide)]
          repeat' ((with_reducible (first | refine sCall.of (q3 _) ?_|refine st17 ?_|refine fG.split (fun _ => ?_) (fun _ => ?_)|refine fG.bool (fun _ => ?_) (fun _ => ?_)|refine gDn 15 ?_)) <;> (try (conv => whnf)))
          all_goals rfl
      · rw [if_pos (show picOk W' kept = true from allBelow_yes fun j hj => hall j (by omega))]
        unfold atSys
        repeat' ((with_reducible (first | refine st17 ?_|refine fG.split (fun _ => ?_) (fun _ => ?_)|refine fG.bool (fun _ => ?_) (fun _ => ?_)|refine gDn 15 ?_)) <;> (try (conv => whnf)))
        simp only [sysResB, hWe, hSe] <;> rfl
    · rw [if_neg c1] at q2 ⊢
      simp only [zeroRes] at q2
      (refine fnI [ResultVar.cell 2 42, ResultVar.tmp 3] Tryz.func57 ?_; conv => whnf)
      repeat' ((with_reducible (first | refine sCall.of (q1 _) ?_|refine sCall.of (q2 _) ?_|refine st17 ?_|refine fG.split (fun _ => ?_) (fun _ => ?_)|refine fG.bool (fun _ => ?_) (fun _ => ?_)|refine gDn 15 ?_)) <;> (try (conv => whnf)))
      all_goals rfl

theorem pictureIs_G {P : List (List Ins)} {S : List State} {W : List (List Item)} {H : List (List Event)} (on : Bool) (cut : List Int) (opn : List Bool) (kept : List (List Int)) (hB : SysB 1048576 P S W H) : SysG (pictureIs P S W H on cut opn kept).1 := by
  unfold pictureIs
  split
  · rename_i h
    obtain ⟨f1, f2, _⟩ := shotDone_facts h
    split
    · rename_i h2
      split
      · exact atSys_G hB f1 f2 h2.1 h2.2
      · exact sysG_empty
    · exact sysG_empty
  · exact sysG_empty
set_option maxRecDepth 20000 in
set_option maxHeartbeats 8000000 in
theorem ok_laws_FnExactPicture (k : Nat) (P : List (List Ins)) (S : List State) (W : List (List Item)) (H : List (List Event)) (on : Bool) (cut : List Int) (opn : List Bool) (kept : List (List Int)) (hb : SysB 140737488355328 P S W H) (hs : ShotB 140737488355328 cut opn kept) :
    callE PR C (k + 16) 13 [aLive 0 P S W H on cut opn kept] [tInsSS P, tStateS S, tItemSS W, tEventSS H, tI cut, tBool opn, tIntSS kept] = some ⟨bl true, [], [none, none, none, none, none, none, none]⟩ := by
  have q0 := fun k => ok_laws_szLive k P S W H on cut opn kept 1048576 (by omega) (by omega) hb hs
  by_cases c : left 1048576 ((sysSz P S W H + shotSz cut opn kept : Nat)) < 0
  · rw [left_m1 c] at q0
    (refine fnI [ResultVar.tmp 2] Tryz.func13 ?_; conv => whnf)
    repeat' ((with_reducible (first | refine sCall.of (q0 _) ?_|refine st17 ?_|refine fG.split (fun _ => ?_) (fun _ => ?_)|refine fG.bool (fun _ => ?_) (fun _ => ?_)|refine gD 10 [(0, 2)] ?_)) <;> (try (conv => whnf)))
  · obtain ⟨c1, c2⟩ := left_pos c
    have hB : SysB 1048576 P S W H := sysB_of (by omega)
    have hS : ShotB 1048576 cut opn kept := shotB_of (by omega)
    have hw := sysW_le P S W H
    have hw2 := shotW_le cut opn kept
    have q1 := fun k => ok_laws_toLive k P S W H on cut opn kept (hB.mono (by decide)) (hS.mono (by decide))
    have q2 := fun k => ok_laws_eqLive k P S W H on cut opn kept (hB.mono (by decide)) (hS.mono (by decide))
    have q3 := fun k => ok_impl_Picture k P S W H on cut opn kept (hB.mono (by decide)) (hS.mono (by decide))
    have q4 := fun k => ok_spec_Picture k P S W H on cut opn kept (hB.mono (by decide)) (hS.mono (by decide))
    have q6 := fun k => ok_laws_markLive k P S W H on cut opn kept 1 hB hS (by omega) (by omega)
    have e1 : (mkP 1 P).length = P.length := marks_len _ _ _ _
    have e2 : (mkS 1 P S).length = S.length := marks_len _ _ _ _
    have e3 : (mkW 1 P S W).length = W.length := marks_len _ _ _ _
    have e4 : (mkH 1 P S W H).length = H.length := marks_len _ _ _ _
    have e9 := marks_len mInt wInt cut (1 + sysW P S W H)
    have e10 := marks_len mBool wBool opn (1 + sysW P S W H + cut.length)
    have e11 := marks_len mIntL wIntL kept (1 + sysW P S W H + cut.length + opn.length)
    have hG := pictureIs_G on cut opn kept hB
    generalize pictureIs P S W H on cut opn kept = X at hG q3 q4
    obtain ⟨⟨P', S', W', H'⟩, t⟩ := X
    obtain ⟨hB', hw'⟩ := hG
    dsimp only at hB' hw' q3 q4
    simp only [sysResB] at q3 q4
    have q5 := fun k => ok_laws_eqSys k P' S' W' H' (hB'.mono (by decide))
    have q7 := fun k => ok_laws_markSys k P' S' W' H' 1 hB' (by omega) (by omega)
    have q8 := fun k => ok_laws_heldSys k P' S' W' H' (mkP 1 P') (mkS 1 P' S') (mkW 1 P' S' W') (mkH 1 P' S' W' H') 1 (hB'.mono (by decide)) (by omega) (by omega) rfl rfl rfl rfl
    simp only [mkP, mkS, mkW, mkH] at q7
    simp only [aSys, mkP, mkS, mkW, mkH, marks_len] at q8
    have e5 := marks_len mInsL wInsL P' 1
    have e6 := marks_len mState wState S' (1 + wts wInsL P')
    have e7 := marks_len mItemL wItemL W' (1 + wts wInsL P' + wts wState S')
    have e8 := marks_len mEventL wEventL H' (1 + wts wInsL P' + wts wState S' + wts wItemL W')
    clear hb hs hB hS hB' c
    cases t
    all_goals
      (refine fnI [ResultVar.tmp 2] Tryz.func13 ?_; conv => whnf)
      repeat' ((with_reducible (first | refine sCall.of (q0 _) ?_|refine sCall.of (q1 _) ?_|refine sCall.of (q2 _) ?_|refine sCall.of (q3 _) ?_|refine sCall.of (q4 _) ?_|refine sCall.of (q5 _) ?_|refine sCall.of (q6 _) ?_|refine sCall.of (q7 _) ?_|refine sCall.of (q8 _) ?_|refine st17 ?_|refine fG.split (fun _ => ?_) (fun _ => ?_)|refine fG.bool (fun _ => ?_) (fun _ => ?_)|refine gD 10 [(0, 2)] ?_)) <;> (try (conv => whnf)))

end Go.Proofs.YtlobpiebphnkiaaGreat.Abs
namespace Go.Proofs.YtlobpiebphnkiaaGreat.Abs
open Go
set_option linter.unusedVariables false

def Opens (P : Program) (t : TypeId) (n : Nat) (M : List T → Prop) : Prop :=
  ∀ (H : Type) (enc : TypeId × Value → H) (w : World) (base : Nat) (sp : Nat → Bool) (held : Bool) (fuel : Nat) (cs : List Value) (x : DataW H × List MemPlace),
    DataW.trod enc P w base sp held fuel t cs = some x → (∀ m ∈ x.1.weights P t, m ≤ reachBytes) →
      cs.length = n ∧ ∃ ts : List T, ts.length = n ∧ M ts ∧ ∀ (i : Nat) v t', cs[i]? = some v → ts[i]? = some t' → Ow (fun k => k < w.heap.size) w 0 v t' none_
theorem Opens.mono {P : Program} {t : TypeId} {n : Nat} {M M' : List T → Prop} (h : Opens P t n M) (hm : ∀ ts, M ts → M' ts) : Opens P t n M' := by
  intro H enc w base sp held fuel cs x hx hw
  obtain ⟨h1, ts, h2, h3, h4⟩ := h H enc w base sp held fuel cs x hx hw
  exact ⟨h1, ts, h2, hm _ h3, h4⟩
theorem one_ow {w : World} {v0 : Value} {t0 : T} (h : Ow (fun k => k < w.heap.size) w 0 v0 t0 none_) : ∀ (i : Nat) v t', [v0][i]? = some v → [t0][i]? = some t' → Ow (fun k => k < w.heap.size) w 0 v t' none_ := by
  rintro (_ | i) v t' h1 h2
  · simp at h1 h2; subst h1; subst h2; exact h
  · simp at h1
theorem Opens.int {P : Program} {t : TypeId} {k : IntKind} (ht : P.underlying t = some (.int k)) : Opens P t 1 (fun ts => ∃ n, (Lit.int k n).wf = true ∧ ts = [.v (.int k n)]) := by
  intro H enc w base sp held fuel cs x hx hw
  obtain ⟨n, rfl, rfl, h⟩ := DataW.trod_int ht hx
  exact ⟨rfl, _, rfl, ⟨n, h, rfl⟩, one_ow (.v rfl)⟩
theorem Opens.bool {P : Program} {t : TypeId} (ht : P.underlying t = some .bool) : Opens P t 1 (fun ts => ∃ b, ts = [.v (.bool b)]) := by
  intro H enc w base sp held fuel cs x hx hw
  obtain ⟨b, rfl, rfl⟩ := DataW.trod_bool ht hx
  exact ⟨rfl, _, rfl, ⟨b, rfl⟩, one_ow (.v rfl)⟩
theorem Opens.str {P : Program} {t : TypeId} (ht : P.underlying t = some .string) : Opens P t 1 (fun ts => ∃ s : ByteArray, s.size ≤ reachBytes ∧ ts = [.v (.string s)]) := by
  intro H enc w base sp held fuel cs x hx hw
  obtain ⟨s, rfl, rfl, h⟩ := DataW.trod_string ht hx
  refine ⟨rfl, _, rfl, ⟨s, ?_, rfl⟩, one_ow (.v rfl)⟩
  have := hw s.data.toList.length (by simp [DataW.weights])
  simpa using this
def Parts (P : Program) : List Field → Nat → Nat → (List T → Prop) → Prop
  | [], _, n, M => n = 0 ∧ M []
  | f :: r, off, n, M => f.offset = off ∧ ∃ n1 n2 M1 M2, P.cellsOf f.type = n1 ∧ Opens P f.type n1 M1 ∧ Parts P r (off + n1) n2 M2 ∧ n = n1 + n2 ∧ ∀ a b, M1 a → M2 b → M (a ++ b)
theorem weights_part {P : Program} {H : Type} {ts : List TypeId} : ∀ {ds : List (DataW H)} {R : Nat}, (∀ m ∈ DataW.weightsEach P ts ds, m ≤ R) → ∀ (j : Nat) t d, ts[j]? = some t → ds[j]? = some d → ∀ m ∈ d.weights P t, m ≤ R :=
  fun h j t d ht hd m hm => h m (DataW.weights_mem_each ht hd m hm)
theorem Parts.opens {P : Program} {H : Type} {enc : TypeId × Value → H} {w : World} {base : Nat} {sp : Nat → Bool} {held : Bool} {fuel : Nat} {cs : List Value} : ∀ {fs : List Field} {off n : Nat} {M : List T → Prop}, Parts P fs off n M → off + n = cs.length →
    (∀ f ∈ fs, ∃ x, DataW.trod enc P w base sp held fuel f.type ((cs.drop f.offset).take (P.cellsOf f.type)) = some x ∧ (∀ m ∈ x.1.weights P f.type, m ≤ reachBytes)) →
    ∃ ts : List T, ts.length = n ∧ M ts ∧ ∀ (i : Nat) v t', cs[off + i]? = some v → ts[i]? = some t' → Ow (fun k => k < w.heap.size) w 0 v t' none_ := by
  intro fs
  induction fs with
  | nil =>
    intro off n M h hl _
    exact ⟨[], h.1.symm, h.2, fun i v t' _ h2 => by simp at h2⟩
  | cons f r ih =>
    intro off n M h hl hx
    obtain ⟨rfl, n1, n2, M1, M2, h1, h2, h3, rfl, h4⟩ := h
    obtain ⟨x, hx1, hx2⟩ := hx f (by simp)
    rw [h1] at hx1
    obtain ⟨k1, t1, k2, k3, k4⟩ := h2 H enc w base sp held fuel _ x hx1 hx2
    obtain ⟨t2, q1, q2, q3⟩ := ih h3 (by omega) fun g hg => hx g (by simp [hg])
    refine ⟨t1 ++ t2, by simp [k2, q1], h4 _ _ k3 q2, fun i v t' hv ht' => ?_⟩
    by_cases hi : i < n1
    · rw [List.getElem?_append_left (by omega)] at ht'
      exact k4 i v t' (by rw [List.getElem?_take, if_pos hi, List.getElem?_drop]; exact hv) ht'
    · rw [List.getElem?_append_right (by omega), k2] at ht'
      exact q3 (i - n1) v t' (by rw [show f.offset + n1 + (i - n1) = f.offset + i by omega]; exact hv) ht'
theorem Opens.struct {P : Program} {t : TypeId} {fs : Array Field} {n : Nat} {M : List T → Prop} (ht : P.underlying t = some (.struct fs)) (hc : P.cellsOf t = n) (hp : Parts P fs.toList 0 n M) : Opens P t n M := by
  intro H enc w base sp held fuel cs x hx hw
  obtain ⟨xs, m, _, rfl, hl, hlen, hf⟩ := DataW.trod_struct ht hx
  have hl' : cs.length = n := hl.trans hc
  obtain ⟨ts, h1, h2, h3⟩ := hp.opens (enc := enc) (w := w) (base := base) (sp := sp) (held := held) (fuel := m) (cs := cs) (by omega) (by
    intro f hfm
    obtain ⟨i, hi⟩ := List.getElem?_of_mem hfm
    have hi' : fs[i]? = some f := by simpa using hi
    have hlt : i < xs.length := by rw [hlen]; exact (Array.getElem?_eq_some_iff.1 hi').1
    have hy : xs[i]? = some xs[i] := List.getElem?_eq_getElem hlt
    refine ⟨xs[i], (hf i f hi').trans hy, ?_⟩
    refine weights_part (ts := fs.toList.map (·.type)) (ds := xs.map (·.1)) ?_ i f.type xs[i].1 (by simp [hi']) (by rw [List.getElem?_map, hy]; rfl)
    intro q hq
    refine hw q ?_
    simpa [DataW.weights, ht] using hq)
  exact ⟨hl', ts, h1, h2, fun i v t' hv ht' => h3 i v t' (by simpa using hv) ht'⟩
def IntsM (n : Nat) (ts : List T) : Prop := ∃ zs : List Int, zs.length = n ∧ ts = zs.map fun z => T.v (.int .i64 z)
theorem Parts.nil {P : Program} {off : Nat} : Parts P [] off 0 (IntsM 0) := ⟨rfl, [], rfl, rfl⟩
theorem Parts.int {P : Program} {f : Field} {r : List Field} {off n : Nat} (ho : f.offset = off) (hc : P.cellsOf f.type = 1) (ht : P.underlying f.type = some (.int .i64)) (h : Parts P r (off + 1) n (IntsM n)) :
    Parts P (f :: r) off (1 + n) (IntsM (1 + n)) := by
  refine ⟨ho, 1, n, _, _, hc, Opens.int ht, h, rfl, ?_⟩
  rintro a b ⟨z, _, rfl⟩ ⟨zs, hz, rfl⟩
  exact ⟨z :: zs, by simp [hz]; omega, rfl⟩
def Ms : List (List T → Prop) → List T → Prop
  | [], ts => ts = []
  | M :: r, ts => ∃ a b, ts = a ++ b ∧ M a ∧ Ms r b
theorem Parts.mnil {P : Program} {off : Nat} : Parts P [] off 0 (Ms []) := ⟨rfl, rfl⟩
theorem Parts.mcons {P : Program} {f : Field} {r : List Field} {off n1 n : Nat} {M : List T → Prop} {l : List (List T → Prop)} (ho : f.offset = off) (hc : P.cellsOf f.type = n1) (ht : Opens P f.type n1 M) (h : Parts P r (off + n1) n (Ms l)) :
    Parts P (f :: r) off (n1 + n) (Ms (M :: l)) :=
  ⟨ho, n1, n, _, _, hc, ht, h, rfl, fun a b ha hb => ⟨a, b, rfl, ha, hb⟩⟩

theorem rows_map {α : Type} {f : α → List T} {p : α → Prop} {rows : List (List T)} (h : ∀ r ∈ rows, ∃ x, p x ∧ r = f x) : ∃ l : List α, rows = l.map f ∧ ∀ x ∈ l, p x := by
  induction rows with
  | nil => exact ⟨[], rfl, by simp⟩
  | cons r rows ih =>
    obtain ⟨x, hx, rfl⟩ := h r (by simp)
    obtain ⟨l, rfl, hl⟩ := ih fun q hq => h q (by simp [hq])
    exact ⟨x :: l, rfl, by simpa using ⟨hx, hl⟩⟩
theorem weights_all {P : Program} {H : Type} {e : TypeId} {d : DataW H} : ∀ {l : List (DataW H)}, d ∈ l → ∀ m ∈ d.weights P e, m ∈ DataW.weightsAll P e l
  | a :: r, hd, m, hm => by
    simp only [DataW.weightsAll, List.mem_append]
    rcases List.mem_cons.1 hd with rfl | hd
    · exact .inl hm
    · exact .inr (weights_all hd m hm)
theorem Opens.slice {P : Program} {t e : TypeId} {sz B : Nat} {M : List T → Prop} (ht : P.underlying t = some (.slice e)) (hc : P.cellsOf e = sz) (hB : P.bytesOf e = B) (hsz : 0 < sz) (hE : Opens P e sz M) :
    Opens P t 1 (fun ts => ∃ rows, ts = [.sl sz rows] ∧ (∀ x ∈ rows, M x) ∧ rows.length * B ≤ reachBytes) := by
  intro H enc w base sp held fuel cs0 x hx hw
  rcases DataW.trod_slice ht hx with ⟨rfl, _⟩ | ⟨a, len, cap, elems, rest, n, _, rfl, rfl, _, hl, _, hlen, hel, _⟩
  · exact ⟨rfl, _, rfl, ⟨[], rfl, by simp, by simp⟩, one_ow .nil⟩
  · have hw1 : (elems.length + rest.length) * B ≤ reachBytes := by
      have := hw ((elems.length + rest.length) * P.bytesOf e) (by simp [DataW.weights, ht])
      rwa [hB] at this
    have hcell : ∀ i : Nat, ∃ q : List Value × List T, i < len → q.1.length = sz ∧ q.2.length = sz ∧ M q.2 ∧ (∀ j, j < sz → w.cell? ((a.add (i * sz)).add j) = q.1[j]?) ∧
        ∀ (j : Nat) v t', q.1[j]? = some v → q.2[j]? = some t' → Ow (fun k => k < w.heap.size) w 0 v t' none_ := by
      intro i
      by_cases hi : i < len
      · have hy : elems[i]? = some (elems[i]'(by omega)) := List.getElem?_eq_getElem (by omega)
        have h1 := hel i hi
        rw [hy, hc, Option.bind_eq_some_iff] at h1
        obtain ⟨cs, hcs, htr⟩ := h1
        obtain ⟨k1, ts, k2, k3, k4⟩ := hE H enc w base sp held n cs _ htr (by
          intro m hm
          refine hw m ?_
          have := weights_all (P := P) (e := e) (l := elems.map (·.1)) (List.mem_map_of_mem (List.getElem_mem (by omega : i < elems.length))) m hm
          simp [DataW.weights, ht, this])
        obtain ⟨_, g1, g2⟩ := World.cells?_some hcs
        exact ⟨(cs, ts), fun _ => ⟨k1, k2, k3, g2, k4⟩⟩
      · exact ⟨([], []), fun h => absurd h hi⟩
    obtain ⟨c, hc2⟩ := Classical.axiomOfChoice hcell
    have hblk : 0 < len → a.block < w.heap.size := by
      intro h0
      obtain ⟨k1, k2, k3, k4, k5⟩ := hc2 0 h0
      have h1 := k4 0 hsz
      have h2 : (c 0).1[0]? = some ((c 0).1[0]'(by omega)) := List.getElem?_eq_getElem (by omega)
      rw [h2] at h1
      by_cases hlt : a.block < w.heap.size
      · exact hlt
      · unfold World.cell? at h1
        rw [add_block, add_block, Array.getElem?_eq_none (by omega)] at h1
        simp at h1
    have hat : ∀ i j t', cellT ((List.range len).map fun i => (c i).2) i j = some t' → i < len ∧ (c i).2[j]? = some t' := by
      intro i j t' h'
      unfold cellT at h'
      rw [List.getElem?_map] at h'
      by_cases hi : i < len
      · have hr : (List.range len)[i]? = some i := by simp [hi]
        rw [hr] at h'
        exact ⟨hi, by simpa using h'⟩
      · have hr : (List.range len)[i]? = none := by simp; omega
        rw [hr] at h'
        simp at h'
    refine ⟨rfl, [.sl sz ((List.range len).map fun i => (c i).2)], rfl, ⟨_, rfl, ?_, ?_⟩, one_ow ?_⟩
    · intro x hx
      obtain ⟨i, hi, rfl⟩ := List.mem_map.1 hx
      exact (hc2 i (List.mem_range.1 hi)).2.2.1
    · rw [List.length_map, List.length_range]
      exact Nat.le_trans (Nat.mul_le_mul_right _ (by omega)) hw1
    · have hro := Ow.ro (Z := fun k => k < w.heap.size) (w := w) (a := a) (c := cap) (rows := (List.range len).map fun i => (c i).2) (sz := sz) (fun i j => (c i).1.getD j undef) (by simpa using hl)
        (by
          intro r hr
          obtain ⟨i, hi, rfl⟩ := List.mem_map.1 hr
          exact (hc2 i (List.mem_range.1 hi)).2.1) (fun hne => hblk (by
            rcases Nat.eq_zero_or_pos len with h0 | h0
            · subst h0; exact absurd rfl hne
            · exact h0))
        (by
          intro i j t' h'
          obtain ⟨hi, hj⟩ := hat i j t' h'
          obtain ⟨k1, k2, k3, k4, k5⟩ := hc2 i hi
          have hj' : j < sz := by rw [← k2]; exact (List.getElem?_eq_some_iff.1 hj).1
          rw [← Addr.add_add, k4 j hj', List.getElem?_eq_getElem (by omega)]
          simp [List.getD, show j < (c i).1.length by omega])
        (by
          intro i j t' h'
          obtain ⟨hi, hj⟩ := hat i j t' h'
          obtain ⟨k1, k2, k3, k4, k5⟩ := hc2 i hi
          have hj' : j < sz := by rw [← k2]; exact (List.getElem?_eq_some_iff.1 hj).1
          refine k5 j _ t' ?_ hj
          rw [List.getElem?_eq_getElem (by omega)]
          simp [List.getD, show j < (c i).1.length by omega])
      simpa using hro
theorem Opens.one {P : Program} {t : TypeId} {M : List T → Prop} (h : Opens P t 1 M) {H : Type} {enc : TypeId × Value → H} {w : World} {base : Nat} {sp : Nat → Bool} {held : Bool} {v : Value} {d : DataW H} {ps : List MemPlace}
    (hv : v.cells.toList = [v]) (hd : DataW.Trod enc P w base sp held t v d ps) (hw : ∀ m ∈ d.weights P t, m ≤ reachBytes) : ∃ t', M [t'] ∧ Ow (fun k => k < w.heap.size) w 0 v t' none_ := by
  obtain ⟨fuel, hf⟩ := hd
  rw [hv] at hf
  obtain ⟨_, ts, h1, h2, h3⟩ := h H enc w base sp held fuel _ _ hf hw
  obtain ⟨t', rfl⟩ := List.length_eq_one_iff.1 h1
  exact ⟨t', h2, h3 0 v t' rfl rfl⟩
end Go.Proofs.YtlobpiebphnkiaaGreat.Abs
namespace Go.Proofs.YtlobpiebphnkiaaGreat.Abs
open Go Go.RowKit
set_option linter.unusedVariables false

theorem Ow.slice_inv {Z : Fp} {w : World} {v : Value} {sz : Nat} {rows : List (List T)} {F : Fp} {l : Nat} (h : Ow Z w l v (.sl sz rows) F) :
    (v = .slice none 0 0 ∧ rows = []) ∨ ∃ a c, v = .slice (some a) rows.length c ∧ rows.length ≤ c := by
  cases h with
  | nil => exact .inl ⟨rfl, rfl⟩
  | ro xs hc hs hz hx ht => exact .inr ⟨_, _, rfl, hc⟩
  | own xs F hb hfr hc hoff hmax hs hx ht hF hnb hd => exact .inr ⟨_, _, rfl, hc⟩
theorem arg_slice {Z : Fp} {w : World} {ob : Objs} {ρ : Nat → Value} {o sz : Nat} {rows : List (List T)} {v : Value} (h1 : ob o = ⟨0, 0, false, .tree 0 (.sl sz rows)⟩) (h2 : ρ o = v) (h3 : Ow Z w 0 v (.sl sz rows) none_) :
    AVR w ob ρ (.h o 0 0 [] sz 0 rows.length) v := by
  have hin := h3.slice_inv
  refine .h ?_ ?_ fun _ => ?_
  · rw [h1]; exact ⟨Nat.le_refl _, fun _ h => absurd rfl h⟩
  · rcases hin with ⟨rfl, rfl⟩ | ⟨a, c, rfl, hc⟩
    · exact ⟨none, 0, rfl, Nat.le_refl _, fun _ => rfl⟩
    · exact ⟨some a, c, rfl, hc, fun h => by cases h⟩
  · rw [h1, h2]
    refine ⟨fun cells h => by (dsimp only at h; cases h), fun lvl t hc => ?_⟩
    dsimp only at hc
    cases hc
    refine ⟨v, rows, .here, by omega, ?_⟩
    rcases hin with ⟨rfl, rfl⟩ | ⟨a, c, rfl, hc⟩
    · exact .inl ⟨rfl, rfl, rfl, rfl⟩
    · refine .inr ⟨a, rows.length, c, 0, c, rfl, ?_, hc, by omega, Nat.le_refl _, fun _ => rfl⟩
      rw [Nat.zero_mul]
      cases a with
      | mk b off s => cases s <;> simp [Addr.add]
theorem FnOk.outside {P : Program} {W : World} {f : FuncId} {args : List AV} {conts : List Cont} {r : Res} (h : FnOk P f args conts r) (vals : List Value)
    (ho : ∀ (i : Nat) c, conts[i]? = some c → ∃ t v, c = .tree 0 t ∧ vals[i]? = some v ∧ Ow (fun k => k < W.heap.size) W 0 v t none_) (vs : Array Value) (hs : vs.size = args.length)
    (hA : ∀ (i : Nat) x, args[i]? = some x → AVR W (obIn conts) (fun o => vals.getD (o - 1000000) undef) x (vs.getD i undef)) :
    Calls P f vs W (fun e w' => ∃ v, e = .returned v ∧ Below W.heap.size W w' ∧ ∃ ob' ρ', AVR w' ob' ρ' r.v v) := by
  have hI : OInv W none_ (obIn conts) W (fun o => vals.getD (o - 1000000) undef) (fun _ => none_) (fun k => k < W.heap.size) := by
    refine ⟨Keep.refl _ _, fun k hk _ => hk, fun k hk => hk, fun o k hk => hk.elim, fun o o' k hk => hk.elim, fun o k hk => hk.elim, fun o => ?_⟩
    unfold ObOk
    by_cases h1 : 1000000 ≤ o
    · simp only [obIn, h1, if_true]
      cases hc : conts[o - 1000000]? with
      | none =>
        have e : conts.getD (o - 1000000) .dead = .dead := by simp [List.getD, hc]
        rw [e]
        exact fun k hk => hk
      | some c =>
        obtain ⟨t, v, rfl, hv, how⟩ := ho _ _ hc
        have e : conts.getD (o - 1000000) .dead = .tree 0 t := by simp [List.getD, hc]
        have e2 : vals.getD (o - 1000000) undef = v := by simp [List.getD, hv]
        rw [e, e2]
        exact how
    · simp only [obIn, h1, if_false]
      exact fun k hk => hk
  have hr := h.run W none_ _ _ _ vs hI (fun k _ hk => hk) hs hA
  intro cs
  obtain ⟨e, w', fr, hR, hC, hfn, hl⟩ := hr cs
  refine ⟨e, w', fr, ?_, hC, hfn, hl⟩
  cases e with
  | returned v =>
    obtain ⟨ρ', φ', Z', hst, hav⟩ := hR
    exact ⟨v, rfl, ⟨hst.inv.keep.os, hst.inv.keep.tape, hst.inv.keep.output, hst.inv.keep.size, fun k hk => hst.inv.keep.block k hk id⟩, _, _, hav⟩
  | _ => exact hR.elim
theorem AVR.bool_inv {w : World} {ob : Objs} {ρ : Nat → Value} {b : Bool} {v : Value} (h : AVR w ob ρ (.s (.bool b)) v) : v = .bool b := by
  cases h; rfl
end Go.Proofs.YtlobpiebphnkiaaGreat.Abs
namespace Go.Proofs.YtlobpiebphnkiaaGreat.Abs
open Go Go.Proofs Go.RowKit
set_option linter.unusedVariables false
set_option linter.unusedSimpArgs false
attribute [local irreducible] callE
theorem ints_Ins {ts : List T} (h : IntsM 5 ts) : ∃ x : Ins, True ∧ ts = rIns x := by
  obtain ⟨zs, hz, rfl⟩ := h
  match zs, hz with
  | [a, b, c, d, e], _ => exact ⟨⟨a, b, c, d, e⟩, trivial, rfl⟩
theorem ints_Event {ts : List T} (h : IntsM 3 ts) : ∃ x : Event, True ∧ ts = rEvent x := by
  obtain ⟨zs, hz, rfl⟩ := h
  match zs, hz with
  | [a, b, c], _ => exact ⟨⟨a, b, c⟩, trivial, rfl⟩
set_option maxRecDepth 20000 in
theorem opens_Ins : Opens Tryz.prog 222 5 (fun ts => ∃ x : Ins, True ∧ ts = rIns x) :=
  (Opens.struct Tryz.underlying222 (by kernel_rfl) (.int rfl (by kernel_rfl) Tryz.underlying3 (.int rfl (by kernel_rfl) Tryz.underlying3 (.int rfl (by kernel_rfl) Tryz.underlying3 (.int rfl (by kernel_rfl) Tryz.underlying3 (.int rfl (by kernel_rfl) Tryz.underlying3 .nil)))))).mono fun _ => ints_Ins
set_option maxRecDepth 20000 in
theorem opens_Event : Opens Tryz.prog 226 3 (fun ts => ∃ x : Event, True ∧ ts = rEvent x) :=
  (Opens.struct Tryz.underlying226 (by kernel_rfl) (.int rfl (by kernel_rfl) Tryz.underlying3 (.int rfl (by kernel_rfl) Tryz.underlying3 (.int rfl (by kernel_rfl) Tryz.underlying3 .nil)))).mono fun _ => ints_Event
set_option maxRecDepth 20000 in
theorem opens_InsS : Opens Tryz.prog 174 1 (fun ts => ∃ l : List Ins, l.length ≤ 140737488355328 ∧ ts = [.sl 5 (l.map rIns)]) :=
  (Opens.slice (sz := 5) (B := 40) Tryz.underlying174 (by kernel_rfl) (by kernel_rfl) (by decide) opens_Ins).mono fun ts h => by
    obtain ⟨rows, rfl, h1, h2⟩ := h
    obtain ⟨l, rfl, hl⟩ := rows_map h1
    rw [List.length_map] at h2
    have := reachBytes_lt
    exact ⟨l, by omega, rfl⟩
set_option maxRecDepth 20000 in
theorem opens_EventS : Opens Tryz.prog 180 1 (fun ts => ∃ l : List Event, l.length ≤ 140737488355328 ∧ ts = [.sl 3 (l.map rEvent)]) :=
  (Opens.slice (sz := 3) (B := 24) Tryz.underlying180 (by kernel_rfl) (by kernel_rfl) (by decide) opens_Event).mono fun ts h => by
    obtain ⟨rows, rfl, h1, h2⟩ := h
    obtain ⟨l, rfl, hl⟩ := rows_map h1
    rw [List.length_map] at h2
    have := reachBytes_lt
    exact ⟨l, by omega, rfl⟩
set_option maxRecDepth 20000 in
theorem opens_ints : Opens Tryz.prog 28 1 (fun ts => ∃ l : List Int, l.length ≤ 140737488355328 ∧ ts = [.sl 1 (l.map rI)]) :=
  (Opens.slice (sz := 1) (B := 8) Tryz.underlying28 (by kernel_rfl) (by kernel_rfl) (by decide) (Opens.int Tryz.underlying3)).mono fun ts h => by
    obtain ⟨rows, rfl, h1, h2⟩ := h
    obtain ⟨l, rfl, _⟩ := rows_map (f := rI) (p := fun _ => True) (fun r hr => by obtain ⟨n, _, rfl⟩ := h1 r hr; exact ⟨n, trivial, rfl⟩)
    rw [List.length_map] at h2
    have := reachBytes_lt
    exact ⟨l, by omega, rfl⟩
set_option maxRecDepth 20000 in
theorem opens_State : Opens Tryz.prog 176 4 (fun ts => ∃ x : State, (x.regs.length ≤ 140737488355328 ∧ x.out.length ≤ 140737488355328) ∧ ts = rState x) :=
  (Opens.struct Tryz.underlying176 (by kernel_rfl) (.mcons rfl (by kernel_rfl) (Opens.int Tryz.underlying3) (.mcons rfl (by kernel_rfl) opens_ints (.mcons rfl (by kernel_rfl) opens_ints (.mcons rfl (by kernel_rfl) (Opens.int Tryz.underlying3) .mnil))))).mono fun ts h => by
    obtain ⟨_, _, rfl, ⟨a, _, rfl⟩, _, _, rfl, ⟨r, hr, rfl⟩, _, _, rfl, ⟨o, ho, rfl⟩, _, _, rfl, ⟨c, _, rfl⟩, rfl⟩ := h
    exact ⟨⟨a, r, o, c⟩, ⟨hr, ho⟩, rfl⟩
set_option maxRecDepth 20000 in
theorem opens_StateS : Opens Tryz.prog 23 1 (fun ts => ∃ l : List State, (l.length ≤ 140737488355328 ∧ ∀ j : Nat, j < l.length → (rd l j).regs.length ≤ 140737488355328 ∧ (rd l j).out.length ≤ 140737488355328) ∧ ts = [.sl 4 (l.map rState)]) :=
  (Opens.slice (sz := 4) (B := 64) Tryz.underlying23 (by kernel_rfl) (by kernel_rfl) (by decide) opens_State).mono fun ts h => by
    obtain ⟨rows, rfl, h1, h2⟩ := h
    obtain ⟨l, rfl, hl⟩ := rows_map h1
    rw [List.length_map] at h2
    have := reachBytes_lt
    exact ⟨l, ⟨by omega, fun j hj => hl _ (rd_mem hj)⟩, rfl⟩
set_option maxRecDepth 20000 in
theorem opens_Item : Opens Tryz.prog 224 2 (fun ts => ∃ x : Item, True ∧ ts = rItem x) :=
  (Opens.struct Tryz.underlying224 (by kernel_rfl) (.mcons rfl (by kernel_rfl) (Opens.bool Tryz.underlying4) (.mcons rfl (by kernel_rfl) (Opens.int Tryz.underlying3) .mnil))).mono fun ts h => by
    obtain ⟨_, _, rfl, ⟨a, rfl⟩, _, _, rfl, ⟨r, _, rfl⟩, rfl⟩ := h
    exact ⟨⟨a, r⟩, trivial, rfl⟩
set_option maxRecDepth 20000 in
theorem opens_ItemS : Opens Tryz.prog 178 1 (fun ts => ∃ l : List Item, l.length ≤ 140737488355328 ∧ ts = [.sl 2 (l.map rItem)]) :=
  (Opens.slice (sz := 2) (B := 16) Tryz.underlying178 (by kernel_rfl) (by kernel_rfl) (by decide) opens_Item).mono fun ts h => by
    obtain ⟨rows, rfl, h1, h2⟩ := h
    obtain ⟨l, rfl, hl⟩ := rows_map h1
    rw [List.length_map] at h2
    have := reachBytes_lt
    exact ⟨l, by omega, rfl⟩
theorem opens_SS {α : Type} {t e : TypeId} {f : α → List T} {sz : Nat} (ht : (Tryz.prog).underlying t = some (.slice e)) (hc : (Tryz.prog).cellsOf e = 1) (hB : (Tryz.prog).bytesOf e = 24)
    (h : Opens Tryz.prog e 1 (fun ts => ∃ l : List α, l.length ≤ 140737488355328 ∧ ts = [.sl sz (l.map f)])) :
    Opens Tryz.prog t 1 (fun ts => ∃ l : List (List α), (l.length ≤ 140737488355328 ∧ ∀ j : Nat, j < l.length → (rd l j).length ≤ 140737488355328) ∧ ts = [.sl 1 (l.map fun x => [T.sl sz (x.map f)])]) :=
  (Opens.slice (sz := 1) (B := 24) ht hc hB (by decide) h).mono fun ts h => by
    obtain ⟨rows, rfl, h1, h2⟩ := h
    obtain ⟨l, rfl, hl⟩ := rows_map h1
    rw [List.length_map] at h2
    have := reachBytes_lt
    exact ⟨l, ⟨by omega, fun j hj => hl _ (rd_mem hj)⟩, rfl⟩
set_option maxRecDepth 20000 in
theorem opens_Sys : Opens Tryz.prog 27 4 (fun ts => ∃ X : Sys, SysB 140737488355328 X.progs X.states X.ways X.hist ∧ ts = [.sl 1 (X.progs.map rInsL), .sl 4 (X.states.map rState), .sl 1 (X.ways.map rItemL), .sl 1 (X.hist.map rEventL)]) :=
  (Opens.struct Tryz.underlying27 (by kernel_rfl) (.mcons rfl (by kernel_rfl) (opens_SS Tryz.underlying22 (by kernel_rfl) (by kernel_rfl) opens_InsS) (.mcons rfl (by kernel_rfl) opens_StateS (.mcons rfl (by kernel_rfl) (opens_SS Tryz.underlying24 (by kernel_rfl) (by kernel_rfl) opens_ItemS) (.mcons rfl (by kernel_rfl) (opens_SS Tryz.underlying25 (by kernel_rfl) (by kernel_rfl) opens_EventS) .mnil))))).mono fun ts h => by
    obtain ⟨_, _, rfl, ⟨P, hP, rfl⟩, _, _, rfl, ⟨S, hS, rfl⟩, _, _, rfl, ⟨W, hW, rfl⟩, _, _, rfl, ⟨X, hX, rfl⟩, rfl⟩ := h
    exact ⟨⟨P, S, W, X⟩, ⟨hP.1, hP.2, hS.1, hS.2, hW.1, hW.2, hX.1, hX.2⟩, rfl⟩
def SysAt (w : World) (v : Value) (X : Sys) : Prop := ∃ a0 a1 a2 a3, v = .agg #[a0, a1, a2, a3] ∧ Ow (fun k => k < w.heap.size) w 0 a0 (.sl 1 (X.progs.map rInsL)) none_ ∧ Ow (fun k => k < w.heap.size) w 0 a1 (.sl 4 (X.states.map rState)) none_ ∧
  Ow (fun k => k < w.heap.size) w 0 a2 (.sl 1 (X.ways.map rItemL)) none_ ∧ Ow (fun k => k < w.heap.size) w 0 a3 (.sl 1 (X.hist.map rEventL)) none_
structure Stop where
  p : Int
  kind : Int
  v : Int
set_option maxRecDepth 20000 in
theorem opens_bools : Opens Tryz.prog 29 1 (fun ts => ∃ l : List Bool, l.length ≤ 140737488355328 ∧ ts = [.sl 1 (l.map rBool)]) :=
  (Opens.slice (sz := 1) (B := 1) Tryz.underlying29 (by kernel_rfl) (by kernel_rfl) (by decide) (Opens.bool Tryz.underlying4)).mono fun ts h => by
    obtain ⟨rows, rfl, h1, h2⟩ := h
    obtain ⟨l, rfl, _⟩ := rows_map (f := rBool) (p := fun _ => True) (fun r hr => by obtain ⟨n, rfl⟩ := h1 r hr; exact ⟨n, trivial, rfl⟩)
    rw [List.length_map] at h2
    have := reachBytes_lt
    exact ⟨l, by omega, rfl⟩
structure Shot where
  on : Bool
  cut : List Int
  opn : List Bool
  kept : List (List Int)
structure Live where
  s : Sys
  shot : Shot
set_option maxRecDepth 20000 in
theorem opens_Shot : Opens Tryz.prog 32 4 (fun ts => ∃ X : Shot, ShotB 140737488355328 X.cut X.opn X.kept ∧ ts = [.v (.bool X.on), .sl 1 (X.cut.map rI), .sl 1 (X.opn.map rBool), .sl 1 (X.kept.map rIntL)]) :=
  (Opens.struct Tryz.underlying32 (by kernel_rfl) (.mcons rfl (by kernel_rfl) (Opens.bool Tryz.underlying4) (.mcons rfl (by kernel_rfl) opens_ints (.mcons rfl (by kernel_rfl) opens_bools (.mcons rfl (by kernel_rfl) (opens_SS Tryz.underlying30 (by kernel_rfl) (by kernel_rfl) opens_ints) .mnil))))).mono fun ts h => by
    obtain ⟨_, _, rfl, ⟨b, rfl⟩, _, _, rfl, ⟨c, hc, rfl⟩, _, _, rfl, ⟨o, ho, rfl⟩, _, _, rfl, ⟨k, hk, rfl⟩, rfl⟩ := h
    exact ⟨⟨b, c, o, k⟩, ⟨hc, ho, hk.1, hk.2⟩, rfl⟩
set_option maxRecDepth 20000 in
theorem opens_Live : Opens Tryz.prog 34 8 (fun ts => ∃ X : Live, (SysB 140737488355328 X.s.progs X.s.states X.s.ways X.s.hist ∧ ShotB 140737488355328 X.shot.cut X.shot.opn X.shot.kept) ∧
    ts = [.sl 1 (X.s.progs.map rInsL), .sl 4 (X.s.states.map rState), .sl 1 (X.s.ways.map rItemL), .sl 1 (X.s.hist.map rEventL), .v (.bool X.shot.on), .sl 1 (X.shot.cut.map rI), .sl 1 (X.shot.opn.map rBool), .sl 1 (X.shot.kept.map rIntL)]) :=
  (Opens.struct Tryz.underlying34 (by kernel_rfl) (.mcons rfl (by kernel_rfl) opens_Sys (.mcons rfl (by kernel_rfl) opens_Shot .mnil))).mono fun ts h => by
    obtain ⟨_, _, rfl, ⟨X, hX, rfl⟩, _, _, rfl, ⟨Y, hY, rfl⟩, rfl⟩ := h
    exact ⟨⟨X, Y⟩, ⟨hX, hY⟩, rfl⟩
def LiveAt (w : World) (v : Value) (X : Live) : Prop := ∃ a0 a1 a2 a3 a5 a6 a7, v = .agg #[a0, a1, a2, a3, .bool X.shot.on, a5, a6, a7] ∧ Ow (fun k => k < w.heap.size) w 0 a0 (.sl 1 (X.s.progs.map rInsL)) none_ ∧ Ow (fun k => k < w.heap.size) w 0 a1 (.sl 4 (X.s.states.map rState)) none_ ∧
  Ow (fun k => k < w.heap.size) w 0 a2 (.sl 1 (X.s.ways.map rItemL)) none_ ∧ Ow (fun k => k < w.heap.size) w 0 a3 (.sl 1 (X.s.hist.map rEventL)) none_ ∧ Ow (fun k => k < w.heap.size) w 0 a5 (.sl 1 (X.shot.cut.map rI)) none_ ∧
  Ow (fun k => k < w.heap.size) w 0 a6 (.sl 1 (X.shot.opn.map rBool)) none_ ∧ Ow (fun k => k < w.heap.size) w 0 a7 (.sl 1 (X.shot.kept.map rIntL)) none_
theorem eight {α : Type} {l : Array α} (h : l.size = 8) : ∃ a b c d e f g i, l = #[a, b, c, d, e, f, g, i] := by
  obtain ⟨l⟩ := l
  match l, h with
  | [a, b, c, d, e, f, g, i], _ => exact ⟨a, b, c, d, e, f, g, i, rfl⟩
set_option maxRecDepth 20000 in
theorem open_Live {H : Type} {enc : TypeId × Value → H} {w : World} {base : Nat} {sp : Nat → Bool} {held : Bool} {v : Value} {d : DataW H} {ps : List MemPlace} {r : Go.Reach} {b0 : Nat}
    (hval : Value.okWide Tryz.prog w r b0 34 v) (h : DataW.Trod enc Tryz.prog w base sp held 34 v d ps) (hw : ∀ m ∈ d.weights Tryz.prog 34, m ≤ reachBytes) :
    ∃ X : Live, (SysB 140737488355328 X.s.progs X.s.states X.s.ways X.s.hist ∧ ShotB 140737488355328 X.shot.cut X.shot.opn X.shot.kept) ∧ LiveAt w v X := by
  obtain ⟨cs, rfl, hsz⟩ := Go.WideShapes.okWide_struct Tryz.underlying34 hval
  have hsz4 : cs.size = 8 := hsz.trans (by kernel_rfl)
  obtain ⟨a0, a1, a2, a3, a4, a5, a6, a7, rfl⟩ := eight hsz4
  obtain ⟨fuel, hf⟩ := h
  obtain ⟨_, ts, h1, ⟨X, hX, rfl⟩, h3⟩ := opens_Live H enc w base sp held fuel _ _ hf hw
  have g : ∀ {v : Value} {x : Value} {Z : Fp} {l : Nat}, Ow Z w l v (.v x) none_ → v = x := by
    intro v x Z l h
    cases h
    rfl
  have e4 := g (h3 4 _ _ rfl rfl)
  exact ⟨X, hX, a0, a1, a2, a3, a5, a6, a7, by rw [← e4], h3 0 _ _ rfl rfl, h3 1 _ _ rfl rfl, h3 2 _ _ rfl rfl, h3 3 _ _ rfl rfl, h3 5 _ _ rfl rfl, h3 6 _ _ rfl rfl, h3 7 _ _ rfl rfl⟩
theorem arg_Live {Z : Fp} {w : World} {ob : Objs} {ρ : Nat → Value} {j : Nat} {P : List (List Ins)} {S : List State} {W : List (List Item)} {H : List (List Event)} {on : Bool} {cut : List Int} {opn : List Bool} {kept : List (List Int)} {a0 a1 a2 a3 a5 a6 a7 : Value}
    (g0 : Ow Z w 0 a0 (.sl 1 (P.map rInsL)) none_) (g1 : Ow Z w 0 a1 (.sl 4 (S.map rState)) none_) (g2 : Ow Z w 0 a2 (.sl 1 (W.map rItemL)) none_) (g3 : Ow Z w 0 a3 (.sl 1 (H.map rEventL)) none_)
    (g5 : Ow Z w 0 a5 (.sl 1 (cut.map rI)) none_) (g6 : Ow Z w 0 a6 (.sl 1 (opn.map rBool)) none_) (g7 : Ow Z w 0 a7 (.sl 1 (kept.map rIntL)) none_)
    (e0 : ob (1000000 + j) = ⟨0, 0, false, tInsSS P⟩) (e1 : ob (1000001 + j) = ⟨0, 0, false, tStateS S⟩) (e2 : ob (1000002 + j) = ⟨0, 0, false, tItemSS W⟩) (e3 : ob (1000003 + j) = ⟨0, 0, false, tEventSS H⟩)
    (e5 : ob (1000004 + j) = ⟨0, 0, false, tI cut⟩) (e6 : ob (1000005 + j) = ⟨0, 0, false, tBool opn⟩) (e7 : ob (1000006 + j) = ⟨0, 0, false, tIntSS kept⟩)
    (r0 : ρ (1000000 + j) = a0) (r1 : ρ (1000001 + j) = a1) (r2 : ρ (1000002 + j) = a2) (r3 : ρ (1000003 + j) = a3) (r5 : ρ (1000004 + j) = a5) (r6 : ρ (1000005 + j) = a6) (r7 : ρ (1000006 + j) = a7) :
    AVR w ob ρ (aLive j P S W H on cut opn kept) (.agg #[a0, a1, a2, a3, .bool on, a5, a6, a7]) := by
  have h0 := arg_slice e0 r0 g0
  have h1 := arg_slice e1 r1 g1
  have h2 := arg_slice e2 r2 g2
  have h3 := arg_slice e3 r3 g3
  have h5 := arg_slice e5 r5 g5
  have h6 := arg_slice e6 r6 g6
  have h7 := arg_slice e7 r7 g7
  rw [List.length_map] at h0 h1 h2 h3 h5 h6 h7
  refine .ag rfl ?_
  rintro (_ | _ | _ | _ | _ | _ | _ | _ | i) y hy
  · cases hy; exact h0
  · cases hy; exact h1
  · cases hy; exact h2
  · cases hy; exact h3
  · cases hy; exact .s rfl
  · cases hy; exact h5
  · cases hy; exact h6
  · cases hy; exact h7
  · simp at hy

theorem walk_FnExactPicture {W : World} {v0 : Value} {X0 : Live} (h0 : SysB 140737488355328 X0.s.progs X0.s.states X0.s.ways X0.s.hist ∧ ShotB 140737488355328 X0.shot.cut X0.shot.opn X0.shot.kept)
    (o0 : LiveAt W v0 X0) :
    Calls PR 13 #[v0] W (fun e w' => e = .returned (.bool true) ∧ Below W.heap.size W w') := by
  have hF := callE_sound (C := C) tys_ok prims_ok _ _ _ _ _ (ok_laws_FnExactPicture 0 X0.s.progs X0.s.states X0.s.ways X0.s.hist X0.shot.on X0.shot.cut X0.shot.opn X0.shot.kept h0.1 h0.2)
  obtain ⟨a0_0, a0_1, a0_2, a0_3, a0_4, a0_5, a0_6, rfl, g0_0, g0_1, g0_2, g0_3, g0_4, g0_5, g0_6⟩ := o0
  refine (hF.outside [a0_0, a0_1, a0_2, a0_3, a0_4, a0_5, a0_6] ?_ #[_] rfl ?_).mono ?_
  · rintro (_ | _ | _ | _ | _ | _ | _ | i) c hc
    · cases hc; exact ⟨_, _, rfl, rfl, g0_0⟩
    · cases hc; exact ⟨_, _, rfl, rfl, g0_1⟩
    · cases hc; exact ⟨_, _, rfl, rfl, g0_2⟩
    · cases hc; exact ⟨_, _, rfl, rfl, g0_3⟩
    · cases hc; exact ⟨_, _, rfl, rfl, g0_4⟩
    · cases hc; exact ⟨_, _, rfl, rfl, g0_5⟩
    · cases hc; exact ⟨_, _, rfl, rfl, g0_6⟩
    · simp at hc
  · rintro (_ | i) x hx
    · cases hx
      exact arg_Live g0_0 g0_1 g0_2 g0_3 g0_4 g0_5 g0_6 rfl rfl rfl rfl rfl rfl rfl rfl rfl rfl rfl rfl rfl rfl
    · simp at hx
  · rintro e w' ⟨v, rfl, hb, ob', ρ', hv⟩
    exact ⟨by rw [hv.bool_inv], hb⟩

end Go.Proofs.YtlobpiebphnkiaaGreat.Abs
namespace Go.Proofs.YtlobpiebphnkiaaGreat.fnExactPicture
open Go Go.Proofs Go.ChangeShapes Go.WideShapes Go.RowKit Go.Proofs.YtlobpiebphnkiaaGreat.Abs
set_option linter.unusedVariables false
theorem own : ownKnob Tryz.prog.godebug = none := by kernel_rfl
theorem laidOut : laidOutB Tryz.prog = true := by kernel_rfl
set_option maxRecDepth 100000 in
theorem lifted (os : Os) (started : os.Started) (H : Type) (enc : TypeId × Value → H) :
    ReturnsInHanded {} Tryz.checked os 13 .any (Rows.fnExactPictureSpec.pre6 enc Tryz.prog Tryz.f13 Rows.fnExactPictureRow.domain false) (Rows.fnExactPictureSpec.post enc Tryz.prog Tryz.f13 false true false false) := by
  refine returnsInHanded_of_change_sized (C := Tryz.checked) own started (by kernel_rfl) Tryz.func13
    (ChangeSpec.witness6 (enc := enc) (C := Tryz.checked) false ⟨#[], #[.agg #[.slice none 0 0, .slice none 0 0, .slice none 0 0, .slice none 0 0, .bool false, .slice none 0 0, .slice none 0 0, .slice none 0 0]], []⟩ 8 (by kernel_rfl) (by kernel_rfl) (by kernel_rfl) (by kernel_rfl)) ?_
  intro W base args ds gs before hval0 hW hcnd hsz0 _
  have hsz : (DataW.weightsEach Tryz.prog (Tryz.f13.params.toList ++ Rows.fnExactPictureSpec.plain.varTypes Tryz.prog) (ds ++ gs)).all (· ≤ reachBytes) = true := hsz0
  have hval : ∀ (j : Nat) t v, Tryz.f13.params[j]? = some t → args[j]? = some v → Value.okWide Tryz.prog W .any base t v := hval0
  have hW' := hW
  obtain ⟨p, q, hA0, hV, rfl, hfz, hnd⟩ := hW
  have hA : DataW.TrodAll enc Tryz.prog W 0 (fun _ => true) true Tryz.f13.params.toList args.toList ds p := hA0
  rw [Tryz.params13] at hA hval hsz
  obtain ⟨v0, vs0, d0, ds0, p0, q0, hargs, rfl, rfl, h0, r0⟩ := trodAll_cons hA
  obtain ⟨rfl, rfl, rfl⟩ := trodAll_nil r0
  obtain rfl : args = #[v0] := by cases args; simp_all
  obtain ⟨rfl, rfl⟩ := trodVars_none hV
  have hwt : ∀ (j : Nat) t d, [34][j]? = some t → [d0][j]? = some d → ∀ m ∈ d.weights Tryz.prog t, m ≤ reachBytes := by
    intro j t d ht hd m hm
    have := List.all_eq_true.1 hsz m (DataW.weights_mem_each (j := j) (t := t) (d := d) ht hd m hm)
    simpa using this
  have k0 := h0
  have lt0 : ∀ x ∈ p0, x.block < W.heap.size := by obtain ⟨m, hm⟩ := k0; exact DataW.trod_lt m _ _ _ hm
  obtain ⟨l0, s0, o0⟩ := open_Live (hval 0 34 v0 rfl rfl) h0 (hwt 0 _ _ rfl rfl)
  clear hA0 hval0 hsz0 hsz hwt
  refine (walk_FnExactPicture s0 o0).mono fun e W' ⟨he, bel⟩ => ?_
  subst he
  exact ⟨_, rfl, _, _, _, [], _, [], hW', trodAll_mk1 (shut_bool Tryz.underlying4 _), (trodAll_cons_mk (Below.trod laidOut (by kernel_rfl) (of_decide_eq_true (by kernel_rfl)) k0 bel lt0) trodAll_mk0), rfl, bel.frame _, fun h => by cases h⟩
theorem andT {a b : Bool} (h1 : a = true) (h2 : b = true) : (a && b) = true := by rw [h1, h2]; rfl
theorem j0 : Rows.fnExactPictureRow.wf (OpenSpec.ofChange Rows.fnExactPictureSpec) = true := by kernel_rfl
theorem j1 : laidOutB Tryz.prog = true := by kernel_rfl
theorem j2 : mapsRowed Tryz.prog = true := by kernel_rfl
theorem j3 : Tryz.f13.params.all (Tryz.prog.readableRec ·) = true := by kernel_rfl
theorem j4 : namedTie Tryz.prog Rows.fnExactPictureRow.named Rows.fnExactPictureSpec.vars = true := by kernel_rfl
theorem j5 : (Rows.fnExactPictureRow.stops == []) = true := by kernel_rfl
theorem j6 : (Tryz.prog.stops == []) = true := by kernel_rfl
theorem j7 : (Rows.fnExactPictureRow.knobs == []) = true := by kernel_rfl
theorem j8 : (Tryz.prog.stopKnobs == []) = true := by kernel_rfl
theorem j9 : (Rows.fnExactPictureRow.inPlace == Tryz.prog.inPlace 13) = true := by kernel_rfl
theorem j10 : (Rows.fnExactPictureRow.unfollowed == Tryz.prog.unfollowed 13) = true := by kernel_rfl
theorem j11 : (Rows.fnExactPictureRow.recurses == Tryz.prog.recurses 13) = true := by kernel_rfl
theorem j12 : (Rows.fnExactPictureRow.named == Tryz.prog.varsNamed 13) = true := by kernel_rfl
theorem j13 : (Rows.fnExactPictureRow.maps == (Tryz.f13.params.toList ++ Rows.fnExactPictureSpec.plain.varTypes Tryz.prog).any (Tryz.prog.mapsRec ·)) = true := by kernel_rfl
theorem j14 : (Rows.fnExactPictureRow.ifaces == (Tryz.f13.params.toList ++ Rows.fnExactPictureSpec.plain.varTypes Tryz.prog).any (Tryz.prog.ifacesRec ·)) = true := by kernel_rfl
theorem j15 : (Rows.fnExactPictureRow.mapsOut == Tryz.prog.mapsAmong Tryz.f13.resultTypes.toList) = true := by kernel_rfl
theorem j16 : (Rows.fnExactPictureRow.loops == (Tryz.f13.params.toList ++ Rows.fnExactPictureSpec.plain.varTypes Tryz.prog).any (Tryz.prog.loopsFrom ·)) = true := by kernel_rfl
theorem j17 : (Rows.fnExactPictureRow.wideKeys == (Tryz.f13.params.toList ++ Rows.fnExactPictureSpec.plain.varTypes Tryz.prog ++ Tryz.f13.resultTypes.toList).any (Tryz.prog.wideKeysFrom ·)) = true := by kernel_rfl
theorem j18 : Rows.fnExactPictureSpec.vars.all (Tryz.prog.varReadable ·) = true := by kernel_rfl
theorem j19 : Tryz.f13.resultTypes.all (fun t => Tryz.prog.readableRec t && decide (t < Tryz.prog.types.size)) = true := by kernel_rfl
theorem j20 : (Rows.fnExactPictureRow.ifacesOut == Tryz.f13.resultTypes.toList.any (Tryz.prog.ifacesRec ·)) = true := by kernel_rfl
theorem j21 : (Rows.fnExactPictureRow.loopsOut == Tryz.f13.resultTypes.toList.any (Tryz.prog.loopsFrom ·)) = true := by kernel_rfl
theorem j22 : (Rows.fnExactPictureRow.plainKeys == Tryz.prog.plainKeys) = true := by kernel_rfl
theorem j23 : Rows.fnExactPictureRow.shortTexts.isNone = true := by kernel_rfl
theorem j24 : Tryz.prog.stopsHeard = true := by kernel_rfl
theorem j25 : Tryz.prog.mayEnter = true := by kernel_rfl
theorem j26 : (Rows.fnExactPictureRow.lifted == Tryz.prog.liftsFinal) = true := by kernel_rfl
theorem j27 : (Tryz.prog.make == some Rows.fnExactPictureRow.make) = true := by kernel_rfl
theorem j28 : (Rows.fnExactPictureRow.kinds == (if Rows.fnExactPictureRow.domain.isEmpty then [] else Tryz.f13.params.toList.map fun t => match Tryz.prog.underlying t with | some (.int k) => some k | _ => none)) = true := by kernel_rfl
theorem j29 : (Rows.fnExactPictureRow.pinned == Rows.fnExactPictureRow.pinnedBy) = true := by kernel_rfl
theorem j30 : (Rows.fnExactPictureRow.veiled == (Tryz.f13.params.toList ++ Rows.fnExactPictureSpec.plain.varTypes Tryz.prog ++ Tryz.f13.resultTypes.toList).any (Tryz.prog.veiledRec ·)) = true := by kernel_rfl
theorem j31 : Rows.fnExactPictureRow.veiledFits Tryz.prog Tryz.f13.params.toList (Tryz.f13.params.toList ++ Rows.fnExactPictureSpec.plain.varTypes Tryz.prog ++ Tryz.f13.resultTypes.toList) = true := by kernel_rfl
set_option maxRecDepth 100000 in
theorem joined : joinedFacts Tryz.prog 13 Tryz.f13 Rows.fnExactPictureSpec Rows.fnExactPictureRow = true := by
  unfold joinedFacts
  exact andT (andT (andT (andT (andT (andT (andT (andT (andT (andT (andT (andT (andT (andT (andT (andT (andT (andT (andT (andT (andT (andT (andT (andT (andT (andT (andT (andT (andT (andT (andT j0 j1) j2) j3) j4) j5) j6) j7) j8) j9) j10) j11) j12) j13) j14) j15) j16) j17) j18) j19) j20) j21) j22) j23) j24) j25) j26) j27) j28) j29) j30) j31
theorem over : Rows.fnExactPictureRow.holds Tryz.pinned (OpenSpec.ofChange Rows.fnExactPictureSpec) :=
  OpenClaim.holds_of_wide 13 Tryz.f13 rfl rfl rfl rfl rfl rfl rfl ⟨rfl, rfl, rfl, rfl, rfl⟩ rfl rfl rfl rfl rfl (by kernel_rfl) Tryz.func13 joined
    (of_decide_eq_true (by kernel_rfl)) (by unfold Func.isWrapper; first | (rw [if_pos (by decide +kernel)]; kernel_rfl) | (rw [if_neg (by decide +kernel)]; exact ⟨rfl, rfl⟩))
    (fun os started H enc _ => lifted os started H enc)
theorem proved : Rows.FnExactPictureSaid := over
#print axioms proved
end Go.Proofs.YtlobpiebphnkiaaGreat.fnExactPicture
namespace Go.Proofs.YtlobpiebphnkiaaGreat
theorem fnExactPicture_holds : Rows.FnExactPictureSaid := fnExactPicture.proved
end Go.Proofs.YtlobpiebphnkiaaGreat

