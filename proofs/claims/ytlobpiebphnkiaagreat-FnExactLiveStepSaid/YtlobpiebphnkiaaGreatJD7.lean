/- FnExactLiveStep returns true for every input, and leaves its arguments as they read. Conditions: none beside the row's own. -/
import Derived.ChangeSame
import Derived.SizedLaws
import Derived.DataReads
import Derived.Carry
import Derived.WideShapes
import Derived.KernelRfl
import Derived.Test.YtlobpiebphnkiaaGreatRows
import Derived.WalkKit
import Derived.ProofKit
import Derived.OpenShut
import Derived.ShutString
import Derived.ChangeOld
import Derived.Below
import Derived.Test.YtlobpiebphnkiaaGreatJD6
namespace Go.Proofs.YtlobpiebphnkiaaGreat.Abs
open Go Go.Proofs
set_option linter.unusedVariables false
set_option linter.unusedSimpArgs false
attribute [local irreducible] callE
structure LiveV where
  s : Sys
  on : Bool
  cut : List Int
  opn : List Bool
  kept : List (List Int)
def liveRes (X : LiveV) (n : Int) (b : List (Option Cont)) : Res :=
  ⟨.tu [nLive 0 X.s.progs X.s.states X.s.ways X.s.hist X.on X.cut X.opn X.kept, i64 n], [tInsSS9 X.s.progs, tStateS9 X.s.states, tItemSS9 X.s.ways, tEventSS9 X.s.hist, tI9 X.cut, tBool9 X.opn, tIntSS9 X.kept], b⟩
def zeroV : LiveV := ⟨⟨[], [], [], []⟩, false, [], [], []⟩
def keptBy (n : Nat) (opn : List Bool) (kept : List (List Int)) (p : Nat) (e : Event) : List (List Int) :=
  if e.kind = 3 ∧ rd opn (e.peer.toNat * n + p) = true then kept.set (e.peer.toNat * n + p) (rd kept (e.peer.toNat * n + p) ++ [e.v]) else kept
def liveStepIs (P : List (List Ins)) (S : List State) (W : List (List Item)) (H : List (List Event)) (on : Bool) (cut : List Int) (opn : List Bool) (kept : List (List Int)) (p peer : Int) : LiveV × Int :=
  if liveOk P S W H on cut opn kept = true then
    (if (comingIs P S W H p peer).2 = 0 then (⟨stepS P S W H p.toNat (comingIs P S W H p peer).1, on, cut, opn, keptBy P.length opn kept p.toNat (comingIs P S W H p peer).1⟩, 0)
     else (⟨⟨P, S, W, H⟩, on, cut, opn, kept⟩, (comingIs P S W H p peer).2))
  else (zeroV, 1)
theorem ShotB.mono9 {cut : List Int} {opn : List Bool} {kept : List (List Int)} (h : ShotB 1000000000 cut opn kept) : ShotB 10000000000 cut opn kept :=
  ⟨by have := h.c; omega, by have := h.o; omega, by have := h.k; omega, fun j hj => by have := h.kk j hj; omega⟩
set_option maxRecDepth 20000 in
set_option maxHeartbeats 8000000 in
theorem ok_impl_LiveStep (k : Nat) (P : List (List Ins)) (S : List State) (W : List (List Item)) (H : List (List Event)) (on : Bool) (cut : List Int) (opn : List Bool) (kept : List (List Int)) (p peer : Int) (hb : SysB 1000000000 P S W H) (hs : ShotB 1000000000 cut opn kept) :
    callE PR C (k + 13) 60 [aLive 0 P S W H on cut opn kept, i64 p, i64 peer] [tInsSS P, tStateS S, tItemSS W, tEventSS H, tI cut, tBool opn, tIntSS kept] = some (liveRes (liveStepIs P S W H on cut opn kept p peer).1 (liveStepIs P S W H on cut opn kept p peer).2 [none, none, none, none, none, none, none]) := by
  have q1 := fun k => ok_impl_LiveOk k P S W H on cut opn kept (hb.mono (by decide)) hs.mono9
  unfold liveStepIs
  cases e : liveOk P S W H on cut opn kept with
  | false =>
    simp only [e] at q1
    rw [if_neg (by decide)]
    (refine fnI [ResultVar.cell 6 45, ResultVar.tmp 7] Tryz.func60 ?_; conv => whnf)
    repeat' ((with_reducible (first | refine sCall.of (q1 _) ?_|refine st18 ?_|refine fG.split (fun _ => ?_) (fun _ => ?_)|refine fG.bool (fun _ => ?_) (fun _ => ?_)|refine gD 11 [(2, 12), (6, 12), (9, 12), (2, 13)] ?_)) <;> (try (conv => whnf)))
    all_goals rfl
  | true =>
    simp only [e] at q1
    rw [if_pos rfl]
    obtain ⟨f1, l1, l2, l3, f5, _⟩ := liveOk_facts e
    obtain ⟨hI, hP, hS', h200⟩ := sysOk_facts f1
    have hN := hI.n
    have hwl := hI.w
    have hHl := hI.h
    have hnn : P.length * P.length ≤ 4 * 4 := Nat.mul_le_mul hN.2 hN.2
    have hn0 : 0 < P.length * P.length := Nat.mul_pos (by omega) (by omega)
    have q2 := fun k => ok_impl_cloneLive k P S W H on cut opn kept (hb.mono (by decide)) hI.some hs (by omega)
    have q3 := fun k => ok_impl_coming k P S W H p peer (hb.mono (by decide)) f1
    have q4 := fun k => ok_impl_step k P S W H p peer (hb.mono (by decide)) f1
    by_cases c0 : (comingIs P S W H p peer).2 = 0
    · rw [if_pos c0]
      obtain ⟨hp0, hc⟩ := coming_comes f1 c0
      have hst : stepIs P S W H p peer = (stepS P S W H p.toNat (comingIs P S W H p peer).1, 0) := by unfold stepIs; rw [if_pos c0]
      rw [hst] at q4
      generalize comingIs P S W H p peer = ec at *
      obtain ⟨ev, n⟩ := ec
      dsimp only at c0 hc q3 q4 ⊢
      subst c0
      obtain ⟨p, rfl⟩ : ∃ n : Nat, p = (n : Int) := ⟨p.toNat, by omega⟩
      rw [Int.toNat_natCast] at hc q4 ⊢
      have hp := hc.lt
      simp only [sysRes, stepS] at q4
      unfold liveRes keptBy stepS
      generalize S.set p (did (rd P p) (rd S p) ev) = S2 at *
      generalize stepW P.length W p ev = W2 at *
      generalize H.set p (rd H p ++ [ev]) = H2 at *
      by_cases k3 : ev.kind = 3
      · have htk := hc.take k3
        obtain ⟨b, hbq⟩ : ∃ b : Nat, ev.peer = (b : Int) := ⟨_, (Int.toNat_of_nonneg htk.1.1).symm⟩
        have hbl : b < P.length := by have := htk.1.2; omega
        have q5 := fun k => ok_impl_wayAt k P S W H b p (hb.mono (by decide)) hbl hp hN.2 hwl
        have hpl := place_lt hbl hp
        have hkx := hs.kk (b * P.length + p) (by omega)
        rw [show ev.peer.toNat = b by omega]
        rw [← hbq] at q5
        obtain ⟨ix, hix⟩ : ∃ ix, ix = b * P.length + p := ⟨_, rfl⟩
        rw [← hix] at q5 hpl hkx ⊢
        clear hix htk hc hst
        have e5 : (List.map rI (rd kept ix)).length = (rd kept ix).length := by simp
        cases ho : rd opn ix with
        | true =>
          simp only [k3, true_and, if_true, nLive, List.length_set]
          (refine fnI [ResultVar.cell 6 45, ResultVar.tmp 7] Tryz.func60 ?_; conv => whnf)
          repeat' ((with_reducible (first | refine sCall.of (q1 _) ?_|refine sCall.of (q2 _) ?_|refine sCall.of (q3 _) ?_|refine sCall.of (q4 _) ?_|refine sCall.of (q5 _) ?_|refine gHole ?_|refine st18 ?_|refine fG.split (fun _ => ?_) (fun _ => ?_)|refine fG.bool (fun _ => ?_) (fun _ => ?_)|refine gD 11 [(2, 12), (6, 12), (9, 12), (2, 13)] ?_)) <;> (try (conv => whnf)))
          all_goals rfl
        | false =>
          simp only [k3, true_and, Bool.false_eq_true, if_false]
          (refine fnI [ResultVar.cell 6 45, ResultVar.tmp 7] Tryz.func60 ?_; conv => whnf)
          repeat' ((with_reducible (first | refine sCall.of (q1 _) ?_|refine sCall.of (q2 _) ?_|refine sCall.of (q3 _) ?_|refine sCall.of (q4 _) ?_|refine sCall.of (q5 _) ?_|refine st18 ?_|refine fG.split (fun _ => ?_) (fun _ => ?_)|refine fG.bool (fun _ => ?_) (fun _ => ?_)|refine gD 11 [(2, 12), (6, 12), (9, 12), (2, 13)] ?_)) <;> (try (conv => whnf)))
          all_goals rfl
      · simp only [k3, false_and, if_false]
        clear hst hc
        (refine fnI [ResultVar.cell 6 45, ResultVar.tmp 7] Tryz.func60 ?_; conv => whnf)
        repeat' ((with_reducible (first | refine sCall.of (q1 _) ?_|refine sCall.of (q2 _) ?_|refine sCall.of (q3 _) ?_|refine sCall.of (q4 _) ?_|refine st18 ?_|refine fG.split (fun _ => ?_) (fun _ => ?_)|refine fG.bool (fun _ => ?_) (fun _ => ?_)|refine gD 11 [(2, 12), (6, 12), (9, 12), (2, 13)] ?_)) <;> (try (conv => whnf)))
        all_goals rfl
    · rw [if_neg c0]
      generalize comingIs P S W H p peer = ec at *
      obtain ⟨ev, n⟩ := ec
      dsimp only at c0 q3 ⊢
      unfold liveRes
      clear q4
      (refine fnI [ResultVar.cell 6 45, ResultVar.tmp 7] Tryz.func60 ?_; conv => whnf)
      repeat' ((with_reducible (first | refine sCall.of (q1 _) ?_|refine sCall.of (q2 _) ?_|refine sCall.of (q3 _) ?_|refine st18 ?_|refine fG.split (fun _ => ?_) (fun _ => ?_)|refine fG.bool (fun _ => ?_) (fun _ => ?_)|refine gD 11 [(2, 12), (6, 12), (9, 12), (2, 13)] ?_)) <;> (try (conv => whnf)))
      all_goals rfl

set_option maxRecDepth 20000 in
set_option maxHeartbeats 8000000 in
theorem ok_spec_LiveStep (k : Nat) (P : List (List Ins)) (S : List State) (W : List (List Item)) (H : List (List Event)) (on : Bool) (cut : List Int) (opn : List Bool) (kept : List (List Int)) (p peer : Int) (hb : SysB 1000000000 P S W H) (hs : ShotB 1000000000 cut opn kept) :
    callE PR C (k + 9) 59 [aLive 0 P S W H on cut opn kept, i64 p, i64 peer] [tInsSS P, tStateS S, tItemSS W, tEventSS H, tI cut, tBool opn, tIntSS kept] = some (liveRes (liveStepIs P S W H on cut opn kept p peer).1 (liveStepIs P S W H on cut opn kept p peer).2 [none, none, none, none, none, none, none]) := by
  have q1 := fun k => ok_spec_LiveOk k P S W H on cut opn kept (hb.mono (by decide)) hs.mono9
  unfold liveStepIs
  cases e : liveOk P S W H on cut opn kept with
  | false =>
    simp only [e] at q1
    rw [if_neg (by decide)]
    (refine fnI [ResultVar.cell 6 45, ResultVar.tmp 7] Tryz.func59 ?_; conv => whnf)
    repeat' ((with_reducible (first | refine sCall.of (q1 _) ?_|refine st18 ?_|refine fG.split (fun _ => ?_) (fun _ => ?_)|refine fG.bool (fun _ => ?_) (fun _ => ?_)|refine gD 8 [(1, 14), (4, 14), (6, 14), (9, 14), (13, 14)] ?_|refine gD 11 [(2, 12), (6, 12), (9, 12), (2, 13)] ?_)) <;> (try (conv => whnf)))
    all_goals rfl
  | true =>
    simp only [e] at q1
    rw [if_pos rfl]
    obtain ⟨f1, l1, l2, l3, f5, _⟩ := liveOk_facts e
    obtain ⟨hI, hP, hS', h200⟩ := sysOk_facts f1
    have hN := hI.n
    have hwl := hI.w
    have hHl := hI.h
    have hnn : P.length * P.length ≤ 4 * 4 := Nat.mul_le_mul hN.2 hN.2
    have hn0 : 0 < P.length * P.length := Nat.mul_pos (by omega) (by omega)
    have q2 := fun k => ok_spec_l11Copy k P S W H on cut opn kept (hb.mono (by decide)) hI.some hs (by omega)
    have q3 := fun k => ok_spec_l4Copy k P S W H (hb.mono (by decide)) hI.some
    have q4 := fun k => ok_spec_l5Step k P S W H p peer (hb.mono (by decide)) f1
    by_cases c0 : (comingIs P S W H p peer).2 = 0
    · rw [if_pos c0]
      obtain ⟨hp0, hc⟩ := coming_comes f1 c0
      have hst : stepIs P S W H p peer = (stepS P S W H p.toNat (comingIs P S W H p peer).1, 0) := by unfold stepIs; rw [if_pos c0]
      rw [hst] at q4
      generalize comingIs P S W H p peer = ec at *
      obtain ⟨ev, n⟩ := ec
      dsimp only at c0 hc q4 ⊢
      subst c0
      obtain ⟨p, rfl⟩ : ∃ n : Nat, p = (n : Int) := ⟨p.toNat, by omega⟩
      rw [Int.toNat_natCast] at hc q4 ⊢
      have hp := hc.lt
      obtain ⟨g1, g2, g3, g4⟩ := procF_of f1 hp
      have hev := (comes_evOk g1 g2 hc.comes).peer
      obtain ⟨b, hbq⟩ : ∃ b : Nat, ev.peer = (b : Int) := ⟨_, (Int.toNat_of_nonneg hev.1).symm⟩
      have hk3 : ev.kind = 3 → b < P.length := fun h => by have := (hc.take h).1.2; omega
      simp only [sysRes, stepS] at q4
      unfold liveRes keptBy stepS
      rw [show ev.peer.toNat = b by omega]
      have hH2 : rd (H.set p (rd H p ++ [ev])) p = rd H p ++ [ev] := by rw [rd_put _ (by omega), if_pos rfl]
      have hlen : (rd (H.set p (rd H p ++ [ev])) p).length = (rd H p).length + 1 := by rw [hH2]; simp
      have hlast : rd (rd (H.set p (rd H p ++ [ev])) p) ((((rd (H.set p (rd H p ++ [ev])) p).length : Nat) : Int) - 1).toNat = ev := by rw [hlen, hH2]; simp [rd]
      have hH2l : (H.set p (rd H p ++ [ev])).length = H.length := List.length_set
      have h2p := h200 p (by omega)
      clear hst hH2 g1 g2 g4 hc e
      generalize S.set p (did (rd P p) (rd S p) ev) = S2 at *
      generalize stepW P.length W p ev = W2 at *
      generalize H.set p (rd H p ++ [ev]) = H2 at *
      have e6 : (List.map rEvent (rd H2 p)).length = (rd H2 p).length := by simp
      subst hlast
      have wm : IntKind.i64.wrap ((rd (rd H2 p) ((((rd H2 p).length : Nat) : Int) - 1).toNat).peer * (P.length : Int)) = ((b * P.length : Nat) : Int) := by
        have := Nat.mul_le_mul (show b ≤ 4 by omega) hN.2
        rw [hbq, show (b : Int) * (P.length : Int) = ((b * P.length : Nat) : Int) by simp]; exact wrap_i64 _ (by omega) (by omega)
      have wa : IntKind.i64.wrap (((b * P.length : Nat) : Int) + (p : Int)) = ((b * P.length + p : Nat) : Int) := by
        have := Nat.mul_le_mul (show b ≤ 4 by omega) hN.2
        rw [wrap_i64 _ (by omega) (by omega)]; simp
      by_cases k3 : (rd (rd H2 p) ((((rd H2 p).length : Nat) : Int) - 1).toNat).kind = 3
      · have hbl := hk3 k3
        have hpl := place_lt hbl hp
        have hkx := hs.kk (b * P.length + p) (by omega)
        obtain ⟨ix, hix⟩ : ∃ ix, ix = b * P.length + p := ⟨_, rfl⟩
        rw [← hix] at hpl hkx wa ⊢
        clear hix hk3
        generalize b * P.length = pm at *
        have e5 : (List.map rI (rd kept ix)).length = (rd kept ix).length := by simp
        cases ho : rd opn ix with
        | true =>
          simp only [k3, true_and, if_true, nLive, List.length_set]
          (refine fnI [ResultVar.cell 6 45, ResultVar.tmp 7] Tryz.func59 ?_; conv => whnf)
          repeat' ((with_reducible (first | refine sCall.of (q1 _) ?_|refine sCall.of (q2 _) ?_|refine sCall.of (q3 _) ?_|refine sCall.of (q4 _) ?_|refine sW.eq (wm) ?_|refine sW.eq (wa) ?_|refine gHole ?_|refine st18 ?_|refine fG.split (fun _ => ?_) (fun _ => ?_)|refine fG.bool (fun _ => ?_) (fun _ => ?_)|refine gD 8 [(1, 14), (4, 14), (6, 14), (9, 14), (13, 14)] ?_|refine gD 11 [(2, 12), (6, 12), (9, 12), (2, 13)] ?_)) <;> (try (conv => whnf)))
          all_goals rfl
        | false =>
          simp only [k3, true_and, Bool.false_eq_true, if_false]
          (refine fnI [ResultVar.cell 6 45, ResultVar.tmp 7] Tryz.func59 ?_; conv => whnf)
          repeat' ((with_reducible (first | refine sCall.of (q1 _) ?_|refine sCall.of (q2 _) ?_|refine sCall.of (q3 _) ?_|refine sCall.of (q4 _) ?_|refine sW.eq (wm) ?_|refine sW.eq (wa) ?_|refine st18 ?_|refine fG.split (fun _ => ?_) (fun _ => ?_)|refine fG.bool (fun _ => ?_) (fun _ => ?_)|refine gD 8 [(1, 14), (4, 14), (6, 14), (9, 14), (13, 14)] ?_|refine gD 11 [(2, 12), (6, 12), (9, 12), (2, 13)] ?_)) <;> (try (conv => whnf)))
          all_goals rfl
      · simp only [k3, false_and, if_false]
        clear hk3
        generalize b * P.length + p = ix at *
        generalize b * P.length = pm at *
        (refine fnI [ResultVar.cell 6 45, ResultVar.tmp 7] Tryz.func59 ?_; conv => whnf)
        repeat' ((with_reducible (first | refine sCall.of (q1 _) ?_|refine sCall.of (q2 _) ?_|refine sCall.of (q3 _) ?_|refine sCall.of (q4 _) ?_|refine sW.eq (wm) ?_|refine sW.eq (wa) ?_|refine st18 ?_|refine fG.split (fun _ => ?_) (fun _ => ?_)|refine fG.bool (fun _ => ?_) (fun _ => ?_)|refine gD 8 [(1, 14), (4, 14), (6, 14), (9, 14), (13, 14)] ?_|refine gD 11 [(2, 12), (6, 12), (9, 12), (2, 13)] ?_)) <;> (try (conv => whnf)))
        all_goals rfl
    · rw [if_neg c0]
      have hst : stepIs P S W H p peer = (⟨P, S, W, H⟩, (comingIs P S W H p peer).2) := by unfold stepIs; rw [if_neg c0]
      rw [hst] at q4
      generalize comingIs P S W H p peer = ec at *
      obtain ⟨ev, n⟩ := ec
      dsimp only at c0 q4 ⊢
      simp only [sysRes] at q4
      unfold liveRes
      (refine fnI [ResultVar.cell 6 45, ResultVar.tmp 7] Tryz.func59 ?_; conv => whnf)
      repeat' ((with_reducible (first | refine sCall.of (q1 _) ?_|refine sCall.of (q2 _) ?_|refine sCall.of (q3 _) ?_|refine sCall.of (q4 _) ?_|refine st18 ?_|refine fG.split (fun _ => ?_) (fun _ => ?_)|refine fG.bool (fun _ => ?_) (fun _ => ?_)|refine gD 8 [(1, 14), (4, 14), (6, 14), (9, 14), (13, 14)] ?_|refine gD 11 [(2, 12), (6, 12), (9, 12), (2, 13)] ?_)) <;> (try (conv => whnf)))
      all_goals rfl

theorem sysOk_G {P : List (List Ins)} {S : List State} {W : List (List Item)} {H : List (List Event)} (h : sysOk P S W H = true) : SysG ⟨P, S, W, H⟩ := by
  obtain ⟨hI, hP, hS, h200⟩ := sysOk_facts h
  have hN := hI.n
  have hsl := hI.s
  have hwl := hI.w
  have hHl := hI.h
  have hnn : P.length * P.length ≤ 4 * 4 := Nat.mul_le_mul hN.2 hN.2
  have h' := h
  simp only [sysOk, Bool.and_eq_true, List.all_eq_true] at h'
  refine sysG_of ⟨by show P.length ≤ _; omega, fun j hj => ?_, by show S.length ≤ _; omega, fun j hj => ?_, by show W.length ≤ _; omega, fun j hj => ?_, by show H.length ≤ _; omega, fun j hj => ?_⟩ hN.2 (by show S.length ≤ _; omega) (by show W.length ≤ _; omega) (by show H.length ≤ _; omega)
  · have hj : j < P.length := hj
    have := (procF_of h hj).pl
    show (rd P j).length ≤ _
    omega
  · have hj : j < S.length := hj
    have h1 := (procF_of (p := j) h (by omega)).ok
    have h2 := h1.regs
    have h3 := h1.out
    show (rd S j).regs.length ≤ _ ∧ (rd S j).out.length ≤ _
    omega
  · have hj : j < W.length := hj
    have h1 := h'.2.1 _ (rd_mem hj)
    simp only [wayOk, Bool.and_eq_true, decide_eq_true_eq] at h1
    show (rd W j).length ≤ _
    omega
  · have hj : j < H.length := hj
    have := h200 j hj
    show (rd H j).length ≤ _
    omega
structure LiveG (X : LiveV) : Prop where
  g : SysG X.s
  s : ShotB 1048576 X.cut X.opn X.kept
  w : shotW X.cut X.opn X.kept ≤ 250000000
theorem liveG_zero : LiveG zeroV := ⟨sysG_empty, ⟨by simp [zeroV], by simp [zeroV], by simp [zeroV], fun j hj => by simp [zeroV] at hj⟩, by simp [zeroV, shotW, wts]⟩
theorem liveG_self {P : List (List Ins)} {S : List State} {W : List (List Item)} {H : List (List Event)} {on : Bool} {cut : List Int} {opn : List Bool} {kept : List (List Int)} (h : sysSz P S W H + shotSz cut opn kept ≤ 1048576) : LiveG ⟨⟨P, S, W, H⟩, on, cut, opn, kept⟩ := by
  have := shotW_le cut opn kept
  exact ⟨sysG_self P S W H (by omega), shotB_of (by show shotSz cut opn kept ≤ _; omega), by show shotW cut opn kept ≤ _; omega⟩
theorem liveG_of {X : LiveV} (hg : SysG X.s) (hs : ShotB 1048576 X.cut X.opn X.kept) (h1 : X.cut.length ≤ 4) (h2 : X.opn.length ≤ 16) (h3 : X.kept.length ≤ 16) : LiveG X := by
  refine ⟨hg, hs, ?_⟩
  have := wts_bound wIntL 1048576 X.kept fun j hj => hs.kk j hj
  unfold shotW
  omega
theorem liveStepIs_G {P : List (List Ins)} {S : List State} {W : List (List Item)} {H : List (List Event)} (on : Bool) (cut : List Int) (opn : List Bool) (kept : List (List Int)) (p peer : Int) (h : sysSz P S W H + shotSz cut opn kept ≤ 1048576) : LiveG (liveStepIs P S W H on cut opn kept p peer).1 := by
  unfold liveStepIs
  split
  · rename_i e
    obtain ⟨f1, l1, l2, l3, _⟩ := liveOk_facts e
    obtain ⟨hI, _, _, _⟩ := sysOk_facts f1
    have hN := hI.n
    have hnn : P.length * P.length ≤ 4 * 4 := Nat.mul_le_mul hN.2 hN.2
    split
    · rename_i c0
      have hc := (coming_comes f1 c0).2
      have hs1 : 1 ≤ sysSz P S W H := by unfold sysSz; omega
      have hS : ShotB 1048575 cut opn kept := shotB_of (by omega)
      have hkl : (keptBy P.length opn kept p.toNat (comingIs P S W H p peer).1).length = kept.length := by unfold keptBy; split; exact List.length_set; rfl
      refine liveG_of (sysOk_G (step_sysOk f1 hc)) ⟨by have := hS.c; show cut.length ≤ _; omega, by have := hS.o; show opn.length ≤ _; omega, by have := hS.k; show (keptBy _ _ _ _ _).length ≤ _; omega, fun j hj => ?_⟩ (by show cut.length ≤ _; omega) (by show opn.length ≤ _; omega) (by show (keptBy _ _ _ _ _).length ≤ _; omega)
      have hj : j < (keptBy P.length opn kept p.toNat (comingIs P S W H p peer).1).length := hj
      rw [hkl] at hj
      have hk := hS.kk j hj
      show (rd (keptBy P.length opn kept p.toNat (comingIs P S W H p peer).1) j).length ≤ _
      unfold keptBy
      split
      · rename_i h3
        have htk := hc.take h3.1
        have hpl := place_lt htk.1.2 hc.lt
        rw [rd_put _ (by omega)]
        split
        · rename_i hje
          rw [List.length_append, List.length_singleton, ← hje]
          omega
        · omega
      · omega
    · exact liveG_self h
  · exact liveG_zero
set_option maxRecDepth 20000 in
set_option maxHeartbeats 8000000 in
theorem ok_laws_FnExactLiveStep (k : Nat) (P : List (List Ins)) (S : List State) (W : List (List Item)) (H : List (List Event)) (on : Bool) (cut : List Int) (opn : List Bool) (kept : List (List Int)) (p peer : Int) (hb : SysB 140737488355328 P S W H) (hs : ShotB 140737488355328 cut opn kept) :
    callE PR C (k + 14) 14 [aLive 0 P S W H on cut opn kept, i64 p, i64 peer] [tInsSS P, tStateS S, tItemSS W, tEventSS H, tI cut, tBool opn, tIntSS kept] = some ⟨bl true, [], [none, none, none, none, none, none, none]⟩ := by
  have q0 := fun k => ok_laws_szLive k P S W H on cut opn kept 1048576 (by omega) (by omega) hb hs
  by_cases c : left 1048576 ((sysSz P S W H + shotSz cut opn kept : Nat)) < 0
  · rw [left_m1 c] at q0
    (refine fnI [ResultVar.tmp 6] Tryz.func14 ?_; conv => whnf)
    repeat' ((with_reducible (first | refine sCall.of (q0 _) ?_|refine st18 ?_|refine fG.split (fun _ => ?_) (fun _ => ?_)|refine fG.bool (fun _ => ?_) (fun _ => ?_)|refine gD 10 [(0, 2)] ?_)) <;> (try (conv => whnf)))
  · obtain ⟨c1, c2⟩ := left_pos c
    have hB : SysB 1048576 P S W H := sysB_of (by omega)
    have hS : ShotB 1048576 cut opn kept := shotB_of (by omega)
    have hw := sysW_le P S W H
    have hw2 := shotW_le cut opn kept
    have q1 := fun k => ok_laws_toLive k P S W H on cut opn kept (hB.mono (by decide)) (hS.mono (by decide))
    have q2 := fun k => ok_laws_eqLive k P S W H on cut opn kept (hB.mono (by decide)) (hS.mono (by decide))
    have q3 := fun k => ok_impl_LiveStep k P S W H on cut opn kept p peer (hB.mono (by decide)) (hS.mono (by decide))
    have q4 := fun k => ok_spec_LiveStep k P S W H on cut opn kept p peer (hB.mono (by decide)) (hS.mono (by decide))
    have q6 := fun k => ok_laws_markLive k P S W H on cut opn kept 1 hB hS (by omega) (by omega)
    have e1 : (mkP 1 P).length = P.length := marks_len _ _ _ _
    have e2 : (mkS 1 P S).length = S.length := marks_len _ _ _ _
    have e3 : (mkW 1 P S W).length = W.length := marks_len _ _ _ _
    have e4 : (mkH 1 P S W H).length = H.length := marks_len _ _ _ _
    have e9 := marks_len mInt wInt cut (1 + sysW P S W H)
    have e10 := marks_len mBool wBool opn (1 + sysW P S W H + cut.length)
    have e11 := marks_len mIntL wIntL kept (1 + sysW P S W H + cut.length + opn.length)
    have hG := liveStepIs_G on cut opn kept p peer (show sysSz P S W H + shotSz cut opn kept ≤ 1048576 by omega)
    generalize liveStepIs P S W H on cut opn kept p peer = X at hG q3 q4
    obtain ⟨⟨⟨P', S', W', H'⟩, on', cut', opn', kept'⟩, n⟩ := X
    obtain ⟨⟨hB', hw'⟩, hS', hw2'⟩ := hG
    dsimp only at hB' hw' hS' hw2' q3 q4
    simp only [liveRes] at q3 q4
    have q5 := fun k => ok_laws_eqLive k P' S' W' H' on' cut' opn' kept' (hB'.mono (by decide)) (hS'.mono (by decide))
    have q7 := fun k => ok_laws_markLive k P' S' W' H' on' cut' opn' kept' 1 hB' hS' (by omega) (by omega)
    have q8 := fun k => ok_laws_heldLive k P' S' W' H' on' cut' opn' kept' (mkP 1 P') (mkS 1 P' S') (mkW 1 P' S' W') (mkH 1 P' S' W' H') (marksI (1 + sysW P' S' W' H') cut') (marks mBool wBool (1 + sysW P' S' W' H' + cut'.length) opn') (marks mIntL wIntL (1 + sysW P' S' W' H' + cut'.length + opn'.length) kept') 1 (hB'.mono (by decide)) (hS'.mono (by decide)) (by omega) (by omega) rfl rfl rfl rfl rfl rfl rfl
    simp only [mkP, mkS, mkW, mkH] at q7
    simp only [aLive, mkP, mkS, mkW, mkH, marks_len] at q8
    have e5 := marks_len mInsL wInsL P' 1
    have e6 := marks_len mState wState S' (1 + wts wInsL P')
    have e7 := marks_len mItemL wItemL W' (1 + wts wInsL P' + wts wState S')
    have e8 := marks_len mEventL wEventL H' (1 + wts wInsL P' + wts wState S' + wts wItemL W')
    have e12 := marks_len mInt wInt cut' (1 + sysW P' S' W' H')
    have e13 := marks_len mBool wBool opn' (1 + sysW P' S' W' H' + cut'.length)
    have e14 := marks_len mIntL wIntL kept' (1 + sysW P' S' W' H' + cut'.length + opn'.length)
    clear hb hs hB hS hB' hS' c
    (refine fnI [ResultVar.tmp 6] Tryz.func14 ?_; conv => whnf)
    repeat' ((with_reducible (first | refine sCall.of (q0 _) ?_|refine sCall.of (q1 _) ?_|refine sCall.of (q2 _) ?_|refine sCall.of (q3 _) ?_|refine sCall.of (q4 _) ?_|refine sCall.of (q5 _) ?_|refine sCall.of (q6 _) ?_|refine sCall.of (q7 _) ?_|refine sCall.of (q8 _) ?_|refine st18 ?_|refine fG.split (fun _ => ?_) (fun _ => ?_)|refine fG.bool (fun _ => ?_) (fun _ => ?_)|refine gD 10 [(0, 2)] ?_)) <;> (try (conv => whnf)))

end Go.Proofs.YtlobpiebphnkiaaGreat.Abs
namespace Go.Proofs.YtlobpiebphnkiaaGreat.Abs
open Go
set_option linter.unusedVariables false

def Opens (P : Program) (t : TypeId) (n : Nat) (M : List T → Prop) : Prop :=
  ∀ (H : Type) (enc : TypeId × Value → H) (w : World) (base : Nat) (sp : Nat → Bool) (held : Bool) (fuel : Nat) (cs : List Value) (x : DataW H × List MemPlace),
    DataW.trod enc P w base sp held fuel t cs = some x → (∀ m ∈ x.1.weights P t, m ≤ reachBytes) →
      cs.length = n ∧ ∃ ts : List T, ts.length = n ∧ M ts ∧ ∀ (i : Nat) v t', cs[i]? = some v → ts[i]? = some t' → Ow (fun k => k < w.heap.size) w 0 v t' none_
theorem Opens.mono {P : Program} {t : TypeId} {n : Nat} {M M' : List T → Prop} (h : Opens P t n M) (hm : ∀ ts, M ts → M' ts) : Opens P t n M' := by
  intro H enc w base sp held fuel cs x hx hw
  obtain ⟨h1, ts, h2, h3, h4⟩ := h H enc w base sp held fuel cs x hx hw
  exact ⟨h1, ts, h2, hm _ h3, h4⟩
theorem one_ow {w : World} {v0 : Value} {t0 : T} (h : Ow (fun k => k < w.heap.size) w 0 v0 t0 none_) : ∀ (i : Nat) v t', [v0][i]? = some v → [t0][i]? = some t' → Ow (fun k => k < w.heap.size) w 0 v t' none_ := by
  rintro (_ | i) v t' h1 h2
  · simp at h1 h2; subst h1; subst h2; exact h
  · simp at h1
theorem Opens.int {P : Program} {t : TypeId} {k : IntKind} (ht : P.underlying t = some (.int k)) : Opens P t 1 (fun ts => ∃ n, (Lit.int k n).wf = true ∧ ts = [.v (.int k n)]) := by
  intro H enc w base sp held fuel cs x hx hw
  obtain ⟨n, rfl, rfl, h⟩ := DataW.trod_int ht hx
  exact ⟨rfl, _, rfl, ⟨n, h, rfl⟩, one_ow (.v rfl)⟩
theorem Opens.bool {P : Program} {t : TypeId} (ht : P.underlying t = some .bool) : Opens P t 1 (fun ts => ∃ b, ts = [.v (.bool b)]) := by
  intro H enc w base sp held fuel cs x hx hw
  obtain ⟨b, rfl, rfl⟩ := DataW.trod_bool ht hx
  exact ⟨rfl, _, rfl, ⟨b, rfl⟩, one_ow (.v rfl)⟩
theorem Opens.str {P : Program} {t : TypeId} (ht : P.underlying t = some .string) : Opens P t 1 (fun ts => ∃ s : ByteArray, s.size ≤ reachBytes ∧ ts = [.v (.string s)]) := by
  intro H enc w base sp held fuel cs x hx hw
  obtain ⟨s, rfl, rfl, h⟩ := DataW.trod_string ht hx
  refine ⟨rfl, _, rfl, ⟨s, ?_, rfl⟩, one_ow (.v rfl)⟩
  have := hw s.data.toList.length (by simp [DataW.weights])
  simpa using this
def Parts (P : Program) : List Field → Nat → Nat → (List T → Prop) → Prop
  | [], _, n, M => n = 0 ∧ M []
  | f :: r, off, n, M => f.offset = off ∧ ∃ n1 n2 M1 M2, P.cellsOf f.type = n1 ∧ Opens P f.type n1 M1 ∧ Parts P r (off + n1) n2 M2 ∧ n = n1 + n2 ∧ ∀ a b, M1 a → M2 b → M (a ++ b)
theorem weights_part {P : Program} {H : Type} {ts : List TypeId} : ∀ {ds : List (DataW H)} {R : Nat}, (∀ m ∈ DataW.weightsEach P ts ds, m ≤ R) → ∀ (j : Nat) t d, ts[j]? = some t → ds[j]? = some d → ∀ m ∈ d.weights P t, m ≤ R :=
  fun h j t d ht hd m hm => h m (DataW.weights_mem_each ht hd m hm)
theorem Parts.opens {P : Program} {H : Type} {enc : TypeId × Value → H} {w : World} {base : Nat} {sp : Nat → Bool} {held : Bool} {fuel : Nat} {cs : List Value} : ∀ {fs : List Field} {off n : Nat} {M : List T → Prop}, Parts P fs off n M → off + n = cs.length →
    (∀ f ∈ fs, ∃ x, DataW.trod enc P w base sp held fuel f.type ((cs.drop f.offset).take (P.cellsOf f.type)) = some x ∧ (∀ m ∈ x.1.weights P f.type, m ≤ reachBytes)) →
    ∃ ts : List T, ts.length = n ∧ M ts ∧ ∀ (i : Nat) v t', cs[off + i]? = some v → ts[i]? = some t' → Ow (fun k => k < w.heap.size) w 0 v t' none_ := by
  intro fs
  induction fs with
  | nil =>
    intro off n M h hl _
    exact ⟨[], h.1.symm, h.2, fun i v t' _ h2 => by simp at h2⟩
  | cons f r ih =>
    intro off n M h hl hx
    obtain ⟨rfl, n1, n2, M1, M2, h1, h2, h3, rfl, h4⟩ := h
    obtain ⟨x, hx1, hx2⟩ := hx f (by simp)
    rw [h1] at hx1
    obtain ⟨k1, t1, k2, k3, k4⟩ := h2 H enc w base sp held fuel _ x hx1 hx2
    obtain ⟨t2, q1, q2, q3⟩ := ih h3 (by omega) fun g hg => hx g (by simp [hg])
    refine ⟨t1 ++ t2, by simp [k2, q1], h4 _ _ k3 q2, fun i v t' hv ht' => ?_⟩
    by_cases hi : i < n1
    · rw [List.getElem?_append_left (by omega)] at ht'
      exact k4 i v t' (by rw [List.getElem?_take, if_pos hi, List.getElem?_drop]; exact hv) ht'
    · rw [List.getElem?_append_right (by omega), k2] at ht'
      exact q3 (i - n1) v t' (by rw [show f.offset + n1 + (i - n1) = f.offset + i by omega]; exact hv) ht'
theorem Opens.struct {P : Program} {t : TypeId} {fs : Array Field} {n : Nat} {M : List T → Prop} (ht : P.underlying t = some (.struct fs)) (hc : P.cellsOf t = n) (hp : Parts P fs.toList 0 n M) : Opens P t n M := by
  intro H enc w base sp held fuel cs x hx hw
  obtain ⟨xs, m, _, rfl, hl, hlen, hf⟩ := DataW.trod_struct ht hx
  have hl' : cs.length = n := hl.trans hc
  obtain ⟨ts, h1, h2, h3⟩ := hp.opens (enc := enc) (w := w) (base := base) (sp := sp) (held := held) (fuel := m) (cs := cs) (by omega) (by
    intro f hfm
    obtain ⟨i, hi⟩ := List.getElem?_of_mem hfm
    have hi' : fs[i]? = some f := by simpa using hi
    have hlt : i < xs.length := by rw [hlen]; exact (Array.getElem?_eq_some_iff.1 hi').1
    have hy : xs[i]? = some xs[i] := List.getElem?_eq_getElem hlt
    refine ⟨xs[i], (hf i f hi').trans hy, ?_⟩
    refine weights_part (ts := fs.toList.map (·.type)) (ds := xs.map (·.1)) ?_ i f.type xs[i].1 (by simp [hi']) (by rw [List.getElem?_map, hy]; rfl)
    intro q hq
    refine hw q ?_
    simpa [DataW.weights, ht] using hq)
  exact ⟨hl', ts, h1, h2, fun i v t' hv ht' => h3 i v t' (by simpa using hv) ht'⟩
def IntsM (n : Nat) (ts : List T) : Prop := ∃ zs : List Int, zs.length = n ∧ ts = zs.map fun z => T.v (.int .i64 z)
theorem Parts.nil {P : Program} {off : Nat} : Parts P [] off 0 (IntsM 0) := ⟨rfl, [], rfl, rfl⟩
theorem Parts.int {P : Program} {f : Field} {r : List Field} {off n : Nat} (ho : f.offset = off) (hc : P.cellsOf f.type = 1) (ht : P.underlying f.type = some (.int .i64)) (h : Parts P r (off + 1) n (IntsM n)) :
    Parts P (f :: r) off (1 + n) (IntsM (1 + n)) := by
  refine ⟨ho, 1, n, _, _, hc, Opens.int ht, h, rfl, ?_⟩
  rintro a b ⟨z, _, rfl⟩ ⟨zs, hz, rfl⟩
  exact ⟨z :: zs, by simp [hz]; omega, rfl⟩
def Ms : List (List T → Prop) → List T → Prop
  | [], ts => ts = []
  | M :: r, ts => ∃ a b, ts = a ++ b ∧ M a ∧ Ms r b
theorem Parts.mnil {P : Program} {off : Nat} : Parts P [] off 0 (Ms []) := ⟨rfl, rfl⟩
theorem Parts.mcons {P : Program} {f : Field} {r : List Field} {off n1 n : Nat} {M : List T → Prop} {l : List (List T → Prop)} (ho : f.offset = off) (hc : P.cellsOf f.type = n1) (ht : Opens P f.type n1 M) (h : Parts P r (off + n1) n (Ms l)) :
    Parts P (f :: r) off (n1 + n) (Ms (M :: l)) :=
  ⟨ho, n1, n, _, _, hc, ht, h, rfl, fun a b ha hb => ⟨a, b, rfl, ha, hb⟩⟩

theorem rows_map {α : Type} {f : α → List T} {p : α → Prop} {rows : List (List T)} (h : ∀ r ∈ rows, ∃ x, p x ∧ r = f x) : ∃ l : List α, rows = l.map f ∧ ∀ x ∈ l, p x := by
  induction rows with
  | nil => exact ⟨[], rfl, by simp⟩
  | cons r rows ih =>
    obtain ⟨x, hx, rfl⟩ := h r (by simp)
    obtain ⟨l, rfl, hl⟩ := ih fun q hq => h q (by simp [hq])
    exact ⟨x :: l, rfl, by simpa using ⟨hx, hl⟩⟩
theorem weights_all {P : Program} {H : Type} {e : TypeId} {d : DataW H} : ∀ {l : List (DataW H)}, d ∈ l → ∀ m ∈ d.weights P e, m ∈ DataW.weightsAll P e l
  | a :: r, hd, m, hm => by
    simp only [DataW.weightsAll, List.mem_append]
    rcases List.mem_cons.1 hd with rfl | hd
    · exact .inl hm
    · exact .inr (weights_all hd m hm)
theorem Opens.slice {P : Program} {t e : TypeId} {sz B : Nat} {M : List T → Prop} (ht : P.underlying t = some (.slice e)) (hc : P.cellsOf e = sz) (hB : P.bytesOf e = B) (hsz : 0 < sz) (hE : Opens P e sz M) :
    Opens P t 1 (fun ts => ∃ rows, ts = [.sl sz rows] ∧ (∀ x ∈ rows, M x) ∧ rows.length * B ≤ reachBytes) := by
  intro H enc w base sp held fuel cs0 x hx hw
  rcases DataW.trod_slice ht hx with ⟨rfl, _⟩ | ⟨a, len, cap, elems, rest, n, _, rfl, rfl, _, hl, _, hlen, hel, _⟩
  · exact ⟨rfl, _, rfl, ⟨[], rfl, by simp, by simp⟩, one_ow .nil⟩
  · have hw1 : (elems.length + rest.length) * B ≤ reachBytes := by
      have := hw ((elems.length + rest.length) * P.bytesOf e) (by simp [DataW.weights, ht])
      rwa [hB] at this
    have hcell : ∀ i : Nat, ∃ q : List Value × List T, i < len → q.1.length = sz ∧ q.2.length = sz ∧ M q.2 ∧ (∀ j, j < sz → w.cell? ((a.add (i * sz)).add j) = q.1[j]?) ∧
        ∀ (j : Nat) v t', q.1[j]? = some v → q.2[j]? = some t' → Ow (fun k => k < w.heap.size) w 0 v t' none_ := by
      intro i
      by_cases hi : i < len
      · have hy : elems[i]? = some (elems[i]'(by omega)) := List.getElem?_eq_getElem (by omega)
        have h1 := hel i hi
        rw [hy, hc, Option.bind_eq_some_iff] at h1
        obtain ⟨cs, hcs, htr⟩ := h1
        obtain ⟨k1, ts, k2, k3, k4⟩ := hE H enc w base sp held n cs _ htr (by
          intro m hm
          refine hw m ?_
          have := weights_all (P := P) (e := e) (l := elems.map (·.1)) (List.mem_map_of_mem (List.getElem_mem (by omega : i < elems.length))) m hm
          simp [DataW.weights, ht, this])
        obtain ⟨_, g1, g2⟩ := World.cells?_some hcs
        exact ⟨(cs, ts), fun _ => ⟨k1, k2, k3, g2, k4⟩⟩
      · exact ⟨([], []), fun h => absurd h hi⟩
    obtain ⟨c, hc2⟩ := Classical.axiomOfChoice hcell
    have hblk : 0 < len → a.block < w.heap.size := by
      intro h0
      obtain ⟨k1, k2, k3, k4, k5⟩ := hc2 0 h0
      have h1 := k4 0 hsz
      have h2 : (c 0).1[0]? = some ((c 0).1[0]'(by omega)) := List.getElem?_eq_getElem (by omega)
      rw [h2] at h1
      by_cases hlt : a.block < w.heap.size
      · exact hlt
      · unfold World.cell? at h1
        rw [add_block, add_block, Array.getElem?_eq_none (by omega)] at h1
        simp at h1
    have hat : ∀ i j t', cellT ((List.range len).map fun i => (c i).2) i j = some t' → i < len ∧ (c i).2[j]? = some t' := by
      intro i j t' h'
      unfold cellT at h'
      rw [List.getElem?_map] at h'
      by_cases hi : i < len
      · have hr : (List.range len)[i]? = some i := by simp [hi]
        rw [hr] at h'
        exact ⟨hi, by simpa using h'⟩
      · have hr : (List.range len)[i]? = none := by simp; omega
        rw [hr] at h'
        simp at h'
    refine ⟨rfl, [.sl sz ((List.range len).map fun i => (c i).2)], rfl, ⟨_, rfl, ?_, ?_⟩, one_ow ?_⟩
    · intro x hx
      obtain ⟨i, hi, rfl⟩ := List.mem_map.1 hx
      exact (hc2 i (List.mem_range.1 hi)).2.2.1
    · rw [List.length_map, List.length_range]
      exact Nat.le_trans (Nat.mul_le_mul_right _ (by omega)) hw1
    · have hro := Ow.ro (Z := fun k => k < w.heap.size) (w := w) (a := a) (c := cap) (rows := (List.range len).map fun i => (c i).2) (sz := sz) (fun i j => (c i).1.getD j undef) (by simpa using hl)
        (by
          intro r hr
          obtain ⟨i, hi, rfl⟩ := List.mem_map.1 hr
          exact (hc2 i (List.mem_range.1 hi)).2.1) (fun hne => hblk (by
            rcases Nat.eq_zero_or_pos len with h0 | h0
            · subst h0; exact absurd rfl hne
            · exact h0))
        (by
          intro i j t' h'
          obtain ⟨hi, hj⟩ := hat i j t' h'
          obtain ⟨k1, k2, k3, k4, k5⟩ := hc2 i hi
          have hj' : j < sz := by rw [← k2]; exact (List.getElem?_eq_some_iff.1 hj).1
          rw [← Addr.add_add, k4 j hj', List.getElem?_eq_getElem (by omega)]
          simp [List.getD, show j < (c i).1.length by omega])
        (by
          intro i j t' h'
          obtain ⟨hi, hj⟩ := hat i j t' h'
          obtain ⟨k1, k2, k3, k4, k5⟩ := hc2 i hi
          have hj' : j < sz := by rw [← k2]; exact (List.getElem?_eq_some_iff.1 hj).1
          refine k5 j _ t' ?_ hj
          rw [List.getElem?_eq_getElem (by omega)]
          simp [List.getD, show j < (c i).1.length by omega])
      simpa using hro
theorem Opens.one {P : Program} {t : TypeId} {M : List T → Prop} (h : Opens P t 1 M) {H : Type} {enc : TypeId × Value → H} {w : World} {base : Nat} {sp : Nat → Bool} {held : Bool} {v : Value} {d : DataW H} {ps : List MemPlace}
    (hv : v.cells.toList = [v]) (hd : DataW.Trod enc P w base sp held t v d ps) (hw : ∀ m ∈ d.weights P t, m ≤ reachBytes) : ∃ t', M [t'] ∧ Ow (fun k => k < w.heap.size) w 0 v t' none_ := by
  obtain ⟨fuel, hf⟩ := hd
  rw [hv] at hf
  obtain ⟨_, ts, h1, h2, h3⟩ := h H enc w base sp held fuel _ _ hf hw
  obtain ⟨t', rfl⟩ := List.length_eq_one_iff.1 h1
  exact ⟨t', h2, h3 0 v t' rfl rfl⟩
end Go.Proofs.YtlobpiebphnkiaaGreat.Abs
namespace Go.Proofs.YtlobpiebphnkiaaGreat.Abs
open Go Go.RowKit
set_option linter.unusedVariables false

theorem Ow.slice_inv {Z : Fp} {w : World} {v : Value} {sz : Nat} {rows : List (List T)} {F : Fp} {l : Nat} (h : Ow Z w l v (.sl sz rows) F) :
    (v = .slice none 0 0 ∧ rows = []) ∨ ∃ a c, v = .slice (some a) rows.length c ∧ rows.length ≤ c := by
  cases h with
  | nil => exact .inl ⟨rfl, rfl⟩
  | ro xs hc hs hz hx ht => exact .inr ⟨_, _, rfl, hc⟩
  | own xs F hb hfr hc hoff hmax hs hx ht hF hnb hd => exact .inr ⟨_, _, rfl, hc⟩
theorem arg_slice {Z : Fp} {w : World} {ob : Objs} {ρ : Nat → Value} {o sz : Nat} {rows : List (List T)} {v : Value} (h1 : ob o = ⟨0, 0, false, .tree 0 (.sl sz rows)⟩) (h2 : ρ o = v) (h3 : Ow Z w 0 v (.sl sz rows) none_) :
    AVR w ob ρ (.h o 0 0 [] sz 0 rows.length) v := by
  have hin := h3.slice_inv
  refine .h ?_ ?_ fun _ => ?_
  · rw [h1]; exact ⟨Nat.le_refl _, fun _ h => absurd rfl h⟩
  · rcases hin with ⟨rfl, rfl⟩ | ⟨a, c, rfl, hc⟩
    · exact ⟨none, 0, rfl, Nat.le_refl _, fun _ => rfl⟩
    · exact ⟨some a, c, rfl, hc, fun h => by cases h⟩
  · rw [h1, h2]
    refine ⟨fun cells h => by (dsimp only at h; cases h), fun lvl t hc => ?_⟩
    dsimp only at hc
    cases hc
    refine ⟨v, rows, .here, by omega, ?_⟩
    rcases hin with ⟨rfl, rfl⟩ | ⟨a, c, rfl, hc⟩
    · exact .inl ⟨rfl, rfl, rfl, rfl⟩
    · refine .inr ⟨a, rows.length, c, 0, c, rfl, ?_, hc, by omega, Nat.le_refl _, fun _ => rfl⟩
      rw [Nat.zero_mul]
      cases a with
      | mk b off s => cases s <;> simp [Addr.add]
theorem FnOk.outside {P : Program} {W : World} {f : FuncId} {args : List AV} {conts : List Cont} {r : Res} (h : FnOk P f args conts r) (vals : List Value)
    (ho : ∀ (i : Nat) c, conts[i]? = some c → ∃ t v, c = .tree 0 t ∧ vals[i]? = some v ∧ Ow (fun k => k < W.heap.size) W 0 v t none_) (vs : Array Value) (hs : vs.size = args.length)
    (hA : ∀ (i : Nat) x, args[i]? = some x → AVR W (obIn conts) (fun o => vals.getD (o - 1000000) undef) x (vs.getD i undef)) :
    Calls P f vs W (fun e w' => ∃ v, e = .returned v ∧ Below W.heap.size W w' ∧ ∃ ob' ρ', AVR w' ob' ρ' r.v v) := by
  have hI : OInv W none_ (obIn conts) W (fun o => vals.getD (o - 1000000) undef) (fun _ => none_) (fun k => k < W.heap.size) := by
    refine ⟨Keep.refl _ _, fun k hk _ => hk, fun k hk => hk, fun o k hk => hk.elim, fun o o' k hk => hk.elim, fun o k hk => hk.elim, fun o => ?_⟩
    unfold ObOk
    by_cases h1 : 1000000 ≤ o
    · simp only [obIn, h1, if_true]
      cases hc : conts[o - 1000000]? with
      | none =>
        have e : conts.getD (o - 1000000) .dead = .dead := by simp [List.getD, hc]
        rw [e]
        exact fun k hk => hk
      | some c =>
        obtain ⟨t, v, rfl, hv, how⟩ := ho _ _ hc
        have e : conts.getD (o - 1000000) .dead = .tree 0 t := by simp [List.getD, hc]
        have e2 : vals.getD (o - 1000000) undef = v := by simp [List.getD, hv]
        rw [e, e2]
        exact how
    · simp only [obIn, h1, if_false]
      exact fun k hk => hk
  have hr := h.run W none_ _ _ _ vs hI (fun k _ hk => hk) hs hA
  intro cs
  obtain ⟨e, w', fr, hR, hC, hfn, hl⟩ := hr cs
  refine ⟨e, w', fr, ?_, hC, hfn, hl⟩
  cases e with
  | returned v =>
    obtain ⟨ρ', φ', Z', hst, hav⟩ := hR
    exact ⟨v, rfl, ⟨hst.inv.keep.os, hst.inv.keep.tape, hst.inv.keep.output, hst.inv.keep.size, fun k hk => hst.inv.keep.block k hk id⟩, _, _, hav⟩
  | _ => exact hR.elim
theorem AVR.bool_inv {w : World} {ob : Objs} {ρ : Nat → Value} {b : Bool} {v : Value} (h : AVR w ob ρ (.s (.bool b)) v) : v = .bool b := by
  cases h; rfl
end Go.Proofs.YtlobpiebphnkiaaGreat.Abs
namespace Go.Proofs.YtlobpiebphnkiaaGreat.Abs
open Go Go.Proofs Go.RowKit
set_option linter.unusedVariables false
set_option linter.unusedSimpArgs false
attribute [local irreducible] callE
theorem ints_Ins {ts : List T} (h : IntsM 5 ts) : ∃ x : Ins, True ∧ ts = rIns x := by
  obtain ⟨zs, hz, rfl⟩ := h
  match zs, hz with
  | [a, b, c, d, e], _ => exact ⟨⟨a, b, c, d, e⟩, trivial, rfl⟩
theorem ints_Event {ts : List T} (h : IntsM 3 ts) : ∃ x : Event, True ∧ ts = rEvent x := by
  obtain ⟨zs, hz, rfl⟩ := h
  match zs, hz with
  | [a, b, c], _ => exact ⟨⟨a, b, c⟩, trivial, rfl⟩
set_option maxRecDepth 20000 in
theorem opens_Ins : Opens Tryz.prog 222 5 (fun ts => ∃ x : Ins, True ∧ ts = rIns x) :=
  (Opens.struct Tryz.underlying222 (by kernel_rfl) (.int rfl (by kernel_rfl) Tryz.underlying3 (.int rfl (by kernel_rfl) Tryz.underlying3 (.int rfl (by kernel_rfl) Tryz.underlying3 (.int rfl (by kernel_rfl) Tryz.underlying3 (.int rfl (by kernel_rfl) Tryz.underlying3 .nil)))))).mono fun _ => ints_Ins
set_option maxRecDepth 20000 in
theorem opens_Event : Opens Tryz.prog 226 3 (fun ts => ∃ x : Event, True ∧ ts = rEvent x) :=
  (Opens.struct Tryz.underlying226 (by kernel_rfl) (.int rfl (by kernel_rfl) Tryz.underlying3 (.int rfl (by kernel_rfl) Tryz.underlying3 (.int rfl (by kernel_rfl) Tryz.underlying3 .nil)))).mono fun _ => ints_Event
set_option maxRecDepth 20000 in
theorem opens_InsS : Opens Tryz.prog 174 1 (fun ts => ∃ l : List Ins, l.length ≤ 140737488355328 ∧ ts = [.sl 5 (l.map rIns)]) :=
  (Opens.slice (sz := 5) (B := 40) Tryz.underlying174 (by kernel_rfl) (by kernel_rfl) (by decide) opens_Ins).mono fun ts h => by
    obtain ⟨rows, rfl, h1, h2⟩ := h
    obtain ⟨l, rfl, hl⟩ := rows_map h1
    rw [List.length_map] at h2
    have := reachBytes_lt
    exact ⟨l, by omega, rfl⟩
set_option maxRecDepth 20000 in
theorem opens_EventS : Opens Tryz.prog 180 1 (fun ts => ∃ l : List Event, l.length ≤ 140737488355328 ∧ ts = [.sl 3 (l.map rEvent)]) :=
  (Opens.slice (sz := 3) (B := 24) Tryz.underlying180 (by kernel_rfl) (by kernel_rfl) (by decide) opens_Event).mono fun ts h => by
    obtain ⟨rows, rfl, h1, h2⟩ := h
    obtain ⟨l, rfl, hl⟩ := rows_map h1
    rw [List.length_map] at h2
    have := reachBytes_lt
    exact ⟨l, by omega, rfl⟩
set_option maxRecDepth 20000 in
theorem opens_ints : Opens Tryz.prog 28 1 (fun ts => ∃ l : List Int, l.length ≤ 140737488355328 ∧ ts = [.sl 1 (l.map rI)]) :=
  (Opens.slice (sz := 1) (B := 8) Tryz.underlying28 (by kernel_rfl) (by kernel_rfl) (by decide) (Opens.int Tryz.underlying3)).mono fun ts h => by
    obtain ⟨rows, rfl, h1, h2⟩ := h
    obtain ⟨l, rfl, _⟩ := rows_map (f := rI) (p := fun _ => True) (fun r hr => by obtain ⟨n, _, rfl⟩ := h1 r hr; exact ⟨n, trivial, rfl⟩)
    rw [List.length_map] at h2
    have := reachBytes_lt
    exact ⟨l, by omega, rfl⟩
set_option maxRecDepth 20000 in
theorem opens_State : Opens Tryz.prog 176 4 (fun ts => ∃ x : State, (x.regs.length ≤ 140737488355328 ∧ x.out.length ≤ 140737488355328) ∧ ts = rState x) :=
  (Opens.struct Tryz.underlying176 (by kernel_rfl) (.mcons rfl (by kernel_rfl) (Opens.int Tryz.underlying3) (.mcons rfl (by kernel_rfl) opens_ints (.mcons rfl (by kernel_rfl) opens_ints (.mcons rfl (by kernel_rfl) (Opens.int Tryz.underlying3) .mnil))))).mono fun ts h => by
    obtain ⟨_, _, rfl, ⟨a, _, rfl⟩, _, _, rfl, ⟨r, hr, rfl⟩, _, _, rfl, ⟨o, ho, rfl⟩, _, _, rfl, ⟨c, _, rfl⟩, rfl⟩ := h
    exact ⟨⟨a, r, o, c⟩, ⟨hr, ho⟩, rfl⟩
set_option maxRecDepth 20000 in
theorem opens_StateS : Opens Tryz.prog 23 1 (fun ts => ∃ l : List State, (l.length ≤ 140737488355328 ∧ ∀ j : Nat, j < l.length → (rd l j).regs.length ≤ 140737488355328 ∧ (rd l j).out.length ≤ 140737488355328) ∧ ts = [.sl 4 (l.map rState)]) :=
  (Opens.slice (sz := 4) (B := 64) Tryz.underlying23 (by kernel_rfl) (by kernel_rfl) (by decide) opens_State).mono fun ts h => by
    obtain ⟨rows, rfl, h1, h2⟩ := h
    obtain ⟨l, rfl, hl⟩ := rows_map h1
    rw [List.length_map] at h2
    have := reachBytes_lt
    exact ⟨l, ⟨by omega, fun j hj => hl _ (rd_mem hj)⟩, rfl⟩
set_option maxRecDepth 20000 in
theorem opens_Item : Opens Tryz.prog 224 2 (fun ts => ∃ x : Item, True ∧ ts = rItem x) :=
  (Opens.struct Tryz.underlying224 (by kernel_rfl) (.mcons rfl (by kernel_rfl) (Opens.bool Tryz.underlying4) (.mcons rfl (by kernel_rfl) (Opens.int Tryz.underlying3) .mnil))).mono fun ts h => by
    obtain ⟨_, _, rfl, ⟨a, rfl⟩, _, _, rfl, ⟨r, _, rfl⟩, rfl⟩ := h
    exact ⟨⟨a, r⟩, trivial, rfl⟩
set_option maxRecDepth 20000 in
theorem opens_ItemS : Opens Tryz.prog 178 1 (fun ts => ∃ l : List Item, l.length ≤ 140737488355328 ∧ ts = [.sl 2 (l.map rItem)]) :=
  (Opens.slice (sz := 2) (B := 16) Tryz.underlying178 (by kernel_rfl) (by kernel_rfl) (by decide) opens_Item).mono fun ts h => by
    obtain ⟨rows, rfl, h1, h2⟩ := h
    obtain ⟨l, rfl, hl⟩ := rows_map h1
    rw [List.length_map] at h2
    have := reachBytes_lt
    exact ⟨l, by omega, rfl⟩
theorem opens_SS {α : Type} {t e : TypeId} {f : α → List T} {sz : Nat} (ht : (Tryz.prog).underlying t = some (.slice e)) (hc : (Tryz.prog).cellsOf e = 1) (hB : (Tryz.prog).bytesOf e = 24)
    (h : Opens Tryz.prog e 1 (fun ts => ∃ l : List α, l.length ≤ 140737488355328 ∧ ts = [.sl sz (l.map f)])) :
    Opens Tryz.prog t 1 (fun ts => ∃ l : List (List α), (l.length ≤ 140737488355328 ∧ ∀ j : Nat, j < l.length → (rd l j).length ≤ 140737488355328) ∧ ts = [.sl 1 (l.map fun x => [T.sl sz (x.map f)])]) :=
  (Opens.slice (sz := 1) (B := 24) ht hc hB (by decide) h).mono fun ts h => by
    obtain ⟨rows, rfl, h1, h2⟩ := h
    obtain ⟨l, rfl, hl⟩ := rows_map h1
    rw [List.length_map] at h2
    have := reachBytes_lt
    exact ⟨l, ⟨by omega, fun j hj => hl _ (rd_mem hj)⟩, rfl⟩
set_option maxRecDepth 20000 in
theorem opens_Sys : Opens Tryz.prog 27 4 (fun ts => ∃ X : Sys, SysB 140737488355328 X.progs X.states X.ways X.hist ∧ ts = [.sl 1 (X.progs.map rInsL), .sl 4 (X.states.map rState), .sl 1 (X.ways.map rItemL), .sl 1 (X.hist.map rEventL)]) :=
  (Opens.struct Tryz.underlying27 (by kernel_rfl) (.mcons rfl (by kernel_rfl) (opens_SS Tryz.underlying22 (by kernel_rfl) (by kernel_rfl) opens_InsS) (.mcons rfl (by kernel_rfl) opens_StateS (.mcons rfl (by kernel_rfl) (opens_SS Tryz.underlying24 (by kernel_rfl) (by kernel_rfl) opens_ItemS) (.mcons rfl (by kernel_rfl) (opens_SS Tryz.underlying25 (by kernel_rfl) (by kernel_rfl) opens_EventS) .mnil))))).mono fun ts h => by
    obtain ⟨_, _, rfl, ⟨P, hP, rfl⟩, _, _, rfl, ⟨S, hS, rfl⟩, _, _, rfl, ⟨W, hW, rfl⟩, _, _, rfl, ⟨X, hX, rfl⟩, rfl⟩ := h
    exact ⟨⟨P, S, W, X⟩, ⟨hP.1, hP.2, hS.1, hS.2, hW.1, hW.2, hX.1, hX.2⟩, rfl⟩
def SysAt (w : World) (v : Value) (X : Sys) : Prop := ∃ a0 a1 a2 a3, v = .agg #[a0, a1, a2, a3] ∧ Ow (fun k => k < w.heap.size) w 0 a0 (.sl 1 (X.progs.map rInsL)) none_ ∧ Ow (fun k => k < w.heap.size) w 0 a1 (.sl 4 (X.states.map rState)) none_ ∧
  Ow (fun k => k < w.heap.size) w 0 a2 (.sl 1 (X.ways.map rItemL)) none_ ∧ Ow (fun k => k < w.heap.size) w 0 a3 (.sl 1 (X.hist.map rEventL)) none_
structure Stop where
  p : Int
  kind : Int
  v : Int
set_option maxRecDepth 20000 in
theorem opens_bools : Opens Tryz.prog 29 1 (fun ts => ∃ l : List Bool, l.length ≤ 140737488355328 ∧ ts = [.sl 1 (l.map rBool)]) :=
  (Opens.slice (sz := 1) (B := 1) Tryz.underlying29 (by kernel_rfl) (by kernel_rfl) (by decide) (Opens.bool Tryz.underlying4)).mono fun ts h => by
    obtain ⟨rows, rfl, h1, h2⟩ := h
    obtain ⟨l, rfl, _⟩ := rows_map (f := rBool) (p := fun _ => True) (fun r hr => by obtain ⟨n, rfl⟩ := h1 r hr; exact ⟨n, trivial, rfl⟩)
    rw [List.length_map] at h2
    have := reachBytes_lt
    exact ⟨l, by omega, rfl⟩
structure Shot where
  on : Bool
  cut : List Int
  opn : List Bool
  kept : List (List Int)
structure Live where
  s : Sys
  shot : Shot
set_option maxRecDepth 20000 in
theorem opens_Shot : Opens Tryz.prog 32 4 (fun ts => ∃ X : Shot, ShotB 140737488355328 X.cut X.opn X.kept ∧ ts = [.v (.bool X.on), .sl 1 (X.cut.map rI), .sl 1 (X.opn.map rBool), .sl 1 (X.kept.map rIntL)]) :=
  (Opens.struct Tryz.underlying32 (by kernel_rfl) (.mcons rfl (by kernel_rfl) (Opens.bool Tryz.underlying4) (.mcons rfl (by kernel_rfl) opens_ints (.mcons rfl (by kernel_rfl) opens_bools (.mcons rfl (by kernel_rfl) (opens_SS Tryz.underlying30 (by kernel_rfl) (by kernel_rfl) opens_ints) .mnil))))).mono fun ts h => by
    obtain ⟨_, _, rfl, ⟨b, rfl⟩, _, _, rfl, ⟨c, hc, rfl⟩, _, _, rfl, ⟨o, ho, rfl⟩, _, _, rfl, ⟨k, hk, rfl⟩, rfl⟩ := h
    exact ⟨⟨b, c, o, k⟩, ⟨hc, ho, hk.1, hk.2⟩, rfl⟩
set_option maxRecDepth 20000 in
theorem opens_Live : Opens Tryz.prog 34 8 (fun ts => ∃ X : Live, (SysB 140737488355328 X.s.progs X.s.states X.s.ways X.s.hist ∧ ShotB 140737488355328 X.shot.cut X.shot.opn X.shot.kept) ∧
    ts = [.sl 1 (X.s.progs.map rInsL), .sl 4 (X.s.states.map rState), .sl 1 (X.s.ways.map rItemL), .sl 1 (X.s.hist.map rEventL), .v (.bool X.shot.on), .sl 1 (X.shot.cut.map rI), .sl 1 (X.shot.opn.map rBool), .sl 1 (X.shot.kept.map rIntL)]) :=
  (Opens.struct Tryz.underlying34 (by kernel_rfl) (.mcons rfl (by kernel_rfl) opens_Sys (.mcons rfl (by kernel_rfl) opens_Shot .mnil))).mono fun ts h => by
    obtain ⟨_, _, rfl, ⟨X, hX, rfl⟩, _, _, rfl, ⟨Y, hY, rfl⟩, rfl⟩ := h
    exact ⟨⟨X, Y⟩, ⟨hX, hY⟩, rfl⟩
def LiveAt (w : World) (v : Value) (X : Live) : Prop := ∃ a0 a1 a2 a3 a5 a6 a7, v = .agg #[a0, a1, a2, a3, .bool X.shot.on, a5, a6, a7] ∧ Ow (fun k => k < w.heap.size) w 0 a0 (.sl 1 (X.s.progs.map rInsL)) none_ ∧ Ow (fun k => k < w.heap.size) w 0 a1 (.sl 4 (X.s.states.map rState)) none_ ∧
  Ow (fun k => k < w.heap.size) w 0 a2 (.sl 1 (X.s.ways.map rItemL)) none_ ∧ Ow (fun k => k < w.heap.size) w 0 a3 (.sl 1 (X.s.hist.map rEventL)) none_ ∧ Ow (fun k => k < w.heap.size) w 0 a5 (.sl 1 (X.shot.cut.map rI)) none_ ∧
  Ow (fun k => k < w.heap.size) w 0 a6 (.sl 1 (X.shot.opn.map rBool)) none_ ∧ Ow (fun k => k < w.heap.size) w 0 a7 (.sl 1 (X.shot.kept.map rIntL)) none_
theorem eight {α : Type} {l : Array α} (h : l.size = 8) : ∃ a b c d e f g i, l = #[a, b, c, d, e, f, g, i] := by
  obtain ⟨l⟩ := l
  match l, h with
  | [a, b, c, d, e, f, g, i], _ => exact ⟨a, b, c, d, e, f, g, i, rfl⟩
set_option maxRecDepth 20000 in
theorem open_Live {H : Type} {enc : TypeId × Value → H} {w : World} {base : Nat} {sp : Nat → Bool} {held : Bool} {v : Value} {d : DataW H} {ps : List MemPlace} {r : Go.Reach} {b0 : Nat}
    (hval : Value.okWide Tryz.prog w r b0 34 v) (h : DataW.Trod enc Tryz.prog w base sp held 34 v d ps) (hw : ∀ m ∈ d.weights Tryz.prog 34, m ≤ reachBytes) :
    ∃ X : Live, (SysB 140737488355328 X.s.progs X.s.states X.s.ways X.s.hist ∧ ShotB 140737488355328 X.shot.cut X.shot.opn X.shot.kept) ∧ LiveAt w v X := by
  obtain ⟨cs, rfl, hsz⟩ := Go.WideShapes.okWide_struct Tryz.underlying34 hval
  have hsz4 : cs.size = 8 := hsz.trans (by kernel_rfl)
  obtain ⟨a0, a1, a2, a3, a4, a5, a6, a7, rfl⟩ := eight hsz4
  obtain ⟨fuel, hf⟩ := h
  obtain ⟨_, ts, h1, ⟨X, hX, rfl⟩, h3⟩ := opens_Live H enc w base sp held fuel _ _ hf hw
  have g : ∀ {v : Value} {x : Value} {Z : Fp} {l : Nat}, Ow Z w l v (.v x) none_ → v = x := by
    intro v x Z l h
    cases h
    rfl
  have e4 := g (h3 4 _ _ rfl rfl)
  exact ⟨X, hX, a0, a1, a2, a3, a5, a6, a7, by rw [← e4], h3 0 _ _ rfl rfl, h3 1 _ _ rfl rfl, h3 2 _ _ rfl rfl, h3 3 _ _ rfl rfl, h3 5 _ _ rfl rfl, h3 6 _ _ rfl rfl, h3 7 _ _ rfl rfl⟩
theorem arg_Live {Z : Fp} {w : World} {ob : Objs} {ρ : Nat → Value} {j : Nat} {P : List (List Ins)} {S : List State} {W : List (List Item)} {H : List (List Event)} {on : Bool} {cut : List Int} {opn : List Bool} {kept : List (List Int)} {a0 a1 a2 a3 a5 a6 a7 : Value}
    (g0 : Ow Z w 0 a0 (.sl 1 (P.map rInsL)) none_) (g1 : Ow Z w 0 a1 (.sl 4 (S.map rState)) none_) (g2 : Ow Z w 0 a2 (.sl 1 (W.map rItemL)) none_) (g3 : Ow Z w 0 a3 (.sl 1 (H.map rEventL)) none_)
    (g5 : Ow Z w 0 a5 (.sl 1 (cut.map rI)) none_) (g6 : Ow Z w 0 a6 (.sl 1 (opn.map rBool)) none_) (g7 : Ow Z w 0 a7 (.sl 1 (kept.map rIntL)) none_)
    (e0 : ob (1000000 + j) = ⟨0, 0, false, tInsSS P⟩) (e1 : ob (1000001 + j) = ⟨0, 0, false, tStateS S⟩) (e2 : ob (1000002 + j) = ⟨0, 0, false, tItemSS W⟩) (e3 : ob (1000003 + j) = ⟨0, 0, false, tEventSS H⟩)
    (e5 : ob (1000004 + j) = ⟨0, 0, false, tI cut⟩) (e6 : ob (1000005 + j) = ⟨0, 0, false, tBool opn⟩) (e7 : ob (1000006 + j) = ⟨0, 0, false, tIntSS kept⟩)
    (r0 : ρ (1000000 + j) = a0) (r1 : ρ (1000001 + j) = a1) (r2 : ρ (1000002 + j) = a2) (r3 : ρ (1000003 + j) = a3) (r5 : ρ (1000004 + j) = a5) (r6 : ρ (1000005 + j) = a6) (r7 : ρ (1000006 + j) = a7) :
    AVR w ob ρ (aLive j P S W H on cut opn kept) (.agg #[a0, a1, a2, a3, .bool on, a5, a6, a7]) := by
  have h0 := arg_slice e0 r0 g0
  have h1 := arg_slice e1 r1 g1
  have h2 := arg_slice e2 r2 g2
  have h3 := arg_slice e3 r3 g3
  have h5 := arg_slice e5 r5 g5
  have h6 := arg_slice e6 r6 g6
  have h7 := arg_slice e7 r7 g7
  rw [List.length_map] at h0 h1 h2 h3 h5 h6 h7
  refine .ag rfl ?_
  rintro (_ | _ | _ | _ | _ | _ | _ | _ | i) y hy
  · cases hy; exact h0
  · cases hy; exact h1
  · cases hy; exact h2
  · cases hy; exact h3
  · cases hy; exact .s rfl
  · cases hy; exact h5
  · cases hy; exact h6
  · cases hy; exact h7
  · simp at hy

theorem walk_FnExactLiveStep {W : World} {v0 : Value} {X0 : Live} {n1 : Int} {n2 : Int} (h0 : SysB 140737488355328 X0.s.progs X0.s.states X0.s.ways X0.s.hist ∧ ShotB 140737488355328 X0.shot.cut X0.shot.opn X0.shot.kept)
    (o0 : LiveAt W v0 X0) :
    Calls PR 14 #[v0, .int .i64 n1, .int .i64 n2] W (fun e w' => e = .returned (.bool true) ∧ Below W.heap.size W w') := by
  have hF := callE_sound (C := C) tys_ok prims_ok _ _ _ _ _ (ok_laws_FnExactLiveStep 0 X0.s.progs X0.s.states X0.s.ways X0.s.hist X0.shot.on X0.shot.cut X0.shot.opn X0.shot.kept n1 n2 h0.1 h0.2)
  obtain ⟨a0_0, a0_1, a0_2, a0_3, a0_4, a0_5, a0_6, rfl, g0_0, g0_1, g0_2, g0_3, g0_4, g0_5, g0_6⟩ := o0
  refine (hF.outside [a0_0, a0_1, a0_2, a0_3, a0_4, a0_5, a0_6] ?_ #[_, _, _] rfl ?_).mono ?_
  · rintro (_ | _ | _ | _ | _ | _ | _ | i) c hc
    · cases hc; exact ⟨_, _, rfl, rfl, g0_0⟩
    · cases hc; exact ⟨_, _, rfl, rfl, g0_1⟩
    · cases hc; exact ⟨_, _, rfl, rfl, g0_2⟩
    · cases hc; exact ⟨_, _, rfl, rfl, g0_3⟩
    · cases hc; exact ⟨_, _, rfl, rfl, g0_4⟩
    · cases hc; exact ⟨_, _, rfl, rfl, g0_5⟩
    · cases hc; exact ⟨_, _, rfl, rfl, g0_6⟩
    · simp at hc
  · rintro (_ | _ | _ | i) x hx
    · cases hx
      exact arg_Live g0_0 g0_1 g0_2 g0_3 g0_4 g0_5 g0_6 rfl rfl rfl rfl rfl rfl rfl rfl rfl rfl rfl rfl rfl rfl
    · cases hx; exact .s rfl
    · cases hx; exact .s rfl
    · simp at hx
  · rintro e w' ⟨v, rfl, hb, ob', ρ', hv⟩
    exact ⟨by rw [hv.bool_inv], hb⟩

end Go.Proofs.YtlobpiebphnkiaaGreat.Abs
namespace Go.Proofs.YtlobpiebphnkiaaGreat.fnExactLiveStep
open Go Go.Proofs Go.ChangeShapes Go.WideShapes Go.RowKit Go.Proofs.YtlobpiebphnkiaaGreat.Abs
set_option linter.unusedVariables false
theorem own : ownKnob Tryz.prog.godebug = none := by kernel_rfl
theorem laidOut : laidOutB Tryz.prog = true := by kernel_rfl
set_option maxRecDepth 100000 in
theorem lifted (os : Os) (started : os.Started) (H : Type) (enc : TypeId × Value → H) :
    ReturnsInHanded {} Tryz.checked os 14 .any (Rows.fnExactLiveStepSpec.pre6 enc Tryz.prog Tryz.f14 Rows.fnExactLiveStepRow.domain false) (Rows.fnExactLiveStepSpec.post enc Tryz.prog Tryz.f14 false true false false) := by
  refine returnsInHanded_of_change_sized (C := Tryz.checked) own started (by kernel_rfl) Tryz.func14
    (ChangeSpec.witness6 (enc := enc) (C := Tryz.checked) false ⟨#[], #[.agg #[.slice none 0 0, .slice none 0 0, .slice none 0 0, .slice none 0 0, .bool false, .slice none 0 0, .slice none 0 0, .slice none 0 0], .int .i64 0, .int .i64 0], []⟩ 8 (by kernel_rfl) (by kernel_rfl) (by kernel_rfl) (by kernel_rfl)) ?_
  intro W base args ds gs before hval0 hW hcnd hsz0 _
  have hsz : (DataW.weightsEach Tryz.prog (Tryz.f14.params.toList ++ Rows.fnExactLiveStepSpec.plain.varTypes Tryz.prog) (ds ++ gs)).all (· ≤ reachBytes) = true := hsz0
  have hval : ∀ (j : Nat) t v, Tryz.f14.params[j]? = some t → args[j]? = some v → Value.okWide Tryz.prog W .any base t v := hval0
  have hW' := hW
  obtain ⟨p, q, hA0, hV, rfl, hfz, hnd⟩ := hW
  have hA : DataW.TrodAll enc Tryz.prog W 0 (fun _ => true) true Tryz.f14.params.toList args.toList ds p := hA0
  rw [Tryz.params14] at hA hval hsz
  obtain ⟨v0, vs0, d0, ds0, p0, q0, hargs, rfl, rfl, h0, r0⟩ := trodAll_cons hA
  obtain ⟨v1, vs1, d1, ds1, p1, q1, rfl, rfl, rfl, h1, r1⟩ := trodAll_cons r0
  obtain ⟨v2, vs2, d2, ds2, p2, q2, rfl, rfl, rfl, h2, r2⟩ := trodAll_cons r1
  obtain ⟨rfl, rfl, rfl⟩ := trodAll_nil r2
  obtain rfl : args = #[v0, v1, v2] := by cases args; simp_all
  obtain ⟨rfl, rfl⟩ := trodVars_none hV
  have hwt : ∀ (j : Nat) t d, [34, 3, 3][j]? = some t → [d0, d1, d2][j]? = some d → ∀ m ∈ d.weights Tryz.prog t, m ≤ reachBytes := by
    intro j t d ht hd m hm
    have := List.all_eq_true.1 hsz m (DataW.weights_mem_each (j := j) (t := t) (d := d) ht hd m hm)
    simpa using this
  have k0 := h0
  have lt0 : ∀ x ∈ p0, x.block < W.heap.size := by obtain ⟨m, hm⟩ := k0; exact DataW.trod_lt m _ _ _ hm
  obtain ⟨l0, s0, o0⟩ := open_Live (hval 0 34 v0 rfl rfl) h0 (hwt 0 _ _ rfl rfl)
  have k1 := h1
  have lt1 : ∀ x ∈ p1, x.block < W.heap.size := by obtain ⟨m, hm⟩ := k1; exact DataW.trod_lt m _ _ _ hm
  obtain ⟨a1, rfl, rfl, rfl, w1⟩ := open_int Tryz.underlying3 (hval 1 3 v1 rfl rfl) h1
  have k2 := h2
  have lt2 : ∀ x ∈ p2, x.block < W.heap.size := by obtain ⟨m, hm⟩ := k2; exact DataW.trod_lt m _ _ _ hm
  obtain ⟨a2, rfl, rfl, rfl, w2⟩ := open_int Tryz.underlying3 (hval 2 3 v2 rfl rfl) h2
  clear hA0 hval0 hsz0 hsz hwt
  refine (walk_FnExactLiveStep s0 o0).mono fun e W' ⟨he, bel⟩ => ?_
  subst he
  exact ⟨_, rfl, _, _, _, [], _, [], hW', trodAll_mk1 (shut_bool Tryz.underlying4 _), (trodAll_cons_mk (Below.trod laidOut (by kernel_rfl) (of_decide_eq_true (by kernel_rfl)) k0 bel lt0) (trodAll_cons_mk (shut_int Tryz.underlying3 w1) (trodAll_cons_mk (shut_int Tryz.underlying3 w2) trodAll_mk0))), rfl, bel.frame _, fun h => by cases h⟩
theorem andT {a b : Bool} (h1 : a = true) (h2 : b = true) : (a && b) = true := by rw [h1, h2]; rfl
theorem j0 : Rows.fnExactLiveStepRow.wf (OpenSpec.ofChange Rows.fnExactLiveStepSpec) = true := by kernel_rfl
theorem j1 : laidOutB Tryz.prog = true := by kernel_rfl
theorem j2 : mapsRowed Tryz.prog = true := by kernel_rfl
theorem j3 : Tryz.f14.params.all (Tryz.prog.readableRec ·) = true := by kernel_rfl
theorem j4 : namedTie Tryz.prog Rows.fnExactLiveStepRow.named Rows.fnExactLiveStepSpec.vars = true := by kernel_rfl
theorem j5 : (Rows.fnExactLiveStepRow.stops == []) = true := by kernel_rfl
theorem j6 : (Tryz.prog.stops == []) = true := by kernel_rfl
theorem j7 : (Rows.fnExactLiveStepRow.knobs == []) = true := by kernel_rfl
theorem j8 : (Tryz.prog.stopKnobs == []) = true := by kernel_rfl
theorem j9 : (Rows.fnExactLiveStepRow.inPlace == Tryz.prog.inPlace 14) = true := by kernel_rfl
theorem j10 : (Rows.fnExactLiveStepRow.unfollowed == Tryz.prog.unfollowed 14) = true := by kernel_rfl
theorem j11 : (Rows.fnExactLiveStepRow.recurses == Tryz.prog.recurses 14) = true := by kernel_rfl
theorem j12 : (Rows.fnExactLiveStepRow.named == Tryz.prog.varsNamed 14) = true := by kernel_rfl
theorem j13 : (Rows.fnExactLiveStepRow.maps == (Tryz.f14.params.toList ++ Rows.fnExactLiveStepSpec.plain.varTypes Tryz.prog).any (Tryz.prog.mapsRec ·)) = true := by kernel_rfl
theorem j14 : (Rows.fnExactLiveStepRow.ifaces == (Tryz.f14.params.toList ++ Rows.fnExactLiveStepSpec.plain.varTypes Tryz.prog).any (Tryz.prog.ifacesRec ·)) = true := by kernel_rfl
theorem j15 : (Rows.fnExactLiveStepRow.mapsOut == Tryz.prog.mapsAmong Tryz.f14.resultTypes.toList) = true := by kernel_rfl
theorem j16 : (Rows.fnExactLiveStepRow.loops == (Tryz.f14.params.toList ++ Rows.fnExactLiveStepSpec.plain.varTypes Tryz.prog).any (Tryz.prog.loopsFrom ·)) = true := by kernel_rfl
theorem j17 : (Rows.fnExactLiveStepRow.wideKeys == (Tryz.f14.params.toList ++ Rows.fnExactLiveStepSpec.plain.varTypes Tryz.prog ++ Tryz.f14.resultTypes.toList).any (Tryz.prog.wideKeysFrom ·)) = true := by kernel_rfl
theorem j18 : Rows.fnExactLiveStepSpec.vars.all (Tryz.prog.varReadable ·) = true := by kernel_rfl
theorem j19 : Tryz.f14.resultTypes.all (fun t => Tryz.prog.readableRec t && decide (t < Tryz.prog.types.size)) = true := by kernel_rfl
theorem j20 : (Rows.fnExactLiveStepRow.ifacesOut == Tryz.f14.resultTypes.toList.any (Tryz.prog.ifacesRec ·)) = true := by kernel_rfl
theorem j21 : (Rows.fnExactLiveStepRow.loopsOut == Tryz.f14.resultTypes.toList.any (Tryz.prog.loopsFrom ·)) = true := by kernel_rfl
theorem j22 : (Rows.fnExactLiveStepRow.plainKeys == Tryz.prog.plainKeys) = true := by kernel_rfl
theorem j23 : Rows.fnExactLiveStepRow.shortTexts.isNone = true := by kernel_rfl
theorem j24 : Tryz.prog.stopsHeard = true := by kernel_rfl
theorem j25 : Tryz.prog.mayEnter = true := by kernel_rfl
theorem j26 : (Rows.fnExactLiveStepRow.lifted == Tryz.prog.liftsFinal) = true := by kernel_rfl
theorem j27 : (Tryz.prog.make == some Rows.fnExactLiveStepRow.make) = true := by kernel_rfl
theorem j28 : (Rows.fnExactLiveStepRow.kinds == (if Rows.fnExactLiveStepRow.domain.isEmpty then [] else Tryz.f14.params.toList.map fun t => match Tryz.prog.underlying t with | some (.int k) => some k | _ => none)) = true := by kernel_rfl
theorem j29 : (Rows.fnExactLiveStepRow.pinned == Rows.fnExactLiveStepRow.pinnedBy) = true := by kernel_rfl
theorem j30 : (Rows.fnExactLiveStepRow.veiled == (Tryz.f14.params.toList ++ Rows.fnExactLiveStepSpec.plain.varTypes Tryz.prog ++ Tryz.f14.resultTypes.toList).any (Tryz.prog.veiledRec ·)) = true := by kernel_rfl
theorem j31 : Rows.fnExactLiveStepRow.veiledFits Tryz.prog Tryz.f14.params.toList (Tryz.f14.params.toList ++ Rows.fnExactLiveStepSpec.plain.varTypes Tryz.prog ++ Tryz.f14.resultTypes.toList) = true := by kernel_rfl
set_option maxRecDepth 100000 in
theorem joined : joinedFacts Tryz.prog 14 Tryz.f14 Rows.fnExactLiveStepSpec Rows.fnExactLiveStepRow = true := by
  unfold joinedFacts
  exact andT (andT (andT (andT (andT (andT (andT (andT (andT (andT (andT (andT (andT (andT (andT (andT (andT (andT (andT (andT (andT (andT (andT (andT (andT (andT (andT (andT (andT (andT (andT j0 j1) j2) j3) j4) j5) j6) j7) j8) j9) j10) j11) j12) j13) j14) j15) j16) j17) j18) j19) j20) j21) j22) j23) j24) j25) j26) j27) j28) j29) j30) j31
theorem over : Rows.fnExactLiveStepRow.holds Tryz.pinned (OpenSpec.ofChange Rows.fnExactLiveStepSpec) :=
  OpenClaim.holds_of_wide 14 Tryz.f14 rfl rfl rfl rfl rfl rfl rfl ⟨rfl, rfl, rfl, rfl, rfl⟩ rfl rfl rfl rfl rfl (by kernel_rfl) Tryz.func14 joined
    (of_decide_eq_true (by kernel_rfl)) (by unfold Func.isWrapper; first | (rw [if_pos (by decide +kernel)]; kernel_rfl) | (rw [if_neg (by decide +kernel)]; exact ⟨rfl, rfl⟩))
    (fun os started H enc _ => lifted os started H enc)
theorem proved : Rows.FnExactLiveStepSaid := over
#print axioms proved
end Go.Proofs.YtlobpiebphnkiaaGreat.fnExactLiveStep
namespace Go.Proofs.YtlobpiebphnkiaaGreat
theorem fnExactLiveStep_holds : Rows.FnExactLiveStepSaid := fnExactLiveStep.proved
end Go.Proofs.YtlobpiebphnkiaaGreat

