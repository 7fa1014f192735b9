/- FnExactShotDone returns true for every input, and leaves its arguments as they read. Conditions: none beside the row's own. -/
import Derived.ChangeSame
import Derived.SizedLaws
import Derived.DataReads
import Derived.Carry
import Derived.WideShapes
import Derived.KernelRfl
import Derived.Test.YtlobpiebphnkiaaGreatRows
import Derived.WalkKit
import Derived.ProofKit
import Derived.OpenShut
import Derived.ShutString
import Derived.ChangeOld
import Derived.Below
import Derived.Test.YtlobpiebphnkiaaGreatJA5
namespace Go.Proofs.YtlobpiebphnkiaaGreat.Abs
open Go Go.Proofs
set_option linter.unusedVariables false
set_option linter.unusedSimpArgs false
attribute [local irreducible] callE
/-! ### Systems that are right -/
theorem peersIn_of {P : List (List Ins)} {S : List State} {H : List (List Event)} (hn : 1 ≤ P.length ∧ P.length ≤ 4) (hh : H.length = P.length) (h : ∀ p, p < P.length → procOk P S H p = true) : PeersIn H ∧ ∀ p, p < H.length → (rd H p).length ≤ 200 := by
  refine ⟨fun p hp i hi hk => ?_, fun p hp => ?_⟩
  · have h1 := h p (by omega)
    simp only [procOk, Bool.and_eq_true] at h1
    have h2 := h1.2.1
    simp only [peersOk, List.all_eq_true] at h2
    have h3 := h2 _ (rd_mem hi)
    simp [peerOk, inB, hk] at h3
    omega
  · have h1 := h p (by omega)
    simp only [procOk, Bool.and_eq_true] at h1
    exact (stood_evOk h1.2.2).2.2.2.1
theorem sysOk_sizes {P : List (List Ins)} {S : List State} {W : List (List Item)} {H : List (List Event)} (h : sizesOk P S W H = false) : sysOk P S W H = false := by simp [sysOk, h]
structure SysIs (P : List (List Ins)) (S : List State) (W : List (List Item)) (H : List (List Event)) : Prop where
  n : 1 ≤ P.length ∧ P.length ≤ 4
  s : S.length = P.length
  h : H.length = P.length
  w : W.length = P.length * P.length
theorem SysIs.sizes {P : List (List Ins)} {S : List State} {W : List (List Item)} {H : List (List Event)} (h : SysIs P S W H) : sizesOk P S W H = true := by
  have := h.n
  simp only [sizesOk, inB, Bool.and_eq_true, decide_eq_true_eq]
  exact ⟨by omega, h.s, h.h, h.w⟩
abbrev bSys (P : List (List Ins)) (S : List State) (W : List (List Item)) (H : List (List Event)) : Cont := .box [.h 1000000 0 0 [] 1 0 P.length, .h 1000001 0 0 [] 4 0 S.length, .h 1000002 0 0 [] 1 0 W.length, .h 1000003 0 0 [] 1 0 H.length]
set_option maxHeartbeats 8000000 in
theorem ok_impl_SysOk (k : Nat) (P : List (List Ins)) (S : List State) (W : List (List Item)) (H : List (List Event)) (hb : SysB 10000000000 P S W H) :
    callE PR C (k + 11) 66 [aSys 0 P S W H] [tInsSS P, tStateS S, tItemSS W, tEventSS H] = some ⟨bl (sysOk P S W H), [], [none, none, none, none]⟩ := by
  have b1 := hb.p
  have b2 := hb.s
  have b3 := hb.w
  have b4 := hb.h
  have q0 := fun k => ok_impl_in k (P.length : Int) 1 4
  by_cases d1 : 1 ≤ (P.length : Int) ∧ (P.length : Int) ≤ 4
  · rw [decide_eq_true d1] at q0
    have hnn : P.length * P.length ≤ 4 * 4 := Nat.mul_le_mul (by omega) (by omega)
    have w1 : IntKind.i64.wrap ((P.length : Int) * (P.length : Int)) = ((P.length * P.length : Nat) : Int) := by
      rw [show (P.length : Int) * (P.length : Int) = ((P.length * P.length : Nat) : Int) by simp]; exact wrap_i64 _ (by omega) (by omega)
    by_cases d2 : S.length = P.length
    · by_cases d3 : H.length = P.length
      · by_cases d4 : W.length = P.length * P.length
        · have hI : SysIs P S W H := ⟨by omega, d2, d3, d4⟩
          have qW := fun k => ok_ContainsFunc_Way k W (by omega) (fun j hj => by have := hb.ww j hj; omega)
          cases eW : W.all wayOk with
          | false =>
            simp only [eW] at qW
            rw [show sysOk P S W H = false by simp [sysOk, eW]]
            (refine callE_is (callE_w [ResultVar.tmp 2] rfl Tryz.func66 rfl (by decide +kernel) rfl (by simp) ?_); (conv => whnf))
            repeat' ((with_reducible (first | refine sCall.of (q0 _) ?_|refine sW.eq (w1) ?_|refine sCall.of (qW _) ?_|refine gP ?_|refine gN ?_|refine fG.split (fun _ => ?_) (fun _ => ?_)|refine fG.not ?_|refine gY ?_|refine gF ?_|refine fG.yes (flat_map (fun _ => rfl) _) ?_|refine fG.bool (fun _ => ?_) (fun _ => ?_)|refine gS64 ?_|refine gU8 ?_|refine gI13 ?_|refine fE.of rfl ?_|refine gNum13 ?_|refine gSet ?_|refine gRd ?_|refine gLk ?_|refine gRow13 ?_|refine gRf4 ?_|refine sDraw.mk' (id := 20) [(2, 5)] (ty := tys) rfl (by decide +kernel) ?_)) <;> (try (conv => whnf)))
          | true =>
            simp only [eW] at qW
            (refine callE_is (callE_w [ResultVar.tmp 2] rfl Tryz.func66 rfl (by decide +kernel) rfl (by simp) ?_); (conv => whnf))
            repeat' ((with_reducible (first | refine sCall.of (q0 _) ?_|refine sW.eq (w1) ?_|refine sCall.of (qW _) ?_|refine gP ?_|refine gN ?_|refine fG.split (fun _ => ?_) (fun _ => ?_)|refine fG.not ?_|refine gY ?_|refine gF ?_|refine fG.yes (flat_map (fun _ => rfl) _) ?_|refine fG.bool (fun _ => ?_) (fun _ => ?_)|refine gS64 ?_|refine gU8 ?_|refine gI13 ?_|refine fE.of rfl ?_|refine gNum13 ?_|refine gSet ?_|refine gRd ?_|refine gLk ?_|refine gRow13 ?_|refine gRf4 ?_|refine sDraw.mk' (id := 20) [(2, 5)] (ty := tys) rfl (by decide +kernel) ?_)) <;> (try (conv => whnf)))
            refine loop_rule (ι := Nat) (fun j => [(1, .pt 1 1 0 [] 0 0), (3, i64 P.length), (41, i64 P.length), (42, i64 (j : Nat))])
              (fun _ => [(1000000, ⟨0, 0, false, tInsSS P⟩), (1000001, ⟨0, 0, false, tStateS S⟩), (1000002, ⟨0, 0, false, tItemSS W⟩), (1000003, ⟨0, 0, false, tEventSS H⟩), (1, ⟨1, 0, false, bSys P S W H⟩)])
              (fun j => P.length - j) (fun j => j ≤ P.length ∧ ∀ q, q < j → procOk P S H q = true) 0 (by (try dsimp only [cond_true, cond_false]); exact ⟨⟨rfl, rfl, rfl, rfl, trivial⟩, ⟨rfl, rfl, rfl, rfl, rfl, trivial⟩⟩) ⟨Nat.zero_le _, fun q h => absurd h (Nat.not_lt_zero q)⟩ (by simp [C]; omega) ?_
            rintro j sl ob ⟨hj, hpr⟩
            (try dsimp only [cond_true, cond_false])
            (conv => whnf)
            by_cases hjl : j < P.length
            · have q1 := fun k => ok_impl_procOk k P S W H j (hb.mono (by decide)) hjl (by omega) d2 d3
              cases e : procOk P S H j with
              | false =>
                simp only [e] at q1
                rw [show sysOk P S W H = false by simp [sysOk, allBelow_no hjl e]]
                repeat' ((with_reducible (first | refine sCall.of (q1 _) ?_|refine gP ?_|refine gN ?_|refine fG.split (fun _ => ?_) (fun _ => ?_)|refine fG.not ?_|refine gY ?_|refine gF ?_|refine fG.yes (flat_map (fun _ => rfl) _) ?_|refine fG.bool (fun _ => ?_) (fun _ => ?_)|refine gS64 ?_|refine gU8 ?_|refine gI13 ?_|refine fE.of rfl ?_|refine gNum13 ?_|refine gSet ?_|refine gRd ?_|refine gLk ?_|refine gRow13 ?_|refine gRf4 ?_|refine sDraw.mk' (id := 20) [(2, 5)] (ty := tys) rfl (by decide +kernel) ?_)) <;> (try (conv => whnf)))
              | true =>
                simp only [e] at q1
                repeat' ((with_reducible (first | refine sCall.of (q1 _) ?_|refine gP ?_|refine gN ?_|refine fG.split (fun _ => ?_) (fun _ => ?_)|refine fG.not ?_|refine gY ?_|refine gF ?_|refine fG.yes (flat_map (fun _ => rfl) _) ?_|refine fG.bool (fun _ => ?_) (fun _ => ?_)|refine gS64 ?_|refine gU8 ?_|refine gI13 ?_|refine fE.of rfl ?_|refine gNum13 ?_|refine gSet ?_|refine gRd ?_|refine gLk ?_|refine gRow13 ?_|refine gRf4 ?_|refine sDraw.mk' (id := 20) [(2, 5)] (ty := tys) rfl (by decide +kernel) ?_)) <;> (try (conv => whnf)))
                refine ⟨⟨j + 1, (by (try dsimp only [cond_true, cond_false]); exact ⟨⟨rfl, rfl, rfl, rfl, trivial⟩, ⟨rfl, rfl, rfl, rfl, rfl, trivial⟩⟩), ?_, ?_⟩⟩
                · exact ⟨by show j + 1 ≤ _; omega, fun q hq => by rcases Nat.lt_succ_iff_lt_or_eq.1 hq with h | h; exact hpr q h; rw [h]; exact e⟩
                · show P.length - (j + 1) < P.length - j; omega
            · have hpr' : ∀ p, p < P.length → procOk P S H p = true := fun p hp => hpr p (by omega)
              obtain ⟨hPI, h200⟩ := peersIn_of hI.n d3 hpr'
              have ePr := allBelow_yes hpr'
              clear hpr
              repeat' ((with_reducible (first | refine gP ?_|refine gN ?_|refine fG.split (fun _ => ?_) (fun _ => ?_)|refine fG.not ?_|refine gY ?_|refine gF ?_|refine fG.yes (flat_map (fun _ => rfl) _) ?_|refine fG.bool (fun _ => ?_) (fun _ => ?_)|refine gS64 ?_|refine gU8 ?_|refine gI13 ?_|refine fE.of rfl ?_|refine gNum13 ?_|refine gSet ?_|refine gRd ?_|refine gLk ?_|refine gRow13 ?_|refine gRf4 ?_|refine sDraw.mk' (id := 20) [(2, 5)] (ty := tys) rfl (by decide +kernel) ?_)) <;> (try (conv => whnf)))
              refine loop_rule (ι := Nat) (fun j => [(1, .pt 1 1 0 [] 0 0), (3, i64 P.length), (50, i64 P.length), (51, i64 (j : Nat))])
                (fun _ => [(1000000, ⟨0, 0, false, tInsSS P⟩), (1000001, ⟨0, 0, false, tStateS S⟩), (1000002, ⟨0, 0, false, tItemSS W⟩), (1000003, ⟨0, 0, false, tEventSS H⟩), (1, ⟨1, 0, false, bSys P S W H⟩)])
                (fun j => P.length - j) (fun j => j ≤ P.length ∧ ∀ a, a < j → allBelow P.length (fun b => fits P.length W H a b) = true) 0 (by (try dsimp only [cond_true, cond_false]); exact ⟨⟨rfl, rfl, rfl, rfl, trivial⟩, ⟨rfl, rfl, rfl, rfl, rfl, trivial⟩⟩) ⟨Nat.zero_le _, fun q h => absurd h (Nat.not_lt_zero q)⟩ (by simp [C]; omega) ?_
              clear sl ob
              rintro a sl ob ⟨ha, hfa⟩
              (try dsimp only [cond_true, cond_false])
              (conv => whnf)
              by_cases hal : a < P.length
              · repeat' ((with_reducible (first | refine gP ?_|refine gN ?_|refine fG.split (fun _ => ?_) (fun _ => ?_)|refine fG.not ?_|refine gY ?_|refine gF ?_|refine fG.yes (flat_map (fun _ => rfl) _) ?_|refine fG.bool (fun _ => ?_) (fun _ => ?_)|refine gS64 ?_|refine gU8 ?_|refine gI13 ?_|refine fE.of rfl ?_|refine gNum13 ?_|refine gSet ?_|refine gRd ?_|refine gLk ?_|refine gRow13 ?_|refine gRf4 ?_|refine sDraw.mk' (id := 20) [(2, 5)] (ty := tys) rfl (by decide +kernel) ?_)) <;> (try (conv => whnf)))
                refine loop_rule (ι := Nat) (fun j => [(1, .pt 1 1 0 [] 0 0), (3, i64 P.length), (5, i64 (a : Nat)), (50, i64 P.length), (51, i64 (a : Nat)), (54, i64 P.length), (55, i64 (j : Nat))])
                  (fun _ => [(1000000, ⟨0, 0, false, tInsSS P⟩), (1000001, ⟨0, 0, false, tStateS S⟩), (1000002, ⟨0, 0, false, tItemSS W⟩), (1000003, ⟨0, 0, false, tEventSS H⟩), (1, ⟨1, 0, false, bSys P S W H⟩)])
                  (fun j => P.length - j) (fun j => j ≤ P.length ∧ ∀ b, b < j → fits P.length W H a b = true) 0 (by (try dsimp only [cond_true, cond_false]); exact ⟨⟨rfl, rfl, rfl, rfl, rfl, rfl, rfl, trivial⟩, ⟨rfl, rfl, rfl, rfl, rfl, trivial⟩⟩) ⟨Nat.zero_le _, fun q h => absurd h (Nat.not_lt_zero q)⟩ (by simp [C]; omega) ?_
                clear sl ob
                rintro b sl ob ⟨hb', hfb⟩
                (try dsimp only [cond_true, cond_false])
                (conv => whnf)
                by_cases hbl : b < P.length
                · have q2 := fun k => ok_impl_fits k P S W H a b hb hal hbl (by omega) d3 d4
                  cases e : fits P.length W H a b with
                  | false =>
                    simp only [e] at q2
                    rw [show sysOk P S W H = false by simp [sysOk, allBelow_no (f := fun a => allBelow P.length fun b => fits P.length W H a b) hal (allBelow_no hbl e)]]
                    repeat' ((with_reducible (first | refine sCall.of (q2 _) ?_|refine gP ?_|refine gN ?_|refine fG.split (fun _ => ?_) (fun _ => ?_)|refine fG.not ?_|refine gY ?_|refine gF ?_|refine fG.yes (flat_map (fun _ => rfl) _) ?_|refine fG.bool (fun _ => ?_) (fun _ => ?_)|refine gS64 ?_|refine gU8 ?_|refine gI13 ?_|refine fE.of rfl ?_|refine gNum13 ?_|refine gSet ?_|refine gRd ?_|refine gLk ?_|refine gRow13 ?_|refine gRf4 ?_|refine sDraw.mk' (id := 20) [(2, 5)] (ty := tys) rfl (by decide +kernel) ?_)) <;> (try (conv => whnf)))
                  | true =>
                    simp only [e] at q2
                    repeat' ((with_reducible (first | refine sCall.of (q2 _) ?_|refine gP ?_|refine gN ?_|refine fG.split (fun _ => ?_) (fun _ => ?_)|refine fG.not ?_|refine gY ?_|refine gF ?_|refine fG.yes (flat_map (fun _ => rfl) _) ?_|refine fG.bool (fun _ => ?_) (fun _ => ?_)|refine gS64 ?_|refine gU8 ?_|refine gI13 ?_|refine fE.of rfl ?_|refine gNum13 ?_|refine gSet ?_|refine gRd ?_|refine gLk ?_|refine gRow13 ?_|refine gRf4 ?_|refine sDraw.mk' (id := 20) [(2, 5)] (ty := tys) rfl (by decide +kernel) ?_)) <;> (try (conv => whnf)))
                    refine ⟨⟨b + 1, (by (try dsimp only [cond_true, cond_false]); exact ⟨⟨rfl, rfl, rfl, rfl, rfl, rfl, rfl, trivial⟩, ⟨rfl, rfl, rfl, rfl, rfl, trivial⟩⟩), ?_, ?_⟩⟩
                    · exact ⟨by show b + 1 ≤ _; omega, fun q hq => by rcases Nat.lt_succ_iff_lt_or_eq.1 hq with h | h; exact hfb q h; rw [h]; exact e⟩
                    · show P.length - (b + 1) < P.length - b; omega
                · repeat' ((with_reducible (first | refine gP ?_|refine gN ?_|refine fG.split (fun _ => ?_) (fun _ => ?_)|refine fG.not ?_|refine gY ?_|refine gF ?_|refine fG.yes (flat_map (fun _ => rfl) _) ?_|refine fG.bool (fun _ => ?_) (fun _ => ?_)|refine gS64 ?_|refine gU8 ?_|refine gI13 ?_|refine fE.of rfl ?_|refine gNum13 ?_|refine gSet ?_|refine gRd ?_|refine gLk ?_|refine gRow13 ?_|refine gRf4 ?_|refine sDraw.mk' (id := 20) [(2, 5)] (ty := tys) rfl (by decide +kernel) ?_)) <;> (try (conv => whnf)))
                  refine ⟨⟨a + 1, (by (try dsimp only [cond_true, cond_false]); exact ⟨⟨rfl, rfl, rfl, rfl, trivial⟩, ⟨rfl, rfl, rfl, rfl, rfl, trivial⟩⟩), ?_, ?_⟩⟩
                  · exact ⟨by show a + 1 ≤ _; omega, fun q hq => by rcases Nat.lt_succ_iff_lt_or_eq.1 hq with h | h; exact hfa q h; rw [h]; exact allBelow_yes fun b hb => hfb b (by omega)⟩
                  · show P.length - (a + 1) < P.length - a; omega
              · have eF : allBelow P.length (fun a => allBelow P.length fun b => fits P.length W H a b) = true := allBelow_yes fun a h => hfa a (by omega)
                have q3 := fun k => ok_impl_rowOf k H (by omega) (fun j hj => by have := h200 j hj; omega) hPI
                have hall : allEv H ≤ 1000000000000 := by
                  have h1 := wts_bound List.length 200 H h200
                  rw [← allEv_wts] at h1
                  omega
                have q4 := fun k => ok_impl_allEvents k H (by omega) hall
                rw [show sysOk P S W H = inRow H by simp [sysOk, hI.sizes, eW, ePr, eF]]
                repeat' ((with_reducible (first | refine sCall.of (q3 _) ?_|refine sCall.of (q4 _) ?_|refine gP ?_|refine gN ?_|refine fG.split (fun _ => ?_) (fun _ => ?_)|refine fG.not ?_|refine gY ?_|refine gF ?_|refine fG.yes (flat_map (fun _ => rfl) _) ?_|refine fG.bool (fun _ => ?_) (fun _ => ?_)|refine gS64 ?_|refine gU8 ?_|refine gI13 ?_|refine fE.of rfl ?_|refine gNum13 ?_|refine gSet ?_|refine gRd ?_|refine gLk ?_|refine gRow13 ?_|refine gRf4 ?_|refine sDraw.mk' (id := 20) [(2, 5)] (ty := tys) rfl (by decide +kernel) ?_)) <;> (try (conv => whnf)))
                simp [inRow]
                omega
        · rw [sysOk_sizes (by simp [sizesOk, d4])]
          (refine callE_is (callE_w [ResultVar.tmp 2] rfl Tryz.func66 rfl (by decide +kernel) rfl (by simp) ?_); (conv => whnf))
          repeat' ((with_reducible (first | refine sCall.of (q0 _) ?_|refine sW.eq (w1) ?_|refine gP ?_|refine gN ?_|refine fG.split (fun _ => ?_) (fun _ => ?_)|refine fG.not ?_|refine gY ?_|refine gF ?_|refine fG.yes (flat_map (fun _ => rfl) _) ?_|refine fG.bool (fun _ => ?_) (fun _ => ?_)|refine gS64 ?_|refine gU8 ?_|refine gI13 ?_|refine fE.of rfl ?_|refine gNum13 ?_|refine gSet ?_|refine gRd ?_|refine gLk ?_|refine gRow13 ?_|refine gRf4 ?_|refine sDraw.mk' (id := 20) [(2, 5)] (ty := tys) rfl (by decide +kernel) ?_)) <;> (try (conv => whnf)))
          all_goals first
            | rfl
            | (exfalso; omega)
      · rw [sysOk_sizes (by simp [sizesOk, d3])]
        (refine callE_is (callE_w [ResultVar.tmp 2] rfl Tryz.func66 rfl (by decide +kernel) rfl (by simp) ?_); (conv => whnf))
        repeat' ((with_reducible (first | refine sCall.of (q0 _) ?_|refine sW.eq (w1) ?_|refine gP ?_|refine gN ?_|refine fG.split (fun _ => ?_) (fun _ => ?_)|refine fG.not ?_|refine gY ?_|refine gF ?_|refine fG.yes (flat_map (fun _ => rfl) _) ?_|refine fG.bool (fun _ => ?_) (fun _ => ?_)|refine gS64 ?_|refine gU8 ?_|refine gI13 ?_|refine fE.of rfl ?_|refine gNum13 ?_|refine gSet ?_|refine gRd ?_|refine gLk ?_|refine gRow13 ?_|refine gRf4 ?_|refine sDraw.mk' (id := 20) [(2, 5)] (ty := tys) rfl (by decide +kernel) ?_)) <;> (try (conv => whnf)))
        all_goals first
          | rfl
          | (exfalso; omega)
    · rw [sysOk_sizes (by simp [sizesOk, d2])]
      (refine callE_is (callE_w [ResultVar.tmp 2] rfl Tryz.func66 rfl (by decide +kernel) rfl (by simp) ?_); (conv => whnf))
      repeat' ((with_reducible (first | refine sCall.of (q0 _) ?_|refine sW.eq (w1) ?_|refine gP ?_|refine gN ?_|refine fG.split (fun _ => ?_) (fun _ => ?_)|refine fG.not ?_|refine gY ?_|refine gF ?_|refine fG.yes (flat_map (fun _ => rfl) _) ?_|refine fG.bool (fun _ => ?_) (fun _ => ?_)|refine gS64 ?_|refine gU8 ?_|refine gI13 ?_|refine fE.of rfl ?_|refine gNum13 ?_|refine gSet ?_|refine gRd ?_|refine gLk ?_|refine gRow13 ?_|refine gRf4 ?_|refine sDraw.mk' (id := 20) [(2, 5)] (ty := tys) rfl (by decide +kernel) ?_)) <;> (try (conv => whnf)))
      all_goals first
        | rfl
        | (exfalso; omega)
  · rw [decide_eq_false d1] at q0
    rw [sysOk_sizes (by simp [sizesOk, inB, d1])]
    (refine callE_is (callE_w [ResultVar.tmp 2] rfl Tryz.func66 rfl (by decide +kernel) rfl (by simp) ?_); (conv => whnf))
    repeat' ((with_reducible (first | refine sCall.of (q0 _) ?_|refine gP ?_|refine gN ?_|refine fG.split (fun _ => ?_) (fun _ => ?_)|refine fG.not ?_|refine gY ?_|refine gF ?_|refine fG.yes (flat_map (fun _ => rfl) _) ?_|refine fG.bool (fun _ => ?_) (fun _ => ?_)|refine gS64 ?_|refine gU8 ?_|refine gI13 ?_|refine fE.of rfl ?_|refine gNum13 ?_|refine gSet ?_|refine gRd ?_|refine gLk ?_|refine gRow13 ?_|refine gRf4 ?_|refine sDraw.mk' (id := 20) [(2, 5)] (ty := tys) rfl (by decide +kernel) ?_)) <;> (try (conv => whnf)))

end Go.Proofs.YtlobpiebphnkiaaGreat.Abs
namespace Go.Proofs.YtlobpiebphnkiaaGreat.Abs
open Go Go.Proofs
set_option linter.unusedVariables false
set_option linter.unusedSimpArgs false
attribute [local irreducible] callE
theorem ok_spec_l4Way (k : Nat) (w : List Item) (sent : List Int) (tk : Nat) (hw : w.length ≤ 10000000000) (hs : sent.length ≤ 10000000000) (ht : tk ≤ 10000000000) :
    callE PR C (k + 3) 135 [.h 1000000 0 0 [] 2 0 w.length, .h 1000001 0 0 [] 1 0 sent.length, i64 (tk : Nat)] [tItem w, tI sent] = some ⟨bl (l4way w sent tk), [], [none, none]⟩ := by
  have hnl := numbers_le w
  (refine callE_is (callE_w [ResultVar.tmp 6] rfl Tryz.func135 rfl (by decide +kernel) rfl (by simp) ?_); (conv => whnf))
  refine loop_rule (ι := Nat) (fun j => [(0, .h 1000000 0 0 [] 2 0 w.length), (1, .h 1000001 0 0 [] 1 0 sent.length), (2, i64 (tk : Nat)), (7, i64 (j : Nat))])
    (fun _ => [(1000000, ⟨0, 0, false, tItem w⟩), (1000001, ⟨0, 0, false, tI sent⟩)])
    (fun j => w.length - j) (fun j => j ≤ w.length ∧ ∀ i, i < j → itemOk (rd w i) = true) 0 (by (try dsimp only [cond_true, cond_false]); exact ⟨⟨rfl, rfl, rfl, rfl, trivial⟩, ⟨rfl, rfl, trivial⟩⟩) ⟨Nat.zero_le _, fun q h => absurd h (Nat.not_lt_zero q)⟩ (by simp [C]; omega) ?_
  rintro j sl ob ⟨hj, hok⟩
  (try dsimp only [cond_true, cond_false])
  (conv => whnf)
  by_cases hjl : j < w.length
  · have q1 : ∀ k, callE PR C (k + 2) 206 [i64 (rd w j).v] [] = some ⟨bl (numOk (rd w j).v), [], []⟩ := fun k => ok_spec_l1Num k (rd w j).v
    cases e : itemOk (rd w j) with
    | false =>
      rw [show l4way w sent tk = false by
        have : w.all itemOk = false := by rw [List.all_eq_false]; exact ⟨_, rd_mem hjl, by rw [e]; decide⟩
        simp [l4way, this]]
      cases en : numOk (rd w j).v with
      | false =>
        rw [en] at q1
        repeat' ((with_reducible (first | refine sCall.of (q1 _) ?_|refine gP ?_|refine gN ?_|refine fG.split (fun _ => ?_) (fun _ => ?_)|refine fG.not ?_|refine gY ?_|refine gF ?_|refine fG.yes (flat_map (fun _ => rfl) _) ?_|refine fG.bool (fun _ => ?_) (fun _ => ?_)|refine gS64 ?_|refine gU8 ?_|refine gI13 ?_|refine fE.of rfl ?_|refine gNum13 ?_|refine gSet ?_|refine gRd ?_|refine gLk ?_|refine gRow13 ?_|refine gRf4 ?_|refine sDraw.none (id := 12) (ty := tys) rfl (by decide +kernel) ?_)) <;> (try (conv => whnf)))
      | true =>
        rw [en] at q1
        cases em : (rd w j).mark with
        | false => simp [itemOk, en, em] at e
        | true =>
          have hv : ¬ (rd w j).v = 0 := by intro h; unfold itemOk at e; rw [en, em] at e; simp [h] at e
          repeat' ((with_reducible (first | refine sCall.of (q1 _) ?_|refine gP ?_|refine gN ?_|refine fG.split (fun _ => ?_) (fun _ => ?_)|refine fG.not ?_|refine gY ?_|refine gF ?_|refine fG.yes (flat_map (fun _ => rfl) _) ?_|refine fG.bool (fun _ => ?_) (fun _ => ?_)|refine gS64 ?_|refine gU8 ?_|refine gI13 ?_|refine fE.of rfl ?_|refine gNum13 ?_|refine gSet ?_|refine gRd ?_|refine gLk ?_|refine gRow13 ?_|refine gRf4 ?_|refine sDraw.none (id := 12) (ty := tys) rfl (by decide +kernel) ?_)) <;> (try (conv => whnf)))
          all_goals first
            | (exfalso; simp [em] at *; done)
            | skip
    | true =>
      have en : numOk (rd w j).v = true := by simp only [itemOk, Bool.and_eq_true] at e; exact e.1
      rw [en] at q1
      have e' := e
      simp only [itemOk, en, Bool.true_and, Bool.not_eq_true', Bool.and_eq_false_iff, Bool.not_eq_false', decide_eq_true_eq] at e'
      repeat' ((with_reducible (first | refine sCall.of (q1 _) ?_|refine gP ?_|refine gN ?_|refine fG.split (fun _ => ?_) (fun _ => ?_)|refine fG.not ?_|refine gY ?_|refine gF ?_|refine fG.yes (flat_map (fun _ => rfl) _) ?_|refine fG.bool (fun _ => ?_) (fun _ => ?_)|refine gS64 ?_|refine gU8 ?_|refine gI13 ?_|refine fE.of rfl ?_|refine gNum13 ?_|refine gSet ?_|refine gRd ?_|refine gLk ?_|refine gRow13 ?_|refine gRf4 ?_|refine sDraw.none (id := 12) (ty := tys) rfl (by decide +kernel) ?_)) <;> (try (conv => whnf)))
      all_goals first
        | (exfalso; rcases e' with h | h <;> simp_all; done)
        | (refine ⟨⟨j + 1, (by (try dsimp only [cond_true, cond_false]); exact ⟨⟨rfl, rfl, rfl, rfl, trivial⟩, ⟨rfl, rfl, trivial⟩⟩), ?_, ?_⟩⟩
           · exact ⟨by show j + 1 ≤ _; omega, fun q hq => by rcases Nat.lt_succ_iff_lt_or_eq.1 hq with h | h; exact hok q h; rw [h]; exact e⟩
           · show w.length - (j + 1) < w.length - j; omega)
  · have eA : w.all itemOk = true := by
      rw [List.all_eq_true]
      intro x hx
      obtain ⟨i, hi, rfl⟩ := List.mem_iff_getElem.1 hx
      have := hok i (by omega)
      simpa [rd, hi] using this
    have q2 := fun k => ok_spec_Numbers k w (by omega)
    by_cases d1 : w.length ≤ 12
    · by_cases d2 : (sent.length : Int) - (tk : Int) = ((numbersOf w).length : Int)
      · rw [show l4way w sent tk = decide (sent.drop tk = numbersOf w) by simp [l4way, eA, d1, d2]]
        repeat' ((with_reducible (first | refine sCall.of (q2 _) ?_|refine gP ?_|refine gN ?_|refine fG.split (fun _ => ?_) (fun _ => ?_)|refine fG.not ?_|refine gY ?_|refine gF ?_|refine fG.yes (flat_map (fun _ => rfl) _) ?_|refine fG.bool (fun _ => ?_) (fun _ => ?_)|refine gS64 ?_|refine gU8 ?_|refine gI13 ?_|refine fE.of rfl ?_|refine gNum13 ?_|refine gSet ?_|refine gRd ?_|refine gLk ?_|refine gRow13 ?_|refine gRf4 ?_|refine sDraw.none (id := 12) (ty := tys) rfl (by decide +kernel) ?_)) <;> (try (conv => whnf)))
        refine loop_rule (ι := VI) (fun z => [(1, .h 1000001 0 0 [] 1 0 sent.length), (2, i64 (tk : Nat)), (8, .h 10039 z.b 0 [] 1 0 (numbersOf w).length), (9, i64 (z.j : Nat))])
          (fun z => [(1000000, ⟨0, 0, false, tItem w⟩), (1000001, ⟨0, 0, false, tI sent⟩), (10039, ⟨z.b, 0, false, tI9 (numbersOf w)⟩)])
          (fun z => (numbersOf w).length - z.j) (fun z => z.j ≤ (numbersOf w).length ∧ ∀ i, i < z.j → rd (numbersOf w) i = rd sent (tk + i)) ⟨0, [], 0, _⟩ (by (try dsimp only [cond_true, cond_false]); exact ⟨⟨rfl, rfl, rfl, rfl, trivial⟩, ⟨rfl, rfl, rfl, trivial⟩⟩) ⟨Nat.zero_le _, fun q h => absurd h (Nat.not_lt_zero q)⟩ (by simp [C]; omega) ?_
        clear hok hj hjl sl ob j
        rintro ⟨j, _, _, bb⟩ sl ob ⟨hj, hok⟩
        dsimp only at hj hok
        (try dsimp only [cond_true, cond_false])
        (conv => whnf)
        by_cases hjl : j < (numbersOf w).length
        · have et : ((tk : Int) + (j : Int)).toNat = tk + j := by omega
          by_cases e : rd (numbersOf w) j = rd sent (tk + j)
          · have e' : rd (numbersOf w) j = rd sent ((tk : Int) + (j : Int)).toNat := by rw [et]; exact e
            repeat' ((with_reducible (first | refine gP ?_|refine gN ?_|refine fG.split (fun _ => ?_) (fun _ => ?_)|refine fG.not ?_|refine gY ?_|refine gF ?_|refine fG.yes (flat_map (fun _ => rfl) _) ?_|refine fG.bool (fun _ => ?_) (fun _ => ?_)|refine gS64 ?_|refine gU8 ?_|refine gI13 ?_|refine fE.of rfl ?_|refine gNum13 ?_|refine gSet ?_|refine gRd ?_|refine gLk ?_|refine gRow13 ?_|refine gRf4 ?_|refine sDraw.none (id := 12) (ty := tys) rfl (by decide +kernel) ?_)) <;> (try (conv => whnf)))
            refine ⟨⟨⟨j + 1, [], 0, _⟩, (by (try dsimp only [cond_true, cond_false]); exact ⟨⟨rfl, rfl, rfl, rfl, trivial⟩, ⟨rfl, rfl, rfl, trivial⟩⟩), ?_, ?_⟩⟩
            · exact ⟨by show j + 1 ≤ _; omega, fun q hq => by rcases Nat.lt_succ_iff_lt_or_eq.1 hq with h | h; exact hok q h; rw [h]; exact e⟩
            · show (numbersOf w).length - (j + 1) < (numbersOf w).length - j; omega
          · have e' : ¬ rd (numbersOf w) j = rd sent ((tk : Int) + (j : Int)).toNat := by rw [et]; exact e
            rw [decide_eq_false (p := sent.drop tk = numbersOf w) (fun h => e (by rw [← h]; simp [rd]))]
            repeat' ((with_reducible (first | refine gP ?_|refine gN ?_|refine fG.split (fun _ => ?_) (fun _ => ?_)|refine fG.not ?_|refine gY ?_|refine gF ?_|refine fG.yes (flat_map (fun _ => rfl) _) ?_|refine fG.bool (fun _ => ?_) (fun _ => ?_)|refine gS64 ?_|refine gU8 ?_|refine gI13 ?_|refine fE.of rfl ?_|refine gNum13 ?_|refine gSet ?_|refine gRd ?_|refine gLk ?_|refine gRow13 ?_|refine gRf4 ?_|refine sDraw.none (id := 12) (ty := tys) rfl (by decide +kernel) ?_)) <;> (try (conv => whnf)))
        · rw [decide_eq_true (p := sent.drop tk = numbersOf w) (rd_ext (by simp; omega) fun q hq => by
            have := hok q (by simp at hq; omega)
            rw [this]; simp [rd])]
          repeat' ((with_reducible (first | refine gP ?_|refine gN ?_|refine fG.split (fun _ => ?_) (fun _ => ?_)|refine fG.not ?_|refine gY ?_|refine gF ?_|refine fG.yes (flat_map (fun _ => rfl) _) ?_|refine fG.bool (fun _ => ?_) (fun _ => ?_)|refine gS64 ?_|refine gU8 ?_|refine gI13 ?_|refine fE.of rfl ?_|refine gNum13 ?_|refine gSet ?_|refine gRd ?_|refine gLk ?_|refine gRow13 ?_|refine gRf4 ?_|refine sDraw.none (id := 12) (ty := tys) rfl (by decide +kernel) ?_)) <;> (try (conv => whnf)))
      · rw [show l4way w sent tk = false by simp [l4way, d2]]
        repeat' ((with_reducible (first | refine sCall.of (q2 _) ?_|refine gP ?_|refine gN ?_|refine fG.split (fun _ => ?_) (fun _ => ?_)|refine fG.not ?_|refine gY ?_|refine gF ?_|refine fG.yes (flat_map (fun _ => rfl) _) ?_|refine fG.bool (fun _ => ?_) (fun _ => ?_)|refine gS64 ?_|refine gU8 ?_|refine gI13 ?_|refine fE.of rfl ?_|refine gNum13 ?_|refine gSet ?_|refine gRd ?_|refine gLk ?_|refine gRow13 ?_|refine gRf4 ?_|refine sDraw.none (id := 12) (ty := tys) rfl (by decide +kernel) ?_)) <;> (try (conv => whnf)))
    · rw [show l4way w sent tk = false by simp [l4way, d1]]
      repeat' ((with_reducible (first | refine sCall.of (q2 _) ?_|refine gP ?_|refine gN ?_|refine fG.split (fun _ => ?_) (fun _ => ?_)|refine fG.not ?_|refine gY ?_|refine gF ?_|refine fG.yes (flat_map (fun _ => rfl) _) ?_|refine fG.bool (fun _ => ?_) (fun _ => ?_)|refine gS64 ?_|refine gU8 ?_|refine gI13 ?_|refine fE.of rfl ?_|refine gNum13 ?_|refine gSet ?_|refine gRd ?_|refine gLk ?_|refine gRow13 ?_|refine gRf4 ?_|refine sDraw.none (id := 12) (ty := tys) rfl (by decide +kernel) ?_)) <;> (try (conv => whnf)))

structure LO where
  f : List Int
  n : Nat
  p : Nat
  m : Bool
  x : Int
  g : Nat
  d : Bool
set_option maxHeartbeats 4000000 in
theorem ok_spec_l4Order (k : Nat) (P : List (List Ins)) (S : List State) (W : List (List Item)) (H : List (List Event)) (hl : H.length ≤ 1000) (hh : ∀ j : Nat, j < H.length → (rd H j).length ≤ 1000) (hP : PeersIn H) :
    callE PR C (k + 3) 136 [aSys 0 P S W H] [tInsSS P, tStateS S, tItemSS W, tEventSS H] = some ⟨bl (inRow H), [], [none, none, none, none]⟩ := by
  have htot : allEv H ≤ 1000 * 1000 := by
    have := wts_bound List.length 1000 H hh
    rw [allEv_wts]
    exact Nat.le_trans this (Nat.mul_le_mul_left _ hl)
  (refine callE_is (callE_w [ResultVar.tmp 2] rfl Tryz.func136 rfl (by decide +kernel) rfl (by simp) ?_); (conv => whnf))
  repeat' ((with_reducible (first | refine gP ?_|refine gN ?_|refine fG.split (fun _ => ?_) (fun _ => ?_)|refine fG.not ?_|refine gY ?_|refine gF ?_|refine fG.yes (flat_map (fun _ => rfl) _) ?_|refine fG.bool (fun _ => ?_) (fun _ => ?_)|refine gS64 ?_|refine gU8 ?_|refine gI13 ?_|refine fE.of rfl ?_|refine gNum13 ?_|refine gSet ?_|refine gRd ?_|refine gLk ?_|refine gRow13 ?_|refine gRf4 ?_|refine sDraw.none (id := 14) (ty := tys) rfl (by decide +kernel) ?_|refine sDraw.mk' (id := 15) [(1, 11), (4, 11), (8, 11), (10, 11)] (ty := tys) rfl (by decide +kernel) ?_|refine sDraw.mk' (id := 16) [(16, 18), (16, 20), (16, 22), (16, 25), (16, 27)] (ty := tys) rfl (by decide +kernel) ?_)) <;> (try (conv => whnf)))
  refine loop_rule (ι := TH) (fun z => [(1, .pt 1 1 0 [] 0 0), (3, i64 H.length), (4, .h 14 1 0 [] 1 0 H.length), (5, bl true), (6, i64 z.m), (7, i64 (z.j : Nat))])
    (fun _ => [(1000000, ⟨0, 0, false, tInsSS P⟩), (1000001, ⟨0, 0, false, tStateS S⟩), (1000002, ⟨0, 0, false, tItemSS W⟩), (1000003, ⟨0, 0, false, tEventSS H⟩), (1, ⟨1, 0, false, bSys P S W H⟩), (14, ⟨1, 0, false, tI9 (List.replicate H.length 0)⟩)])
    (fun z => H.length - z.j) (fun z => z.j ≤ H.length ∧ z.m = (allEv (H.take z.j) : Nat)) ⟨0, 0⟩ (by (try dsimp only [cond_true, cond_false]); exact ⟨⟨rfl, rfl, rfl, rfl, rfl, rfl, trivial⟩, ⟨rfl, rfl, rfl, rfl, rfl, rfl, trivial⟩⟩) ⟨Nat.zero_le _, rfl⟩ (by simp [C]; omega) ?_
  rintro ⟨j, m⟩ sl ob ⟨hj, hm⟩
  dsimp only at hj hm
  subst hm
  (try dsimp only [cond_true, cond_false])
  (conv => whnf)
  by_cases hjl : j < H.length
  · have e1 := allEv_take hjl
    have e2 := allEv_le H (j + 1)
    have e4 : (List.map rEvent (rd H j)).length = (rd H j).length := by simp
    repeat' ((with_reducible (first | refine gP ?_|refine gN ?_|refine fG.split (fun _ => ?_) (fun _ => ?_)|refine fG.not ?_|refine gY ?_|refine gF ?_|refine fG.yes (flat_map (fun _ => rfl) _) ?_|refine fG.bool (fun _ => ?_) (fun _ => ?_)|refine gS64 ?_|refine gU8 ?_|refine gI13 ?_|refine fE.of rfl ?_|refine gNum13 ?_|refine gSet ?_|refine gRd ?_|refine gLk ?_|refine gRow13 ?_|refine gRf4 ?_|refine sDraw.none (id := 14) (ty := tys) rfl (by decide +kernel) ?_|refine sDraw.mk' (id := 15) [(1, 11), (4, 11), (8, 11), (10, 11)] (ty := tys) rfl (by decide +kernel) ?_|refine sDraw.mk' (id := 16) [(16, 18), (16, 20), (16, 22), (16, 25), (16, 27)] (ty := tys) rfl (by decide +kernel) ?_)) <;> (try (conv => whnf)))
    refine ⟨⟨⟨j + 1, _⟩, (by (try dsimp only [cond_true, cond_false]); exact ⟨⟨rfl, rfl, rfl, rfl, rfl, rfl, trivial⟩, ⟨rfl, rfl, rfl, rfl, rfl, rfl, trivial⟩⟩), ?_, ?_⟩⟩
    · exact ⟨by show j + 1 ≤ _; omega, by show ((allEv (H.take j) : Nat) : Int) + ((List.map rEvent (rd H j)).length : Nat) = (allEv (H.take (j + 1)) : Nat); omega⟩
    · show H.length - (j + 1) < H.length - j; omega
  · rw [List.take_of_length_le (by omega)]
    repeat' ((with_reducible (first | refine gP ?_|refine gN ?_|refine fG.split (fun _ => ?_) (fun _ => ?_)|refine fG.not ?_|refine gY ?_|refine gF ?_|refine fG.yes (flat_map (fun _ => rfl) _) ?_|refine fG.bool (fun _ => ?_) (fun _ => ?_)|refine gS64 ?_|refine gU8 ?_|refine gI13 ?_|refine fE.of rfl ?_|refine gNum13 ?_|refine gSet ?_|refine gRd ?_|refine gLk ?_|refine gRow13 ?_|refine gRf4 ?_|refine sDraw.none (id := 14) (ty := tys) rfl (by decide +kernel) ?_|refine sDraw.mk' (id := 15) [(1, 11), (4, 11), (8, 11), (10, 11)] (ty := tys) rfl (by decide +kernel) ?_|refine sDraw.mk' (id := 16) [(16, 18), (16, 20), (16, 22), (16, 25), (16, 27)] (ty := tys) rfl (by decide +kernel) ?_)) <;> (try (conv => whnf)))
    refine loop_rule (ι := LO) (fun z => [(1, .pt 1 1 0 [] 0 0), (3, i64 H.length), (4, .h 14 1 0 [] 1 0 H.length), (5, bl z.m), (6, i64 z.x)])
      (fun z => [(1000000, ⟨0, 0, false, tInsSS P⟩), (1000001, ⟨0, 0, false, tStateS S⟩), (1000002, ⟨0, 0, false, tItemSS W⟩), (1000003, ⟨0, 0, false, tEventSS H⟩), (1, ⟨1, 0, false, bSys P S W H⟩), (14, ⟨1, z.g, z.d, tI9 z.f⟩)])
      (fun z => 2 * (allEv H - z.n) + (bif z.m then 1 else 0)) (fun z => Reach H z.f z.n ∧ z.x = (allEv H : Int) - z.n ∧ (z.m = false → Stuck H z.f))
      ⟨List.replicate H.length 0, 0, 0, true, _, _, _⟩ (by (try dsimp only [cond_true, cond_false]); exact ⟨⟨rfl, rfl, rfl, rfl, rfl, trivial⟩, ⟨rfl, rfl, rfl, rfl, rfl, rfl, trivial⟩⟩) ⟨.zero, by simp, fun h => by cases h⟩ (by simp [C]; omega) ?_
    clear hj hjl sl ob
    rintro ⟨f0, n0, _, m0, x0, g0, d0⟩ sl ob ⟨hr0, hx0, hs0⟩
    dsimp only at hr0 hx0 hs0
    have hle0 := hr0.le_all
    cases m0 with
    | false =>
      have hrl := row_len hP hr0 (hs0 rfl)
      (try dsimp only [cond_true, cond_false])
      (conv => whnf)
      repeat' ((with_reducible (first | refine gP ?_|refine gN ?_|refine fG.split (fun _ => ?_) (fun _ => ?_)|refine fG.not ?_|refine gY ?_|refine gF ?_|refine fG.yes (flat_map (fun _ => rfl) _) ?_|refine fG.bool (fun _ => ?_) (fun _ => ?_)|refine gS64 ?_|refine gU8 ?_|refine gI13 ?_|refine fE.of rfl ?_|refine gNum13 ?_|refine gSet ?_|refine gRd ?_|refine gLk ?_|refine gRow13 ?_|refine gRf4 ?_|refine sDraw.none (id := 14) (ty := tys) rfl (by decide +kernel) ?_|refine sDraw.mk' (id := 15) [(1, 11), (4, 11), (8, 11), (10, 11)] (ty := tys) rfl (by decide +kernel) ?_|refine sDraw.mk' (id := 16) [(16, 18), (16, 20), (16, 22), (16, 25), (16, 27)] (ty := tys) rfl (by decide +kernel) ?_)) <;> (try (conv => whnf)))
      simp only [inRow, hrl, hx0]
      congr 3
      rw [decide_eq_decide]
      omega
    | true =>
      clear hs0
      (try dsimp only [cond_true, cond_false])
      (conv => whnf)
      repeat' ((with_reducible (first | refine gP ?_|refine gN ?_|refine fG.split (fun _ => ?_) (fun _ => ?_)|refine fG.not ?_|refine gY ?_|refine gF ?_|refine fG.yes (flat_map (fun _ => rfl) _) ?_|refine fG.bool (fun _ => ?_) (fun _ => ?_)|refine gS64 ?_|refine gU8 ?_|refine gI13 ?_|refine fE.of rfl ?_|refine gNum13 ?_|refine gSet ?_|refine gRd ?_|refine gLk ?_|refine gRow13 ?_|refine gRf4 ?_|refine sDraw.none (id := 14) (ty := tys) rfl (by decide +kernel) ?_|refine sDraw.mk' (id := 15) [(1, 11), (4, 11), (8, 11), (10, 11)] (ty := tys) rfl (by decide +kernel) ?_|refine sDraw.mk' (id := 16) [(16, 18), (16, 20), (16, 22), (16, 25), (16, 27)] (ty := tys) rfl (by decide +kernel) ?_)) <;> (try (conv => whnf)))
      refine loop_rule (ι := LO) (fun z => [(1, .pt 1 1 0 [] 0 0), (3, i64 H.length), (4, .h 14 1 0 [] 1 0 H.length), (5, bl z.m), (6, i64 z.x), (8, i64 (z.p : Nat))])
        (fun z => [(1000000, ⟨0, 0, false, tInsSS P⟩), (1000001, ⟨0, 0, false, tStateS S⟩), (1000002, ⟨0, 0, false, tItemSS W⟩), (1000003, ⟨0, 0, false, tEventSS H⟩), (1, ⟨1, 0, false, bSys P S W H⟩), (14, ⟨1, z.g, z.d, tI9 z.f⟩)])
        (fun z => H.length - z.p) (fun z => z.p ≤ H.length ∧ Reach H z.f z.n ∧ z.x = (allEv H : Int) - z.n ∧ n0 ≤ z.n ∧ (z.m = true → n0 < z.n) ∧ (z.m = false → ∀ q, q < z.p → canCome H z.f q = false))
        ⟨f0, n0, 0, false, x0, _, _⟩ (by (try dsimp only [cond_true, cond_false]); exact ⟨⟨rfl, rfl, rfl, rfl, rfl, rfl, trivial⟩, ⟨rfl, rfl, rfl, rfl, rfl, rfl, trivial⟩⟩) ⟨Nat.zero_le _, hr0, hx0, Nat.le_refl _, (fun h => by cases h), fun _ q h => absurd h (Nat.not_lt_zero q)⟩ (by simp [C]; omega) ?_
      clear hr0 hx0 sl ob
      rintro ⟨f, n, p, m, x, g, d⟩ sl ob ⟨hp, hr, hx, hn0, hmt, hmf⟩
      dsimp only at hp hr hx hn0 hmt hmf
      have hf := hr.fok
      have hfl := hf.len
      have hle := hr.le_all
      (try dsimp only [cond_true, cond_false])
      (conv => whnf)
      by_cases hpl : p < H.length
      · have hfp := hf.rng p hpl
        have hhp := hh p hpl
        have e4 : (List.map rEvent (rd H p)).length = (rd H p).length := by simp
        by_cases c1 : rd f p = ((rd H p).length : Int)
        · have hcan : canCome H f p = false := by simp [canCome, c1]
          repeat' ((with_reducible (first | refine gP ?_|refine gN ?_|refine fG.split (fun _ => ?_) (fun _ => ?_)|refine fG.not ?_|refine gY ?_|refine gF ?_|refine fG.yes (flat_map (fun _ => rfl) _) ?_|refine fG.bool (fun _ => ?_) (fun _ => ?_)|refine gS64 ?_|refine gU8 ?_|refine gI13 ?_|refine fE.of rfl ?_|refine gNum13 ?_|refine gSet ?_|refine gRd ?_|refine gLk ?_|refine gRow13 ?_|refine gRf4 ?_|refine sDraw.none (id := 14) (ty := tys) rfl (by decide +kernel) ?_|refine sDraw.mk' (id := 15) [(1, 11), (4, 11), (8, 11), (10, 11)] (ty := tys) rfl (by decide +kernel) ?_|refine sDraw.mk' (id := 16) [(16, 18), (16, 20), (16, 22), (16, 25), (16, 27)] (ty := tys) rfl (by decide +kernel) ?_)) <;> (try (conv => whnf)))
          refine ⟨⟨⟨f, n, p + 1, m, x, _, _⟩, (by (try dsimp only [cond_true, cond_false]); exact ⟨⟨rfl, rfl, rfl, rfl, rfl, rfl, trivial⟩, ⟨rfl, rfl, rfl, rfl, rfl, rfl, trivial⟩⟩), ?_, ?_⟩⟩
          · exact ⟨by show p + 1 ≤ _; omega, hr, hx, hn0, hmt, fun h => no_more (hmf h) hcan⟩
          · show H.length - (p + 1) < H.length - p; omega
        · by_cases c2 : (rd (rd H p) (rd f p).toNat).kind = 3
          · have hq := hP p hpl (rd f p).toNat (by omega) c2
            have hfq := hf.rng (rd (rd H p) (rd f p).toNat).peer.toNat (by omega)
            have hhq := hh (rd (rd H p) (rd f p).toNat).peer.toNat (by omega)
            have e5 : (List.map rEvent (rd H (rd (rd H p) (rd f p).toNat).peer.toNat)).length = (rd H (rd (rd H p) (rd f p).toNat).peer.toNat).length := by simp
            have qa := fun k => ok_spec_Count k ((rd H p).take (rd f p).toNat) 3 (rd (rd H p) (rd f p).toNat).peer (by simp; omega)
            have qb := fun k => ok_spec_Count k ((rd H (rd (rd H p) (rd f p).toNat).peer.toNat).take (rd f (rd (rd H p) (rd f p).toNat).peer.toNat).toNat) 2 p (by simp; omega)
            by_cases c3 : (cnt ((rd H (rd (rd H p) (rd f p).toNat).peer.toNat).take (rd f (rd (rd H p) (rd f p).toNat).peer.toNat).toNat) 2 p : Int) ≤ (cnt ((rd H p).take (rd f p).toNat) 3 (rd (rd H p) (rd f p).toNat).peer : Int)
            · have hcan : canCome H f p = false := by simp [canCome, c2]; intro _; omega
              repeat' ((with_reducible (first | refine sCall.of (qa _) ?_|refine sCall.of (qb _) ?_|refine gP ?_|refine gN ?_|refine fG.split (fun _ => ?_) (fun _ => ?_)|refine fG.not ?_|refine gY ?_|refine gF ?_|refine fG.yes (flat_map (fun _ => rfl) _) ?_|refine fG.bool (fun _ => ?_) (fun _ => ?_)|refine gS64 ?_|refine gU8 ?_|refine gI13 ?_|refine fE.of rfl ?_|refine gNum13 ?_|refine gSet ?_|refine gRd ?_|refine gLk ?_|refine gRow13 ?_|refine gRf4 ?_|refine sDraw.none (id := 14) (ty := tys) rfl (by decide +kernel) ?_|refine sDraw.mk' (id := 15) [(1, 11), (4, 11), (8, 11), (10, 11)] (ty := tys) rfl (by decide +kernel) ?_|refine sDraw.mk' (id := 16) [(16, 18), (16, 20), (16, 22), (16, 25), (16, 27)] (ty := tys) rfl (by decide +kernel) ?_)) <;> (try (conv => whnf)))
              refine ⟨⟨⟨f, n, p + 1, m, x, _, _⟩, (by (try dsimp only [cond_true, cond_false]); exact ⟨⟨rfl, rfl, rfl, rfl, rfl, rfl, trivial⟩, ⟨rfl, rfl, rfl, rfl, rfl, rfl, trivial⟩⟩), ?_, ?_⟩⟩
              · exact ⟨by show p + 1 ≤ _; omega, hr, hx, hn0, hmt, fun h => no_more (hmf h) hcan⟩
              · show H.length - (p + 1) < H.length - p; omega
            · have hcan : canCome H f p = true := by simp [canCome, c1, c2]; omega
              repeat' ((with_reducible (first | refine sCall.of (qa _) ?_|refine sCall.of (qb _) ?_|refine gP ?_|refine gN ?_|refine fG.split (fun _ => ?_) (fun _ => ?_)|refine fG.not ?_|refine gY ?_|refine gF ?_|refine fG.yes (flat_map (fun _ => rfl) _) ?_|refine fG.bool (fun _ => ?_) (fun _ => ?_)|refine gS64 ?_|refine gU8 ?_|refine gI13 ?_|refine fE.of rfl ?_|refine gNum13 ?_|refine gSet ?_|refine gRd ?_|refine gLk ?_|refine gRow13 ?_|refine gRf4 ?_|refine sDraw.none (id := 14) (ty := tys) rfl (by decide +kernel) ?_|refine sDraw.mk' (id := 15) [(1, 11), (4, 11), (8, 11), (10, 11)] (ty := tys) rfl (by decide +kernel) ?_|refine sDraw.mk' (id := 16) [(16, 18), (16, 20), (16, 22), (16, 25), (16, 27)] (ty := tys) rfl (by decide +kernel) ?_)) <;> (try (conv => whnf)))
              refine ⟨⟨⟨goOn f p, n + 1, p + 1, true, x - 1, _, _⟩, (by (try dsimp only [cond_true, cond_false]); exact ⟨⟨rfl, rfl, rfl, rfl, rfl, rfl, trivial⟩, ⟨rfl, rfl, rfl, rfl, rfl, rfl, trivial⟩⟩), ?_, ?_⟩⟩
              · exact ⟨by show p + 1 ≤ _; omega, hr.step hpl hcan, by show x - 1 = (allEv H : Int) - ((n + 1 : Nat) : Int); omega, by show n0 ≤ n + 1; omega, (fun _ => by show n0 < n + 1; omega), fun h => by cases h⟩
              · show H.length - (p + 1) < H.length - p; omega
          · have hcan : canCome H f p = true := by simp [canCome, c1, c2]
            repeat' ((with_reducible (first | refine gP ?_|refine gN ?_|refine fG.split (fun _ => ?_) (fun _ => ?_)|refine fG.not ?_|refine gY ?_|refine gF ?_|refine fG.yes (flat_map (fun _ => rfl) _) ?_|refine fG.bool (fun _ => ?_) (fun _ => ?_)|refine gS64 ?_|refine gU8 ?_|refine gI13 ?_|refine fE.of rfl ?_|refine gNum13 ?_|refine gSet ?_|refine gRd ?_|refine gLk ?_|refine gRow13 ?_|refine gRf4 ?_|refine sDraw.none (id := 14) (ty := tys) rfl (by decide +kernel) ?_|refine sDraw.mk' (id := 15) [(1, 11), (4, 11), (8, 11), (10, 11)] (ty := tys) rfl (by decide +kernel) ?_|refine sDraw.mk' (id := 16) [(16, 18), (16, 20), (16, 22), (16, 25), (16, 27)] (ty := tys) rfl (by decide +kernel) ?_)) <;> (try (conv => whnf)))
            refine ⟨⟨⟨goOn f p, n + 1, p + 1, true, x - 1, _, _⟩, (by (try dsimp only [cond_true, cond_false]); exact ⟨⟨rfl, rfl, rfl, rfl, rfl, rfl, trivial⟩, ⟨rfl, rfl, rfl, rfl, rfl, rfl, trivial⟩⟩), ?_, ?_⟩⟩
            · exact ⟨by show p + 1 ≤ _; omega, hr.step hpl hcan, by show x - 1 = (allEv H : Int) - ((n + 1 : Nat) : Int); omega, by show n0 ≤ n + 1; omega, (fun _ => by show n0 < n + 1; omega), fun h => by cases h⟩
            · show H.length - (p + 1) < H.length - p; omega
      · repeat' ((with_reducible (first | refine gP ?_|refine gN ?_|refine fG.split (fun _ => ?_) (fun _ => ?_)|refine fG.not ?_|refine gY ?_|refine gF ?_|refine fG.yes (flat_map (fun _ => rfl) _) ?_|refine fG.bool (fun _ => ?_) (fun _ => ?_)|refine gS64 ?_|refine gU8 ?_|refine gI13 ?_|refine fE.of rfl ?_|refine gNum13 ?_|refine gSet ?_|refine gRd ?_|refine gLk ?_|refine gRow13 ?_|refine gRf4 ?_|refine sDraw.none (id := 14) (ty := tys) rfl (by decide +kernel) ?_|refine sDraw.mk' (id := 15) [(1, 11), (4, 11), (8, 11), (10, 11)] (ty := tys) rfl (by decide +kernel) ?_|refine sDraw.mk' (id := 16) [(16, 18), (16, 20), (16, 22), (16, 25), (16, 27)] (ty := tys) rfl (by decide +kernel) ?_)) <;> (try (conv => whnf)))
        refine ⟨⟨⟨f, n, 0, m, x, _, _⟩, (by (try dsimp only [cond_true, cond_false]); exact ⟨⟨rfl, rfl, rfl, rfl, rfl, trivial⟩, ⟨rfl, rfl, rfl, rfl, rfl, rfl, trivial⟩⟩), ?_, ?_⟩⟩
        · exact ⟨hr, hx, fun h q hq => hmf h q (by omega)⟩
        · show 2 * (allEv H - n) + (bif m then 1 else 0) < 2 * (allEv H - n0) + (bif true then 1 else 0)
          cases m with
          | true => have := hmt rfl; simp only [cond_true]; omega
          | false => simp only [cond_true, cond_false]; omega

end Go.Proofs.YtlobpiebphnkiaaGreat.Abs
namespace Go.Proofs.YtlobpiebphnkiaaGreat.Abs
open Go Go.Proofs
set_option linter.unusedVariables false
set_option linter.unusedSimpArgs false
attribute [local irreducible] callE
theorem rd_at {α : Type} [Inhabited α] {l : List α} {i : Nat} (h : i < l.length) : rd l i = l[i] := by simp [rd, h]
structure SP where
  j : Nat
  b1 : Nat
  b2 : Nat
set_option maxHeartbeats 8000000 in
theorem ok_spec_SysOk (k : Nat) (P : List (List Ins)) (S : List State) (W : List (List Item)) (H : List (List Event)) (hb : SysB 10000000000 P S W H) :
    callE PR C (k + 7) 62 [aSys 0 P S W H] [tInsSS P, tStateS S, tItemSS W, tEventSS H] = some ⟨bl (sysOk P S W H), [], [none, none, none, none]⟩ := by
  have b1 := hb.p
  have b2 := hb.s
  have b3 := hb.w
  have b4 := hb.h
  have q0 := fun k => ok_spec_l1In k (P.length : Int) 1 4
  by_cases d1 : 1 ≤ (P.length : Int) ∧ (P.length : Int) ≤ 4
  · rw [decide_eq_true d1] at q0
    have hnn : P.length * P.length ≤ 4 * 4 := Nat.mul_le_mul (by omega) (by omega)
    have w1 : IntKind.i64.wrap ((P.length : Int) * (P.length : Int)) = ((P.length * P.length : Nat) : Int) := by
      rw [show (P.length : Int) * (P.length : Int) = ((P.length * P.length : Nat) : Int) by simp]; exact wrap_i64 _ (by omega) (by omega)
    by_cases d2 : S.length = P.length
    · by_cases d3 : H.length = P.length
      · by_cases d4 : W.length = P.length * P.length
        · have hI : SysIs P S W H := ⟨by omega, d2, d3, d4⟩
          have eS : sysOk P S W H = (allBelow P.length (procOk' P S H) && ((allBelow P.length fun a => allBelow P.length fun b => pairOk P.length W H a b) && inRow H)) := by
            rw [← sysOk_spec, hI.sizes, Bool.true_and]
          (refine callE_is (callE_w [ResultVar.tmp 2] rfl Tryz.func62 rfl (by decide +kernel) rfl (by simp) ?_); (conv => whnf))
          repeat' ((with_reducible (first | refine sCall.of (q0 _) ?_|refine sW.eq (w1) ?_|refine gP ?_|refine gN ?_|refine fG.split (fun _ => ?_) (fun _ => ?_)|refine fG.not ?_|refine gY ?_|refine gF ?_|refine fG.yes (flat_map (fun _ => rfl) _) ?_|refine fG.bool (fun _ => ?_) (fun _ => ?_)|refine gS64 ?_|refine gU8 ?_|refine gI13 ?_|refine fE.of rfl ?_|refine gNum13 ?_|refine gSet ?_|refine gRd ?_|refine gLk ?_|refine gRow13 ?_|refine gRf4 ?_|refine sDraw.mk' (id := 9) [(1, 14), (4, 14), (6, 14), (9, 14), (10, 14)] (ty := tys) rfl (by decide +kernel) ?_|refine sDraw.none (id := 10) (ty := tys) rfl (by decide +kernel) ?_|refine sDraw.none (id := 30) (ty := tys) rfl (by decide +kernel) ?_)) <;> (try (conv => whnf)))
          refine loop_rule (ι := Nat) (fun j => [(1, .pt 1 1 0 [] 0 0), (3, i64 P.length), (4, i64 (j : Nat))])
            (fun _ => [(1000000, ⟨0, 0, false, tInsSS P⟩), (1000001, ⟨0, 0, false, tStateS S⟩), (1000002, ⟨0, 0, false, tItemSS W⟩), (1000003, ⟨0, 0, false, tEventSS H⟩), (1, ⟨1, 0, false, bSys P S W H⟩)])
            (fun j => P.length - j) (fun j => j ≤ P.length ∧ ∀ q, q < j → procOk' P S H q = true) 0 (by (try dsimp only [cond_true, cond_false]); exact ⟨⟨rfl, rfl, rfl, trivial⟩, ⟨rfl, rfl, rfl, rfl, rfl, trivial⟩⟩) ⟨Nat.zero_le _, fun q h => absurd h (Nat.not_lt_zero q)⟩ (by simp [C]; omega) ?_
          rintro p sl ob ⟨hj, hpr⟩
          (try dsimp only [cond_true, cond_false])
          (conv => whnf)
          by_cases hpl : p < P.length
          · have c1 := hb.pp p hpl
            have c2 := hb.hh p (by omega)
            have c3 := hb.ss p (by omega)
            have q1 := fun k => ok_spec_ProgOk k (rd P p) P.length (by omega) (by omega) (by omega)
            have q2 := fun k => ok_spec_Replay' k (rd P p) (rd H p) (by omega) (by omega)
            have hst := stOf_len (rd P p) (rd H p)
            cases e1 : progOk (rd P p) P.length with
            | false =>
              simp only [e1] at q1
              rw [eS, allBelow_no (f := procOk' P S H) hpl (by simp [procOk', e1]), Bool.false_and]
              repeat' ((with_reducible (first | refine sCall.of (q1 _) ?_|refine gP ?_|refine gN ?_|refine fG.split (fun _ => ?_) (fun _ => ?_)|refine fG.not ?_|refine gY ?_|refine gF ?_|refine fG.yes (flat_map (fun _ => rfl) _) ?_|refine fG.bool (fun _ => ?_) (fun _ => ?_)|refine gS64 ?_|refine gU8 ?_|refine gI13 ?_|refine fE.of rfl ?_|refine gNum13 ?_|refine gSet ?_|refine gRd ?_|refine gLk ?_|refine gRow13 ?_|refine gRf4 ?_|refine sDraw.mk' (id := 9) [(1, 14), (4, 14), (6, 14), (9, 14), (10, 14)] (ty := tys) rfl (by decide +kernel) ?_|refine sDraw.none (id := 10) (ty := tys) rfl (by decide +kernel) ?_|refine sDraw.none (id := 30) (ty := tys) rfl (by decide +kernel) ?_)) <;> (try (conv => whnf)))
            | true =>
              simp only [e1] at q1
              cases e2 : (replayAll (rd P p) (rd H p)).isSome with
              | false =>
                simp only [e2] at q2
                rw [eS, allBelow_no (f := procOk' P S H) hpl (by simp [procOk', stoodAs, e2]), Bool.false_and]
                repeat' ((with_reducible (first | refine sCall.of (q1 _) ?_|refine sCall.of (q2 _) ?_|refine gP ?_|refine gN ?_|refine fG.split (fun _ => ?_) (fun _ => ?_)|refine fG.not ?_|refine gY ?_|refine gF ?_|refine fG.yes (flat_map (fun _ => rfl) _) ?_|refine fG.bool (fun _ => ?_) (fun _ => ?_)|refine gS64 ?_|refine gU8 ?_|refine gI13 ?_|refine fE.of rfl ?_|refine gNum13 ?_|refine gSet ?_|refine gRd ?_|refine gLk ?_|refine gRow13 ?_|refine gRf4 ?_|refine sDraw.mk' (id := 9) [(1, 14), (4, 14), (6, 14), (9, 14), (10, 14)] (ty := tys) rfl (by decide +kernel) ?_|refine sDraw.none (id := 10) (ty := tys) rfl (by decide +kernel) ?_|refine sDraw.none (id := 30) (ty := tys) rfl (by decide +kernel) ?_)) <;> (try (conv => whnf)))
              | true =>
                simp only [e2] at q2
                generalize hstd : stOf (replayAll (rd P p) (rd H p)) = st at q2 hst
                have q3 := fun k => ok_spec_l4SameState k st.at_ st.regs st.out st.code (rd S p).at_ (rd S p).regs (rd S p).out (rd S p).code (by omega) (by omega) (by omega) (by omega)
                rw [show sameS st.at_ st.regs st.out st.code (rd S p).at_ (rd S p).regs (rd S p).out (rd S p).code = decide (st = rd S p) from rfl] at q3
                by_cases e3 : st = rd S p
                · rw [decide_eq_true e3] at q3
                  have hsd : stoodAs (rd P p) (rd H p) (rd S p) = true := by simp [stoodAs, e2, hstd, e3]
                  repeat' ((with_reducible (first | refine sCall.of (q1 _) ?_|refine sCall.of (q2 _) ?_|refine sCall.of (q3 _) ?_|refine gP ?_|refine gN ?_|refine fG.split (fun _ => ?_) (fun _ => ?_)|refine fG.not ?_|refine gY ?_|refine gF ?_|refine fG.yes (flat_map (fun _ => rfl) _) ?_|refine fG.bool (fun _ => ?_) (fun _ => ?_)|refine gS64 ?_|refine gU8 ?_|refine gI13 ?_|refine fE.of rfl ?_|refine gNum13 ?_|refine gSet ?_|refine gRd ?_|refine gLk ?_|refine gRow13 ?_|refine gRf4 ?_|refine sDraw.mk' (id := 9) [(1, 14), (4, 14), (6, 14), (9, 14), (10, 14)] (ty := tys) rfl (by decide +kernel) ?_|refine sDraw.none (id := 10) (ty := tys) rfl (by decide +kernel) ?_|refine sDraw.none (id := 30) (ty := tys) rfl (by decide +kernel) ?_)) <;> (try (conv => whnf)))
                  refine loop_rule (ι := Nat) (fun j => [(1, .pt 1 1 0 [] 0 0), (3, i64 P.length), (4, i64 (p : Nat)), (7, i64 (j : Nat))])
                    (fun _ => [(1000000, ⟨0, 0, false, tInsSS P⟩), (1000001, ⟨0, 0, false, tStateS S⟩), (1000002, ⟨0, 0, false, tItemSS W⟩), (1000003, ⟨0, 0, false, tEventSS H⟩), (1, ⟨1, 0, false, bSys P S W H⟩)])
                    (fun j => (rd H p).length - j) (fun j => j ≤ (rd H p).length ∧ ∀ i, i < j → (rd (rd H p) i).peer < (P.length : Int)) 0 (by (try dsimp only [cond_true, cond_false]); exact ⟨⟨rfl, rfl, rfl, rfl, trivial⟩, ⟨rfl, rfl, rfl, rfl, rfl, trivial⟩⟩) ⟨Nat.zero_le _, fun q h => absurd h (Nat.not_lt_zero q)⟩ (by simp [C]; omega) ?_
                  clear sl ob
                  rintro i sl ob ⟨hi, hpe⟩
                  have e4 : (List.map rEvent (rd H p)).length = (rd H p).length := by simp
                  (try dsimp only [cond_true, cond_false])
                  (conv => whnf)
                  by_cases hil : i < (rd H p).length
                  · by_cases e : (rd (rd H p) i).peer < (P.length : Int)
                    · repeat' ((with_reducible (first | refine gP ?_|refine gN ?_|refine fG.split (fun _ => ?_) (fun _ => ?_)|refine fG.not ?_|refine gY ?_|refine gF ?_|refine fG.yes (flat_map (fun _ => rfl) _) ?_|refine fG.bool (fun _ => ?_) (fun _ => ?_)|refine gS64 ?_|refine gU8 ?_|refine gI13 ?_|refine fE.of rfl ?_|refine gNum13 ?_|refine gSet ?_|refine gRd ?_|refine gLk ?_|refine gRow13 ?_|refine gRf4 ?_|refine sDraw.mk' (id := 9) [(1, 14), (4, 14), (6, 14), (9, 14), (10, 14)] (ty := tys) rfl (by decide +kernel) ?_|refine sDraw.none (id := 10) (ty := tys) rfl (by decide +kernel) ?_|refine sDraw.none (id := 30) (ty := tys) rfl (by decide +kernel) ?_)) <;> (try (conv => whnf)))
                      refine ⟨⟨i + 1, (by (try dsimp only [cond_true, cond_false]); exact ⟨⟨rfl, rfl, rfl, rfl, trivial⟩, ⟨rfl, rfl, rfl, rfl, rfl, trivial⟩⟩), ?_, ?_⟩⟩
                      · exact ⟨by show i + 1 ≤ _; omega, fun q hq => by rcases Nat.lt_succ_iff_lt_or_eq.1 hq with h | h; exact hpe q h; rw [h]; exact e⟩
                      · show (rd H p).length - (i + 1) < (rd H p).length - i; omega
                    · have ef : ((rd H p).all fun e => decide (e.peer < (P.length : Int))) = false := by
                        rw [List.all_eq_false]
                        exact ⟨_, rd_mem hil, by simpa using e⟩
                      rw [eS, allBelow_no (f := procOk' P S H) hpl (by simp only [procOk', ef, Bool.and_false]), Bool.false_and]
                      repeat' ((with_reducible (first | refine gP ?_|refine gN ?_|refine fG.split (fun _ => ?_) (fun _ => ?_)|refine fG.not ?_|refine gY ?_|refine gF ?_|refine fG.yes (flat_map (fun _ => rfl) _) ?_|refine fG.bool (fun _ => ?_) (fun _ => ?_)|refine gS64 ?_|refine gU8 ?_|refine gI13 ?_|refine fE.of rfl ?_|refine gNum13 ?_|refine gSet ?_|refine gRd ?_|refine gLk ?_|refine gRow13 ?_|refine gRf4 ?_|refine sDraw.mk' (id := 9) [(1, 14), (4, 14), (6, 14), (9, 14), (10, 14)] (ty := tys) rfl (by decide +kernel) ?_|refine sDraw.none (id := 10) (ty := tys) rfl (by decide +kernel) ?_|refine sDraw.none (id := 30) (ty := tys) rfl (by decide +kernel) ?_)) <;> (try (conv => whnf)))
                  · have ef : ((rd H p).all fun e => decide (e.peer < (P.length : Int))) = true := by
                      rw [List.all_eq_true]
                      intro x hx
                      obtain ⟨i, hi, rfl⟩ := List.mem_iff_getElem.1 hx
                      have h5 := hpe i (by omega)
                      rw [rd_at hi] at h5
                      exact decide_eq_true h5
                    repeat' ((with_reducible (first | refine gP ?_|refine gN ?_|refine fG.split (fun _ => ?_) (fun _ => ?_)|refine fG.not ?_|refine gY ?_|refine gF ?_|refine fG.yes (flat_map (fun _ => rfl) _) ?_|refine fG.bool (fun _ => ?_) (fun _ => ?_)|refine gS64 ?_|refine gU8 ?_|refine gI13 ?_|refine fE.of rfl ?_|refine gNum13 ?_|refine gSet ?_|refine gRd ?_|refine gLk ?_|refine gRow13 ?_|refine gRf4 ?_|refine sDraw.mk' (id := 9) [(1, 14), (4, 14), (6, 14), (9, 14), (10, 14)] (ty := tys) rfl (by decide +kernel) ?_|refine sDraw.none (id := 10) (ty := tys) rfl (by decide +kernel) ?_|refine sDraw.none (id := 30) (ty := tys) rfl (by decide +kernel) ?_)) <;> (try (conv => whnf)))
                    refine ⟨⟨p + 1, (by (try dsimp only [cond_true, cond_false]); exact ⟨⟨rfl, rfl, rfl, trivial⟩, ⟨rfl, rfl, rfl, rfl, rfl, trivial⟩⟩), ?_, ?_⟩⟩
                    · exact ⟨by show p + 1 ≤ _; omega, fun q hq => by rcases Nat.lt_succ_iff_lt_or_eq.1 hq with h | h; exact hpr q h; rw [h]; simp only [procOk', e1, hsd, ef, Bool.and_self]⟩
                    · show P.length - (p + 1) < P.length - p; omega
                · rw [decide_eq_false e3] at q3
                  rw [eS, allBelow_no (f := procOk' P S H) hpl (by simp [procOk', stoodAs, hstd, e3]), Bool.false_and]
                  repeat' ((with_reducible (first | refine sCall.of (q1 _) ?_|refine sCall.of (q2 _) ?_|refine sCall.of (q3 _) ?_|refine gP ?_|refine gN ?_|refine fG.split (fun _ => ?_) (fun _ => ?_)|refine fG.not ?_|refine gY ?_|refine gF ?_|refine fG.yes (flat_map (fun _ => rfl) _) ?_|refine fG.bool (fun _ => ?_) (fun _ => ?_)|refine gS64 ?_|refine gU8 ?_|refine gI13 ?_|refine fE.of rfl ?_|refine gNum13 ?_|refine gSet ?_|refine gRd ?_|refine gLk ?_|refine gRow13 ?_|refine gRf4 ?_|refine sDraw.mk' (id := 9) [(1, 14), (4, 14), (6, 14), (9, 14), (10, 14)] (ty := tys) rfl (by decide +kernel) ?_|refine sDraw.none (id := 10) (ty := tys) rfl (by decide +kernel) ?_|refine sDraw.none (id := 30) (ty := tys) rfl (by decide +kernel) ?_)) <;> (try (conv => whnf)))
          · have ePr := allBelow_yes (f := procOk' P S H) (n := P.length) fun q hq => hpr q (by omega)
            have hpr' : ∀ p, p < P.length → procOk P S H p = true := fun q hq => by rw [← proc_same (by omega)]; exact hpr q (by omega)
            obtain ⟨hPI, h200⟩ := peersIn_of hI.n d3 hpr'
            rw [ePr, Bool.true_and] at eS
            repeat' ((with_reducible (first | refine gP ?_|refine gN ?_|refine fG.split (fun _ => ?_) (fun _ => ?_)|refine fG.not ?_|refine gY ?_|refine gF ?_|refine fG.yes (flat_map (fun _ => rfl) _) ?_|refine fG.bool (fun _ => ?_) (fun _ => ?_)|refine gS64 ?_|refine gU8 ?_|refine gI13 ?_|refine fE.of rfl ?_|refine gNum13 ?_|refine gSet ?_|refine gRd ?_|refine gLk ?_|refine gRow13 ?_|refine gRf4 ?_|refine sDraw.mk' (id := 9) [(1, 14), (4, 14), (6, 14), (9, 14), (10, 14)] (ty := tys) rfl (by decide +kernel) ?_|refine sDraw.none (id := 10) (ty := tys) rfl (by decide +kernel) ?_|refine sDraw.none (id := 30) (ty := tys) rfl (by decide +kernel) ?_)) <;> (try (conv => whnf)))
            refine loop_rule (ι := Nat) (fun j => [(1, .pt 1 1 0 [] 0 0), (3, i64 P.length), (8, i64 (j : Nat))])
              (fun _ => [(1000000, ⟨0, 0, false, tInsSS P⟩), (1000001, ⟨0, 0, false, tStateS S⟩), (1000002, ⟨0, 0, false, tItemSS W⟩), (1000003, ⟨0, 0, false, tEventSS H⟩), (1, ⟨1, 0, false, bSys P S W H⟩)])
              (fun j => P.length - j) (fun j => j ≤ P.length ∧ ∀ a, a < j → allBelow P.length (fun b => pairOk P.length W H a b) = true) 0 (by (try dsimp only [cond_true, cond_false]); exact ⟨⟨rfl, rfl, rfl, trivial⟩, ⟨rfl, rfl, rfl, rfl, rfl, trivial⟩⟩) ⟨Nat.zero_le _, fun q h => absurd h (Nat.not_lt_zero q)⟩ (by simp [C]; omega) ?_
            clear sl ob hpl hpr hj
            rintro a sl ob ⟨ha, hfa⟩
            (try dsimp only [cond_true, cond_false])
            (conv => whnf)
            by_cases hal : a < P.length
            · repeat' ((with_reducible (first | refine gP ?_|refine gN ?_|refine fG.split (fun _ => ?_) (fun _ => ?_)|refine fG.not ?_|refine gY ?_|refine gF ?_|refine fG.yes (flat_map (fun _ => rfl) _) ?_|refine fG.bool (fun _ => ?_) (fun _ => ?_)|refine gS64 ?_|refine gU8 ?_|refine gI13 ?_|refine fE.of rfl ?_|refine gNum13 ?_|refine gSet ?_|refine gRd ?_|refine gLk ?_|refine gRow13 ?_|refine gRf4 ?_|refine sDraw.mk' (id := 9) [(1, 14), (4, 14), (6, 14), (9, 14), (10, 14)] (ty := tys) rfl (by decide +kernel) ?_|refine sDraw.none (id := 10) (ty := tys) rfl (by decide +kernel) ?_|refine sDraw.none (id := 30) (ty := tys) rfl (by decide +kernel) ?_)) <;> (try (conv => whnf)))
              refine loop_rule (ι := Nat) (fun j => [(1, .pt 1 1 0 [] 0 0), (3, i64 P.length), (8, i64 (a : Nat)), (9, i64 (j : Nat))])
                (fun _ => [(1000000, ⟨0, 0, false, tInsSS P⟩), (1000001, ⟨0, 0, false, tStateS S⟩), (1000002, ⟨0, 0, false, tItemSS W⟩), (1000003, ⟨0, 0, false, tEventSS H⟩), (1, ⟨1, 0, false, bSys P S W H⟩)])
                (fun j => P.length - j) (fun j => j ≤ P.length ∧ ∀ b, b < j → pairOk P.length W H a b = true) 0 (by (try dsimp only [cond_true, cond_false]); exact ⟨⟨rfl, rfl, rfl, rfl, trivial⟩, ⟨rfl, rfl, rfl, rfl, rfl, trivial⟩⟩) ⟨Nat.zero_le _, fun q h => absurd h (Nat.not_lt_zero q)⟩ (by simp [C]; omega) ?_
              clear sl ob
              rintro b sl ob ⟨hb', hfb⟩
              (try dsimp only [cond_true, cond_false])
              (conv => whnf)
              by_cases hbl : b < P.length
              · have hpl := place_lt hal hbl
                rw [← d4] at hpl
                have c1 := h200 a (by omega)
                have c2 := h200 b (by omega)
                have c3 := hb.ww _ hpl
                have hle : a * P.length ≤ 4 * 4 := Nat.mul_le_mul (by omega) (by omega)
                have w2 : IntKind.i64.wrap ((a : Int) * (P.length : Int)) = ((a * P.length : Nat) : Int) := by
                  rw [show (a : Int) * (P.length : Int) = ((a * P.length : Nat) : Int) by simp]; exact wrap_i64 _ (by omega) (by omega)
                have w3 : IntKind.i64.wrap (((a * P.length : Nat) : Int) + (b : Int)) = ((a * P.length + b : Nat) : Int) := by rw [wrap_i64 _ (by omega) (by omega)]; simp
                have q1 := fun k => ok_spec_Values k (rd H b) 3 a (by omega)
                have q2 := fun k => ok_spec_Values k (rd H a) 2 b (by omega)
                have l1 := vals_le (rd H b) 3 a
                have l2 := vals_le (rd H a) 2 b
                have q3 := fun k => ok_spec_l4Way k (rd W (a * P.length + b)) (vals (rd H a) 2 b) (vals (rd H b) 3 a).length (by omega) (by omega) (by omega)
                cases e : l4way (rd W (a * P.length + b)) (vals (rd H a) 2 b) (vals (rd H b) 3 a).length with
                | false =>
                  simp only [e] at q3
                  rw [eS, allBelow_no (f := fun a => allBelow P.length fun b => pairOk P.length W H a b) hal (allBelow_no hbl (by simp only [pairOk, e, Bool.false_and])), Bool.false_and]
                  repeat' ((with_reducible (first | refine sCall.of (q1 _) ?_|refine sCall.of (q2 _) ?_|refine sW.eq (w2) ?_|refine sW.eq (w3) ?_|refine sCall.of (q3 _) ?_|refine gP ?_|refine gN ?_|refine fG.split (fun _ => ?_) (fun _ => ?_)|refine fG.not ?_|refine gY ?_|refine gF ?_|refine fG.yes (flat_map (fun _ => rfl) _) ?_|refine fG.bool (fun _ => ?_) (fun _ => ?_)|refine gS64 ?_|refine gU8 ?_|refine gI13 ?_|refine fE.of rfl ?_|refine gNum13 ?_|refine gSet ?_|refine gRd ?_|refine gLk ?_|refine gRow13 ?_|refine gRf4 ?_|refine sDraw.mk' (id := 9) [(1, 14), (4, 14), (6, 14), (9, 14), (10, 14)] (ty := tys) rfl (by decide +kernel) ?_|refine sDraw.none (id := 10) (ty := tys) rfl (by decide +kernel) ?_|refine sDraw.none (id := 30) (ty := tys) rfl (by decide +kernel) ?_)) <;> (try (conv => whnf)))
                | true =>
                  simp only [e] at q3
                  have hlen : (vals (rd H b) 3 a).length ≤ (vals (rd H a) 2 b).length := by
                    simp only [l4way, Bool.and_eq_true, decide_eq_true_eq] at e
                    omega
                  have epair : pairOk P.length W H a b = decide ((vals (rd H a) 2 b).take (vals (rd H b) 3 a).length = vals (rd H b) 3 a) := by rw [pairOk, e, Bool.true_and]
                  repeat' ((with_reducible (first | refine sCall.of (q1 _) ?_|refine sCall.of (q2 _) ?_|refine sW.eq (w2) ?_|refine sW.eq (w3) ?_|refine sCall.of (q3 _) ?_|refine gP ?_|refine gN ?_|refine fG.split (fun _ => ?_) (fun _ => ?_)|refine fG.not ?_|refine gY ?_|refine gF ?_|refine fG.yes (flat_map (fun _ => rfl) _) ?_|refine fG.bool (fun _ => ?_) (fun _ => ?_)|refine gS64 ?_|refine gU8 ?_|refine gI13 ?_|refine fE.of rfl ?_|refine gNum13 ?_|refine gSet ?_|refine gRd ?_|refine gLk ?_|refine gRow13 ?_|refine gRf4 ?_|refine sDraw.mk' (id := 9) [(1, 14), (4, 14), (6, 14), (9, 14), (10, 14)] (ty := tys) rfl (by decide +kernel) ?_|refine sDraw.none (id := 10) (ty := tys) rfl (by decide +kernel) ?_|refine sDraw.none (id := 30) (ty := tys) rfl (by decide +kernel) ?_)) <;> (try (conv => whnf)))
                  clear q1 q2 q3 w2 w3 e
                  generalize hT : vals (rd H b) 3 a = took at l1 hlen epair ⊢
                  generalize hS : vals (rd H a) 2 b = sent at l2 hlen epair ⊢
                  refine loop_rule (ι := SP) (fun z => [(1, .pt 1 1 0 [] 0 0), (3, i64 P.length), (8, i64 (a : Nat)), (9, i64 (b : Nat)), (10, .h 10118 z.b1 0 [] 1 0 took.length), (11, .h 10125 z.b2 0 [] 1 0 sent.length), (12, i64 (z.j : Nat))])
                    (fun z => [(1000000, ⟨0, 0, false, tInsSS P⟩), (1000001, ⟨0, 0, false, tStateS S⟩), (1000002, ⟨0, 0, false, tItemSS W⟩), (1000003, ⟨0, 0, false, tEventSS H⟩), (1, ⟨1, 0, false, bSys P S W H⟩), (10118, ⟨z.b1, 0, false, tI9 took⟩), (10125, ⟨z.b2, 0, false, tI9 sent⟩)])
                    (fun z => took.length - z.j) (fun z => z.j ≤ took.length ∧ ∀ i, i < z.j → rd took i = rd sent i) ⟨0, _, _⟩ (by (try dsimp only [cond_true, cond_false]); exact ⟨⟨rfl, rfl, rfl, rfl, rfl, rfl, rfl, trivial⟩, ⟨rfl, rfl, rfl, rfl, rfl, rfl, rfl, trivial⟩⟩) ⟨Nat.zero_le _, fun q h => absurd h (Nat.not_lt_zero q)⟩ (by simp [C]; omega) ?_
                  clear sl ob
                  rintro ⟨i, bb1, bb2⟩ sl ob ⟨hi, hok⟩
                  dsimp only at hi hok
                  (try dsimp only [cond_true, cond_false])
                  (conv => whnf)
                  by_cases hil : i < took.length
                  · by_cases e : rd took i = rd sent i
                    · repeat' ((with_reducible (first | refine gP ?_|refine gN ?_|refine fG.split (fun _ => ?_) (fun _ => ?_)|refine fG.not ?_|refine gY ?_|refine gF ?_|refine fG.yes (flat_map (fun _ => rfl) _) ?_|refine fG.bool (fun _ => ?_) (fun _ => ?_)|refine gS64 ?_|refine gU8 ?_|refine gI13 ?_|refine fE.of rfl ?_|refine gNum13 ?_|refine gSet ?_|refine gRd ?_|refine gLk ?_|refine gRow13 ?_|refine gRf4 ?_|refine sDraw.mk' (id := 9) [(1, 14), (4, 14), (6, 14), (9, 14), (10, 14)] (ty := tys) rfl (by decide +kernel) ?_|refine sDraw.none (id := 10) (ty := tys) rfl (by decide +kernel) ?_|refine sDraw.none (id := 30) (ty := tys) rfl (by decide +kernel) ?_)) <;> (try (conv => whnf)))
                      refine ⟨⟨⟨i + 1, _, _⟩, (by (try dsimp only [cond_true, cond_false]); exact ⟨⟨rfl, rfl, rfl, rfl, rfl, rfl, rfl, trivial⟩, ⟨rfl, rfl, rfl, rfl, rfl, rfl, rfl, trivial⟩⟩), ?_, ?_⟩⟩
                      · exact ⟨by show i + 1 ≤ _; omega, fun q hq => by rcases Nat.lt_succ_iff_lt_or_eq.1 hq with h | h; exact hok q h; rw [h]; exact e⟩
                      · show took.length - (i + 1) < took.length - i; omega
                    · rw [eS, allBelow_no (f := fun a => allBelow P.length fun b => pairOk P.length W H a b) hal (allBelow_no hbl (by
                        rw [epair, decide_eq_false]
                        intro h
                        apply e
                        conv => lhs; rw [← h]
                        simp [rd, hil])), Bool.false_and]
                      repeat' ((with_reducible (first | refine gP ?_|refine gN ?_|refine fG.split (fun _ => ?_) (fun _ => ?_)|refine fG.not ?_|refine gY ?_|refine gF ?_|refine fG.yes (flat_map (fun _ => rfl) _) ?_|refine fG.bool (fun _ => ?_) (fun _ => ?_)|refine gS64 ?_|refine gU8 ?_|refine gI13 ?_|refine fE.of rfl ?_|refine gNum13 ?_|refine gSet ?_|refine gRd ?_|refine gLk ?_|refine gRow13 ?_|refine gRf4 ?_|refine sDraw.mk' (id := 9) [(1, 14), (4, 14), (6, 14), (9, 14), (10, 14)] (ty := tys) rfl (by decide +kernel) ?_|refine sDraw.none (id := 10) (ty := tys) rfl (by decide +kernel) ?_|refine sDraw.none (id := 30) (ty := tys) rfl (by decide +kernel) ?_)) <;> (try (conv => whnf)))
                  · repeat' ((with_reducible (first | refine gP ?_|refine gN ?_|refine fG.split (fun _ => ?_) (fun _ => ?_)|refine fG.not ?_|refine gY ?_|refine gF ?_|refine fG.yes (flat_map (fun _ => rfl) _) ?_|refine fG.bool (fun _ => ?_) (fun _ => ?_)|refine gS64 ?_|refine gU8 ?_|refine gI13 ?_|refine fE.of rfl ?_|refine gNum13 ?_|refine gSet ?_|refine gRd ?_|refine gLk ?_|refine gRow13 ?_|refine gRf4 ?_|refine sDraw.mk' (id := 9) [(1, 14), (4, 14), (6, 14), (9, 14), (10, 14)] (ty := tys) rfl (by decide +kernel) ?_|refine sDraw.none (id := 10) (ty := tys) rfl (by decide +kernel) ?_|refine sDraw.none (id := 30) (ty := tys) rfl (by decide +kernel) ?_)) <;> (try (conv => whnf)))
                    refine ⟨⟨b + 1, (by (try dsimp only [cond_true, cond_false]); exact ⟨⟨rfl, rfl, rfl, rfl, trivial⟩, ⟨rfl, rfl, rfl, rfl, rfl, trivial⟩⟩), ?_, ?_⟩⟩
                    · exact ⟨by show b + 1 ≤ _; omega, fun q hq => by
                        rcases Nat.lt_succ_iff_lt_or_eq.1 hq with h | h
                        · exact hfb q h
                        · rw [h, epair, decide_eq_true]
                          refine rd_ext (by simp; omega) fun q hq => ?_
                          have hq2 : q < took.length := by simp at hq; omega
                          rw [hok q (by omega)]
                          simp [rd, hq2]⟩
                    · show P.length - (b + 1) < P.length - b; omega
              · repeat' ((with_reducible (first | refine gP ?_|refine gN ?_|refine fG.split (fun _ => ?_) (fun _ => ?_)|refine fG.not ?_|refine gY ?_|refine gF ?_|refine fG.yes (flat_map (fun _ => rfl) _) ?_|refine fG.bool (fun _ => ?_) (fun _ => ?_)|refine gS64 ?_|refine gU8 ?_|refine gI13 ?_|refine fE.of rfl ?_|refine gNum13 ?_|refine gSet ?_|refine gRd ?_|refine gLk ?_|refine gRow13 ?_|refine gRf4 ?_|refine sDraw.mk' (id := 9) [(1, 14), (4, 14), (6, 14), (9, 14), (10, 14)] (ty := tys) rfl (by decide +kernel) ?_|refine sDraw.none (id := 10) (ty := tys) rfl (by decide +kernel) ?_|refine sDraw.none (id := 30) (ty := tys) rfl (by decide +kernel) ?_)) <;> (try (conv => whnf)))
                refine ⟨⟨a + 1, (by (try dsimp only [cond_true, cond_false]); exact ⟨⟨rfl, rfl, rfl, trivial⟩, ⟨rfl, rfl, rfl, rfl, rfl, trivial⟩⟩), ?_, ?_⟩⟩
                · exact ⟨by show a + 1 ≤ _; omega, fun q hq => by rcases Nat.lt_succ_iff_lt_or_eq.1 hq with h | h; exact hfa q h; rw [h]; exact allBelow_yes fun b hb => hfb b (by omega)⟩
                · show P.length - (a + 1) < P.length - a; omega
            · have eF : (allBelow P.length fun a => allBelow P.length fun b => pairOk P.length W H a b) = true := allBelow_yes fun a h => hfa a (by omega)
              have q3 := fun k => ok_spec_l4Order k P S W H (by omega) (fun j hj => by have := h200 j hj; omega) hPI
              rw [eS, eF, Bool.true_and]
              repeat' ((with_reducible (first | refine sCall.of (q3 _) ?_|refine gP ?_|refine gN ?_|refine fG.split (fun _ => ?_) (fun _ => ?_)|refine fG.not ?_|refine gY ?_|refine gF ?_|refine fG.yes (flat_map (fun _ => rfl) _) ?_|refine fG.bool (fun _ => ?_) (fun _ => ?_)|refine gS64 ?_|refine gU8 ?_|refine gI13 ?_|refine fE.of rfl ?_|refine gNum13 ?_|refine gSet ?_|refine gRd ?_|refine gLk ?_|refine gRow13 ?_|refine gRf4 ?_|refine sDraw.mk' (id := 9) [(1, 14), (4, 14), (6, 14), (9, 14), (10, 14)] (ty := tys) rfl (by decide +kernel) ?_|refine sDraw.none (id := 10) (ty := tys) rfl (by decide +kernel) ?_|refine sDraw.none (id := 30) (ty := tys) rfl (by decide +kernel) ?_)) <;> (try (conv => whnf)))
        · rw [sysOk_sizes (by simp [sizesOk, d4])]
          (refine callE_is (callE_w [ResultVar.tmp 2] rfl Tryz.func62 rfl (by decide +kernel) rfl (by simp) ?_); (conv => whnf))
          repeat' ((with_reducible (first | refine sCall.of (q0 _) ?_|refine sW.eq (w1) ?_|refine gP ?_|refine gN ?_|refine fG.split (fun _ => ?_) (fun _ => ?_)|refine fG.not ?_|refine gY ?_|refine gF ?_|refine fG.yes (flat_map (fun _ => rfl) _) ?_|refine fG.bool (fun _ => ?_) (fun _ => ?_)|refine gS64 ?_|refine gU8 ?_|refine gI13 ?_|refine fE.of rfl ?_|refine gNum13 ?_|refine gSet ?_|refine gRd ?_|refine gLk ?_|refine gRow13 ?_|refine gRf4 ?_|refine sDraw.mk' (id := 9) [(1, 14), (4, 14), (6, 14), (9, 14), (10, 14)] (ty := tys) rfl (by decide +kernel) ?_|refine sDraw.none (id := 10) (ty := tys) rfl (by decide +kernel) ?_|refine sDraw.none (id := 30) (ty := tys) rfl (by decide +kernel) ?_)) <;> (try (conv => whnf)))
          all_goals first
            | rfl
            | (exfalso; omega)
      · rw [sysOk_sizes (by simp [sizesOk, d3])]
        (refine callE_is (callE_w [ResultVar.tmp 2] rfl Tryz.func62 rfl (by decide +kernel) rfl (by simp) ?_); (conv => whnf))
        repeat' ((with_reducible (first | refine sCall.of (q0 _) ?_|refine sW.eq (w1) ?_|refine gP ?_|refine gN ?_|refine fG.split (fun _ => ?_) (fun _ => ?_)|refine fG.not ?_|refine gY ?_|refine gF ?_|refine fG.yes (flat_map (fun _ => rfl) _) ?_|refine fG.bool (fun _ => ?_) (fun _ => ?_)|refine gS64 ?_|refine gU8 ?_|refine gI13 ?_|refine fE.of rfl ?_|refine gNum13 ?_|refine gSet ?_|refine gRd ?_|refine gLk ?_|refine gRow13 ?_|refine gRf4 ?_|refine sDraw.mk' (id := 9) [(1, 14), (4, 14), (6, 14), (9, 14), (10, 14)] (ty := tys) rfl (by decide +kernel) ?_|refine sDraw.none (id := 10) (ty := tys) rfl (by decide +kernel) ?_|refine sDraw.none (id := 30) (ty := tys) rfl (by decide +kernel) ?_)) <;> (try (conv => whnf)))
        all_goals first
          | rfl
          | (exfalso; omega)
    · rw [sysOk_sizes (by simp [sizesOk, d2])]
      (refine callE_is (callE_w [ResultVar.tmp 2] rfl Tryz.func62 rfl (by decide +kernel) rfl (by simp) ?_); (conv => whnf))
      repeat' ((with_reducible (first | refine sCall.of (q0 _) ?_|refine sW.eq (w1) ?_|refine gP ?_|refine gN ?_|refine fG.split (fun _ => ?_) (fun _ => ?_)|refine fG.not ?_|refine gY ?_|refine gF ?_|refine fG.yes (flat_map (fun _ => rfl) _) ?_|refine fG.bool (fun _ => ?_) (fun _ => ?_)|refine gS64 ?_|refine gU8 ?_|refine gI13 ?_|refine fE.of rfl ?_|refine gNum13 ?_|refine gSet ?_|refine gRd ?_|refine gLk ?_|refine gRow13 ?_|refine gRf4 ?_|refine sDraw.mk' (id := 9) [(1, 14), (4, 14), (6, 14), (9, 14), (10, 14)] (ty := tys) rfl (by decide +kernel) ?_|refine sDraw.none (id := 10) (ty := tys) rfl (by decide +kernel) ?_|refine sDraw.none (id := 30) (ty := tys) rfl (by decide +kernel) ?_)) <;> (try (conv => whnf)))
      all_goals first
        | rfl
        | (exfalso; omega)
  · rw [decide_eq_false d1] at q0
    rw [sysOk_sizes (by simp [sizesOk, inB, d1])]
    (refine callE_is (callE_w [ResultVar.tmp 2] rfl Tryz.func62 rfl (by decide +kernel) rfl (by simp) ?_); (conv => whnf))
    repeat' ((with_reducible (first | refine sCall.of (q0 _) ?_|refine gP ?_|refine gN ?_|refine fG.split (fun _ => ?_) (fun _ => ?_)|refine fG.not ?_|refine gY ?_|refine gF ?_|refine fG.yes (flat_map (fun _ => rfl) _) ?_|refine fG.bool (fun _ => ?_) (fun _ => ?_)|refine gS64 ?_|refine gU8 ?_|refine gI13 ?_|refine fE.of rfl ?_|refine gNum13 ?_|refine gSet ?_|refine gRd ?_|refine gLk ?_|refine gRow13 ?_|refine gRf4 ?_|refine sDraw.mk' (id := 9) [(1, 14), (4, 14), (6, 14), (9, 14), (10, 14)] (ty := tys) rfl (by decide +kernel) ?_|refine sDraw.none (id := 10) (ty := tys) rfl (by decide +kernel) ?_|refine sDraw.none (id := 30) (ty := tys) rfl (by decide +kernel) ?_)) <;> (try (conv => whnf)))

end Go.Proofs.YtlobpiebphnkiaaGreat.Abs
namespace Go.Proofs.YtlobpiebphnkiaaGreat.Abs
open Go Go.Proofs
set_option linter.unusedVariables false
set_option linter.unusedSimpArgs false
attribute [local irreducible] callE
/-! ### Senders -/
def nthGo (x y : Int) : List Event → Nat → Int → Int
  | [], _, _ => -1
  | e :: es, i, n => if isEv x y e = true then (if n = 0 then (i : Int) else nthGo x y es (i + 1) (n - 1)) else nthGo x y es (i + 1) n
def nth (es : List Event) (x y n : Int) : Int := nthGo x y es 0 n
def senderOf (H : List (List Event)) (p i : Nat) : Int := if (rd (rd H p) i).kind = 3 then nth (rd H (rd (rd H p) i).peer.toNat) 2 p (cnt ((rd H p).take i) 3 (rd (rd H p) i).peer) else -1
/-- As many were sent as were taken, at least. -/
def Sends (H : List (List Event)) : Prop := ∀ p q, p < H.length → q < H.length → cnt (rd H p) 3 q ≤ cnt (rd H q) 2 p
structure NT where
  j : Nat
  m : Int
/-! ### Rows that are right -/
theorem sysOk_facts {P : List (List Ins)} {S : List State} {W : List (List Item)} {H : List (List Event)} (h : sysOk P S W H = true) : SysIs P S W H ∧ PeersIn H ∧ Sends H ∧ ∀ p, p < H.length → (rd H p).length ≤ 200 := by
  simp only [sysOk, sizesOk, inB, Bool.and_eq_true, decide_eq_true_eq, allBelow_eq] at h
  obtain ⟨⟨a1, a2, a3, a4⟩, _, b2, b3, _⟩ := h
  have hI : SysIs P S W H := ⟨by omega, a2, a3, a4⟩
  obtain ⟨h1, h2⟩ := peersIn_of hI.n a3 b2
  refine ⟨hI, h1, fun p q hp hq => ?_, h2⟩
  have h3 := b3 q (by omega) p (by omega)
  simp only [fits, decide_eq_true_eq] at h3
  have h4 := congrArg List.length h3
  simp only [List.length_append] at h4
  simp only [cnt]
  omega
abbrev tWho (l : List Who) : Cont := .tree 0 (.sl 2 (l.map rWho))

theorem set_rWho (l : List Who) (n : Nat) (a b : Int) : (l.map rWho).set n [.v (.int .i64 a), .v (.int .i64 b)] = (l.set n ⟨a, b⟩).map rWho := by simp [rWho, List.map_set]
theorem rep_rWho (n : Nat) (a b : Int) : List.replicate n [T.v (.int .i64 a), .v (.int .i64 b)] = (List.replicate n (⟨a, b⟩ : Who)).map rWho := by simp [rWho]
/-! ### The row -/
def rowIs (P : List (List Ins)) (S : List State) (W : List (List Item)) (H : List (List Event)) : List Who := if sysOk P S W H = true then rowOf H else []
end Go.Proofs.YtlobpiebphnkiaaGreat.Abs
namespace Go.Proofs.YtlobpiebphnkiaaGreat.Abs
open Go Go.Proofs
set_option linter.unusedVariables false
set_option linter.unusedSimpArgs false
attribute [local irreducible] callE
/-! ### A number named anew -/
theorem sW.eq {k : IntKind} {n r : Int} {F : Int → Prop} (e : k.wrap n = r) (h : F r) : sW k n F := ⟨by rw [e]; exact h⟩

/-! ### Live systems: what they are, and the laws' helpers for them -/
abbrev tBool (l : List Bool) : Cont := .tree 0 (.sl 1 (l.map rBool))
abbrev tBool9 (l : List Bool) : Cont := .tree 9 (.sl 1 (l.map rBool))
abbrev tIntSS (l : List (List Int)) : Cont := .tree 0 (.sl 1 (l.map rIntL))
abbrev tIntSS9 (l : List (List Int)) : Cont := .tree 9 (.sl 1 (l.map rIntL))
theorem set_rIntL (l : List (List Int)) (n : Nat) (x : List Int) : (l.map rIntL).set n [.sl 1 (x.map rI)] = (l.set n x).map rIntL := by simp [rIntL, List.map_set]
theorem rep_rIntL (n : Nat) : List.replicate n [T.sl 1 []] = (List.replicate n (default : List Int)).map rIntL := by simp [rIntL, default, instInhabitedList]
theorem gI15 {p A : Prop} (h : A) (e : p := by first | with_reducible assumption | omega | (simp only [Nat.zero_add, Nat.add_zero, Nat.sub_zero, Int.toNat_natCast, Int.toNat_zero, Int.toNat_one, List.length_map, List.length_nil, Int.reduceToNat, Nat.reduceAdd, Nat.reduceSub, Int.sub_zero, Int.reduceAdd, Int.reduceSub, Nat.sub_self, Int.toNat_natCast_add_one, marks_len, bs_len, List.length_append, List.length_cons, List.length_set, List.length_replicate, List.length_range]; first | done | omega)) : sI p A := sI.mk e h
theorem gNum15 {r r' : Nat} {F : Nat → Prop} (h : F r') (e : r = r' := by first | (simp only [Nat.zero_add, Nat.add_zero, Nat.sub_zero, Int.toNat_natCast, Int.toNat_zero, Int.toNat_one, List.length_map, List.length_nil, Int.reduceToNat, Nat.reduceAdd, Nat.reduceSub, Int.sub_zero, Int.reduceAdd, Int.reduceSub, Nat.sub_self, Int.toNat_natCast_add_one, marks_len, bs_len]; rfl) | rfl) : sN r F := sN.eq e h
theorem gRow15 {r r' : List (List T)} {F : List (List T) → Prop} (h : F r') (e : r = r' := by first | (simp only [Nat.add_zero, Nat.zero_add, Nat.reduceAdd, List.drop_zero, List.take_succ_cons, List.take_nil, List.drop_succ_cons, List.drop_nil, List.take_zero, List.nil_append, List.append_nil, List.map_nil, drop_suf, take_pre, drop_map, List.take_length, take_len_set, take_len_app, List.set_set, List.length_map, set_rIntL, rep_rIntL, set_rWho, rep_rWho, snoc_rWho, set_rState, rep_rState, set_rInsL, rep_rInsL, set_rItemL, rep_rItemL, set_rEventL, rep_rEventL, set_rItem, rep_rItem, rep_rKept, marks_take, set_rKept, set_rIns, rep_rIns, set_rEvent, rep_rEvent, snoc_rKept, snoc_rEvent, snoc_rIns, bytesT_bs, snoc_rI, snoc_rB, snoc_rBool, set_rI, set_rBool, rep_rI, rep_rBool, map_app]; rfl) | rfl) : sR r F := sR.eq e h
theorem gRf5 {b : Bool} {A : Prop} (h : A) (e : b = true := by first | exact Nat.beq_refl _ | exact wide_map (fun _ => rfl) _ | exact full_map (fun _ => rfl) _ | exact full_map (fun x => full_rKept x) _ | exact full_map (fun x => full_rInsL x) _ | exact full_map (fun x => full_rItemL x) _ | exact full_map (fun x => full_rEventL x) _ | exact full_map (fun x => full_rState x) _ | exact full_map (fun x => full_rIntL x) _ | exact full_map (fun x => full_rIntL x) _ | rfl | (simp only [full_map, wide_map]; done)) : fB b A := fB.of e h
/-- A live system as an argument: its lists are the arguments j .. j + 6. -/
abbrev aLive (j : Nat) (P : List (List Ins)) (S : List State) (W : List (List Item)) (H : List (List Event)) (on : Bool) (cut : List Int) (opn : List Bool) (kept : List (List Int)) : AV :=
  .ag [.h (1000000 + j) 0 0 [] 1 0 P.length, .h (1000001 + j) 0 0 [] 4 0 S.length, .h (1000002 + j) 0 0 [] 1 0 W.length, .h (1000003 + j) 0 0 [] 1 0 H.length, bl on, .h (1000004 + j) 0 0 [] 1 0 cut.length, .h (1000005 + j) 0 0 [] 1 0 opn.length, .h (1000006 + j) 0 0 [] 1 0 kept.length]
abbrev nLive (j : Nat) (P : List (List Ins)) (S : List State) (W : List (List Item)) (H : List (List Event)) (on : Bool) (cut : List Int) (opn : List Bool) (kept : List (List Int)) : AV :=
  .ag [.h (2000000 + j) 1 0 [] 1 0 P.length, .h (2000001 + j) 1 0 [] 4 0 S.length, .h (2000002 + j) 1 0 [] 1 0 W.length, .h (2000003 + j) 1 0 [] 1 0 H.length, bl on, .h (2000004 + j) 1 0 [] 1 0 cut.length, .h (2000005 + j) 1 0 [] 1 0 opn.length, .h (2000006 + j) 1 0 [] 1 0 kept.length]
abbrev aShot (j : Nat) (on : Bool) (cut : List Int) (opn : List Bool) (kept : List (List Int)) : AV :=
  .ag [bl on, .h (1000000 + j) 0 0 [] 1 0 cut.length, .h (1000001 + j) 0 0 [] 1 0 opn.length, .h (1000002 + j) 0 0 [] 1 0 kept.length]
abbrev nShot (j : Nat) (on : Bool) (cut : List Int) (opn : List Bool) (kept : List (List Int)) : AV :=
  .ag [bl on, .h (2000000 + j) 1 0 [] 1 0 cut.length, .h (2000001 + j) 1 0 [] 1 0 opn.length, .h (2000002 + j) 1 0 [] 1 0 kept.length]
theorem ok_laws_szBoolS (k : Nat) (l : List Bool) (m : Int) (h0 : 0 ≤ m) (h1 : m ≤ 1048576) (hl : l.length ≤ 140737488355328) : callE PR C (k + 1) 129 [.h 1000000 0 0 [] 1 0 l.length, i64 m] [tBool l] = some ⟨i64 (left m l.length), [], [none]⟩ := by
  (refine callE_is (callE_w [ResultVar.tmp 4] rfl Tryz.func129 rfl (by decide +kernel) rfl (by simp) ?_); (conv => whnf))
  repeat' ((with_reducible (first | refine gP ?_|refine gN ?_|refine fG.split (fun _ => ?_) (fun _ => ?_)|refine fG.not ?_|refine gY ?_|refine gF ?_|refine fG.yes (flat_map (fun _ => rfl) _) ?_|refine fG.bool (fun _ => ?_) (fun _ => ?_)|refine gS64 ?_|refine gU8 ?_|refine gI15 ?_|refine fE.of rfl ?_|refine gNum15 ?_|refine gSet ?_|refine gRd ?_|refine gLk ?_|refine gRow15 ?_|refine gRf5 ?_)) <;> (try (conv => whnf)))
  all_goals (simp only [left, *, if_true, if_false]; done)
theorem ok_laws_toBoolS (k : Nat) (l : List Bool) (hl : l.length ≤ 100000000000) : callE PR C (k + 1) 138 [.h 1000000 0 0 [] 1 0 l.length] [tBool l] = some ⟨.h 2000000 1 0 [] 1 0 l.length, [tBool9 l], [none]⟩ := by
  (refine callE_is (callE_w [ResultVar.tmp 2] rfl Tryz.func138 rfl (by decide +kernel) rfl (by simp) ?_); (conv => whnf))
  repeat' ((with_reducible (first | refine gP ?_|refine gN ?_|refine fG.split (fun _ => ?_) (fun _ => ?_)|refine fG.not ?_|refine gY ?_|refine gF ?_|refine fG.yes (flat_map (fun _ => rfl) _) ?_|refine fG.bool (fun _ => ?_) (fun _ => ?_)|refine gS64 ?_|refine gU8 ?_|refine gI15 ?_|refine fE.of rfl ?_|refine gNum15 ?_|refine gSet ?_|refine gRd ?_|refine gLk ?_|refine gRow15 ?_|refine gRf5 ?_)) <;> (try (conv => whnf)))
  refine loop_rule (ι := TL Bool) (fun x => [(0, .h 1000000 0 0 [] 1 0 l.length), (3, .h 7 1 0 [] 1 0 l.length), (4, i64 (x.j : Nat))])
    (fun x => [(1000000, ⟨0, 0, false, tBool l⟩), (7, ⟨1, x.g, x.d, tBool9 x.l⟩)])
    (fun x => l.length - x.j) (fun x => x.j ≤ l.length ∧ x.l = fill l x.j) ⟨0, List.replicate l.length false, 0, false⟩ (by (try dsimp only [cond_true, cond_false]); exact ⟨⟨rfl, rfl, rfl, trivial⟩, ⟨rfl, rfl, trivial⟩⟩) ⟨Nat.zero_le _, (fill_zero l).symm⟩ (by simp [C]; omega) ?_
  rintro ⟨j, out, g, d⟩ sl ob ⟨hj, hout⟩
  dsimp only at hj hout
  have hlen : out.length = l.length := by rw [hout, fill_len]
  (try dsimp only [cond_true, cond_false])
  (conv => whnf)
  repeat' ((with_reducible (first | refine gP ?_|refine gN ?_|refine fG.split (fun _ => ?_) (fun _ => ?_)|refine fG.not ?_|refine gY ?_|refine gF ?_|refine fG.yes (flat_map (fun _ => rfl) _) ?_|refine fG.bool (fun _ => ?_) (fun _ => ?_)|refine gS64 ?_|refine gU8 ?_|refine gI15 ?_|refine fE.of rfl ?_|refine gNum15 ?_|refine gSet ?_|refine gRd ?_|refine gLk ?_|refine gRow15 ?_|refine gRf5 ?_)) <;> (try (conv => whnf)))
  case' refine_1 h =>
    refine ⟨⟨⟨j + 1, out.set j (rd l j), _, _⟩, (by (try dsimp only [cond_true, cond_false]); exact ⟨⟨rfl, rfl, rfl, trivial⟩, ⟨rfl, rfl, trivial⟩⟩), ?_, ?_⟩⟩
    · exact ⟨by show j + 1 ≤ _; omega, by show _ = _; rw [hout]; exact fill_set l j (by omega)⟩
    · show l.length - (j + 1) < l.length - j; omega
  case refine_2 h =>
    have : j = l.length := by omega
    rw [hout, this, fill_all, List.take_length]
theorem ok_laws_eqBoolS (k : Nat) (l : List Bool) (hl : l.length ≤ 100000000000) : callE PR C (k + 1) 150 [.h 1000000 0 0 [] 1 0 l.length, .h 1000001 0 0 [] 1 0 l.length] [tBool l, tBool l] = some ⟨bl true, [], [none, none]⟩ := by
  (refine callE_is (callE_w [ResultVar.tmp 4] rfl Tryz.func150 rfl (by decide +kernel) rfl (by simp) ?_); (conv => whnf))
  repeat' ((with_reducible (first | refine gP ?_|refine gN ?_|refine fG.split (fun _ => ?_) (fun _ => ?_)|refine fG.not ?_|refine gY ?_|refine gF ?_|refine fG.yes (flat_map (fun _ => rfl) _) ?_|refine fG.bool (fun _ => ?_) (fun _ => ?_)|refine gS64 ?_|refine gU8 ?_|refine gI15 ?_|refine fE.of rfl ?_|refine gNum15 ?_|refine gSet ?_|refine gRd ?_|refine gLk ?_|refine gRow15 ?_|refine gRf5 ?_|refine sDraw.none (id := 6) (ty := tys) rfl (by decide +kernel) ?_)) <;> (try (conv => whnf)))
  refine loop_rule (ι := Nat) (fun j => [(0, .h 1000000 0 0 [] 1 0 l.length), (1, .h 1000001 0 0 [] 1 0 l.length), (5, i64 (j : Nat))])
    (fun x => [(1000000, ⟨0, 0, false, tBool l⟩), (1000001, ⟨0, 0, false, tBool l⟩)])
    (fun j => l.length - j) (fun j => j ≤ l.length) 0 (by (try dsimp only [cond_true, cond_false]); exact ⟨⟨rfl, rfl, rfl, trivial⟩, ⟨rfl, rfl, trivial⟩⟩) (Nat.zero_le _) (by simp [C]; omega) ?_
  rintro j sl ob hj
  (try dsimp only [cond_true, cond_false])
  (conv => whnf)
  by_cases hjl : j < l.length
  · cases e : rd l j
    all_goals
      repeat' ((with_reducible (first | refine gP ?_|refine gN ?_|refine fG.split (fun _ => ?_) (fun _ => ?_)|refine fG.not ?_|refine gY ?_|refine gF ?_|refine fG.yes (flat_map (fun _ => rfl) _) ?_|refine fG.bool (fun _ => ?_) (fun _ => ?_)|refine gS64 ?_|refine gU8 ?_|refine gI15 ?_|refine fE.of rfl ?_|refine gNum15 ?_|refine gSet ?_|refine gRd ?_|refine gLk ?_|refine gRow15 ?_|refine gRf5 ?_|refine sDraw.none (id := 6) (ty := tys) rfl (by decide +kernel) ?_)) <;> (try (conv => whnf)))
      all_goals first
        | (exfalso; simp_all; done)
        | (refine ⟨⟨j + 1, (by (try dsimp only [cond_true, cond_false]); exact ⟨⟨rfl, rfl, rfl, trivial⟩, ⟨rfl, rfl, trivial⟩⟩), ?_, ?_⟩⟩
           · show j + 1 ≤ _; omega
           · show l.length - (j + 1) < l.length - j; omega)
  · repeat' ((with_reducible (first | refine gP ?_|refine gN ?_|refine fG.split (fun _ => ?_) (fun _ => ?_)|refine fG.not ?_|refine gY ?_|refine gF ?_|refine fG.yes (flat_map (fun _ => rfl) _) ?_|refine fG.bool (fun _ => ?_) (fun _ => ?_)|refine gS64 ?_|refine gU8 ?_|refine gI15 ?_|refine fE.of rfl ?_|refine gNum15 ?_|refine gSet ?_|refine gRd ?_|refine gLk ?_|refine gRow15 ?_|refine gRf5 ?_|refine sDraw.none (id := 6) (ty := tys) rfl (by decide +kernel) ?_)) <;> (try (conv => whnf)))
theorem ok_laws_szIntSS (k : Nat) (l : List (List Int)) (m : Int) (h0 : 0 ≤ m) (h1 : m ≤ 1048576) (hl : l.length ≤ 140737488355328) (hx : ∀ j : Nat, j < l.length → (rd l j).length ≤ 140737488355328) :
    callE PR C (k + 2) 130 [(.h 1000000 0 0 [] 1 0 l.length), i64 m] [(.tree 0 (.sl 1 (l.map rIntL)))] = some ⟨i64 (left m (l.length + wts List.length l : Nat)), [], [none]⟩ := by
  by_cases c1 : m - l.length < 0
  · rw [show left m (l.length + wts List.length l : Nat) = -1 from by unfold left; rw [if_pos (by omega)]]
    (refine callE_is (callE_w [ResultVar.tmp 4] rfl Tryz.func130 rfl (by decide +kernel) rfl (by simp) ?_); (conv => whnf))
    repeat' ((with_reducible (first | refine gP ?_|refine gN ?_|refine fG.split (fun _ => ?_) (fun _ => ?_)|refine fG.not ?_|refine gY ?_|refine gF ?_|refine fG.yes (flat_map (fun _ => rfl) _) ?_|refine fG.bool (fun _ => ?_) (fun _ => ?_)|refine gS64 ?_|refine gU8 ?_|refine gI15 ?_|refine fE.of rfl ?_|refine gNum15 ?_|refine gSet ?_|refine gRd ?_|refine gLk ?_|refine gRow15 ?_|refine gRf5 ?_)) <;> (try (conv => whnf)))
  · (refine callE_is (callE_w [ResultVar.tmp 4] rfl Tryz.func130 rfl (by decide +kernel) rfl (by simp) ?_); (conv => whnf))
    repeat' ((with_reducible (first | refine gP ?_|refine gN ?_|refine fG.split (fun _ => ?_) (fun _ => ?_)|refine fG.not ?_|refine gY ?_|refine gF ?_|refine fG.yes (flat_map (fun _ => rfl) _) ?_|refine fG.bool (fun _ => ?_) (fun _ => ?_)|refine gS64 ?_|refine gU8 ?_|refine gI15 ?_|refine fE.of rfl ?_|refine gNum15 ?_|refine gSet ?_|refine gRd ?_|refine gLk ?_|refine gRow15 ?_|refine gRf5 ?_)) <;> (try (conv => whnf)))
    refine loop_rule (ι := TH) (fun x => [(0, (.h 1000000 0 0 [] 1 0 l.length)), (1, i64 x.m), (5, i64 (x.j : Nat))])
      (fun x => [(1000000, ⟨0, 0, false, (.tree 0 (.sl 1 (l.map rIntL)))⟩)])
      (fun x => l.length - x.j) (fun x => x.j ≤ l.length ∧ x.m = m - l.length - wts List.length (l.take x.j) ∧ 0 ≤ x.m) ⟨0, m - l.length⟩ (by (try dsimp only [cond_true, cond_false]); exact ⟨⟨rfl, rfl, rfl, trivial⟩, ⟨rfl, trivial⟩⟩) ⟨Nat.zero_le _, by simp [wts], by show 0 ≤ m - (l.length : Int); omega⟩ (by simp [C]; omega) ?_
    rintro ⟨j, n⟩ sl ob ⟨hj, hn, hn0⟩
    dsimp only at hj hn hn0
    have hn1 : n ≤ 1048576 := by omega
    (try dsimp only [cond_true, cond_false])
    (conv => whnf)
    by_cases hjl : j < l.length
    · have hxj := hx j hjl
      have e := wts_take List.length l j hjl
      have e2 := wts_le List.length l (j + 1)
      have hq := fun k => ok_laws_szIntS k (rd l j) n hn0 hn1 hxj
      (try simp only [List.length_map] at e)
      by_cases c2 : n - ((rd l j).length : Int) < 0
      · have e3 : left n ((rd l j).length : Int) = -1 := by unfold left; rw [if_pos c2]
        rw [e3] at hq
        rw [show left m (l.length + wts List.length l : Nat) = -1 from by unfold left; rw [if_pos (by omega)]]
        repeat' ((with_reducible (first | refine sCall.of (hq _) ?_|refine gP ?_|refine gN ?_|refine fG.split (fun _ => ?_) (fun _ => ?_)|refine fG.not ?_|refine gY ?_|refine gF ?_|refine fG.yes (flat_map (fun _ => rfl) _) ?_|refine fG.bool (fun _ => ?_) (fun _ => ?_)|refine gS64 ?_|refine gU8 ?_|refine gI15 ?_|refine fE.of rfl ?_|refine gNum15 ?_|refine gSet ?_|refine gRd ?_|refine gLk ?_|refine gRow15 ?_|refine gRf5 ?_)) <;> (try (conv => whnf)))
      · have e3 : left n ((rd l j).length : Int) = n - ((rd l j).length : Int) := by unfold left; rw [if_neg c2]
        rw [e3] at hq
        repeat' ((with_reducible (first | refine sCall.of (hq _) ?_|refine gP ?_|refine gN ?_|refine fG.split (fun _ => ?_) (fun _ => ?_)|refine fG.not ?_|refine gY ?_|refine gF ?_|refine fG.yes (flat_map (fun _ => rfl) _) ?_|refine fG.bool (fun _ => ?_) (fun _ => ?_)|refine gS64 ?_|refine gU8 ?_|refine gI15 ?_|refine fE.of rfl ?_|refine gNum15 ?_|refine gSet ?_|refine gRd ?_|refine gLk ?_|refine gRow15 ?_|refine gRf5 ?_)) <;> (try (conv => whnf)))
        refine ⟨⟨⟨j + 1, n - ((rd l j).length : Int)⟩, (by (try dsimp only [cond_true, cond_false]); exact ⟨⟨rfl, rfl, rfl, trivial⟩, ⟨rfl, trivial⟩⟩), ?_, ?_⟩⟩
        · refine ⟨by show j + 1 ≤ _; omega, ?_, by show (0 : Int) ≤ n - ((rd l j).length : Int); omega⟩
          show n - ((rd l j).length : Int) = m - l.length - (wts List.length (l.take (j + 1)) : Nat)
          omega
        · show l.length - (j + 1) < l.length - j; omega
    · have hjj : j = l.length := by omega
      rw [hjj, List.take_length] at hn
      rw [show left m (l.length + wts List.length l : Nat) = n from by unfold left; rw [if_neg (by omega)]; omega]
      repeat' ((with_reducible (first | refine gP ?_|refine gN ?_|refine fG.split (fun _ => ?_) (fun _ => ?_)|refine fG.not ?_|refine gY ?_|refine gF ?_|refine fG.yes (flat_map (fun _ => rfl) _) ?_|refine fG.bool (fun _ => ?_) (fun _ => ?_)|refine gS64 ?_|refine gU8 ?_|refine gI15 ?_|refine fE.of rfl ?_|refine gNum15 ?_|refine gSet ?_|refine gRd ?_|refine gLk ?_|refine gRow15 ?_|refine gRf5 ?_)) <;> (try (conv => whnf)))
theorem ok_laws_toIntSS (k : Nat) (l : List (List Int)) (hl : l.length ≤ 100000000000) (hx : ∀ j : Nat, j < l.length → (rd l j).length ≤ 100000000000) : callE PR C (k + 2) 139 [(.h 1000000 0 0 [] 1 0 l.length)] [(.tree 0 (.sl 1 (l.map rIntL)))] = some ⟨.h 2000000 1 0 [] 1 0 l.length, [(.tree 9 (.sl 1 (l.map rIntL)))], [none]⟩ := by
  (refine callE_is (callE_w [ResultVar.tmp 2] rfl Tryz.func139 rfl (by decide +kernel) rfl (by simp) ?_); (conv => whnf))
  repeat' ((with_reducible (first | refine gP ?_|refine gN ?_|refine fG.split (fun _ => ?_) (fun _ => ?_)|refine fG.not ?_|refine gY ?_|refine gF ?_|refine fG.yes (flat_map (fun _ => rfl) _) ?_|refine fG.bool (fun _ => ?_) (fun _ => ?_)|refine gS64 ?_|refine gU8 ?_|refine gI15 ?_|refine fE.of rfl ?_|refine gNum15 ?_|refine gSet ?_|refine gRd ?_|refine gLk ?_|refine gRow15 ?_|refine gRf5 ?_)) <;> (try (conv => whnf)))
  refine loop_rule (ι := TL (List Int)) (fun x => [(0, (.h 1000000 0 0 [] 1 0 l.length)), (3, .h 7 1 0 [] 1 0 l.length), (4, i64 (x.j : Nat))])
    (fun x => [(1000000, ⟨0, 0, false, (.tree 0 (.sl 1 (l.map rIntL)))⟩), (7, ⟨1, x.g, x.d, .tree 9 (.sl 1 (x.l.map rIntL))⟩)])
    (fun x => l.length - x.j) (fun x => x.j ≤ l.length ∧ x.l = fill l x.j) ⟨0, List.replicate l.length default, 0, false⟩ (by (try dsimp only [cond_true, cond_false]); exact ⟨⟨rfl, rfl, rfl, trivial⟩, ⟨rfl, rfl, trivial⟩⟩) ⟨Nat.zero_le _, (fill_zero l).symm⟩ (by simp [C]; omega) ?_
  rintro ⟨j, out, g, d⟩ sl ob ⟨hj, hout⟩
  dsimp only at hj hout
  have hlen : out.length = l.length := by rw [hout, fill_len]
  (try dsimp only [cond_true, cond_false])
  (conv => whnf)
  by_cases hjl : j < l.length
  · have hxj := hx j hjl
    have hq := fun k => ok_laws_toIntS k (rd l j) hxj
    repeat' ((with_reducible (first | refine sCall.of (hq _) ?_|refine gP ?_|refine gN ?_|refine fG.split (fun _ => ?_) (fun _ => ?_)|refine fG.not ?_|refine gY ?_|refine gF ?_|refine fG.yes (flat_map (fun _ => rfl) _) ?_|refine fG.bool (fun _ => ?_) (fun _ => ?_)|refine gS64 ?_|refine gU8 ?_|refine gI15 ?_|refine fE.of rfl ?_|refine gNum15 ?_|refine gSet ?_|refine gRd ?_|refine gLk ?_|refine gRow15 ?_|refine gRf5 ?_)) <;> (try (conv => whnf)))
    refine ⟨⟨⟨j + 1, out.set j (rd l j), _, _⟩, (by (try dsimp only [cond_true, cond_false]); exact ⟨⟨rfl, rfl, rfl, trivial⟩, ⟨rfl, rfl, trivial⟩⟩), ?_, ?_⟩⟩
    · exact ⟨by show j + 1 ≤ _; omega, by show _ = _; rw [hout]; exact fill_set l j (by omega)⟩
    · show l.length - (j + 1) < l.length - j; omega
  · have : j = l.length := by omega
    repeat' ((with_reducible (first | refine gP ?_|refine gN ?_|refine fG.split (fun _ => ?_) (fun _ => ?_)|refine fG.not ?_|refine gY ?_|refine gF ?_|refine fG.yes (flat_map (fun _ => rfl) _) ?_|refine fG.bool (fun _ => ?_) (fun _ => ?_)|refine gS64 ?_|refine gU8 ?_|refine gI15 ?_|refine fE.of rfl ?_|refine gNum15 ?_|refine gSet ?_|refine gRd ?_|refine gLk ?_|refine gRow15 ?_|refine gRf5 ?_)) <;> (try (conv => whnf)))
    rw [hout, this, fill_all, List.take_length]
theorem ok_laws_eqIntSS (k : Nat) (l : List (List Int)) (hl : l.length ≤ 100000000000) (hx : ∀ j : Nat, j < l.length → (rd l j).length ≤ 100000000000) : callE PR C (k + 2) 151 [(.h 1000000 0 0 [] 1 0 l.length), (.h 1000001 0 0 [] 1 0 l.length)] [(.tree 0 (.sl 1 (l.map rIntL))), (.tree 0 (.sl 1 (l.map rIntL)))] = some ⟨bl true, [], [none, none]⟩ := by
  (refine callE_is (callE_w [ResultVar.tmp 4] rfl Tryz.func151 rfl (by decide +kernel) rfl (by simp) ?_); (conv => whnf))
  repeat' ((with_reducible (first | refine gP ?_|refine gN ?_|refine fG.split (fun _ => ?_) (fun _ => ?_)|refine fG.not ?_|refine gY ?_|refine gF ?_|refine fG.yes (flat_map (fun _ => rfl) _) ?_|refine fG.bool (fun _ => ?_) (fun _ => ?_)|refine gS64 ?_|refine gU8 ?_|refine gI15 ?_|refine fE.of rfl ?_|refine gNum15 ?_|refine gSet ?_|refine gRd ?_|refine gLk ?_|refine gRow15 ?_|refine gRf5 ?_|refine sDraw.none (id := 6) (ty := tys) rfl (by decide +kernel) ?_)) <;> (try (conv => whnf)))
  refine loop_rule (ι := Nat) (fun j => [(0, (.h 1000000 0 0 [] 1 0 l.length)), (1, (.h 1000001 0 0 [] 1 0 l.length)), (5, i64 (j : Nat))])
    (fun x => [(1000000, ⟨0, 0, false, (.tree 0 (.sl 1 (l.map rIntL)))⟩), (1000001, ⟨0, 0, false, (.tree 0 (.sl 1 (l.map rIntL)))⟩)])
    (fun j => l.length - j) (fun j => j ≤ l.length) 0 (by (try dsimp only [cond_true, cond_false]); exact ⟨⟨rfl, rfl, rfl, trivial⟩, ⟨rfl, rfl, trivial⟩⟩) (Nat.zero_le _) (by simp [C]; omega) ?_
  rintro j sl ob hj
  (try dsimp only [cond_true, cond_false])
  (conv => whnf)
  by_cases hjl : j < l.length
  · have hxj := hx j hjl
    have hq := fun k => ok_laws_eqIntS k (rd l j) hxj
    repeat' ((with_reducible (first | refine sCall.of (hq _) ?_|refine gP ?_|refine gN ?_|refine fG.split (fun _ => ?_) (fun _ => ?_)|refine fG.not ?_|refine gY ?_|refine gF ?_|refine fG.yes (flat_map (fun _ => rfl) _) ?_|refine fG.bool (fun _ => ?_) (fun _ => ?_)|refine gS64 ?_|refine gU8 ?_|refine gI15 ?_|refine fE.of rfl ?_|refine gNum15 ?_|refine gSet ?_|refine gRd ?_|refine gLk ?_|refine gRow15 ?_|refine gRf5 ?_|refine sDraw.none (id := 6) (ty := tys) rfl (by decide +kernel) ?_)) <;> (try (conv => whnf)))
    refine ⟨⟨j + 1, (by (try dsimp only [cond_true, cond_false]); exact ⟨⟨rfl, rfl, rfl, trivial⟩, ⟨rfl, rfl, trivial⟩⟩), ?_, ?_⟩⟩
    · show j + 1 ≤ _; omega
    · show l.length - (j + 1) < l.length - j; omega
  · repeat' ((with_reducible (first | refine gP ?_|refine gN ?_|refine fG.split (fun _ => ?_) (fun _ => ?_)|refine fG.not ?_|refine gY ?_|refine gF ?_|refine fG.yes (flat_map (fun _ => rfl) _) ?_|refine fG.bool (fun _ => ?_) (fun _ => ?_)|refine gS64 ?_|refine gU8 ?_|refine gI15 ?_|refine fE.of rfl ?_|refine gNum15 ?_|refine gSet ?_|refine gRd ?_|refine gLk ?_|refine gRow15 ?_|refine gRf5 ?_|refine sDraw.none (id := 6) (ty := tys) rfl (by decide +kernel) ?_)) <;> (try (conv => whnf)))
/-- Bounds of a shot's lists. -/
structure ShotB (B : Nat) (cut : List Int) (opn : List Bool) (kept : List (List Int)) : Prop where
  c : cut.length ≤ B
  o : opn.length ≤ B
  k : kept.length ≤ B
  kk : ∀ j : Nat, j < kept.length → (rd kept j).length ≤ B
def shotSz (cut : List Int) (opn : List Bool) (kept : List (List Int)) : Nat := cut.length + (opn.length + (kept.length + wts List.length kept))
theorem shotB_of {B : Nat} {cut : List Int} {opn : List Bool} {kept : List (List Int)} (h : shotSz cut opn kept ≤ B) : ShotB B cut opn kept := by
  unfold shotSz at h
  refine ⟨by omega, by omega, by omega, fun j hj => ?_⟩
  have := wts_one List.length kept j hj
  omega
theorem ShotB.mono {B B' : Nat} {cut : List Int} {opn : List Bool} {kept : List (List Int)} (h : ShotB B cut opn kept) (hb : B ≤ B') : ShotB B' cut opn kept :=
  ⟨by have := h.c; omega, by have := h.o; omega, by have := h.k; omega, fun j hj => by have := h.kk j hj; omega⟩
theorem left_add {m : Int} {a b : Nat} (h : ¬ left m a < 0) : left (left m a) b = left m ((a + b : Nat)) := by
  obtain ⟨h1, h2⟩ := left_pos h
  rw [h1]
  unfold left
  by_cases c : m - a - (b : Int) < 0
  · rw [if_pos c, if_pos (by omega)]
  · rw [if_neg c, if_neg (by omega)]; omega
theorem left_any {m : Int} {a b : Nat} (h : left m a < 0) (h0 : 0 ≤ m) : left m ((a + b : Nat)) = -1 := by
  unfold left at h ⊢
  split at h <;> rw [if_pos (by omega)]
theorem ok_laws_szShot (k : Nat) (on : Bool) (cut : List Int) (opn : List Bool) (kept : List (List Int)) (m : Int) (h0 : 0 ≤ m) (h1 : m ≤ 1048576) (hb : ShotB 140737488355328 cut opn kept) :
    callE PR C (k + 3) 61 [aShot 0 on cut opn kept, i64 m] [tI cut, tBool opn, tIntSS kept] = some ⟨i64 (left m (shotSz cut opn kept)), [], [none, none, none]⟩ := by
  have q1 := fun k => ok_laws_szIntS k cut m h0 h1 hb.c
  unfold shotSz
  generalize hk : kept.length + wts List.length kept = kk
  by_cases c1 : left m cut.length < 0
  · rw [left_any c1 h0]
    rw [left_m1 c1] at q1
    (refine callE_is (callE_w [ResultVar.tmp 4] rfl Tryz.func61 rfl (by decide +kernel) rfl (by simp) ?_); (conv => whnf))
    repeat' ((with_reducible (first | refine sCall.of (q1 _) ?_|refine gP ?_|refine gN ?_|refine fG.split (fun _ => ?_) (fun _ => ?_)|refine fG.not ?_|refine gY ?_|refine gF ?_|refine fG.yes (flat_map (fun _ => rfl) _) ?_|refine fG.bool (fun _ => ?_) (fun _ => ?_)|refine gS64 ?_|refine gU8 ?_|refine gI15 ?_|refine fE.of rfl ?_|refine gNum15 ?_|refine gSet ?_|refine gRd ?_|refine gLk ?_|refine gRow15 ?_|refine gRf5 ?_)) <;> (try (conv => whnf)))
  · obtain ⟨d1, d2⟩ := left_pos c1
    rw [← left_add c1]
    have q2 := fun k => ok_laws_szBoolS k opn (left m cut.length) (by omega) (by omega) hb.o
    by_cases c2 : left (left m cut.length) opn.length < 0
    · rw [left_any c2 (by omega)]
      rw [left_m1 c2] at q2
      (refine callE_is (callE_w [ResultVar.tmp 4] rfl Tryz.func61 rfl (by decide +kernel) rfl (by simp) ?_); (conv => whnf))
      repeat' ((with_reducible (first | refine sCall.of (q1 _) ?_|refine sCall.of (q2 _) ?_|refine gP ?_|refine gN ?_|refine fG.split (fun _ => ?_) (fun _ => ?_)|refine fG.not ?_|refine gY ?_|refine gF ?_|refine fG.yes (flat_map (fun _ => rfl) _) ?_|refine fG.bool (fun _ => ?_) (fun _ => ?_)|refine gS64 ?_|refine gU8 ?_|refine gI15 ?_|refine fE.of rfl ?_|refine gNum15 ?_|refine gSet ?_|refine gRd ?_|refine gLk ?_|refine gRow15 ?_|refine gRf5 ?_)) <;> (try (conv => whnf)))
    · obtain ⟨d3, d4⟩ := left_pos c2
      rw [← left_add c2]
      have q3 := fun k => ok_laws_szIntSS k kept (left (left m cut.length) opn.length) (by omega) (by omega) hb.k hb.kk
      rw [hk] at q3
      by_cases c3 : left (left (left m cut.length) opn.length) kk < 0
      · rw [left_m1 c3] at q3 ⊢
        (refine callE_is (callE_w [ResultVar.tmp 4] rfl Tryz.func61 rfl (by decide +kernel) rfl (by simp) ?_); (conv => whnf))
        repeat' ((with_reducible (first | refine sCall.of (q1 _) ?_|refine sCall.of (q2 _) ?_|refine sCall.of (q3 _) ?_|refine gP ?_|refine gN ?_|refine fG.split (fun _ => ?_) (fun _ => ?_)|refine fG.not ?_|refine gY ?_|refine gF ?_|refine fG.yes (flat_map (fun _ => rfl) _) ?_|refine fG.bool (fun _ => ?_) (fun _ => ?_)|refine gS64 ?_|refine gU8 ?_|refine gI15 ?_|refine fE.of rfl ?_|refine gNum15 ?_|refine gSet ?_|refine gRd ?_|refine gLk ?_|refine gRow15 ?_|refine gRf5 ?_)) <;> (try (conv => whnf)))
      · obtain ⟨d5, d6⟩ := left_pos c3
        (refine callE_is (callE_w [ResultVar.tmp 4] rfl Tryz.func61 rfl (by decide +kernel) rfl (by simp) ?_); (conv => whnf))
        repeat' ((with_reducible (first | refine sCall.of (q1 _) ?_|refine sCall.of (q2 _) ?_|refine sCall.of (q3 _) ?_|refine gP ?_|refine gN ?_|refine fG.split (fun _ => ?_) (fun _ => ?_)|refine fG.not ?_|refine gY ?_|refine gF ?_|refine fG.yes (flat_map (fun _ => rfl) _) ?_|refine fG.bool (fun _ => ?_) (fun _ => ?_)|refine gS64 ?_|refine gU8 ?_|refine gI15 ?_|refine fE.of rfl ?_|refine gNum15 ?_|refine gSet ?_|refine gRd ?_|refine gLk ?_|refine gRow15 ?_|refine gRf5 ?_)) <;> (try (conv => whnf)))
theorem ok_laws_szLive (k : Nat) (P : List (List Ins)) (S : List State) (W : List (List Item)) (H : List (List Event)) (on : Bool) (cut : List Int) (opn : List Bool) (kept : List (List Int)) (m : Int) (h0 : 0 ≤ m) (h1 : m ≤ 1048576) (hb : SysB 140737488355328 P S W H) (hs : ShotB 140737488355328 cut opn kept) :
    callE PR C (k + 5) 15 [aLive 0 P S W H on cut opn kept, i64 m] [tInsSS P, tStateS S, tItemSS W, tEventSS H, tI cut, tBool opn, tIntSS kept] = some ⟨i64 (left m ((sysSz P S W H + shotSz cut opn kept : Nat))), [], [none, none, none, none, none, none, none]⟩ := by
  have q1 := fun k => ok_laws_szSys k P S W H m h0 h1 hb
  by_cases c1 : left m (sysSz P S W H) < 0
  · rw [left_any c1 h0]
    rw [left_m1 c1] at q1
    (refine callE_is (callE_w [ResultVar.tmp 4] rfl Tryz.func15 rfl (by decide +kernel) rfl (by simp) ?_); (conv => whnf))
    repeat' ((with_reducible (first | refine sCall.of (q1 _) ?_|refine gP ?_|refine gN ?_|refine fG.split (fun _ => ?_) (fun _ => ?_)|refine fG.not ?_|refine gY ?_|refine gF ?_|refine fG.yes (flat_map (fun _ => rfl) _) ?_|refine fG.bool (fun _ => ?_) (fun _ => ?_)|refine gS64 ?_|refine gU8 ?_|refine gI15 ?_|refine fE.of rfl ?_|refine gNum15 ?_|refine gSet ?_|refine gRd ?_|refine gLk ?_|refine gRow15 ?_|refine gRf5 ?_)) <;> (try (conv => whnf)))
  · obtain ⟨d1, d2⟩ := left_pos c1
    rw [← left_add c1]
    have q2 := fun k => ok_laws_szShot k on cut opn kept (left m (sysSz P S W H)) (by omega) (by omega) hs
    by_cases c2 : left (left m (sysSz P S W H)) (shotSz cut opn kept) < 0
    · rw [left_m1 c2] at q2 ⊢
      (refine callE_is (callE_w [ResultVar.tmp 4] rfl Tryz.func15 rfl (by decide +kernel) rfl (by simp) ?_); (conv => whnf))
      repeat' ((with_reducible (first | refine sCall.of (q1 _) ?_|refine sCall.of (q2 _) ?_|refine gP ?_|refine gN ?_|refine fG.split (fun _ => ?_) (fun _ => ?_)|refine fG.not ?_|refine gY ?_|refine gF ?_|refine fG.yes (flat_map (fun _ => rfl) _) ?_|refine fG.bool (fun _ => ?_) (fun _ => ?_)|refine gS64 ?_|refine gU8 ?_|refine gI15 ?_|refine fE.of rfl ?_|refine gNum15 ?_|refine gSet ?_|refine gRd ?_|refine gLk ?_|refine gRow15 ?_|refine gRf5 ?_)) <;> (try (conv => whnf)))
    · obtain ⟨d3, d4⟩ := left_pos c2
      (refine callE_is (callE_w [ResultVar.tmp 4] rfl Tryz.func15 rfl (by decide +kernel) rfl (by simp) ?_); (conv => whnf))
      repeat' ((with_reducible (first | refine sCall.of (q1 _) ?_|refine sCall.of (q2 _) ?_|refine gP ?_|refine gN ?_|refine fG.split (fun _ => ?_) (fun _ => ?_)|refine fG.not ?_|refine gY ?_|refine gF ?_|refine fG.yes (flat_map (fun _ => rfl) _) ?_|refine fG.bool (fun _ => ?_) (fun _ => ?_)|refine gS64 ?_|refine gU8 ?_|refine gI15 ?_|refine fE.of rfl ?_|refine gNum15 ?_|refine gSet ?_|refine gRd ?_|refine gLk ?_|refine gRow15 ?_|refine gRf5 ?_)) <;> (try (conv => whnf)))
set_option maxRecDepth 10000 in
theorem ok_laws_toShot (k : Nat) (on : Bool) (cut : List Int) (opn : List Bool) (kept : List (List Int)) (hb : ShotB 100000000000 cut opn kept) :
    callE PR C (k + 3) 65 [aShot 0 on cut opn kept] [tI cut, tBool opn, tIntSS kept] = some ⟨nShot 0 on cut opn kept, [tI9 cut, tBool9 opn, tIntSS9 kept], [none, none, none]⟩ := by
  have q1 := fun k => ok_laws_toIntS k cut hb.c
  have q2 := fun k => ok_laws_toBoolS k opn hb.o
  have q3 := fun k => ok_laws_toIntSS k kept hb.k hb.kk
  (refine callE_is (callE_w [ResultVar.cell 2 43] rfl Tryz.func65 rfl (by decide +kernel) rfl (by simp) ?_); (conv => whnf))
  repeat' ((with_reducible (first | refine sCall.of (q1 _) ?_|refine sCall.of (q2 _) ?_|refine sCall.of (q3 _) ?_|refine gP ?_|refine gN ?_|refine fG.split (fun _ => ?_) (fun _ => ?_)|refine fG.not ?_|refine gY ?_|refine gF ?_|refine fG.yes (flat_map (fun _ => rfl) _) ?_|refine fG.bool (fun _ => ?_) (fun _ => ?_)|refine gS64 ?_|refine gU8 ?_|refine gI15 ?_|refine fE.of rfl ?_|refine gNum15 ?_|refine gSet ?_|refine gRd ?_|refine gLk ?_|refine gRow15 ?_|refine gRf5 ?_)) <;> (try (conv => whnf)))
set_option maxRecDepth 10000 in
theorem ok_laws_eqShot (k : Nat) (on : Bool) (cut : List Int) (opn : List Bool) (kept : List (List Int)) (hb : ShotB 100000000000 cut opn kept) :
    callE PR C (k + 3) 69 [aShot 0 on cut opn kept, aShot 3 on cut opn kept] [tI cut, tBool opn, tIntSS kept, tI cut, tBool opn, tIntSS kept] = some ⟨bl true, [], [none, none, none, none, none, none]⟩ := by
  have q1 := fun k => ok_laws_eqIntS k cut hb.c
  have q2 := fun k => ok_laws_eqBoolS k opn hb.o
  have q3 := fun k => ok_laws_eqIntSS k kept hb.k hb.kk
  cases on
  all_goals
    (refine callE_is (callE_w [ResultVar.tmp 4] rfl Tryz.func69 rfl (by decide +kernel) rfl (by simp) ?_); (conv => whnf))
    repeat' ((with_reducible (first | refine sCall.of (q1 _) ?_|refine sCall.of (q2 _) ?_|refine sCall.of (q3 _) ?_|refine gP ?_|refine gN ?_|refine fG.split (fun _ => ?_) (fun _ => ?_)|refine fG.not ?_|refine gY ?_|refine gF ?_|refine fG.yes (flat_map (fun _ => rfl) _) ?_|refine fG.bool (fun _ => ?_) (fun _ => ?_)|refine gS64 ?_|refine gU8 ?_|refine gI15 ?_|refine fE.of rfl ?_|refine gNum15 ?_|refine gSet ?_|refine gRd ?_|refine gLk ?_|refine gRow15 ?_|refine gRf5 ?_)) <;> (try (conv => whnf)))
set_option maxRecDepth 20000 in
theorem ok_laws_toLive (k : Nat) (P : List (List Ins)) (S : List State) (W : List (List Item)) (H : List (List Event)) (on : Bool) (cut : List Int) (opn : List Bool) (kept : List (List Int)) (hb : SysB 100000000000 P S W H) (hs : ShotB 100000000000 cut opn kept) :
    callE PR C (k + 5) 17 [aLive 0 P S W H on cut opn kept] [tInsSS P, tStateS S, tItemSS W, tEventSS H, tI cut, tBool opn, tIntSS kept] = some ⟨nLive 0 P S W H on cut opn kept, [tInsSS9 P, tStateS9 S, tItemSS9 W, tEventSS9 H, tI9 cut, tBool9 opn, tIntSS9 kept], [none, none, none, none, none, none, none]⟩ := by
  have q1 := fun k => ok_laws_toSys k P S W H hb
  have q2 := fun k => ok_laws_toShot k on cut opn kept hs
  (refine callE_is (callE_w [ResultVar.cell 2 45] rfl Tryz.func17 rfl (by decide +kernel) rfl (by simp) ?_); (conv => whnf))
  repeat' ((with_reducible (first | refine sCall.of (q1 _) ?_|refine sCall.of (q2 _) ?_|refine gP ?_|refine gN ?_|refine fG.split (fun _ => ?_) (fun _ => ?_)|refine fG.not ?_|refine gY ?_|refine gF ?_|refine fG.yes (flat_map (fun _ => rfl) _) ?_|refine fG.bool (fun _ => ?_) (fun _ => ?_)|refine gS64 ?_|refine gU8 ?_|refine gI15 ?_|refine fE.of rfl ?_|refine gNum15 ?_|refine gSet ?_|refine gRd ?_|refine gLk ?_|refine gRow15 ?_|refine gRf5 ?_)) <;> (try (conv => whnf)))
set_option maxRecDepth 20000 in
theorem ok_laws_eqLive (k : Nat) (P : List (List Ins)) (S : List State) (W : List (List Item)) (H : List (List Event)) (on : Bool) (cut : List Int) (opn : List Bool) (kept : List (List Int)) (hb : SysB 100000000000 P S W H) (hs : ShotB 100000000000 cut opn kept) :
    callE PR C (k + 5) 19 [aLive 0 P S W H on cut opn kept, aLive 7 P S W H on cut opn kept] [tInsSS P, tStateS S, tItemSS W, tEventSS H, tI cut, tBool opn, tIntSS kept, tInsSS P, tStateS S, tItemSS W, tEventSS H, tI cut, tBool opn, tIntSS kept] = some ⟨bl true, [], [none, none, none, none, none, none, none, none, none, none, none, none, none, none]⟩ := by
  have q1 := fun k => ok_laws_eqSys k P S W H hb
  have q2 := fun k => ok_laws_eqShot k on cut opn kept hs
  (refine callE_is (callE_w [ResultVar.tmp 4] rfl Tryz.func19 rfl (by decide +kernel) rfl (by simp) ?_); (conv => whnf))
  repeat' ((with_reducible (first | refine sCall.of (q1 _) ?_|refine sCall.of (q2 _) ?_|refine gP ?_|refine gN ?_|refine fG.split (fun _ => ?_) (fun _ => ?_)|refine fG.not ?_|refine gY ?_|refine gF ?_|refine fG.yes (flat_map (fun _ => rfl) _) ?_|refine fG.bool (fun _ => ?_) (fun _ => ?_)|refine gS64 ?_|refine gU8 ?_|refine gI15 ?_|refine fE.of rfl ?_|refine gNum15 ?_|refine gSet ?_|refine gRd ?_|refine gLk ?_|refine gRow15 ?_|refine gRf5 ?_)) <;> (try (conv => whnf)))

/-! ### Marks on ways -/
def markedB (w : List Item) : Bool := w.any (·.mark)
def marksB (W : List (List Item)) : Bool := W.any markedB
theorem ok_impl_marked11 (k : Nat) (x : Item) : callE PR C (k + 1) 149 [.ag [bl x.mark, i64 x.v]] [] = some ⟨bl x.mark, [], []⟩ := by
  (refine callE_is (callE_w [ResultVar.tmp 2] rfl Tryz.func149 rfl (by decide +kernel) rfl (by simp) ?_); (conv => whnf))
  repeat' ((with_reducible (first | refine gP ?_|refine gN ?_|refine fG.split (fun _ => ?_) (fun _ => ?_)|refine fG.not ?_|refine gY ?_|refine gF ?_|refine fG.yes (flat_map (fun _ => rfl) _) ?_|refine fG.bool (fun _ => ?_) (fun _ => ?_)|refine gS64 ?_|refine gU8 ?_|refine gI15 ?_|refine fE.of rfl ?_|refine gNum15 ?_|refine gSet ?_|refine gRd ?_|refine gLk ?_|refine gRow15 ?_|refine gRf5 ?_)) <;> (try (conv => whnf)))
theorem ok_IndexFunc_Mark (k : Nat) (w : List Item) (hw : w.length ≤ 100000000000) :
    callE PR C (k + 2) 217 [.h 1000000 0 0 [] 2 0 w.length, .fn 149 []] [tItem w] = some ⟨i64 (idxP (·.mark) w), [], [none]⟩ := by
  (refine callE_is (callE_w [ResultVar.tmp 4] rfl Tryz.func217 rfl (by decide +kernel) rfl (by simp) ?_); (conv => whnf))
  refine loop_rule (ι := Nat) (fun i => [(0, .h 1000000 0 0 [] 2 0 w.length), (1, .fn 149 []), (7, i64 w.length), (8, i64 (i : Nat))]) (fun i => [(1000000, ⟨0, 0, false, tItem w⟩)])
    (fun i => w.length - i) (fun i => i ≤ w.length ∧ w.findIdx? (·.mark) = ((w.drop i).findIdx? (·.mark)).map (· + i)) 0 (by (try dsimp only [cond_true, cond_false]); exact ⟨⟨rfl, rfl, rfl, rfl, trivial⟩, ⟨rfl, trivial⟩⟩) (by simp) (by simp [C]; omega) ?_
  rintro i sl ob ⟨hi, hall⟩
  (conv => whnf)
  repeat' ((with_reducible (first | refine sCall.of (ok_impl_marked11 _ _) ?_|refine gP ?_|refine gN ?_|refine fG.split (fun _ => ?_) (fun _ => ?_)|refine fG.not ?_|refine gY ?_|refine gF ?_|refine fG.yes (flat_map (fun _ => rfl) _) ?_|refine fG.bool (fun _ => ?_) (fun _ => ?_)|refine gS64 ?_|refine gU8 ?_|refine gI15 ?_|refine fE.of rfl ?_|refine gNum15 ?_|refine gSet ?_|refine gRd ?_|refine gLk ?_|refine gRow15 ?_|refine gRf5 ?_)) <;> (try (conv => whnf)))
  case refine_1.refine_2 h hx =>
    refine ⟨⟨i + 1, (by (try dsimp only [cond_true, cond_false]); exact ⟨⟨rfl, rfl, rfl, rfl, trivial⟩, ⟨rfl, trivial⟩⟩), ?_, ?_⟩⟩
    · exact ⟨by show i + 1 ≤ _; omega, findIdx_step (by omega) hall hx⟩
    · show w.length - (i + 1) < w.length - i; omega
  case refine_1.refine_1 h hx => rw [findIdx_here (by omega) hall hx]
  case refine_2 h => rw [findIdx_none (by omega) hall]
theorem ok_ContainsFunc_Mark (k : Nat) (w : List Item) (hw : w.length ≤ 100000000000) :
    callE PR C (k + 3) 148 [.h 1000000 0 0 [] 2 0 w.length, .fn 149 []] [tItem w] = some ⟨bl (markedB w), [], [none]⟩ := by
  unfold markedB
  rw [← idxP_any]
  (refine callE_is (callE_w [ResultVar.tmp 4] rfl Tryz.func148 rfl (by decide +kernel) rfl (by simp) ?_); (conv => whnf))
  repeat' ((with_reducible (first | refine sCall.of (ok_IndexFunc_Mark _ _ hw) ?_|refine gP ?_|refine gN ?_|refine fG.split (fun _ => ?_) (fun _ => ?_)|refine fG.not ?_|refine gY ?_|refine gF ?_|refine fG.yes (flat_map (fun _ => rfl) _) ?_|refine fG.bool (fun _ => ?_) (fun _ => ?_)|refine gS64 ?_|refine gU8 ?_|refine gI15 ?_|refine fE.of rfl ?_|refine gNum15 ?_|refine gSet ?_|refine gRd ?_|refine gLk ?_|refine gRow15 ?_|refine gRf5 ?_)) <;> (try (conv => whnf)))
theorem ok_impl_marked1 (k : Nat) (w : List Item) (hw : w.length ≤ 100000000000) : callE PR C (k + 4) 147 [.h 1000000 0 0 [] 2 0 w.length] [tItem w] = some ⟨bl (markedB w), [], [none]⟩ := by
  (refine callE_is (callE_w [ResultVar.tmp 2] rfl Tryz.func147 rfl (by decide +kernel) rfl (by simp) ?_); (conv => whnf))
  repeat' ((with_reducible (first | refine sCall.of (ok_ContainsFunc_Mark _ _ hw) ?_|refine gP ?_|refine gN ?_|refine fG.split (fun _ => ?_) (fun _ => ?_)|refine fG.not ?_|refine gY ?_|refine gF ?_|refine fG.yes (flat_map (fun _ => rfl) _) ?_|refine fG.bool (fun _ => ?_) (fun _ => ?_)|refine gS64 ?_|refine gU8 ?_|refine gI15 ?_|refine fE.of rfl ?_|refine gNum15 ?_|refine gSet ?_|refine gRd ?_|refine gLk ?_|refine gRow15 ?_|refine gRf5 ?_)) <;> (try (conv => whnf)))
theorem ok_IndexFunc_Marks (k : Nat) (W : List (List Item)) (hW : W.length ≤ 100000000000) (hx : ∀ j : Nat, j < W.length → (rd W j).length ≤ 100000000000) :
    callE PR C (k + 5) 207 [.h 1000000 0 0 [] 1 0 W.length, .fn 147 []] [tItemSS W] = some ⟨i64 (idxP markedB W), [], [none]⟩ := by
  (refine callE_is (callE_w [ResultVar.tmp 4] rfl Tryz.func207 rfl (by decide +kernel) rfl (by simp) ?_); (conv => whnf))
  refine loop_rule (ι := Nat) (fun i => [(0, .h 1000000 0 0 [] 1 0 W.length), (1, .fn 147 []), (7, i64 W.length), (8, i64 (i : Nat))]) (fun i => [(1000000, ⟨0, 0, false, tItemSS W⟩)])
    (fun i => W.length - i) (fun i => i ≤ W.length ∧ W.findIdx? markedB = ((W.drop i).findIdx? markedB).map (· + i)) 0 (by (try dsimp only [cond_true, cond_false]); exact ⟨⟨rfl, rfl, rfl, rfl, trivial⟩, ⟨rfl, trivial⟩⟩) (by simp) (by simp [C]; omega) ?_
  rintro i sl ob ⟨hi, hall⟩
  (conv => whnf)
  by_cases hil : i < W.length
  · have hxi := hx i hil
    have q1 := fun k => ok_impl_marked1 k (rd W i) hxi
    cases e : markedB (rd W i)
    all_goals simp only [e] at q1
    · repeat' ((with_reducible (first | refine sCall.of (q1 _) ?_|refine gP ?_|refine gN ?_|refine fG.split (fun _ => ?_) (fun _ => ?_)|refine fG.not ?_|refine gY ?_|refine gF ?_|refine fG.yes (flat_map (fun _ => rfl) _) ?_|refine fG.bool (fun _ => ?_) (fun _ => ?_)|refine gS64 ?_|refine gU8 ?_|refine gI15 ?_|refine fE.of rfl ?_|refine gNum15 ?_|refine gSet ?_|refine gRd ?_|refine gLk ?_|refine gRow15 ?_|refine gRf5 ?_)) <;> (try (conv => whnf)))
      all_goals first
        | (exfalso; simp_all; done)
        | (refine ⟨⟨i + 1, (by (try dsimp only [cond_true, cond_false]); exact ⟨⟨rfl, rfl, rfl, rfl, trivial⟩, ⟨rfl, trivial⟩⟩), ?_, ?_⟩⟩
           · exact ⟨by show i + 1 ≤ _; omega, findIdx_step (by omega) hall e⟩
           · show W.length - (i + 1) < W.length - i; omega)
    · rw [findIdx_here (by omega) hall e]
      repeat' ((with_reducible (first | refine sCall.of (q1 _) ?_|refine gP ?_|refine gN ?_|refine fG.split (fun _ => ?_) (fun _ => ?_)|refine fG.not ?_|refine gY ?_|refine gF ?_|refine fG.yes (flat_map (fun _ => rfl) _) ?_|refine fG.bool (fun _ => ?_) (fun _ => ?_)|refine gS64 ?_|refine gU8 ?_|refine gI15 ?_|refine fE.of rfl ?_|refine gNum15 ?_|refine gSet ?_|refine gRd ?_|refine gLk ?_|refine gRow15 ?_|refine gRf5 ?_)) <;> (try (conv => whnf)))
  · rw [findIdx_none (by omega) hall]
    repeat' ((with_reducible (first | refine gP ?_|refine gN ?_|refine fG.split (fun _ => ?_) (fun _ => ?_)|refine fG.not ?_|refine gY ?_|refine gF ?_|refine fG.yes (flat_map (fun _ => rfl) _) ?_|refine fG.bool (fun _ => ?_) (fun _ => ?_)|refine gS64 ?_|refine gU8 ?_|refine gI15 ?_|refine fE.of rfl ?_|refine gNum15 ?_|refine gSet ?_|refine gRd ?_|refine gLk ?_|refine gRow15 ?_|refine gRf5 ?_)) <;> (try (conv => whnf)))
theorem ok_ContainsFunc_Marks (k : Nat) (W : List (List Item)) (hW : W.length ≤ 100000000000) (hx : ∀ j : Nat, j < W.length → (rd W j).length ≤ 100000000000) :
    callE PR C (k + 6) 140 [.h 1000000 0 0 [] 1 0 W.length, .fn 147 []] [tItemSS W] = some ⟨bl (marksB W), [], [none]⟩ := by
  unfold marksB
  rw [← idxP_any]
  (refine callE_is (callE_w [ResultVar.tmp 4] rfl Tryz.func140 rfl (by decide +kernel) rfl (by simp) ?_); (conv => whnf))
  repeat' ((with_reducible (first | refine sCall.of (ok_IndexFunc_Marks _ _ hW hx) ?_|refine gP ?_|refine gN ?_|refine fG.split (fun _ => ?_) (fun _ => ?_)|refine fG.not ?_|refine gY ?_|refine gF ?_|refine fG.yes (flat_map (fun _ => rfl) _) ?_|refine fG.bool (fun _ => ?_) (fun _ => ?_)|refine gS64 ?_|refine gU8 ?_|refine gI15 ?_|refine fE.of rfl ?_|refine gNum15 ?_|refine gSet ?_|refine gRd ?_|refine gLk ?_|refine gRow15 ?_|refine gRf5 ?_)) <;> (try (conv => whnf)))
theorem ok_impl_marked (k : Nat) (P : List (List Ins)) (S : List State) (W : List (List Item)) (H : List (List Event)) (hb : SysB 10000000000 P S W H) :
    callE PR C (k + 7) 68 [aSys 0 P S W H] [tInsSS P, tStateS S, tItemSS W, tEventSS H] = some ⟨bl (marksB W), [], [none, none, none, none]⟩ := by
  have hw := hb.w
  have hx := hb.ww
  (refine callE_is (callE_w [ResultVar.tmp 2] rfl Tryz.func68 rfl (by decide +kernel) rfl (by simp) ?_); (conv => whnf))
  have q1 := fun k => ok_ContainsFunc_Marks k W (by omega) (fun j hj => by have := hx j hj; omega)
  repeat' ((with_reducible (first | refine sCall.of (q1 _) ?_|refine gP ?_|refine gN ?_|refine fG.split (fun _ => ?_) (fun _ => ?_)|refine fG.not ?_|refine gY ?_|refine gF ?_|refine fG.yes (flat_map (fun _ => rfl) _) ?_|refine fG.bool (fun _ => ?_) (fun _ => ?_)|refine gS64 ?_|refine gU8 ?_|refine gI15 ?_|refine fE.of rfl ?_|refine gNum15 ?_|refine gSet ?_|refine gRd ?_|refine gLk ?_|refine gRow15 ?_|refine gRf5 ?_)) <;> (try (conv => whnf)))
theorem any_no {α : Type} [Inhabited α] {f : α → Bool} {l : List α} (h : ∀ i, i < l.length → f (rd l i) = false) : l.any f = false := by
  rw [List.any_eq_false]
  intro x hx
  obtain ⟨i, hi, rfl⟩ := List.mem_iff_getElem.1 hx
  have := h i hi
  rw [rd_at hi] at this
  simp [this]
theorem any_yes {α : Type} [Inhabited α] {f : α → Bool} {l : List α} {i : Nat} (h : i < l.length) (e : f (rd l i) = true) : l.any f = true := by
  rw [List.any_eq_true]
  exact ⟨_, rd_mem h, e⟩
theorem ok_spec_l11Marks (k : Nat) (P : List (List Ins)) (S : List State) (W : List (List Item)) (H : List (List Event)) (hb : SysB 10000000000 P S W H) :
    callE PR C (k + 1) 64 [aSys 0 P S W H] [tInsSS P, tStateS S, tItemSS W, tEventSS H] = some ⟨bl (marksB W), [], [none, none, none, none]⟩ := by
  have hw := hb.w
  have hx := hb.ww
  (refine callE_is (callE_w [ResultVar.tmp 2] rfl Tryz.func64 rfl (by decide +kernel) rfl (by simp) ?_); (conv => whnf))
  repeat' ((with_reducible (first | refine gP ?_|refine gN ?_|refine fG.split (fun _ => ?_) (fun _ => ?_)|refine fG.not ?_|refine gY ?_|refine gF ?_|refine fG.yes (flat_map (fun _ => rfl) _) ?_|refine fG.bool (fun _ => ?_) (fun _ => ?_)|refine gS64 ?_|refine gU8 ?_|refine gI15 ?_|refine fE.of rfl ?_|refine gNum15 ?_|refine gSet ?_|refine gRd ?_|refine gLk ?_|refine gRow15 ?_|refine gRf5 ?_)) <;> (try (conv => whnf)))
  refine loop_rule (ι := Nat) (fun j => [(1, .pt 1 1 0 [] 0 0), (3, i64 (j : Nat))])
    (fun _ => [(1000000, ⟨0, 0, false, tInsSS P⟩), (1000001, ⟨0, 0, false, tStateS S⟩), (1000002, ⟨0, 0, false, tItemSS W⟩), (1000003, ⟨0, 0, false, tEventSS H⟩), (1, ⟨1, 0, false, bSys P S W H⟩)])
    (fun j => W.length - j) (fun j => j ≤ W.length ∧ ∀ q, q < j → markedB (rd W q) = false) 0 (by (try dsimp only [cond_true, cond_false]); exact ⟨⟨rfl, rfl, trivial⟩, ⟨rfl, rfl, rfl, rfl, rfl, trivial⟩⟩) ⟨Nat.zero_le _, fun q h => absurd h (Nat.not_lt_zero q)⟩ (by simp [C]; omega) ?_
  rintro j sl ob ⟨hj, hno⟩
  (try dsimp only [cond_true, cond_false])
  (conv => whnf)
  by_cases hjl : j < W.length
  · have hxj := hx j hjl
    have e4 : (List.map rItem (rd W j)).length = (rd W j).length := by simp
    repeat' ((with_reducible (first | refine gP ?_|refine gN ?_|refine fG.split (fun _ => ?_) (fun _ => ?_)|refine fG.not ?_|refine gY ?_|refine gF ?_|refine fG.yes (flat_map (fun _ => rfl) _) ?_|refine fG.bool (fun _ => ?_) (fun _ => ?_)|refine gS64 ?_|refine gU8 ?_|refine gI15 ?_|refine fE.of rfl ?_|refine gNum15 ?_|refine gSet ?_|refine gRd ?_|refine gLk ?_|refine gRow15 ?_|refine gRf5 ?_)) <;> (try (conv => whnf)))
    refine loop_rule (ι := Nat) (fun i => [(1, .pt 1 1 0 [] 0 0), (3, i64 (j : Nat)), (4, i64 (i : Nat))])
      (fun _ => [(1000000, ⟨0, 0, false, tInsSS P⟩), (1000001, ⟨0, 0, false, tStateS S⟩), (1000002, ⟨0, 0, false, tItemSS W⟩), (1000003, ⟨0, 0, false, tEventSS H⟩), (1, ⟨1, 0, false, bSys P S W H⟩)])
      (fun i => (rd W j).length - i) (fun i => i ≤ (rd W j).length ∧ ∀ q, q < i → (rd (rd W j) q).mark = false) 0 (by (try dsimp only [cond_true, cond_false]); exact ⟨⟨rfl, rfl, rfl, trivial⟩, ⟨rfl, rfl, rfl, rfl, rfl, trivial⟩⟩) ⟨Nat.zero_le _, fun q h => absurd h (Nat.not_lt_zero q)⟩ (by simp [C]; omega) ?_
    clear sl ob
    rintro i sl ob ⟨hi, hni⟩
    (try dsimp only [cond_true, cond_false])
    (conv => whnf)
    by_cases hil : i < (rd W j).length
    · cases e : (rd (rd W j) i).mark
      · repeat' ((with_reducible (first | refine gP ?_|refine gN ?_|refine fG.split (fun _ => ?_) (fun _ => ?_)|refine fG.not ?_|refine gY ?_|refine gF ?_|refine fG.yes (flat_map (fun _ => rfl) _) ?_|refine fG.bool (fun _ => ?_) (fun _ => ?_)|refine gS64 ?_|refine gU8 ?_|refine gI15 ?_|refine fE.of rfl ?_|refine gNum15 ?_|refine gSet ?_|refine gRd ?_|refine gLk ?_|refine gRow15 ?_|refine gRf5 ?_)) <;> (try (conv => whnf)))
        all_goals first
          | (exfalso; simp_all; done)
          | (refine ⟨⟨i + 1, (by (try dsimp only [cond_true, cond_false]); exact ⟨⟨rfl, rfl, rfl, trivial⟩, ⟨rfl, rfl, rfl, rfl, rfl, trivial⟩⟩), ?_, ?_⟩⟩
             · exact ⟨by show i + 1 ≤ _; omega, fun q hq => by rcases Nat.lt_succ_iff_lt_or_eq.1 hq with h | h; exact hni q h; rw [h]; exact e⟩
             · show (rd W j).length - (i + 1) < (rd W j).length - i; omega)
      · rw [show marksB W = true from any_yes hjl (by unfold markedB; exact any_yes hil e)]
        repeat' ((with_reducible (first | refine gP ?_|refine gN ?_|refine fG.split (fun _ => ?_) (fun _ => ?_)|refine fG.not ?_|refine gY ?_|refine gF ?_|refine fG.yes (flat_map (fun _ => rfl) _) ?_|refine fG.bool (fun _ => ?_) (fun _ => ?_)|refine gS64 ?_|refine gU8 ?_|refine gI15 ?_|refine fE.of rfl ?_|refine gNum15 ?_|refine gSet ?_|refine gRd ?_|refine gLk ?_|refine gRow15 ?_|refine gRf5 ?_)) <;> (try (conv => whnf)))
        all_goals (exfalso; simp_all; done)
    · repeat' ((with_reducible (first | refine gP ?_|refine gN ?_|refine fG.split (fun _ => ?_) (fun _ => ?_)|refine fG.not ?_|refine gY ?_|refine gF ?_|refine fG.yes (flat_map (fun _ => rfl) _) ?_|refine fG.bool (fun _ => ?_) (fun _ => ?_)|refine gS64 ?_|refine gU8 ?_|refine gI15 ?_|refine fE.of rfl ?_|refine gNum15 ?_|refine gSet ?_|refine gRd ?_|refine gLk ?_|refine gRow15 ?_|refine gRf5 ?_)) <;> (try (conv => whnf)))
      refine ⟨⟨j + 1, (by (try dsimp only [cond_true, cond_false]); exact ⟨⟨rfl, rfl, trivial⟩, ⟨rfl, rfl, rfl, rfl, rfl, trivial⟩⟩), ?_, ?_⟩⟩
      · exact ⟨by show j + 1 ≤ _; omega, fun q hq => by rcases Nat.lt_succ_iff_lt_or_eq.1 hq with h | h; exact hno q h; rw [h]; exact any_no fun i hi => hni i (by omega)⟩
      · show W.length - (j + 1) < W.length - j; omega
  · rw [show marksB W = false from any_no fun q hq => hno q (by omega)]
    repeat' ((with_reducible (first | refine gP ?_|refine gN ?_|refine fG.split (fun _ => ?_) (fun _ => ?_)|refine fG.not ?_|refine gY ?_|refine gF ?_|refine fG.yes (flat_map (fun _ => rfl) _) ?_|refine fG.bool (fun _ => ?_) (fun _ => ?_)|refine gS64 ?_|refine gU8 ?_|refine gI15 ?_|refine fE.of rfl ?_|refine gNum15 ?_|refine gSet ?_|refine gRd ?_|refine gLk ?_|refine gRow15 ?_|refine gRf5 ?_)) <;> (try (conv => whnf)))

end Go.Proofs.YtlobpiebphnkiaaGreat.Abs
namespace Go.Proofs.YtlobpiebphnkiaaGreat.Abs
open Go Go.Proofs
set_option linter.unusedVariables false
set_option linter.unusedSimpArgs false
attribute [local irreducible] callE
/-! ### Live systems that are right -/
def cutOk (H : List (List Event)) (cut : List Int) (opn : List Bool) (kept : List (List Int)) (n p : Nat) : Bool :=
  inB (rd cut p) (-1) (rd H p).length && (decide (0 ≤ rd cut p) || allBelow n fun a => !(rd opn (a * n + p)) && decide ((rd kept (a * n + p)).length = 0))
def shotLens (n : Nat) (cut : List Int) (opn : List Bool) (kept : List (List Int)) : Bool := decide (cut.length = n) && (decide (opn.length = n * n) && decide (kept.length = n * n))
def drawnB (cut : List Int) : Bool := cut.any fun c => decide (0 ≤ c)
/-- Live systems that are right. -/
def liveOk (P : List (List Ins)) (S : List State) (W : List (List Item)) (H : List (List Event)) (on : Bool) (cut : List Int) (opn : List Bool) (kept : List (List Int)) : Bool :=
  sysOk P S W H && (shotLens P.length cut opn kept && (allBelow P.length (cutOk H cut opn kept P.length) && (decide (on = drawnB cut) && (on || !marksB W))))
theorem liveOk_lens {P : List (List Ins)} {S : List State} {W : List (List Item)} {H : List (List Event)} {on : Bool} {cut : List Int} {opn : List Bool} {kept : List (List Int)} (h : shotLens P.length cut opn kept = false) : liveOk P S W H on cut opn kept = false := by simp [liveOk, h]
theorem liveOk_cut {P : List (List Ins)} {S : List State} {W : List (List Item)} {H : List (List Event)} {on : Bool} {cut : List Int} {opn : List Bool} {kept : List (List Int)} {p : Nat} (hp : p < P.length) (h : cutOk H cut opn kept P.length p = false) : liveOk P S W H on cut opn kept = false := by simp [liveOk, allBelow_no hp h]
theorem drawn_take {cut : List Int} {j : Nat} (h : j < cut.length) : drawnB (cut.take (j + 1)) = (drawnB (cut.take j) || decide (0 ≤ rd cut j)) := by
  rw [show cut.take (j + 1) = cut.take j ++ [rd cut j] by rw [List.take_add_one]; simp [rd, h]]
  simp [drawnB]
abbrev bLive (P : List (List Ins)) (S : List State) (W : List (List Item)) (H : List (List Event)) (on : Bool) (cut : List Int) (opn : List Bool) (kept : List (List Int)) : Cont :=
  .box [.h 1000000 0 0 [] 1 0 P.length, .h 1000001 0 0 [] 4 0 S.length, .h 1000002 0 0 [] 1 0 W.length, .h 1000003 0 0 [] 1 0 H.length, bl on, .h 1000004 0 0 [] 1 0 cut.length, .h 1000005 0 0 [] 1 0 opn.length, .h 1000006 0 0 [] 1 0 kept.length]
structure LV where
  j : Nat
  s : Bool
set_option maxHeartbeats 8000000 in
set_option maxRecDepth 10000 in
theorem ok_impl_LiveOk (k : Nat) (P : List (List Ins)) (S : List State) (W : List (List Item)) (H : List (List Event)) (on : Bool) (cut : List Int) (opn : List Bool) (kept : List (List Int)) (hb : SysB 10000000000 P S W H) (hs : ShotB 10000000000 cut opn kept) :
    callE PR C (k + 12) 18 [aLive 0 P S W H on cut opn kept] [tInsSS P, tStateS S, tItemSS W, tEventSS H, tI cut, tBool opn, tIntSS kept] = some ⟨bl (liveOk P S W H on cut opn kept), [], [none, none, none, none, none, none, none]⟩ := by
  have b1 := hb.p
  have s1 := hs.c
  have s2 := hs.o
  have s3 := hs.k
  have q1 := fun k => ok_impl_SysOk k P S W H hb
  cases e : sysOk P S W H with
  | false =>
    simp only [e] at q1
    rw [show liveOk P S W H on cut opn kept = false by simp [liveOk, e]]
    (refine callE_is (callE_w [ResultVar.tmp 2] rfl Tryz.func18 rfl (by decide +kernel) rfl (by simp) ?_); (conv => whnf))
    repeat' ((with_reducible (first | refine sCall.of (q1 _) ?_|refine gP ?_|refine gN ?_|refine fG.split (fun _ => ?_) (fun _ => ?_)|refine fG.not ?_|refine gY ?_|refine gF ?_|refine fG.yes (flat_map (fun _ => rfl) _) ?_|refine fG.bool (fun _ => ?_) (fun _ => ?_)|refine gS64 ?_|refine gU8 ?_|refine gI15 ?_|refine fE.of rfl ?_|refine gNum15 ?_|refine gSet ?_|refine gRd ?_|refine gLk ?_|refine gRow15 ?_|refine gRf5 ?_)) <;> (try (conv => whnf)))
  | true =>
    simp only [e] at q1
    obtain ⟨hI, hP, hS, h200⟩ := sysOk_facts e
    have hN := hI.n
    have hHl := hI.h
    have hnn : P.length * P.length ≤ 4 * 4 := Nat.mul_le_mul (by omega) (by omega)
    have w1 : IntKind.i64.wrap ((P.length : Int) * (P.length : Int)) = ((P.length * P.length : Nat) : Int) := by
      rw [show (P.length : Int) * (P.length : Int) = ((P.length * P.length : Nat) : Int) by simp]; exact wrap_i64 _ (by omega) (by omega)
    by_cases d1 : cut.length = P.length
    · by_cases d2 : opn.length = P.length * P.length
      · by_cases d3 : kept.length = P.length * P.length
        · have hL : shotLens P.length cut opn kept = true := by simp [shotLens, d1, d2, d3]
          (refine callE_is (callE_w [ResultVar.tmp 2] rfl Tryz.func18 rfl (by decide +kernel) rfl (by simp) ?_); (conv => whnf))
          repeat' ((with_reducible (first | refine sCall.of (q1 _) ?_|refine sW.eq (w1) ?_|refine gP ?_|refine gN ?_|refine fG.split (fun _ => ?_) (fun _ => ?_)|refine fG.not ?_|refine gY ?_|refine gF ?_|refine fG.yes (flat_map (fun _ => rfl) _) ?_|refine fG.bool (fun _ => ?_) (fun _ => ?_)|refine gS64 ?_|refine gU8 ?_|refine gI15 ?_|refine fE.of rfl ?_|refine gNum15 ?_|refine gSet ?_|refine gRd ?_|refine gLk ?_|refine gRow15 ?_|refine gRf5 ?_)) <;> (try (conv => whnf)))
          refine loop_rule (ι := LV) (fun z => [(1, .pt 1 1 0 [] 0 0), (3, i64 P.length), (4, bl z.s), (46, .h 1000004 0 0 [] 1 0 cut.length), (47, i64 cut.length), (48, i64 (z.j : Nat))])
            (fun _ => [(1000000, ⟨0, 0, false, tInsSS P⟩), (1000001, ⟨0, 0, false, tStateS S⟩), (1000002, ⟨0, 0, false, tItemSS W⟩), (1000003, ⟨0, 0, false, tEventSS H⟩), (1000004, ⟨0, 0, false, tI cut⟩), (1000005, ⟨0, 0, false, tBool opn⟩), (1000006, ⟨0, 0, false, tIntSS kept⟩), (1, ⟨1, 0, false, bLive P S W H on cut opn kept⟩)])
            (fun z => cut.length - z.j) (fun z => z.j ≤ cut.length ∧ z.s = drawnB (cut.take z.j) ∧ ∀ q, q < z.j → cutOk H cut opn kept P.length q = true) ⟨0, false⟩ (by (try dsimp only [cond_true, cond_false]); exact ⟨⟨rfl, rfl, rfl, rfl, rfl, rfl, trivial⟩, ⟨rfl, rfl, rfl, rfl, rfl, rfl, rfl, rfl, trivial⟩⟩) ⟨Nat.zero_le _, by simp [drawnB], fun q h => absurd h (Nat.not_lt_zero q)⟩ (by simp [C]; omega) ?_
          rintro ⟨p, s⟩ sl ob ⟨hj, hs', hpr⟩
          dsimp only at hj hs' hpr
          (try dsimp only [cond_true, cond_false])
          (conv => whnf)
          by_cases hpl : p < cut.length
          · have e4 : (List.map rEvent (rd H p)).length = (rd H p).length := by simp
            have h2 := h200 p (by omega)
            have q2 := fun k => ok_impl_in k (rd cut p) (-1) ((List.map rEvent (rd H p)).length : Int)
            have hdt := drawn_take hpl
            rw [← hs'] at hdt
            by_cases c1 : -1 ≤ rd cut p ∧ rd cut p ≤ ((List.map rEvent (rd H p)).length : Int)
            · rw [decide_eq_true c1] at q2
              rw [e4] at c1
              by_cases c2 : 0 ≤ rd cut p
              · have hc : cutOk H cut opn kept P.length p = true := by simp [cutOk, inB, c1, c2]
                have hpr2 : ∀ q, q < p + 1 → cutOk H cut opn kept P.length q = true := fun q hq => by rcases Nat.lt_succ_iff_lt_or_eq.1 hq with h | h; exact hpr q h; rw [h]; exact hc
                cases s
                all_goals
                  repeat' ((with_reducible (first | refine sCall.of (q2 _) ?_|refine gP ?_|refine gN ?_|refine fG.split (fun _ => ?_) (fun _ => ?_)|refine fG.not ?_|refine gY ?_|refine gF ?_|refine fG.yes (flat_map (fun _ => rfl) _) ?_|refine fG.bool (fun _ => ?_) (fun _ => ?_)|refine gS64 ?_|refine gU8 ?_|refine gI15 ?_|refine fE.of rfl ?_|refine gNum15 ?_|refine gSet ?_|refine gRd ?_|refine gLk ?_|refine gRow15 ?_|refine gRf5 ?_)) <;> (try (conv => whnf)))
                  refine loop_rule (ι := Nat) (fun a => [(1, .pt 1 1 0 [] 0 0), (3, i64 P.length), (4, bl (drawnB (List.take (p + 1) cut))), (5, i64 (p : Nat)), (6, i64 (rd cut p)), (46, .h 1000004 0 0 [] 1 0 cut.length), (47, i64 cut.length), (48, i64 (p : Nat)), (68, i64 P.length), (69, i64 (a : Nat))])
                    (fun _ => [(1000000, ⟨0, 0, false, tInsSS P⟩), (1000001, ⟨0, 0, false, tStateS S⟩), (1000002, ⟨0, 0, false, tItemSS W⟩), (1000003, ⟨0, 0, false, tEventSS H⟩), (1000004, ⟨0, 0, false, tI cut⟩), (1000005, ⟨0, 0, false, tBool opn⟩), (1000006, ⟨0, 0, false, tIntSS kept⟩), (1, ⟨1, 0, false, bLive P S W H on cut opn kept⟩)])
                    (fun a => P.length - a) (fun a => a ≤ P.length) 0 (by rw [hdt]; exact (by (try dsimp only [cond_true, cond_false]); exact ⟨⟨rfl, rfl, rfl, rfl, rfl, rfl, rfl, rfl, rfl, rfl, trivial⟩, ⟨rfl, rfl, rfl, rfl, rfl, rfl, rfl, rfl, trivial⟩⟩)) (Nat.zero_le _) (by simp [C]; omega) ?_
                  clear sl ob
                  rintro a sl ob ha
                  (try dsimp only [cond_true, cond_false])
                  (conv => whnf)
                  by_cases hal : a < P.length
                  · repeat' ((with_reducible (first | refine gP ?_|refine gN ?_|refine fG.split (fun _ => ?_) (fun _ => ?_)|refine fG.not ?_|refine gY ?_|refine gF ?_|refine fG.yes (flat_map (fun _ => rfl) _) ?_|refine fG.bool (fun _ => ?_) (fun _ => ?_)|refine gS64 ?_|refine gU8 ?_|refine gI15 ?_|refine fE.of rfl ?_|refine gNum15 ?_|refine gSet ?_|refine gRd ?_|refine gLk ?_|refine gRow15 ?_|refine gRf5 ?_)) <;> (try (conv => whnf)))
                    refine ⟨⟨a + 1, (by (try dsimp only [cond_true, cond_false]); exact ⟨⟨rfl, rfl, rfl, rfl, rfl, rfl, rfl, rfl, rfl, rfl, trivial⟩, ⟨rfl, rfl, rfl, rfl, rfl, rfl, rfl, rfl, trivial⟩⟩), ?_, ?_⟩⟩
                    · show a + 1 ≤ _; omega
                    · show P.length - (a + 1) < P.length - a; omega
                  · repeat' ((with_reducible (first | refine gP ?_|refine gN ?_|refine fG.split (fun _ => ?_) (fun _ => ?_)|refine fG.not ?_|refine gY ?_|refine gF ?_|refine fG.yes (flat_map (fun _ => rfl) _) ?_|refine fG.bool (fun _ => ?_) (fun _ => ?_)|refine gS64 ?_|refine gU8 ?_|refine gI15 ?_|refine fE.of rfl ?_|refine gNum15 ?_|refine gSet ?_|refine gRd ?_|refine gLk ?_|refine gRow15 ?_|refine gRf5 ?_)) <;> (try (conv => whnf)))
                    refine ⟨⟨⟨p + 1, drawnB (List.take (p + 1) cut)⟩, (by (try dsimp only [cond_true, cond_false]); exact ⟨⟨rfl, rfl, rfl, rfl, rfl, rfl, trivial⟩, ⟨rfl, rfl, rfl, rfl, rfl, rfl, rfl, rfl, trivial⟩⟩), ?_, ?_⟩⟩
                    · exact ⟨by show p + 1 ≤ _; omega, rfl, hpr2⟩
                    · show cut.length - (p + 1) < cut.length - p; omega
              · cases s
                all_goals
                  repeat' ((with_reducible (first | refine sCall.of (q2 _) ?_|refine gP ?_|refine gN ?_|refine fG.split (fun _ => ?_) (fun _ => ?_)|refine fG.not ?_|refine gY ?_|refine gF ?_|refine fG.yes (flat_map (fun _ => rfl) _) ?_|refine fG.bool (fun _ => ?_) (fun _ => ?_)|refine gS64 ?_|refine gU8 ?_|refine gI15 ?_|refine fE.of rfl ?_|refine gNum15 ?_|refine gSet ?_|refine gRd ?_|refine gLk ?_|refine gRow15 ?_|refine gRf5 ?_)) <;> (try (conv => whnf)))
                  refine loop_rule (ι := Nat) (fun a => [(1, .pt 1 1 0 [] 0 0), (3, i64 P.length), (4, bl (drawnB (List.take (p + 1) cut))), (5, i64 (p : Nat)), (6, i64 (rd cut p)), (46, .h 1000004 0 0 [] 1 0 cut.length), (47, i64 cut.length), (48, i64 (p : Nat)), (68, i64 P.length), (69, i64 (a : Nat))])
                    (fun _ => [(1000000, ⟨0, 0, false, tInsSS P⟩), (1000001, ⟨0, 0, false, tStateS S⟩), (1000002, ⟨0, 0, false, tItemSS W⟩), (1000003, ⟨0, 0, false, tEventSS H⟩), (1000004, ⟨0, 0, false, tI cut⟩), (1000005, ⟨0, 0, false, tBool opn⟩), (1000006, ⟨0, 0, false, tIntSS kept⟩), (1, ⟨1, 0, false, bLive P S W H on cut opn kept⟩)])
                    (fun a => P.length - a) (fun a => a ≤ P.length ∧ ∀ b, b < a → (!(rd opn (b * P.length + p)) && decide ((rd kept (b * P.length + p)).length = 0)) = true) 0 (by rw [hdt]; exact (by (try dsimp only [cond_true, cond_false]); exact ⟨⟨rfl, rfl, rfl, rfl, rfl, rfl, rfl, rfl, rfl, rfl, trivial⟩, ⟨rfl, rfl, rfl, rfl, rfl, rfl, rfl, rfl, trivial⟩⟩)) ⟨Nat.zero_le _, fun q h => absurd h (Nat.not_lt_zero q)⟩ (by simp [C]; omega) ?_
                  clear sl ob
                  rintro a sl ob ⟨ha, hbe⟩
                  (try dsimp only [cond_true, cond_false])
                  (conv => whnf)
                  by_cases hal : a < P.length
                  · have hpl4 := place_lt hal (show p < P.length by omega)
                    have w2 : IntKind.i64.wrap ((a : Int) * (P.length : Int)) = ((a * P.length : Nat) : Int) := by
                      rw [show (a : Int) * (P.length : Int) = ((a * P.length : Nat) : Int) by simp]; exact wrap_i64 _ (by omega) (by omega)
                    have w3 : IntKind.i64.wrap (((a * P.length : Nat) : Int) + (p : Int)) = ((a * P.length + p : Nat) : Int) := by rw [wrap_i64 _ (by omega) (by omega)]; simp
                    have hkk := hs.kk (a * P.length + p) (by omega)
                    have e5 : (List.map rI (rd kept (a * P.length + p))).length = (rd kept (a * P.length + p)).length := by simp
                    generalize hpp : a * P.length + p = pp at hpl4 w3 hkk e5
                    cases e6 : rd opn pp with
                    | true =>
                      rw [liveOk_cut (p := p) (by omega) (by simp only [cutOk, decide_eq_false c2, Bool.false_or, allBelow_no (f := fun a => !(rd opn (a * P.length + p)) && decide ((rd kept (a * P.length + p)).length = 0)) hal (by simp [hpp, e6]), Bool.and_false])]
                      repeat' ((with_reducible (first | refine sW.eq (w2) ?_|refine sW.eq (w3) ?_|refine gP ?_|refine gN ?_|refine fG.split (fun _ => ?_) (fun _ => ?_)|refine fG.not ?_|refine gY ?_|refine gF ?_|refine fG.yes (flat_map (fun _ => rfl) _) ?_|refine fG.bool (fun _ => ?_) (fun _ => ?_)|refine gS64 ?_|refine gU8 ?_|refine gI15 ?_|refine fE.of rfl ?_|refine gNum15 ?_|refine gSet ?_|refine gRd ?_|refine gLk ?_|refine gRow15 ?_|refine gRf5 ?_)) <;> (try (conv => whnf)))
                    | false =>
                      by_cases c5 : (rd kept pp).length = 0
                      · repeat' ((with_reducible (first | refine sW.eq (w2) ?_|refine sW.eq (w3) ?_|refine gP ?_|refine gN ?_|refine fG.split (fun _ => ?_) (fun _ => ?_)|refine fG.not ?_|refine gY ?_|refine gF ?_|refine fG.yes (flat_map (fun _ => rfl) _) ?_|refine fG.bool (fun _ => ?_) (fun _ => ?_)|refine gS64 ?_|refine gU8 ?_|refine gI15 ?_|refine fE.of rfl ?_|refine gNum15 ?_|refine gSet ?_|refine gRd ?_|refine gLk ?_|refine gRow15 ?_|refine gRf5 ?_)) <;> (try (conv => whnf)))
                        refine ⟨⟨a + 1, (by (try dsimp only [cond_true, cond_false]); exact ⟨⟨rfl, rfl, rfl, rfl, rfl, rfl, rfl, rfl, rfl, rfl, trivial⟩, ⟨rfl, rfl, rfl, rfl, rfl, rfl, rfl, rfl, trivial⟩⟩), ?_, ?_⟩⟩
                        · exact ⟨by show a + 1 ≤ _; omega, fun q hq => by rcases Nat.lt_succ_iff_lt_or_eq.1 hq with h | h; exact hbe q h; rw [h, hpp]; simp [e6, c5]⟩
                        · show P.length - (a + 1) < P.length - a; omega
                      · rw [liveOk_cut (p := p) (by omega) (by simp only [cutOk, decide_eq_false c2, Bool.false_or, allBelow_no (f := fun a => !(rd opn (a * P.length + p)) && decide ((rd kept (a * P.length + p)).length = 0)) hal (by simp [hpp, c5]), Bool.and_false])]
                        repeat' ((with_reducible (first | refine sW.eq (w2) ?_|refine sW.eq (w3) ?_|refine gP ?_|refine gN ?_|refine fG.split (fun _ => ?_) (fun _ => ?_)|refine fG.not ?_|refine gY ?_|refine gF ?_|refine fG.yes (flat_map (fun _ => rfl) _) ?_|refine fG.bool (fun _ => ?_) (fun _ => ?_)|refine gS64 ?_|refine gU8 ?_|refine gI15 ?_|refine fE.of rfl ?_|refine gNum15 ?_|refine gSet ?_|refine gRd ?_|refine gLk ?_|refine gRow15 ?_|refine gRf5 ?_)) <;> (try (conv => whnf)))
                  · repeat' ((with_reducible (first | refine gP ?_|refine gN ?_|refine fG.split (fun _ => ?_) (fun _ => ?_)|refine fG.not ?_|refine gY ?_|refine gF ?_|refine fG.yes (flat_map (fun _ => rfl) _) ?_|refine fG.bool (fun _ => ?_) (fun _ => ?_)|refine gS64 ?_|refine gU8 ?_|refine gI15 ?_|refine fE.of rfl ?_|refine gNum15 ?_|refine gSet ?_|refine gRd ?_|refine gLk ?_|refine gRow15 ?_|refine gRf5 ?_)) <;> (try (conv => whnf)))
                    refine ⟨⟨⟨p + 1, drawnB (List.take (p + 1) cut)⟩, (by (try dsimp only [cond_true, cond_false]); exact ⟨⟨rfl, rfl, rfl, rfl, rfl, rfl, trivial⟩, ⟨rfl, rfl, rfl, rfl, rfl, rfl, rfl, rfl, trivial⟩⟩), ?_, ?_⟩⟩
                    · refine ⟨by show p + 1 ≤ _; omega, rfl, fun q hq => ?_⟩
                      rcases Nat.lt_succ_iff_lt_or_eq.1 hq with h | h
                      · exact hpr q h
                      · rw [h]
                        simp only [cutOk, inB, decide_eq_true c1, decide_eq_false c2, Bool.false_or, Bool.true_and]
                        exact allBelow_yes fun b hb => hbe b (by omega)
                    · show cut.length - (p + 1) < cut.length - p; omega
            · rw [decide_eq_false c1] at q2
              rw [e4] at c1
              rw [liveOk_cut (p := p) (by omega) (by simp [cutOk, inB, c1])]
              repeat' ((with_reducible (first | refine sCall.of (q2 _) ?_|refine gP ?_|refine gN ?_|refine fG.split (fun _ => ?_) (fun _ => ?_)|refine fG.not ?_|refine gY ?_|refine gF ?_|refine fG.yes (flat_map (fun _ => rfl) _) ?_|refine fG.bool (fun _ => ?_) (fun _ => ?_)|refine gS64 ?_|refine gU8 ?_|refine gI15 ?_|refine fE.of rfl ?_|refine gNum15 ?_|refine gSet ?_|refine gRd ?_|refine gLk ?_|refine gRow15 ?_|refine gRf5 ?_)) <;> (try (conv => whnf)))
          · have ePr := allBelow_yes (f := cutOk H cut opn kept P.length) (n := P.length) fun q hq => hpr q (by omega)
            rw [List.take_of_length_le (by omega)] at hs'
            have q3 := fun k => ok_impl_marked k P S W H hb
            rw [show liveOk P S W H on cut opn kept = (decide (on = s) && (on || !marksB W)) by simp only [liveOk, e, hL, ePr, hs', Bool.true_and]]
            cases on
            all_goals cases s
            all_goals cases em : marksB W
            all_goals
              simp only [em] at q3
              repeat' ((with_reducible (first | refine sCall.of (q3 _) ?_|refine gP ?_|refine gN ?_|refine fG.split (fun _ => ?_) (fun _ => ?_)|refine fG.not ?_|refine gY ?_|refine gF ?_|refine fG.yes (flat_map (fun _ => rfl) _) ?_|refine fG.bool (fun _ => ?_) (fun _ => ?_)|refine gS64 ?_|refine gU8 ?_|refine gI15 ?_|refine fE.of rfl ?_|refine gNum15 ?_|refine gSet ?_|refine gRd ?_|refine gLk ?_|refine gRow15 ?_|refine gRf5 ?_)) <;> (try (conv => whnf)))
            all_goals rfl
        · rw [liveOk_lens (by simp [shotLens, d3])]
          (refine callE_is (callE_w [ResultVar.tmp 2] rfl Tryz.func18 rfl (by decide +kernel) rfl (by simp) ?_); (conv => whnf))
          repeat' ((with_reducible (first | refine sCall.of (q1 _) ?_|refine sW.eq (w1) ?_|refine gP ?_|refine gN ?_|refine fG.split (fun _ => ?_) (fun _ => ?_)|refine fG.not ?_|refine gY ?_|refine gF ?_|refine fG.yes (flat_map (fun _ => rfl) _) ?_|refine fG.bool (fun _ => ?_) (fun _ => ?_)|refine gS64 ?_|refine gU8 ?_|refine gI15 ?_|refine fE.of rfl ?_|refine gNum15 ?_|refine gSet ?_|refine gRd ?_|refine gLk ?_|refine gRow15 ?_|refine gRf5 ?_)) <;> (try (conv => whnf)))
          all_goals first
            | rfl
            | (exfalso; omega)
      · rw [liveOk_lens (by simp [shotLens, d2])]
        (refine callE_is (callE_w [ResultVar.tmp 2] rfl Tryz.func18 rfl (by decide +kernel) rfl (by simp) ?_); (conv => whnf))
        repeat' ((with_reducible (first | refine sCall.of (q1 _) ?_|refine sW.eq (w1) ?_|refine gP ?_|refine gN ?_|refine fG.split (fun _ => ?_) (fun _ => ?_)|refine fG.not ?_|refine gY ?_|refine gF ?_|refine fG.yes (flat_map (fun _ => rfl) _) ?_|refine fG.bool (fun _ => ?_) (fun _ => ?_)|refine gS64 ?_|refine gU8 ?_|refine gI15 ?_|refine fE.of rfl ?_|refine gNum15 ?_|refine gSet ?_|refine gRd ?_|refine gLk ?_|refine gRow15 ?_|refine gRf5 ?_)) <;> (try (conv => whnf)))
        all_goals first
          | rfl
          | (exfalso; omega)
    · rw [liveOk_lens (by simp [shotLens, d1])]
      (refine callE_is (callE_w [ResultVar.tmp 2] rfl Tryz.func18 rfl (by decide +kernel) rfl (by simp) ?_); (conv => whnf))
      repeat' ((with_reducible (first | refine sCall.of (q1 _) ?_|refine sW.eq (w1) ?_|refine gP ?_|refine gN ?_|refine fG.split (fun _ => ?_) (fun _ => ?_)|refine fG.not ?_|refine gY ?_|refine gF ?_|refine fG.yes (flat_map (fun _ => rfl) _) ?_|refine fG.bool (fun _ => ?_) (fun _ => ?_)|refine gS64 ?_|refine gU8 ?_|refine gI15 ?_|refine fE.of rfl ?_|refine gNum15 ?_|refine gSet ?_|refine gRd ?_|refine gLk ?_|refine gRow15 ?_|refine gRf5 ?_)) <;> (try (conv => whnf)))
      all_goals first
        | rfl
        | (exfalso; omega)

set_option maxHeartbeats 8000000 in
set_option maxRecDepth 10000 in
theorem ok_spec_LiveOk (k : Nat) (P : List (List Ins)) (S : List State) (W : List (List Item)) (H : List (List Event)) (on : Bool) (cut : List Int) (opn : List Bool) (kept : List (List Int)) (hb : SysB 10000000000 P S W H) (hs : ShotB 10000000000 cut opn kept) :
    callE PR C (k + 8) 16 [aLive 0 P S W H on cut opn kept] [tInsSS P, tStateS S, tItemSS W, tEventSS H, tI cut, tBool opn, tIntSS kept] = some ⟨bl (liveOk P S W H on cut opn kept), [], [none, none, none, none, none, none, none]⟩ := by
  have b1 := hb.p
  have s1 := hs.c
  have s2 := hs.o
  have s3 := hs.k
  have q1 := fun k => ok_spec_SysOk k P S W H hb
  cases e : sysOk P S W H with
  | false =>
    simp only [e] at q1
    rw [show liveOk P S W H on cut opn kept = false by simp [liveOk, e]]
    (refine callE_is (callE_w [ResultVar.tmp 2] rfl Tryz.func16 rfl (by decide +kernel) rfl (by simp) ?_); (conv => whnf))
    repeat' ((with_reducible (first | refine sCall.of (q1 _) ?_|refine gP ?_|refine gN ?_|refine fG.split (fun _ => ?_) (fun _ => ?_)|refine fG.not ?_|refine gY ?_|refine gF ?_|refine fG.yes (flat_map (fun _ => rfl) _) ?_|refine fG.bool (fun _ => ?_) (fun _ => ?_)|refine gS64 ?_|refine gU8 ?_|refine gI15 ?_|refine fE.of rfl ?_|refine gNum15 ?_|refine gSet ?_|refine gRd ?_|refine gLk ?_|refine gRow15 ?_|refine gRf5 ?_|refine sDraw.none (id := 8) (ty := tys) rfl (by decide +kernel) ?_)) <;> (try (conv => whnf)))
  | true =>
    simp only [e] at q1
    obtain ⟨hI, hP, hS, h200⟩ := sysOk_facts e
    have hN := hI.n
    have hHl := hI.h
    have hnn : P.length * P.length ≤ 4 * 4 := Nat.mul_le_mul (by omega) (by omega)
    have w1 : IntKind.i64.wrap ((P.length : Int) * (P.length : Int)) = ((P.length * P.length : Nat) : Int) := by
      rw [show (P.length : Int) * (P.length : Int) = ((P.length * P.length : Nat) : Int) by simp]; exact wrap_i64 _ (by omega) (by omega)
    by_cases d1 : cut.length = P.length
    · by_cases d2 : opn.length = P.length * P.length
      · by_cases d3 : kept.length = P.length * P.length
        · have hL : shotLens P.length cut opn kept = true := by simp [shotLens, d1, d2, d3]
          (refine callE_is (callE_w [ResultVar.tmp 2] rfl Tryz.func16 rfl (by decide +kernel) rfl (by simp) ?_); (conv => whnf))
          repeat' ((with_reducible (first | refine sCall.of (q1 _) ?_|refine sW.eq (w1) ?_|refine gP ?_|refine gN ?_|refine fG.split (fun _ => ?_) (fun _ => ?_)|refine fG.not ?_|refine gY ?_|refine gF ?_|refine fG.yes (flat_map (fun _ => rfl) _) ?_|refine fG.bool (fun _ => ?_) (fun _ => ?_)|refine gS64 ?_|refine gU8 ?_|refine gI15 ?_|refine fE.of rfl ?_|refine gNum15 ?_|refine gSet ?_|refine gRd ?_|refine gLk ?_|refine gRow15 ?_|refine gRf5 ?_|refine sDraw.none (id := 8) (ty := tys) rfl (by decide +kernel) ?_)) <;> (try (conv => whnf)))
          refine loop_rule (ι := LV) (fun z => [(1, .pt 1 1 0 [] 0 0), (3, i64 P.length), (4, bl z.s), (5, i64 (z.j : Nat))])
            (fun _ => [(1000000, ⟨0, 0, false, tInsSS P⟩), (1000001, ⟨0, 0, false, tStateS S⟩), (1000002, ⟨0, 0, false, tItemSS W⟩), (1000003, ⟨0, 0, false, tEventSS H⟩), (1000004, ⟨0, 0, false, tI cut⟩), (1000005, ⟨0, 0, false, tBool opn⟩), (1000006, ⟨0, 0, false, tIntSS kept⟩), (1, ⟨1, 0, false, bLive P S W H on cut opn kept⟩)])
            (fun z => cut.length - z.j) (fun z => z.j ≤ cut.length ∧ z.s = drawnB (cut.take z.j) ∧ ∀ q, q < z.j → cutOk H cut opn kept P.length q = true) ⟨0, false⟩ (by (try dsimp only [cond_true, cond_false]); exact ⟨⟨rfl, rfl, rfl, rfl, trivial⟩, ⟨rfl, rfl, rfl, rfl, rfl, rfl, rfl, rfl, trivial⟩⟩) ⟨Nat.zero_le _, by simp [drawnB], fun q h => absurd h (Nat.not_lt_zero q)⟩ (by simp [C]; omega) ?_
          rintro ⟨p, s⟩ sl ob ⟨hj, hs', hpr⟩
          dsimp only at hj hs' hpr
          (try dsimp only [cond_true, cond_false])
          (conv => whnf)
          by_cases hpl : p < cut.length
          · have e4 : (List.map rEvent (rd H p)).length = (rd H p).length := by simp
            have h2 := h200 p (by omega)
            have q2 := fun k => ok_spec_l1In k (rd cut p) (-1) ((List.map rEvent (rd H p)).length : Int)
            have hdt := drawn_take hpl
            rw [← hs'] at hdt
            by_cases c1 : -1 ≤ rd cut p ∧ rd cut p ≤ ((List.map rEvent (rd H p)).length : Int)
            · rw [decide_eq_true c1] at q2
              rw [e4] at c1
              by_cases c2 : 0 ≤ rd cut p
              · have hc : cutOk H cut opn kept P.length p = true := by simp [cutOk, inB, c1, c2]
                have hpr2 : ∀ q, q < p + 1 → cutOk H cut opn kept P.length q = true := fun q hq => by rcases Nat.lt_succ_iff_lt_or_eq.1 hq with h | h; exact hpr q h; rw [h]; exact hc
                cases s
                all_goals
                  repeat' ((with_reducible (first | refine sCall.of (q2 _) ?_|refine gP ?_|refine gN ?_|refine fG.split (fun _ => ?_) (fun _ => ?_)|refine fG.not ?_|refine gY ?_|refine gF ?_|refine fG.yes (flat_map (fun _ => rfl) _) ?_|refine fG.bool (fun _ => ?_) (fun _ => ?_)|refine gS64 ?_|refine gU8 ?_|refine gI15 ?_|refine fE.of rfl ?_|refine gNum15 ?_|refine gSet ?_|refine gRd ?_|refine gLk ?_|refine gRow15 ?_|refine gRf5 ?_|refine sDraw.none (id := 8) (ty := tys) rfl (by decide +kernel) ?_)) <;> (try (conv => whnf)))
                  refine loop_rule (ι := Nat) (fun a => [(1, .pt 1 1 0 [] 0 0), (3, i64 P.length), (4, bl (drawnB (List.take (p + 1) cut))), (5, i64 (p : Nat)), (6, i64 (a : Nat))])
                    (fun _ => [(1000000, ⟨0, 0, false, tInsSS P⟩), (1000001, ⟨0, 0, false, tStateS S⟩), (1000002, ⟨0, 0, false, tItemSS W⟩), (1000003, ⟨0, 0, false, tEventSS H⟩), (1000004, ⟨0, 0, false, tI cut⟩), (1000005, ⟨0, 0, false, tBool opn⟩), (1000006, ⟨0, 0, false, tIntSS kept⟩), (1, ⟨1, 0, false, bLive P S W H on cut opn kept⟩)])
                    (fun a => P.length - a) (fun a => a ≤ P.length) 0 (by rw [hdt]; exact (by (try dsimp only [cond_true, cond_false]); exact ⟨⟨rfl, rfl, rfl, rfl, rfl, trivial⟩, ⟨rfl, rfl, rfl, rfl, rfl, rfl, rfl, rfl, trivial⟩⟩)) (Nat.zero_le _) (by simp [C]; omega) ?_
                  clear sl ob
                  rintro a sl ob ha
                  (try dsimp only [cond_true, cond_false])
                  (conv => whnf)
                  by_cases hal : a < P.length
                  all_goals
                    repeat' ((with_reducible (first | refine gP ?_|refine gN ?_|refine fG.split (fun _ => ?_) (fun _ => ?_)|refine fG.not ?_|refine gY ?_|refine gF ?_|refine fG.yes (flat_map (fun _ => rfl) _) ?_|refine fG.bool (fun _ => ?_) (fun _ => ?_)|refine gS64 ?_|refine gU8 ?_|refine gI15 ?_|refine fE.of rfl ?_|refine gNum15 ?_|refine gSet ?_|refine gRd ?_|refine gLk ?_|refine gRow15 ?_|refine gRf5 ?_|refine sDraw.none (id := 8) (ty := tys) rfl (by decide +kernel) ?_)) <;> (try (conv => whnf)))
                    refine ⟨⟨⟨p + 1, drawnB (List.take (p + 1) cut)⟩, (by (try dsimp only [cond_true, cond_false]); exact ⟨⟨rfl, rfl, rfl, rfl, trivial⟩, ⟨rfl, rfl, rfl, rfl, rfl, rfl, rfl, rfl, trivial⟩⟩), ?_, ?_⟩⟩
                    · exact ⟨by show p + 1 ≤ _; omega, rfl, hpr2⟩
                    · show cut.length - (p + 1) < cut.length - p; omega
              · cases s
                all_goals
                  repeat' ((with_reducible (first | refine sCall.of (q2 _) ?_|refine gP ?_|refine gN ?_|refine fG.split (fun _ => ?_) (fun _ => ?_)|refine fG.not ?_|refine gY ?_|refine gF ?_|refine fG.yes (flat_map (fun _ => rfl) _) ?_|refine fG.bool (fun _ => ?_) (fun _ => ?_)|refine gS64 ?_|refine gU8 ?_|refine gI15 ?_|refine fE.of rfl ?_|refine gNum15 ?_|refine gSet ?_|refine gRd ?_|refine gLk ?_|refine gRow15 ?_|refine gRf5 ?_|refine sDraw.none (id := 8) (ty := tys) rfl (by decide +kernel) ?_)) <;> (try (conv => whnf)))
                  refine loop_rule (ι := Nat) (fun a => [(1, .pt 1 1 0 [] 0 0), (3, i64 P.length), (4, bl (drawnB (List.take (p + 1) cut))), (5, i64 (p : Nat)), (6, i64 (a : Nat))])
                    (fun _ => [(1000000, ⟨0, 0, false, tInsSS P⟩), (1000001, ⟨0, 0, false, tStateS S⟩), (1000002, ⟨0, 0, false, tItemSS W⟩), (1000003, ⟨0, 0, false, tEventSS H⟩), (1000004, ⟨0, 0, false, tI cut⟩), (1000005, ⟨0, 0, false, tBool opn⟩), (1000006, ⟨0, 0, false, tIntSS kept⟩), (1, ⟨1, 0, false, bLive P S W H on cut opn kept⟩)])
                    (fun a => P.length - a) (fun a => a ≤ P.length ∧ ∀ b, b < a → (!(rd opn (b * P.length + p)) && decide ((rd kept (b * P.length + p)).length = 0)) = true) 0 (by rw [hdt]; exact (by (try dsimp only [cond_true, cond_false]); exact ⟨⟨rfl, rfl, rfl, rfl, rfl, trivial⟩, ⟨rfl, rfl, rfl, rfl, rfl, rfl, rfl, rfl, trivial⟩⟩)) ⟨Nat.zero_le _, fun q h => absurd h (Nat.not_lt_zero q)⟩ (by simp [C]; omega) ?_
                  clear sl ob
                  rintro a sl ob ⟨ha, hbe⟩
                  (try dsimp only [cond_true, cond_false])
                  (conv => whnf)
                  by_cases hal : a < P.length
                  · have hpl4 := place_lt hal (show p < P.length by omega)
                    have w2 : IntKind.i64.wrap ((a : Int) * (P.length : Int)) = ((a * P.length : Nat) : Int) := by
                      rw [show (a : Int) * (P.length : Int) = ((a * P.length : Nat) : Int) by simp]; exact wrap_i64 _ (by omega) (by omega)
                    have w3 : IntKind.i64.wrap (((a * P.length : Nat) : Int) + (p : Int)) = ((a * P.length + p : Nat) : Int) := by rw [wrap_i64 _ (by omega) (by omega)]; simp
                    have hkk := hs.kk (a * P.length + p) (by omega)
                    have e5 : (List.map rI (rd kept (a * P.length + p))).length = (rd kept (a * P.length + p)).length := by simp
                    generalize hpp : a * P.length + p = pp at hpl4 w3 hkk e5
                    cases e6 : rd opn pp with
                    | true =>
                      rw [liveOk_cut (p := p) (by omega) (by simp only [cutOk, decide_eq_false c2, Bool.false_or, allBelow_no (f := fun a => !(rd opn (a * P.length + p)) && decide ((rd kept (a * P.length + p)).length = 0)) hal (by simp [hpp, e6]), Bool.and_false])]
                      repeat' ((with_reducible (first | refine sW.eq (w2) ?_|refine sW.eq (w3) ?_|refine gP ?_|refine gN ?_|refine fG.split (fun _ => ?_) (fun _ => ?_)|refine fG.not ?_|refine gY ?_|refine gF ?_|refine fG.yes (flat_map (fun _ => rfl) _) ?_|refine fG.bool (fun _ => ?_) (fun _ => ?_)|refine gS64 ?_|refine gU8 ?_|refine gI15 ?_|refine fE.of rfl ?_|refine gNum15 ?_|refine gSet ?_|refine gRd ?_|refine gLk ?_|refine gRow15 ?_|refine gRf5 ?_|refine sDraw.none (id := 8) (ty := tys) rfl (by decide +kernel) ?_)) <;> (try (conv => whnf)))
                    | false =>
                      by_cases c5 : (rd kept pp).length = 0
                      · repeat' ((with_reducible (first | refine sW.eq (w2) ?_|refine sW.eq (w3) ?_|refine gP ?_|refine gN ?_|refine fG.split (fun _ => ?_) (fun _ => ?_)|refine fG.not ?_|refine gY ?_|refine gF ?_|refine fG.yes (flat_map (fun _ => rfl) _) ?_|refine fG.bool (fun _ => ?_) (fun _ => ?_)|refine gS64 ?_|refine gU8 ?_|refine gI15 ?_|refine fE.of rfl ?_|refine gNum15 ?_|refine gSet ?_|refine gRd ?_|refine gLk ?_|refine gRow15 ?_|refine gRf5 ?_|refine sDraw.none (id := 8) (ty := tys) rfl (by decide +kernel) ?_)) <;> (try (conv => whnf)))
                        refine ⟨⟨a + 1, (by (try dsimp only [cond_true, cond_false]); exact ⟨⟨rfl, rfl, rfl, rfl, rfl, trivial⟩, ⟨rfl, rfl, rfl, rfl, rfl, rfl, rfl, rfl, trivial⟩⟩), ?_, ?_⟩⟩
                        · exact ⟨by show a + 1 ≤ _; omega, fun q hq => by rcases Nat.lt_succ_iff_lt_or_eq.1 hq with h | h; exact hbe q h; rw [h, hpp]; simp [e6, c5]⟩
                        · show P.length - (a + 1) < P.length - a; omega
                      · rw [liveOk_cut (p := p) (by omega) (by simp only [cutOk, decide_eq_false c2, Bool.false_or, allBelow_no (f := fun a => !(rd opn (a * P.length + p)) && decide ((rd kept (a * P.length + p)).length = 0)) hal (by simp [hpp, c5]), Bool.and_false])]
                        repeat' ((with_reducible (first | refine sW.eq (w2) ?_|refine sW.eq (w3) ?_|refine gP ?_|refine gN ?_|refine fG.split (fun _ => ?_) (fun _ => ?_)|refine fG.not ?_|refine gY ?_|refine gF ?_|refine fG.yes (flat_map (fun _ => rfl) _) ?_|refine fG.bool (fun _ => ?_) (fun _ => ?_)|refine gS64 ?_|refine gU8 ?_|refine gI15 ?_|refine fE.of rfl ?_|refine gNum15 ?_|refine gSet ?_|refine gRd ?_|refine gLk ?_|refine gRow15 ?_|refine gRf5 ?_|refine sDraw.none (id := 8) (ty := tys) rfl (by decide +kernel) ?_)) <;> (try (conv => whnf)))
                  · repeat' ((with_reducible (first | refine gP ?_|refine gN ?_|refine fG.split (fun _ => ?_) (fun _ => ?_)|refine fG.not ?_|refine gY ?_|refine gF ?_|refine fG.yes (flat_map (fun _ => rfl) _) ?_|refine fG.bool (fun _ => ?_) (fun _ => ?_)|refine gS64 ?_|refine gU8 ?_|refine gI15 ?_|refine fE.of rfl ?_|refine gNum15 ?_|refine gSet ?_|refine gRd ?_|refine gLk ?_|refine gRow15 ?_|refine gRf5 ?_|refine sDraw.none (id := 8) (ty := tys) rfl (by decide +kernel) ?_)) <;> (try (conv => whnf)))
                    refine ⟨⟨⟨p + 1, drawnB (List.take (p + 1) cut)⟩, (by (try dsimp only [cond_true, cond_false]); exact ⟨⟨rfl, rfl, rfl, rfl, trivial⟩, ⟨rfl, rfl, rfl, rfl, rfl, rfl, rfl, rfl, trivial⟩⟩), ?_, ?_⟩⟩
                    · refine ⟨by show p + 1 ≤ _; omega, rfl, fun q hq => ?_⟩
                      rcases Nat.lt_succ_iff_lt_or_eq.1 hq with h | h
                      · exact hpr q h
                      · rw [h]
                        simp only [cutOk, inB, decide_eq_true c1, decide_eq_false c2, Bool.false_or, Bool.true_and]
                        exact allBelow_yes fun b hb => hbe b (by omega)
                    · show cut.length - (p + 1) < cut.length - p; omega
            · rw [decide_eq_false c1] at q2
              rw [e4] at c1
              rw [liveOk_cut (p := p) (by omega) (by simp [cutOk, inB, c1])]
              repeat' ((with_reducible (first | refine sCall.of (q2 _) ?_|refine gP ?_|refine gN ?_|refine fG.split (fun _ => ?_) (fun _ => ?_)|refine fG.not ?_|refine gY ?_|refine gF ?_|refine fG.yes (flat_map (fun _ => rfl) _) ?_|refine fG.bool (fun _ => ?_) (fun _ => ?_)|refine gS64 ?_|refine gU8 ?_|refine gI15 ?_|refine fE.of rfl ?_|refine gNum15 ?_|refine gSet ?_|refine gRd ?_|refine gLk ?_|refine gRow15 ?_|refine gRf5 ?_|refine sDraw.none (id := 8) (ty := tys) rfl (by decide +kernel) ?_)) <;> (try (conv => whnf)))
          · have ePr := allBelow_yes (f := cutOk H cut opn kept P.length) (n := P.length) fun q hq => hpr q (by omega)
            rw [List.take_of_length_le (by omega)] at hs'
            have q3 := fun k => ok_spec_l11Marks k P S W H hb
            rw [show liveOk P S W H on cut opn kept = (decide (on = s) && (on || !marksB W)) by simp only [liveOk, e, hL, ePr, hs', Bool.true_and]]
            cases on
            all_goals cases s
            all_goals cases em : marksB W
            all_goals
              simp only [em] at q3
              repeat' ((with_reducible (first | refine sCall.of (q3 _) ?_|refine gP ?_|refine gN ?_|refine fG.split (fun _ => ?_) (fun _ => ?_)|refine fG.not ?_|refine gY ?_|refine gF ?_|refine fG.yes (flat_map (fun _ => rfl) _) ?_|refine fG.bool (fun _ => ?_) (fun _ => ?_)|refine gS64 ?_|refine gU8 ?_|refine gI15 ?_|refine fE.of rfl ?_|refine gNum15 ?_|refine gSet ?_|refine gRd ?_|refine gLk ?_|refine gRow15 ?_|refine gRf5 ?_|refine sDraw.none (id := 8) (ty := tys) rfl (by decide +kernel) ?_)) <;> (try (conv => whnf)))
            all_goals rfl
        · rw [liveOk_lens (by simp [shotLens, d3])]
          (refine callE_is (callE_w [ResultVar.tmp 2] rfl Tryz.func16 rfl (by decide +kernel) rfl (by simp) ?_); (conv => whnf))
          repeat' ((with_reducible (first | refine sCall.of (q1 _) ?_|refine sW.eq (w1) ?_|refine gP ?_|refine gN ?_|refine fG.split (fun _ => ?_) (fun _ => ?_)|refine fG.not ?_|refine gY ?_|refine gF ?_|refine fG.yes (flat_map (fun _ => rfl) _) ?_|refine fG.bool (fun _ => ?_) (fun _ => ?_)|refine gS64 ?_|refine gU8 ?_|refine gI15 ?_|refine fE.of rfl ?_|refine gNum15 ?_|refine gSet ?_|refine gRd ?_|refine gLk ?_|refine gRow15 ?_|refine gRf5 ?_|refine sDraw.none (id := 8) (ty := tys) rfl (by decide +kernel) ?_)) <;> (try (conv => whnf)))
          all_goals first
            | rfl
            | (exfalso; omega)
      · rw [liveOk_lens (by simp [shotLens, d2])]
        (refine callE_is (callE_w [ResultVar.tmp 2] rfl Tryz.func16 rfl (by decide +kernel) rfl (by simp) ?_); (conv => whnf))
        repeat' ((with_reducible (first | refine sCall.of (q1 _) ?_|refine sW.eq (w1) ?_|refine gP ?_|refine gN ?_|refine fG.split (fun _ => ?_) (fun _ => ?_)|refine fG.not ?_|refine gY ?_|refine gF ?_|refine fG.yes (flat_map (fun _ => rfl) _) ?_|refine fG.bool (fun _ => ?_) (fun _ => ?_)|refine gS64 ?_|refine gU8 ?_|refine gI15 ?_|refine fE.of rfl ?_|refine gNum15 ?_|refine gSet ?_|refine gRd ?_|refine gLk ?_|refine gRow15 ?_|refine gRf5 ?_|refine sDraw.none (id := 8) (ty := tys) rfl (by decide +kernel) ?_)) <;> (try (conv => whnf)))
        all_goals first
          | rfl
          | (exfalso; omega)
    · rw [liveOk_lens (by simp [shotLens, d1])]
      (refine callE_is (callE_w [ResultVar.tmp 2] rfl Tryz.func16 rfl (by decide +kernel) rfl (by simp) ?_); (conv => whnf))
      repeat' ((with_reducible (first | refine sCall.of (q1 _) ?_|refine sW.eq (w1) ?_|refine gP ?_|refine gN ?_|refine fG.split (fun _ => ?_) (fun _ => ?_)|refine fG.not ?_|refine gY ?_|refine gF ?_|refine fG.yes (flat_map (fun _ => rfl) _) ?_|refine fG.bool (fun _ => ?_) (fun _ => ?_)|refine gS64 ?_|refine gU8 ?_|refine gI15 ?_|refine fE.of rfl ?_|refine gNum15 ?_|refine gSet ?_|refine gRd ?_|refine gLk ?_|refine gRow15 ?_|refine gRf5 ?_|refine sDraw.none (id := 8) (ty := tys) rfl (by decide +kernel) ?_)) <;> (try (conv => whnf)))
      all_goals first
        | rfl
        | (exfalso; omega)

end Go.Proofs.YtlobpiebphnkiaaGreat.Abs
namespace Go.Proofs.YtlobpiebphnkiaaGreat.Abs
open Go Go.Proofs
set_option linter.unusedVariables false
set_option linter.unusedSimpArgs false
attribute [local irreducible] callE
/-! ### Pictures that are done -/
theorem ok_Index_int (k : Nat) (l : List Int) (v : Int) (hl : l.length ≤ 100000000000) :
    callE PR C (k + 1) 152 [.h 1000000 0 0 [] 1 0 l.length, i64 v] [tI l] = some ⟨i64 (idxP (fun x => decide (v = x)) l), [], [none]⟩ := by
  (refine callE_is (callE_w [ResultVar.tmp 4] rfl Tryz.func152 rfl (by decide +kernel) rfl (by simp) ?_); (conv => whnf))
  repeat' ((with_reducible (first | refine gP ?_|refine gN ?_|refine fG.split (fun _ => ?_) (fun _ => ?_)|refine fG.not ?_|refine gY ?_|refine gF ?_|refine fG.yes (flat_map (fun _ => rfl) _) ?_|refine fG.bool (fun _ => ?_) (fun _ => ?_)|refine gS64 ?_|refine gU8 ?_|refine gI15 ?_|refine fE.of rfl ?_|refine gNum15 ?_|refine gSet ?_|refine gRd ?_|refine gLk ?_|refine gRow15 ?_|refine gRf5 ?_)) <;> (try (conv => whnf)))
  refine loop_rule (ι := Nat) (fun i => [(0, .h 1000000 0 0 [] 1 0 l.length), (1, i64 v), (7, i64 l.length), (8, i64 (i : Nat))]) (fun i => [(1000000, ⟨0, 0, false, tI l⟩)])
    (fun i => l.length - i) (fun i => i ≤ l.length ∧ l.findIdx? (fun x => decide (v = x)) = ((l.drop i).findIdx? (fun x => decide (v = x))).map (· + i)) 0 (by (try dsimp only [cond_true, cond_false]); exact ⟨⟨rfl, rfl, rfl, rfl, trivial⟩, ⟨rfl, trivial⟩⟩) (by simp) (by simp [C]; omega) ?_
  rintro i sl ob ⟨hi, hall⟩
  (try dsimp only [cond_true, cond_false])
  (conv => whnf)
  by_cases hil : i < l.length
  · by_cases c : v = rd l i
    · rw [findIdx_here (by omega) hall (decide_eq_true c)]
      repeat' ((with_reducible (first | refine gP ?_|refine gN ?_|refine fG.split (fun _ => ?_) (fun _ => ?_)|refine fG.not ?_|refine gY ?_|refine gF ?_|refine fG.yes (flat_map (fun _ => rfl) _) ?_|refine fG.bool (fun _ => ?_) (fun _ => ?_)|refine gS64 ?_|refine gU8 ?_|refine gI15 ?_|refine fE.of rfl ?_|refine gNum15 ?_|refine gSet ?_|refine gRd ?_|refine gLk ?_|refine gRow15 ?_|refine gRf5 ?_)) <;> (try (conv => whnf)))
    · repeat' ((with_reducible (first | refine gP ?_|refine gN ?_|refine fG.split (fun _ => ?_) (fun _ => ?_)|refine fG.not ?_|refine gY ?_|refine gF ?_|refine fG.yes (flat_map (fun _ => rfl) _) ?_|refine fG.bool (fun _ => ?_) (fun _ => ?_)|refine gS64 ?_|refine gU8 ?_|refine gI15 ?_|refine fE.of rfl ?_|refine gNum15 ?_|refine gSet ?_|refine gRd ?_|refine gLk ?_|refine gRow15 ?_|refine gRf5 ?_)) <;> (try (conv => whnf)))
      refine ⟨⟨i + 1, (by (try dsimp only [cond_true, cond_false]); exact ⟨⟨rfl, rfl, rfl, rfl, trivial⟩, ⟨rfl, trivial⟩⟩), ?_, ?_⟩⟩
      · exact ⟨by show i + 1 ≤ _; omega, findIdx_step (by omega) hall (decide_eq_false c)⟩
      · show l.length - (i + 1) < l.length - i; omega
  · rw [findIdx_none (by omega) hall]
    repeat' ((with_reducible (first | refine gP ?_|refine gN ?_|refine fG.split (fun _ => ?_) (fun _ => ?_)|refine fG.not ?_|refine gY ?_|refine gF ?_|refine fG.yes (flat_map (fun _ => rfl) _) ?_|refine fG.bool (fun _ => ?_) (fun _ => ?_)|refine gS64 ?_|refine gU8 ?_|refine gI15 ?_|refine fE.of rfl ?_|refine gNum15 ?_|refine gSet ?_|refine gRd ?_|refine gLk ?_|refine gRow15 ?_|refine gRf5 ?_)) <;> (try (conv => whnf)))
theorem ok_Contains_int (k : Nat) (l : List Int) (v : Int) (hl : l.length ≤ 100000000000) :
    callE PR C (k + 2) 70 [.h 1000000 0 0 [] 1 0 l.length, i64 v] [tI l] = some ⟨bl (l.any fun x => decide (v = x)), [], [none]⟩ := by
  rw [← idxP_any]
  (refine callE_is (callE_w [ResultVar.tmp 4] rfl Tryz.func70 rfl (by decide +kernel) rfl (by simp) ?_); (conv => whnf))
  repeat' ((with_reducible (first | refine sCall.of (ok_Index_int _ _ _ hl) ?_|refine gP ?_|refine gN ?_|refine fG.split (fun _ => ?_) (fun _ => ?_)|refine fG.not ?_|refine gY ?_|refine gF ?_|refine fG.yes (flat_map (fun _ => rfl) _) ?_|refine fG.bool (fun _ => ?_) (fun _ => ?_)|refine gS64 ?_|refine gU8 ?_|refine gI15 ?_|refine fE.of rfl ?_|refine gNum15 ?_|refine gSet ?_|refine gRd ?_|refine gLk ?_|refine gRow15 ?_|refine gRf5 ?_)) <;> (try (conv => whnf)))
theorem ok_Index_bool (k : Nat) (l : List Bool) (hl : l.length ≤ 100000000000) :
    callE PR C (k + 1) 153 [.h 1000000 0 0 [] 1 0 l.length, bl true] [tBool l] = some ⟨i64 (idxP (fun x => x) l), [], [none]⟩ := by
  (refine callE_is (callE_w [ResultVar.tmp 4] rfl Tryz.func153 rfl (by decide +kernel) rfl (by simp) ?_); (conv => whnf))
  repeat' ((with_reducible (first | refine gP ?_|refine gN ?_|refine fG.split (fun _ => ?_) (fun _ => ?_)|refine fG.not ?_|refine gY ?_|refine gF ?_|refine fG.yes (flat_map (fun _ => rfl) _) ?_|refine fG.bool (fun _ => ?_) (fun _ => ?_)|refine gS64 ?_|refine gU8 ?_|refine gI15 ?_|refine fE.of rfl ?_|refine gNum15 ?_|refine gSet ?_|refine gRd ?_|refine gLk ?_|refine gRow15 ?_|refine gRf5 ?_)) <;> (try (conv => whnf)))
  refine loop_rule (ι := Nat) (fun i => [(0, .h 1000000 0 0 [] 1 0 l.length), (1, bl true), (7, i64 l.length), (8, i64 (i : Nat))]) (fun i => [(1000000, ⟨0, 0, false, tBool l⟩)])
    (fun i => l.length - i) (fun i => i ≤ l.length ∧ l.findIdx? (fun x => x) = ((l.drop i).findIdx? (fun x => x)).map (· + i)) 0 (by (try dsimp only [cond_true, cond_false]); exact ⟨⟨rfl, rfl, rfl, rfl, trivial⟩, ⟨rfl, trivial⟩⟩) (by simp) (by simp [C]; omega) ?_
  rintro i sl ob ⟨hi, hall⟩
  (try dsimp only [cond_true, cond_false])
  (conv => whnf)
  by_cases hil : i < l.length
  · cases c : rd l i
    · repeat' ((with_reducible (first | refine gP ?_|refine gN ?_|refine fG.split (fun _ => ?_) (fun _ => ?_)|refine fG.not ?_|refine gY ?_|refine gF ?_|refine fG.yes (flat_map (fun _ => rfl) _) ?_|refine fG.bool (fun _ => ?_) (fun _ => ?_)|refine gS64 ?_|refine gU8 ?_|refine gI15 ?_|refine fE.of rfl ?_|refine gNum15 ?_|refine gSet ?_|refine gRd ?_|refine gLk ?_|refine gRow15 ?_|refine gRf5 ?_)) <;> (try (conv => whnf)))
      all_goals first
        | (exfalso; simp_all; done)
        | (refine ⟨⟨i + 1, (by (try dsimp only [cond_true, cond_false]); exact ⟨⟨rfl, rfl, rfl, rfl, trivial⟩, ⟨rfl, trivial⟩⟩), ?_, ?_⟩⟩
           · exact ⟨by show i + 1 ≤ _; omega, findIdx_step (by omega) hall c⟩
           · show l.length - (i + 1) < l.length - i; omega)
    · rw [findIdx_here (by omega) hall c]
      repeat' ((with_reducible (first | refine gP ?_|refine gN ?_|refine fG.split (fun _ => ?_) (fun _ => ?_)|refine fG.not ?_|refine gY ?_|refine gF ?_|refine fG.yes (flat_map (fun _ => rfl) _) ?_|refine fG.bool (fun _ => ?_) (fun _ => ?_)|refine gS64 ?_|refine gU8 ?_|refine gI15 ?_|refine fE.of rfl ?_|refine gNum15 ?_|refine gSet ?_|refine gRd ?_|refine gLk ?_|refine gRow15 ?_|refine gRf5 ?_)) <;> (try (conv => whnf)))
      all_goals (exfalso; simp_all; done)
  · rw [findIdx_none (by omega) hall]
    repeat' ((with_reducible (first | refine gP ?_|refine gN ?_|refine fG.split (fun _ => ?_) (fun _ => ?_)|refine fG.not ?_|refine gY ?_|refine gF ?_|refine fG.yes (flat_map (fun _ => rfl) _) ?_|refine fG.bool (fun _ => ?_) (fun _ => ?_)|refine gS64 ?_|refine gU8 ?_|refine gI15 ?_|refine fE.of rfl ?_|refine gNum15 ?_|refine gSet ?_|refine gRd ?_|refine gLk ?_|refine gRow15 ?_|refine gRf5 ?_)) <;> (try (conv => whnf)))
theorem ok_Contains_bool (k : Nat) (l : List Bool) (hl : l.length ≤ 100000000000) :
    callE PR C (k + 2) 71 [.h 1000000 0 0 [] 1 0 l.length, bl true] [tBool l] = some ⟨bl (l.any fun x => x), [], [none]⟩ := by
  rw [← idxP_any]
  (refine callE_is (callE_w [ResultVar.tmp 4] rfl Tryz.func71 rfl (by decide +kernel) rfl (by simp) ?_); (conv => whnf))
  repeat' ((with_reducible (first | refine sCall.of (ok_Index_bool _ _ hl) ?_|refine gP ?_|refine gN ?_|refine fG.split (fun _ => ?_) (fun _ => ?_)|refine fG.not ?_|refine gY ?_|refine gF ?_|refine fG.yes (flat_map (fun _ => rfl) _) ?_|refine fG.bool (fun _ => ?_) (fun _ => ?_)|refine gS64 ?_|refine gU8 ?_|refine gI15 ?_|refine fE.of rfl ?_|refine gNum15 ?_|refine gSet ?_|refine gRd ?_|refine gLk ?_|refine gRow15 ?_|refine gRf5 ?_)) <;> (try (conv => whnf)))
def shotDone (P : List (List Ins)) (S : List State) (W : List (List Item)) (H : List (List Event)) (on : Bool) (cut : List Int) (opn : List Bool) (kept : List (List Int)) : Bool :=
  liveOk P S W H on cut opn kept && (on && (!(cut.any fun x => decide (-1 = x)) && !(opn.any fun x => x)))
theorem liveOk_facts {P : List (List Ins)} {S : List State} {W : List (List Item)} {H : List (List Event)} {on : Bool} {cut : List Int} {opn : List Bool} {kept : List (List Int)} (h : liveOk P S W H on cut opn kept = true) :
    sysOk P S W H = true ∧ cut.length = P.length ∧ opn.length = P.length * P.length ∧ kept.length = P.length * P.length ∧ (∀ p, p < cut.length → -1 ≤ rd cut p ∧ rd cut p ≤ ((rd H p).length : Int)) ∧
      (∀ p, p < P.length → ∀ a, a < P.length → rd cut p < 0 → rd opn (a * P.length + p) = false ∧ (rd kept (a * P.length + p)).length = 0) ∧ on = drawnB cut ∧ (on = false → marksB W = false) := by
  simp only [liveOk, shotLens, Bool.and_eq_true, decide_eq_true_eq, allBelow_eq] at h
  obtain ⟨h1, ⟨h2, h3, h4⟩, h5, h6, h7⟩ := h
  refine ⟨h1, h2, h3, h4, fun p hp => ?_, fun p hp a ha hc => ?_, h6, fun h => ?_⟩
  · have h8 := h5 p (by omega)
    simp only [cutOk, inB, Bool.and_eq_true, decide_eq_true_eq] at h8
    exact h8.1
  · have h8 := h5 p hp
    simp only [cutOk, Bool.and_eq_true, Bool.or_eq_true, decide_eq_true_eq, allBelow_eq] at h8
    rcases h8.2 with h9 | h9
    · omega
    · have h10 := h9 a ha
      exact ⟨by simpa using h10.1, h10.2⟩
  · rw [h] at h7
    simpa using h7
theorem ok_impl_ShotDone (k : Nat) (P : List (List Ins)) (S : List State) (W : List (List Item)) (H : List (List Event)) (on : Bool) (cut : List Int) (opn : List Bool) (kept : List (List Int)) (hb : SysB 10000000000 P S W H) (hs : ShotB 10000000000 cut opn kept) :
    callE PR C (k + 13) 21 [aLive 0 P S W H on cut opn kept] [tInsSS P, tStateS S, tItemSS W, tEventSS H, tI cut, tBool opn, tIntSS kept] = some ⟨bl (shotDone P S W H on cut opn kept), [], [none, none, none, none, none, none, none]⟩ := by
  have s1 := hs.c
  have s2 := hs.o
  have q1 := fun k => ok_impl_LiveOk k P S W H on cut opn kept hb hs
  have q2 := fun k => ok_Contains_int k cut (-1) (by omega)
  have q3 := fun k => ok_Contains_bool k opn (by omega)
  unfold shotDone
  cases e1 : liveOk P S W H on cut opn kept
  all_goals cases on
  all_goals cases e2 : cut.any fun x => decide (-1 = x)
  all_goals cases e3 : opn.any fun x => x
  all_goals
    simp only [e1, e2, e3] at q1 q2 q3
    (refine callE_is (callE_w [ResultVar.tmp 2] rfl Tryz.func21 rfl (by decide +kernel) rfl (by simp) ?_); (conv => whnf))
    repeat' ((with_reducible (first | refine sCall.of (q1 _) ?_|refine sCall.of (q2 _) ?_|refine sCall.of (q3 _) ?_|refine gP ?_|refine gN ?_|refine fG.split (fun _ => ?_) (fun _ => ?_)|refine fG.not ?_|refine gY ?_|refine gF ?_|refine fG.yes (flat_map (fun _ => rfl) _) ?_|refine fG.bool (fun _ => ?_) (fun _ => ?_)|refine gS64 ?_|refine gU8 ?_|refine gI15 ?_|refine fE.of rfl ?_|refine gNum15 ?_|refine gSet ?_|refine gRd ?_|refine gLk ?_|refine gRow15 ?_|refine gRf5 ?_)) <;> (try (conv => whnf)))
  all_goals rfl
theorem ok_spec_ShotDone (k : Nat) (P : List (List Ins)) (S : List State) (W : List (List Item)) (H : List (List Event)) (on : Bool) (cut : List Int) (opn : List Bool) (kept : List (List Int)) (hb : SysB 10000000000 P S W H) (hs : ShotB 10000000000 cut opn kept) :
    callE PR C (k + 9) 20 [aLive 0 P S W H on cut opn kept] [tInsSS P, tStateS S, tItemSS W, tEventSS H, tI cut, tBool opn, tIntSS kept] = some ⟨bl (shotDone P S W H on cut opn kept), [], [none, none, none, none, none, none, none]⟩ := by
  have s1 := hs.c
  have s2 := hs.o
  have q1 := fun k => ok_spec_LiveOk k P S W H on cut opn kept hb hs
  unfold shotDone
  cases e1 : liveOk P S W H on cut opn kept
  · simp only [e1] at q1
    (refine callE_is (callE_w [ResultVar.tmp 2] rfl Tryz.func20 rfl (by decide +kernel) rfl (by simp) ?_); (conv => whnf))
    repeat' ((with_reducible (first | refine sCall.of (q1 _) ?_|refine gP ?_|refine gN ?_|refine fG.split (fun _ => ?_) (fun _ => ?_)|refine fG.not ?_|refine gY ?_|refine gF ?_|refine fG.yes (flat_map (fun _ => rfl) _) ?_|refine fG.bool (fun _ => ?_) (fun _ => ?_)|refine gS64 ?_|refine gU8 ?_|refine gI15 ?_|refine fE.of rfl ?_|refine gNum15 ?_|refine gSet ?_|refine gRd ?_|refine gLk ?_|refine gRow15 ?_|refine gRf5 ?_)) <;> (try (conv => whnf)))
    all_goals rfl
  · obtain ⟨f1, f2, f3, f4, f5, f6, f7, f8⟩ := liveOk_facts e1
    simp only [e1] at q1
    have hon : on = true ∨ on = false := by cases on <;> simp
    rcases hon with hon | hon
    · subst hon
      rw [Bool.true_and, Bool.true_and]
      (refine callE_is (callE_w [ResultVar.tmp 2] rfl Tryz.func20 rfl (by decide +kernel) rfl (by simp) ?_); (conv => whnf))
      repeat' ((with_reducible (first | refine sCall.of (q1 _) ?_|refine gP ?_|refine gN ?_|refine fG.split (fun _ => ?_) (fun _ => ?_)|refine fG.not ?_|refine gY ?_|refine gF ?_|refine fG.yes (flat_map (fun _ => rfl) _) ?_|refine fG.bool (fun _ => ?_) (fun _ => ?_)|refine gS64 ?_|refine gU8 ?_|refine gI15 ?_|refine fE.of rfl ?_|refine gNum15 ?_|refine gSet ?_|refine gRd ?_|refine gLk ?_|refine gRow15 ?_|refine gRf5 ?_)) <;> (try (conv => whnf)))
      refine loop_rule (ι := Nat) (fun j => [(1, .pt 1 1 0 [] 0 0), (3, i64 (j : Nat))])
        (fun _ => [(1000000, ⟨0, 0, false, tInsSS P⟩), (1000001, ⟨0, 0, false, tStateS S⟩), (1000002, ⟨0, 0, false, tItemSS W⟩), (1000003, ⟨0, 0, false, tEventSS H⟩), (1000004, ⟨0, 0, false, tI cut⟩), (1000005, ⟨0, 0, false, tBool opn⟩), (1000006, ⟨0, 0, false, tIntSS kept⟩), (1, ⟨1, 0, false, bLive P S W H true cut opn kept⟩)])
        (fun j => opn.length - j) (fun j => j ≤ opn.length ∧ ∀ q, q < j → rd opn q = false) 0 (by (try dsimp only [cond_true, cond_false]); exact ⟨⟨rfl, rfl, trivial⟩, ⟨rfl, rfl, rfl, rfl, rfl, rfl, rfl, rfl, trivial⟩⟩) ⟨Nat.zero_le _, fun q h => absurd h (Nat.not_lt_zero q)⟩ (by simp [C]; omega) ?_
      rintro j sl ob ⟨hj, hno⟩
      (try dsimp only [cond_true, cond_false])
      (conv => whnf)
      by_cases hjl : j < opn.length
      · cases c : rd opn j
        · repeat' ((with_reducible (first | refine gP ?_|refine gN ?_|refine fG.split (fun _ => ?_) (fun _ => ?_)|refine fG.not ?_|refine gY ?_|refine gF ?_|refine fG.yes (flat_map (fun _ => rfl) _) ?_|refine fG.bool (fun _ => ?_) (fun _ => ?_)|refine gS64 ?_|refine gU8 ?_|refine gI15 ?_|refine fE.of rfl ?_|refine gNum15 ?_|refine gSet ?_|refine gRd ?_|refine gLk ?_|refine gRow15 ?_|refine gRf5 ?_)) <;> (try (conv => whnf)))
          all_goals first
            | (exfalso; simp_all; done)
            | (refine ⟨⟨j + 1, (by (try dsimp only [cond_true, cond_false]); exact ⟨⟨rfl, rfl, trivial⟩, ⟨rfl, rfl, rfl, rfl, rfl, rfl, rfl, rfl, trivial⟩⟩), ?_, ?_⟩⟩
               · exact ⟨by show j + 1 ≤ _; omega, fun q hq => by rcases Nat.lt_succ_iff_lt_or_eq.1 hq with h | h; exact hno q h; rw [h]; exact c⟩
               · show opn.length - (j + 1) < opn.length - j; omega)
        · rw [any_yes (f := fun x => x) hjl c, Bool.not_true, Bool.and_false]
          repeat' ((with_reducible (first | refine gP ?_|refine gN ?_|refine fG.split (fun _ => ?_) (fun _ => ?_)|refine fG.not ?_|refine gY ?_|refine gF ?_|refine fG.yes (flat_map (fun _ => rfl) _) ?_|refine fG.bool (fun _ => ?_) (fun _ => ?_)|refine gS64 ?_|refine gU8 ?_|refine gI15 ?_|refine fE.of rfl ?_|refine gNum15 ?_|refine gSet ?_|refine gRd ?_|refine gLk ?_|refine gRow15 ?_|refine gRf5 ?_)) <;> (try (conv => whnf)))
          all_goals (exfalso; simp_all; done)
      · rw [any_no (f := fun x => x) fun i hi => hno i (by omega), Bool.not_false, Bool.and_true]
        repeat' ((with_reducible (first | refine gP ?_|refine gN ?_|refine fG.split (fun _ => ?_) (fun _ => ?_)|refine fG.not ?_|refine gY ?_|refine gF ?_|refine fG.yes (flat_map (fun _ => rfl) _) ?_|refine fG.bool (fun _ => ?_) (fun _ => ?_)|refine gS64 ?_|refine gU8 ?_|refine gI15 ?_|refine fE.of rfl ?_|refine gNum15 ?_|refine gSet ?_|refine gRd ?_|refine gLk ?_|refine gRow15 ?_|refine gRf5 ?_)) <;> (try (conv => whnf)))
        refine loop_rule (ι := Nat) (fun j => [(1, .pt 1 1 0 [] 0 0), (4, i64 (j : Nat))])
          (fun _ => [(1000000, ⟨0, 0, false, tInsSS P⟩), (1000001, ⟨0, 0, false, tStateS S⟩), (1000002, ⟨0, 0, false, tItemSS W⟩), (1000003, ⟨0, 0, false, tEventSS H⟩), (1000004, ⟨0, 0, false, tI cut⟩), (1000005, ⟨0, 0, false, tBool opn⟩), (1000006, ⟨0, 0, false, tIntSS kept⟩), (1, ⟨1, 0, false, bLive P S W H true cut opn kept⟩)])
          (fun j => cut.length - j) (fun j => j ≤ cut.length ∧ ∀ q, q < j → decide (-1 = rd cut q) = false) 0 (by (try dsimp only [cond_true, cond_false]); exact ⟨⟨rfl, rfl, trivial⟩, ⟨rfl, rfl, rfl, rfl, rfl, rfl, rfl, rfl, trivial⟩⟩) ⟨Nat.zero_le _, fun q h => absurd h (Nat.not_lt_zero q)⟩ (by simp [C]; omega) ?_
        clear sl ob
        rintro i sl ob ⟨hi, hni⟩
        (try dsimp only [cond_true, cond_false])
        (conv => whnf)
        by_cases hil : i < cut.length
        · have hc := f5 i hil
          by_cases c : rd cut i < 0
          · rw [any_yes (f := fun x => decide (-1 = x)) hil (decide_eq_true (by omega)), Bool.not_true]
            repeat' ((with_reducible (first | refine gP ?_|refine gN ?_|refine fG.split (fun _ => ?_) (fun _ => ?_)|refine fG.not ?_|refine gY ?_|refine gF ?_|refine fG.yes (flat_map (fun _ => rfl) _) ?_|refine fG.bool (fun _ => ?_) (fun _ => ?_)|refine gS64 ?_|refine gU8 ?_|refine gI15 ?_|refine fE.of rfl ?_|refine gNum15 ?_|refine gSet ?_|refine gRd ?_|refine gLk ?_|refine gRow15 ?_|refine gRf5 ?_)) <;> (try (conv => whnf)))
          · repeat' ((with_reducible (first | refine gP ?_|refine gN ?_|refine fG.split (fun _ => ?_) (fun _ => ?_)|refine fG.not ?_|refine gY ?_|refine gF ?_|refine fG.yes (flat_map (fun _ => rfl) _) ?_|refine fG.bool (fun _ => ?_) (fun _ => ?_)|refine gS64 ?_|refine gU8 ?_|refine gI15 ?_|refine fE.of rfl ?_|refine gNum15 ?_|refine gSet ?_|refine gRd ?_|refine gLk ?_|refine gRow15 ?_|refine gRf5 ?_)) <;> (try (conv => whnf)))
            refine ⟨⟨i + 1, (by (try dsimp only [cond_true, cond_false]); exact ⟨⟨rfl, rfl, trivial⟩, ⟨rfl, rfl, rfl, rfl, rfl, rfl, rfl, rfl, trivial⟩⟩), ?_, ?_⟩⟩
            · exact ⟨by show i + 1 ≤ _; omega, fun q hq => by rcases Nat.lt_succ_iff_lt_or_eq.1 hq with h | h; exact hni q h; rw [h]; exact decide_eq_false (by omega)⟩
            · show cut.length - (i + 1) < cut.length - i; omega
        · rw [any_no (f := fun x => decide (-1 = x)) fun q hq => hni q (by omega), Bool.not_false]
          repeat' ((with_reducible (first | refine gP ?_|refine gN ?_|refine fG.split (fun _ => ?_) (fun _ => ?_)|refine fG.not ?_|refine gY ?_|refine gF ?_|refine fG.yes (flat_map (fun _ => rfl) _) ?_|refine fG.bool (fun _ => ?_) (fun _ => ?_)|refine gS64 ?_|refine gU8 ?_|refine gI15 ?_|refine fE.of rfl ?_|refine gNum15 ?_|refine gSet ?_|refine gRd ?_|refine gLk ?_|refine gRow15 ?_|refine gRf5 ?_)) <;> (try (conv => whnf)))
    · subst hon
      (refine callE_is (callE_w [ResultVar.tmp 2] rfl Tryz.func20 rfl (by decide +kernel) rfl (by simp) ?_); (conv => whnf))
      repeat' ((with_reducible (first | refine sCall.of (q1 _) ?_|refine gP ?_|refine gN ?_|refine fG.split (fun _ => ?_) (fun _ => ?_)|refine fG.not ?_|refine gY ?_|refine gF ?_|refine fG.yes (flat_map (fun _ => rfl) _) ?_|refine fG.bool (fun _ => ?_) (fun _ => ?_)|refine gS64 ?_|refine gU8 ?_|refine gI15 ?_|refine fE.of rfl ?_|refine gNum15 ?_|refine gSet ?_|refine gRd ?_|refine gLk ?_|refine gRow15 ?_|refine gRf5 ?_)) <;> (try (conv => whnf)))
      all_goals rfl

set_option maxRecDepth 20000 in
set_option maxHeartbeats 8000000 in
theorem ok_laws_FnExactShotDone (k : Nat) (P : List (List Ins)) (S : List State) (W : List (List Item)) (H : List (List Event)) (on : Bool) (cut : List Int) (opn : List Bool) (kept : List (List Int)) (hb : SysB 140737488355328 P S W H) (hs : ShotB 140737488355328 cut opn kept) :
    callE PR C (k + 14) 4 [aLive 0 P S W H on cut opn kept] [tInsSS P, tStateS S, tItemSS W, tEventSS H, tI cut, tBool opn, tIntSS kept] = some ⟨bl true, [], [none, none, none, none, none, none, none]⟩ := by
  have q0 := fun k => ok_laws_szLive k P S W H on cut opn kept 1048576 (by omega) (by omega) hb hs
  by_cases c : left 1048576 ((sysSz P S W H + shotSz cut opn kept : Nat)) < 0
  · rw [left_m1 c] at q0
    (refine callE_is (callE_w [ResultVar.tmp 2] rfl Tryz.func4 rfl (by decide +kernel) rfl (by simp) ?_); (conv => whnf))
    repeat' ((with_reducible (first | refine sCall.of (q0 _) ?_|refine gP ?_|refine gN ?_|refine fG.split (fun _ => ?_) (fun _ => ?_)|refine fG.not ?_|refine gY ?_|refine gF ?_|refine fG.yes (flat_map (fun _ => rfl) _) ?_|refine fG.bool (fun _ => ?_) (fun _ => ?_)|refine gS64 ?_|refine gU8 ?_|refine gI15 ?_|refine fE.of rfl ?_|refine gNum15 ?_|refine gSet ?_|refine gRd ?_|refine gLk ?_|refine gRow15 ?_|refine gRf5 ?_|refine sDraw.mk' (id := 10) [(0, 2)] (ty := tys) rfl (by decide +kernel) ?_)) <;> (try (conv => whnf)))
  · obtain ⟨c1, c2⟩ := left_pos c
    have hB : SysB 1048576 P S W H := sysB_of (by omega)
    have hS : ShotB 1048576 cut opn kept := shotB_of (by omega)
    have q1 := fun k => ok_laws_toLive k P S W H on cut opn kept (hB.mono (by decide)) (hS.mono (by decide))
    have q2 := fun k => ok_laws_eqLive k P S W H on cut opn kept (hB.mono (by decide)) (hS.mono (by decide))
    have q3 := fun k => ok_impl_ShotDone k P S W H on cut opn kept (hB.mono (by decide)) (hS.mono (by decide))
    have q4 := fun k => ok_spec_ShotDone k P S W H on cut opn kept (hB.mono (by decide)) (hS.mono (by decide))
    cases e : shotDone P S W H on cut opn kept
    all_goals
      simp only [e] at q3 q4
      (refine callE_is (callE_w [ResultVar.tmp 2] rfl Tryz.func4 rfl (by decide +kernel) rfl (by simp) ?_); (conv => whnf))
      repeat' ((with_reducible (first | refine sCall.of (q0 _) ?_|refine sCall.of (q1 _) ?_|refine sCall.of (q2 _) ?_|refine sCall.of (q3 _) ?_|refine sCall.of (q4 _) ?_|refine gP ?_|refine gN ?_|refine fG.split (fun _ => ?_) (fun _ => ?_)|refine fG.not ?_|refine gY ?_|refine gF ?_|refine fG.yes (flat_map (fun _ => rfl) _) ?_|refine fG.bool (fun _ => ?_) (fun _ => ?_)|refine gS64 ?_|refine gU8 ?_|refine gI15 ?_|refine fE.of rfl ?_|refine gNum15 ?_|refine gSet ?_|refine gRd ?_|refine gLk ?_|refine gRow15 ?_|refine gRf5 ?_|refine sDraw.mk' (id := 10) [(0, 2)] (ty := tys) rfl (by decide +kernel) ?_)) <;> (try (conv => whnf)))

end Go.Proofs.YtlobpiebphnkiaaGreat.Abs
namespace Go.Proofs.YtlobpiebphnkiaaGreat.Abs
open Go
set_option linter.unusedVariables false

/-- What is read at a type: as many cells, each of a tree that nobody writes; the trees have the property. -/
def Opens (P : Program) (t : TypeId) (n : Nat) (M : List T → Prop) : Prop :=
  ∀ (H : Type) (enc : TypeId × Value → H) (w : World) (base : Nat) (sp : Nat → Bool) (held : Bool) (fuel : Nat) (cs : List Value) (x : DataW H × List MemPlace),
    DataW.trod enc P w base sp held fuel t cs = some x → (∀ m ∈ x.1.weights P t, m ≤ reachBytes) →
      cs.length = n ∧ ∃ ts : List T, ts.length = n ∧ M ts ∧ ∀ (i : Nat) v t', cs[i]? = some v → ts[i]? = some t' → Ow (fun k => k < w.heap.size) w 0 v t' none_
theorem Opens.mono {P : Program} {t : TypeId} {n : Nat} {M M' : List T → Prop} (h : Opens P t n M) (hm : ∀ ts, M ts → M' ts) : Opens P t n M' := by
  intro H enc w base sp held fuel cs x hx hw
  obtain ⟨h1, ts, h2, h3, h4⟩ := h H enc w base sp held fuel cs x hx hw
  exact ⟨h1, ts, h2, hm _ h3, h4⟩
theorem one_ow {w : World} {v0 : Value} {t0 : T} (h : Ow (fun k => k < w.heap.size) w 0 v0 t0 none_) : ∀ (i : Nat) v t', [v0][i]? = some v → [t0][i]? = some t' → Ow (fun k => k < w.heap.size) w 0 v t' none_ := by
  rintro (_ | i) v t' h1 h2
  · simp at h1 h2; subst h1; subst h2; exact h
  · simp at h1
theorem Opens.int {P : Program} {t : TypeId} {k : IntKind} (ht : P.underlying t = some (.int k)) : Opens P t 1 (fun ts => ∃ n, (Lit.int k n).wf = true ∧ ts = [.v (.int k n)]) := by
  intro H enc w base sp held fuel cs x hx hw
  obtain ⟨n, rfl, rfl, h⟩ := DataW.trod_int ht hx
  exact ⟨rfl, _, rfl, ⟨n, h, rfl⟩, one_ow (.v rfl)⟩
theorem Opens.bool {P : Program} {t : TypeId} (ht : P.underlying t = some .bool) : Opens P t 1 (fun ts => ∃ b, ts = [.v (.bool b)]) := by
  intro H enc w base sp held fuel cs x hx hw
  obtain ⟨b, rfl, rfl⟩ := DataW.trod_bool ht hx
  exact ⟨rfl, _, rfl, ⟨b, rfl⟩, one_ow (.v rfl)⟩
theorem Opens.str {P : Program} {t : TypeId} (ht : P.underlying t = some .string) : Opens P t 1 (fun ts => ∃ s : ByteArray, s.size ≤ reachBytes ∧ ts = [.v (.string s)]) := by
  intro H enc w base sp held fuel cs x hx hw
  obtain ⟨s, rfl, rfl, h⟩ := DataW.trod_string ht hx
  refine ⟨rfl, _, rfl, ⟨s, ?_, rfl⟩, one_ow (.v rfl)⟩
  have := hw s.data.toList.length (by simp [DataW.weights])
  simpa using this
/-- The parts of a struct, from a place on. -/
def Parts (P : Program) : List Field → Nat → Nat → (List T → Prop) → Prop
  | [], _, n, M => n = 0 ∧ M []
  | f :: r, off, n, M => f.offset = off ∧ ∃ n1 n2 M1 M2, P.cellsOf f.type = n1 ∧ Opens P f.type n1 M1 ∧ Parts P r (off + n1) n2 M2 ∧ n = n1 + n2 ∧ ∀ a b, M1 a → M2 b → M (a ++ b)
theorem weights_part {P : Program} {H : Type} {ts : List TypeId} : ∀ {ds : List (DataW H)} {R : Nat}, (∀ m ∈ DataW.weightsEach P ts ds, m ≤ R) → ∀ (j : Nat) t d, ts[j]? = some t → ds[j]? = some d → ∀ m ∈ d.weights P t, m ≤ R :=
  fun h j t d ht hd m hm => h m (DataW.weights_mem_each ht hd m hm)
theorem Parts.opens {P : Program} {H : Type} {enc : TypeId × Value → H} {w : World} {base : Nat} {sp : Nat → Bool} {held : Bool} {fuel : Nat} {cs : List Value} : ∀ {fs : List Field} {off n : Nat} {M : List T → Prop}, Parts P fs off n M → off + n = cs.length →
    (∀ f ∈ fs, ∃ x, DataW.trod enc P w base sp held fuel f.type ((cs.drop f.offset).take (P.cellsOf f.type)) = some x ∧ (∀ m ∈ x.1.weights P f.type, m ≤ reachBytes)) →
    ∃ ts : List T, ts.length = n ∧ M ts ∧ ∀ (i : Nat) v t', cs[off + i]? = some v → ts[i]? = some t' → Ow (fun k => k < w.heap.size) w 0 v t' none_ := by
  intro fs
  induction fs with
  | nil =>
    intro off n M h hl _
    exact ⟨[], h.1.symm, h.2, fun i v t' _ h2 => by simp at h2⟩
  | cons f r ih =>
    intro off n M h hl hx
    obtain ⟨rfl, n1, n2, M1, M2, h1, h2, h3, rfl, h4⟩ := h
    obtain ⟨x, hx1, hx2⟩ := hx f (by simp)
    rw [h1] at hx1
    obtain ⟨k1, t1, k2, k3, k4⟩ := h2 H enc w base sp held fuel _ x hx1 hx2
    obtain ⟨t2, q1, q2, q3⟩ := ih h3 (by omega) fun g hg => hx g (by simp [hg])
    refine ⟨t1 ++ t2, by simp [k2, q1], h4 _ _ k3 q2, fun i v t' hv ht' => ?_⟩
    by_cases hi : i < n1
    · rw [List.getElem?_append_left (by omega)] at ht'
      exact k4 i v t' (by rw [List.getElem?_take, if_pos hi, List.getElem?_drop]; exact hv) ht'
    · rw [List.getElem?_append_right (by omega), k2] at ht'
      exact q3 (i - n1) v t' (by rw [show f.offset + n1 + (i - n1) = f.offset + i by omega]; exact hv) ht'
theorem Opens.struct {P : Program} {t : TypeId} {fs : Array Field} {n : Nat} {M : List T → Prop} (ht : P.underlying t = some (.struct fs)) (hc : P.cellsOf t = n) (hp : Parts P fs.toList 0 n M) : Opens P t n M := by
  intro H enc w base sp held fuel cs x hx hw
  obtain ⟨xs, m, _, rfl, hl, hlen, hf⟩ := DataW.trod_struct ht hx
  have hl' : cs.length = n := hl.trans hc
  obtain ⟨ts, h1, h2, h3⟩ := hp.opens (enc := enc) (w := w) (base := base) (sp := sp) (held := held) (fuel := m) (cs := cs) (by omega) (by
    intro f hfm
    obtain ⟨i, hi⟩ := List.getElem?_of_mem hfm
    have hi' : fs[i]? = some f := by simpa using hi
    have hlt : i < xs.length := by rw [hlen]; exact (Array.getElem?_eq_some_iff.1 hi').1
    have hy : xs[i]? = some xs[i] := List.getElem?_eq_getElem hlt
    refine ⟨xs[i], (hf i f hi').trans hy, ?_⟩
    refine weights_part (ts := fs.toList.map (·.type)) (ds := xs.map (·.1)) ?_ i f.type xs[i].1 (by simp [hi']) (by rw [List.getElem?_map, hy]; rfl)
    intro q hq
    refine hw q ?_
    simpa [DataW.weights, ht] using hq)
  exact ⟨hl', ts, h1, h2, fun i v t' hv ht' => h3 i v t' (by simpa using hv) ht'⟩
/-- As many whole numbers. -/
def IntsM (n : Nat) (ts : List T) : Prop := ∃ zs : List Int, zs.length = n ∧ ts = zs.map fun z => T.v (.int .i64 z)
theorem Parts.nil {P : Program} {off : Nat} : Parts P [] off 0 (IntsM 0) := ⟨rfl, [], rfl, rfl⟩
theorem Parts.int {P : Program} {f : Field} {r : List Field} {off n : Nat} (ho : f.offset = off) (hc : P.cellsOf f.type = 1) (ht : P.underlying f.type = some (.int .i64)) (h : Parts P r (off + 1) n (IntsM n)) :
    Parts P (f :: r) off (1 + n) (IntsM (1 + n)) := by
  refine ⟨ho, 1, n, _, _, hc, Opens.int ht, h, rfl, ?_⟩
  rintro a b ⟨z, _, rfl⟩ ⟨zs, hz, rfl⟩
  exact ⟨z :: zs, by simp [hz]; omega, rfl⟩
/-- Parts, each of a kind. -/
def Ms : List (List T → Prop) → List T → Prop
  | [], ts => ts = []
  | M :: r, ts => ∃ a b, ts = a ++ b ∧ M a ∧ Ms r b
theorem Parts.mnil {P : Program} {off : Nat} : Parts P [] off 0 (Ms []) := ⟨rfl, rfl⟩
theorem Parts.mcons {P : Program} {f : Field} {r : List Field} {off n1 n : Nat} {M : List T → Prop} {l : List (List T → Prop)} (ho : f.offset = off) (hc : P.cellsOf f.type = n1) (ht : Opens P f.type n1 M) (h : Parts P r (off + n1) n (Ms l)) :
    Parts P (f :: r) off (n1 + n) (Ms (M :: l)) :=
  ⟨ho, n1, n, _, _, hc, ht, h, rfl, fun a b ha hb => ⟨a, b, rfl, ha, hb⟩⟩

/-- Rows of a kind are a list's. -/
theorem rows_map {α : Type} {f : α → List T} {p : α → Prop} {rows : List (List T)} (h : ∀ r ∈ rows, ∃ x, p x ∧ r = f x) : ∃ l : List α, rows = l.map f ∧ ∀ x ∈ l, p x := by
  induction rows with
  | nil => exact ⟨[], rfl, by simp⟩
  | cons r rows ih =>
    obtain ⟨x, hx, rfl⟩ := h r (by simp)
    obtain ⟨l, rfl, hl⟩ := ih fun q hq => h q (by simp [hq])
    exact ⟨x :: l, rfl, by simpa using ⟨hx, hl⟩⟩
theorem weights_all {P : Program} {H : Type} {e : TypeId} {d : DataW H} : ∀ {l : List (DataW H)}, d ∈ l → ∀ m ∈ d.weights P e, m ∈ DataW.weightsAll P e l
  | a :: r, hd, m, hm => by
    simp only [DataW.weightsAll, List.mem_append]
    rcases List.mem_cons.1 hd with rfl | hd
    · exact .inl hm
    · exact .inr (weights_all hd m hm)
/-- A slice. -/
theorem Opens.slice {P : Program} {t e : TypeId} {sz B : Nat} {M : List T → Prop} (ht : P.underlying t = some (.slice e)) (hc : P.cellsOf e = sz) (hB : P.bytesOf e = B) (hsz : 0 < sz) (hE : Opens P e sz M) :
    Opens P t 1 (fun ts => ∃ rows, ts = [.sl sz rows] ∧ (∀ x ∈ rows, M x) ∧ rows.length * B ≤ reachBytes) := by
  intro H enc w base sp held fuel cs0 x hx hw
  rcases DataW.trod_slice ht hx with ⟨rfl, _⟩ | ⟨a, len, cap, elems, rest, n, _, rfl, rfl, _, hl, _, hlen, hel, _⟩
  · exact ⟨rfl, _, rfl, ⟨[], rfl, by simp, by simp⟩, one_ow .nil⟩
  · have hw1 : (elems.length + rest.length) * B ≤ reachBytes := by
      have := hw ((elems.length + rest.length) * P.bytesOf e) (by simp [DataW.weights, ht])
      rwa [hB] at this
    have hcell : ∀ i : Nat, ∃ q : List Value × List T, i < len → q.1.length = sz ∧ q.2.length = sz ∧ M q.2 ∧ (∀ j, j < sz → w.cell? ((a.add (i * sz)).add j) = q.1[j]?) ∧
        ∀ (j : Nat) v t', q.1[j]? = some v → q.2[j]? = some t' → Ow (fun k => k < w.heap.size) w 0 v t' none_ := by
      intro i
      by_cases hi : i < len
      · have hy : elems[i]? = some (elems[i]'(by omega)) := List.getElem?_eq_getElem (by omega)
        have h1 := hel i hi
        rw [hy, hc, Option.bind_eq_some_iff] at h1
        obtain ⟨cs, hcs, htr⟩ := h1
        obtain ⟨k1, ts, k2, k3, k4⟩ := hE H enc w base sp held n cs _ htr (by
          intro m hm
          refine hw m ?_
          have := weights_all (P := P) (e := e) (l := elems.map (·.1)) (List.mem_map_of_mem (List.getElem_mem (by omega : i < elems.length))) m hm
          simp [DataW.weights, ht, this])
        obtain ⟨_, g1, g2⟩ := World.cells?_some hcs
        exact ⟨(cs, ts), fun _ => ⟨k1, k2, k3, g2, k4⟩⟩
      · exact ⟨([], []), fun h => absurd h hi⟩
    obtain ⟨c, hc2⟩ := Classical.axiomOfChoice hcell
    have hblk : 0 < len → a.block < w.heap.size := by
      intro h0
      obtain ⟨k1, k2, k3, k4, k5⟩ := hc2 0 h0
      have h1 := k4 0 hsz
      have h2 : (c 0).1[0]? = some ((c 0).1[0]'(by omega)) := List.getElem?_eq_getElem (by omega)
      rw [h2] at h1
      by_cases hlt : a.block < w.heap.size
      · exact hlt
      · unfold World.cell? at h1
        rw [add_block, add_block, Array.getElem?_eq_none (by omega)] at h1
        simp at h1
    have hat : ∀ i j t', cellT ((List.range len).map fun i => (c i).2) i j = some t' → i < len ∧ (c i).2[j]? = some t' := by
      intro i j t' h'
      unfold cellT at h'
      rw [List.getElem?_map] at h'
      by_cases hi : i < len
      · have hr : (List.range len)[i]? = some i := by simp [hi]
        rw [hr] at h'
        exact ⟨hi, by simpa using h'⟩
      · have hr : (List.range len)[i]? = none := by simp; omega
        rw [hr] at h'
        simp at h'
    refine ⟨rfl, [.sl sz ((List.range len).map fun i => (c i).2)], rfl, ⟨_, rfl, ?_, ?_⟩, one_ow ?_⟩
    · intro x hx
      obtain ⟨i, hi, rfl⟩ := List.mem_map.1 hx
      exact (hc2 i (List.mem_range.1 hi)).2.2.1
    · rw [List.length_map, List.length_range]
      exact Nat.le_trans (Nat.mul_le_mul_right _ (by omega)) hw1
    · have hro := Ow.ro (Z := fun k => k < w.heap.size) (w := w) (a := a) (c := cap) (rows := (List.range len).map fun i => (c i).2) (sz := sz) (fun i j => (c i).1.getD j undef) (by simpa using hl)
        (by
          intro r hr
          obtain ⟨i, hi, rfl⟩ := List.mem_map.1 hr
          exact (hc2 i (List.mem_range.1 hi)).2.1) (fun hne => hblk (by
            rcases Nat.eq_zero_or_pos len with h0 | h0
            · subst h0; exact absurd rfl hne
            · exact h0))
        (by
          intro i j t' h'
          obtain ⟨hi, hj⟩ := hat i j t' h'
          obtain ⟨k1, k2, k3, k4, k5⟩ := hc2 i hi
          have hj' : j < sz := by rw [← k2]; exact (List.getElem?_eq_some_iff.1 hj).1
          rw [← Addr.add_add, k4 j hj', List.getElem?_eq_getElem (by omega)]
          simp [List.getD, show j < (c i).1.length by omega])
        (by
          intro i j t' h'
          obtain ⟨hi, hj⟩ := hat i j t' h'
          obtain ⟨k1, k2, k3, k4, k5⟩ := hc2 i hi
          have hj' : j < sz := by rw [← k2]; exact (List.getElem?_eq_some_iff.1 hj).1
          refine k5 j _ t' ?_ hj
          rw [List.getElem?_eq_getElem (by omega)]
          simp [List.getD, show j < (c i).1.length by omega])
      simpa using hro
/-- An argument of one cell. -/
theorem Opens.one {P : Program} {t : TypeId} {M : List T → Prop} (h : Opens P t 1 M) {H : Type} {enc : TypeId × Value → H} {w : World} {base : Nat} {sp : Nat → Bool} {held : Bool} {v : Value} {d : DataW H} {ps : List MemPlace}
    (hv : v.cells.toList = [v]) (hd : DataW.Trod enc P w base sp held t v d ps) (hw : ∀ m ∈ d.weights P t, m ≤ reachBytes) : ∃ t', M [t'] ∧ Ow (fun k => k < w.heap.size) w 0 v t' none_ := by
  obtain ⟨fuel, hf⟩ := hd
  rw [hv] at hf
  obtain ⟨_, ts, h1, h2, h3⟩ := h H enc w base sp held fuel _ _ hf hw
  obtain ⟨t', rfl⟩ := List.length_eq_one_iff.1 h1
  exact ⟨t', h2, h3 0 v t' rfl rfl⟩
end Go.Proofs.YtlobpiebphnkiaaGreat.Abs
namespace Go.Proofs.YtlobpiebphnkiaaGreat.Abs
open Go Go.RowKit
set_option linter.unusedVariables false

theorem Ow.slice_inv {Z : Fp} {w : World} {v : Value} {sz : Nat} {rows : List (List T)} {F : Fp} {l : Nat} (h : Ow Z w l v (.sl sz rows) F) :
    (v = .slice none 0 0 ∧ rows = []) ∨ ∃ a c, v = .slice (some a) rows.length c ∧ rows.length ≤ c := by
  cases h with
  | nil => exact .inl ⟨rfl, rfl⟩
  | ro xs hc hs hz hx ht => exact .inr ⟨_, _, rfl, hc⟩
  | own xs F hb hfr hc hoff hmax hs hx ht hF hnb hd => exact .inr ⟨_, _, rfl, hc⟩
theorem arg_slice {Z : Fp} {w : World} {ob : Objs} {ρ : Nat → Value} {o sz : Nat} {rows : List (List T)} {v : Value} (h1 : ob o = ⟨0, 0, false, .tree 0 (.sl sz rows)⟩) (h2 : ρ o = v) (h3 : Ow Z w 0 v (.sl sz rows) none_) :
    AVR w ob ρ (.h o 0 0 [] sz 0 rows.length) v := by
  have hin := h3.slice_inv
  refine .h ?_ ?_ fun _ => ?_
  · rw [h1]; exact ⟨Nat.le_refl _, fun _ h => absurd rfl h⟩
  · rcases hin with ⟨rfl, rfl⟩ | ⟨a, c, rfl, hc⟩
    · exact ⟨none, 0, rfl, Nat.le_refl _, fun _ => rfl⟩
    · exact ⟨some a, c, rfl, hc, fun h => by cases h⟩
  · rw [h1, h2]
    refine ⟨fun cells h => by (dsimp only at h; cases h), fun lvl t hc => ?_⟩
    dsimp only at hc
    cases hc
    refine ⟨v, rows, .here, by omega, ?_⟩
    rcases hin with ⟨rfl, rfl⟩ | ⟨a, c, rfl, hc⟩
    · exact .inl ⟨rfl, rfl, rfl, rfl⟩
    · refine .inr ⟨a, rows.length, c, 0, c, rfl, ?_, hc, by omega, Nat.le_refl _, fun _ => rfl⟩
      rw [Nat.zero_mul]
      cases a with
      | mk b off s => cases s <;> simp [Addr.add]
/-- A call from the outside. -/
theorem FnOk.outside {P : Program} {W : World} {f : FuncId} {args : List AV} {conts : List Cont} {r : Res} (h : FnOk P f args conts r) (vals : List Value)
    (ho : ∀ (i : Nat) c, conts[i]? = some c → ∃ t v, c = .tree 0 t ∧ vals[i]? = some v ∧ Ow (fun k => k < W.heap.size) W 0 v t none_) (vs : Array Value) (hs : vs.size = args.length)
    (hA : ∀ (i : Nat) x, args[i]? = some x → AVR W (obIn conts) (fun o => vals.getD (o - 1000000) undef) x (vs.getD i undef)) :
    Calls P f vs W (fun e w' => ∃ v, e = .returned v ∧ Below W.heap.size W w' ∧ ∃ ob' ρ', AVR w' ob' ρ' r.v v) := by
  have hI : OInv W none_ (obIn conts) W (fun o => vals.getD (o - 1000000) undef) (fun _ => none_) (fun k => k < W.heap.size) := by
    refine ⟨Keep.refl _ _, fun k hk _ => hk, fun k hk => hk, fun o k hk => hk.elim, fun o o' k hk => hk.elim, fun o k hk => hk.elim, fun o => ?_⟩
    unfold ObOk
    by_cases h1 : 1000000 ≤ o
    · simp only [obIn, h1, if_true]
      cases hc : conts[o - 1000000]? with
      | none =>
        have e : conts.getD (o - 1000000) .dead = .dead := by simp [List.getD, hc]
        rw [e]
        exact fun k hk => hk
      | some c =>
        obtain ⟨t, v, rfl, hv, how⟩ := ho _ _ hc
        have e : conts.getD (o - 1000000) .dead = .tree 0 t := by simp [List.getD, hc]
        have e2 : vals.getD (o - 1000000) undef = v := by simp [List.getD, hv]
        rw [e, e2]
        exact how
    · simp only [obIn, h1, if_false]
      exact fun k hk => hk
  have hr := h.run W none_ _ _ _ vs hI (fun k _ hk => hk) hs hA
  intro cs
  obtain ⟨e, w', fr, hR, hC, hfn, hl⟩ := hr cs
  refine ⟨e, w', fr, ?_, hC, hfn, hl⟩
  cases e with
  | returned v =>
    obtain ⟨ρ', φ', Z', hst, hav⟩ := hR
    exact ⟨v, rfl, ⟨hst.inv.keep.os, hst.inv.keep.tape, hst.inv.keep.output, hst.inv.keep.size, fun k hk => hst.inv.keep.block k hk id⟩, _, _, hav⟩
  | _ => exact hR.elim
theorem AVR.bool_inv {w : World} {ob : Objs} {ρ : Nat → Value} {b : Bool} {v : Value} (h : AVR w ob ρ (.s (.bool b)) v) : v = .bool b := by
  cases h; rfl
end Go.Proofs.YtlobpiebphnkiaaGreat.Abs
namespace Go.Proofs.YtlobpiebphnkiaaGreat.Abs
open Go Go.Proofs Go.RowKit
set_option linter.unusedVariables false
set_option linter.unusedSimpArgs false
attribute [local irreducible] callE
theorem ints_Ins {ts : List T} (h : IntsM 5 ts) : ∃ x : Ins, True ∧ ts = rIns x := by
  obtain ⟨zs, hz, rfl⟩ := h
  match zs, hz with
  | [a, b, c, d, e], _ => exact ⟨⟨a, b, c, d, e⟩, trivial, rfl⟩
theorem ints_Event {ts : List T} (h : IntsM 3 ts) : ∃ x : Event, True ∧ ts = rEvent x := by
  obtain ⟨zs, hz, rfl⟩ := h
  match zs, hz with
  | [a, b, c], _ => exact ⟨⟨a, b, c⟩, trivial, rfl⟩
set_option maxRecDepth 20000 in
theorem opens_Ins : Opens Tryz.prog 222 5 (fun ts => ∃ x : Ins, True ∧ ts = rIns x) :=
  (Opens.struct Tryz.underlying222 (by kernel_rfl) (.int rfl (by kernel_rfl) Tryz.underlying3 (.int rfl (by kernel_rfl) Tryz.underlying3 (.int rfl (by kernel_rfl) Tryz.underlying3 (.int rfl (by kernel_rfl) Tryz.underlying3 (.int rfl (by kernel_rfl) Tryz.underlying3 .nil)))))).mono fun _ => ints_Ins
set_option maxRecDepth 20000 in
theorem opens_Event : Opens Tryz.prog 226 3 (fun ts => ∃ x : Event, True ∧ ts = rEvent x) :=
  (Opens.struct Tryz.underlying226 (by kernel_rfl) (.int rfl (by kernel_rfl) Tryz.underlying3 (.int rfl (by kernel_rfl) Tryz.underlying3 (.int rfl (by kernel_rfl) Tryz.underlying3 .nil)))).mono fun _ => ints_Event
set_option maxRecDepth 20000 in
theorem opens_InsS : Opens Tryz.prog 174 1 (fun ts => ∃ l : List Ins, l.length ≤ 140737488355328 ∧ ts = [.sl 5 (l.map rIns)]) :=
  (Opens.slice (sz := 5) (B := 40) Tryz.underlying174 (by kernel_rfl) (by kernel_rfl) (by decide) opens_Ins).mono fun ts h => by
    obtain ⟨rows, rfl, h1, h2⟩ := h
    obtain ⟨l, rfl, hl⟩ := rows_map h1
    rw [List.length_map] at h2
    have := reachBytes_lt
    exact ⟨l, by omega, rfl⟩
set_option maxRecDepth 20000 in
theorem opens_EventS : Opens Tryz.prog 180 1 (fun ts => ∃ l : List Event, l.length ≤ 140737488355328 ∧ ts = [.sl 3 (l.map rEvent)]) :=
  (Opens.slice (sz := 3) (B := 24) Tryz.underlying180 (by kernel_rfl) (by kernel_rfl) (by decide) opens_Event).mono fun ts h => by
    obtain ⟨rows, rfl, h1, h2⟩ := h
    obtain ⟨l, rfl, hl⟩ := rows_map h1
    rw [List.length_map] at h2
    have := reachBytes_lt
    exact ⟨l, by omega, rfl⟩
set_option maxRecDepth 20000 in
theorem opens_ints : Opens Tryz.prog 28 1 (fun ts => ∃ l : List Int, l.length ≤ 140737488355328 ∧ ts = [.sl 1 (l.map rI)]) :=
  (Opens.slice (sz := 1) (B := 8) Tryz.underlying28 (by kernel_rfl) (by kernel_rfl) (by decide) (Opens.int Tryz.underlying3)).mono fun ts h => by
    obtain ⟨rows, rfl, h1, h2⟩ := h
    obtain ⟨l, rfl, _⟩ := rows_map (f := rI) (p := fun _ => True) (fun r hr => by obtain ⟨n, _, rfl⟩ := h1 r hr; exact ⟨n, trivial, rfl⟩)
    rw [List.length_map] at h2
    have := reachBytes_lt
    exact ⟨l, by omega, rfl⟩
set_option maxRecDepth 20000 in
theorem opens_State : Opens Tryz.prog 176 4 (fun ts => ∃ x : State, (x.regs.length ≤ 140737488355328 ∧ x.out.length ≤ 140737488355328) ∧ ts = rState x) :=
  (Opens.struct Tryz.underlying176 (by kernel_rfl) (.mcons rfl (by kernel_rfl) (Opens.int Tryz.underlying3) (.mcons rfl (by kernel_rfl) opens_ints (.mcons rfl (by kernel_rfl) opens_ints (.mcons rfl (by kernel_rfl) (Opens.int Tryz.underlying3) .mnil))))).mono fun ts h => by
    obtain ⟨_, _, rfl, ⟨a, _, rfl⟩, _, _, rfl, ⟨r, hr, rfl⟩, _, _, rfl, ⟨o, ho, rfl⟩, _, _, rfl, ⟨c, _, rfl⟩, rfl⟩ := h
    exact ⟨⟨a, r, o, c⟩, ⟨hr, ho⟩, rfl⟩
set_option maxRecDepth 20000 in
theorem opens_StateS : Opens Tryz.prog 23 1 (fun ts => ∃ l : List State, (l.length ≤ 140737488355328 ∧ ∀ j : Nat, j < l.length → (rd l j).regs.length ≤ 140737488355328 ∧ (rd l j).out.length ≤ 140737488355328) ∧ ts = [.sl 4 (l.map rState)]) :=
  (Opens.slice (sz := 4) (B := 64) Tryz.underlying23 (by kernel_rfl) (by kernel_rfl) (by decide) opens_State).mono fun ts h => by
    obtain ⟨rows, rfl, h1, h2⟩ := h
    obtain ⟨l, rfl, hl⟩ := rows_map h1
    rw [List.length_map] at h2
    have := reachBytes_lt
    exact ⟨l, ⟨by omega, fun j hj => hl _ (rd_mem hj)⟩, rfl⟩
set_option maxRecDepth 20000 in
theorem opens_Item : Opens Tryz.prog 224 2 (fun ts => ∃ x : Item, True ∧ ts = rItem x) :=
  (Opens.struct Tryz.underlying224 (by kernel_rfl) (.mcons rfl (by kernel_rfl) (Opens.bool Tryz.underlying4) (.mcons rfl (by kernel_rfl) (Opens.int Tryz.underlying3) .mnil))).mono fun ts h => by
    obtain ⟨_, _, rfl, ⟨a, rfl⟩, _, _, rfl, ⟨r, _, rfl⟩, rfl⟩ := h
    exact ⟨⟨a, r⟩, trivial, rfl⟩
set_option maxRecDepth 20000 in
theorem opens_ItemS : Opens Tryz.prog 178 1 (fun ts => ∃ l : List Item, l.length ≤ 140737488355328 ∧ ts = [.sl 2 (l.map rItem)]) :=
  (Opens.slice (sz := 2) (B := 16) Tryz.underlying178 (by kernel_rfl) (by kernel_rfl) (by decide) opens_Item).mono fun ts h => by
    obtain ⟨rows, rfl, h1, h2⟩ := h
    obtain ⟨l, rfl, hl⟩ := rows_map h1
    rw [List.length_map] at h2
    have := reachBytes_lt
    exact ⟨l, by omega, rfl⟩
theorem opens_SS {α : Type} {t e : TypeId} {f : α → List T} {sz : Nat} (ht : (Tryz.prog).underlying t = some (.slice e)) (hc : (Tryz.prog).cellsOf e = 1) (hB : (Tryz.prog).bytesOf e = 24)
    (h : Opens Tryz.prog e 1 (fun ts => ∃ l : List α, l.length ≤ 140737488355328 ∧ ts = [.sl sz (l.map f)])) :
    Opens Tryz.prog t 1 (fun ts => ∃ l : List (List α), (l.length ≤ 140737488355328 ∧ ∀ j : Nat, j < l.length → (rd l j).length ≤ 140737488355328) ∧ ts = [.sl 1 (l.map fun x => [T.sl sz (x.map f)])]) :=
  (Opens.slice (sz := 1) (B := 24) ht hc hB (by decide) h).mono fun ts h => by
    obtain ⟨rows, rfl, h1, h2⟩ := h
    obtain ⟨l, rfl, hl⟩ := rows_map h1
    rw [List.length_map] at h2
    have := reachBytes_lt
    exact ⟨l, ⟨by omega, fun j hj => hl _ (rd_mem hj)⟩, rfl⟩
set_option maxRecDepth 20000 in
theorem opens_Sys : Opens Tryz.prog 27 4 (fun ts => ∃ X : Sys, SysB 140737488355328 X.progs X.states X.ways X.hist ∧ ts = [.sl 1 (X.progs.map rInsL), .sl 4 (X.states.map rState), .sl 1 (X.ways.map rItemL), .sl 1 (X.hist.map rEventL)]) :=
  (Opens.struct Tryz.underlying27 (by kernel_rfl) (.mcons rfl (by kernel_rfl) (opens_SS Tryz.underlying22 (by kernel_rfl) (by kernel_rfl) opens_InsS) (.mcons rfl (by kernel_rfl) opens_StateS (.mcons rfl (by kernel_rfl) (opens_SS Tryz.underlying24 (by kernel_rfl) (by kernel_rfl) opens_ItemS) (.mcons rfl (by kernel_rfl) (opens_SS Tryz.underlying25 (by kernel_rfl) (by kernel_rfl) opens_EventS) .mnil))))).mono fun ts h => by
    obtain ⟨_, _, rfl, ⟨P, hP, rfl⟩, _, _, rfl, ⟨S, hS, rfl⟩, _, _, rfl, ⟨W, hW, rfl⟩, _, _, rfl, ⟨X, hX, rfl⟩, rfl⟩ := h
    exact ⟨⟨P, S, W, X⟩, ⟨hP.1, hP.2, hS.1, hS.2, hW.1, hW.2, hX.1, hX.2⟩, rfl⟩
/-- Where a system lies. -/
def SysAt (w : World) (v : Value) (X : Sys) : Prop := ∃ a0 a1 a2 a3, v = .agg #[a0, a1, a2, a3] ∧ Ow (fun k => k < w.heap.size) w 0 a0 (.sl 1 (X.progs.map rInsL)) none_ ∧ Ow (fun k => k < w.heap.size) w 0 a1 (.sl 4 (X.states.map rState)) none_ ∧
  Ow (fun k => k < w.heap.size) w 0 a2 (.sl 1 (X.ways.map rItemL)) none_ ∧ Ow (fun k => k < w.heap.size) w 0 a3 (.sl 1 (X.hist.map rEventL)) none_
structure Stop where
  p : Int
  kind : Int
  v : Int
set_option maxRecDepth 20000 in
theorem opens_bools : Opens Tryz.prog 29 1 (fun ts => ∃ l : List Bool, l.length ≤ 140737488355328 ∧ ts = [.sl 1 (l.map rBool)]) :=
  (Opens.slice (sz := 1) (B := 1) Tryz.underlying29 (by kernel_rfl) (by kernel_rfl) (by decide) (Opens.bool Tryz.underlying4)).mono fun ts h => by
    obtain ⟨rows, rfl, h1, h2⟩ := h
    obtain ⟨l, rfl, _⟩ := rows_map (f := rBool) (p := fun _ => True) (fun r hr => by obtain ⟨n, rfl⟩ := h1 r hr; exact ⟨n, trivial, rfl⟩)
    rw [List.length_map] at h2
    have := reachBytes_lt
    exact ⟨l, by omega, rfl⟩
structure Shot where
  on : Bool
  cut : List Int
  opn : List Bool
  kept : List (List Int)
structure Live where
  s : Sys
  shot : Shot
set_option maxRecDepth 20000 in
theorem opens_Shot : Opens Tryz.prog 32 4 (fun ts => ∃ X : Shot, ShotB 140737488355328 X.cut X.opn X.kept ∧ ts = [.v (.bool X.on), .sl 1 (X.cut.map rI), .sl 1 (X.opn.map rBool), .sl 1 (X.kept.map rIntL)]) :=
  (Opens.struct Tryz.underlying32 (by kernel_rfl) (.mcons rfl (by kernel_rfl) (Opens.bool Tryz.underlying4) (.mcons rfl (by kernel_rfl) opens_ints (.mcons rfl (by kernel_rfl) opens_bools (.mcons rfl (by kernel_rfl) (opens_SS Tryz.underlying30 (by kernel_rfl) (by kernel_rfl) opens_ints) .mnil))))).mono fun ts h => by
    obtain ⟨_, _, rfl, ⟨b, rfl⟩, _, _, rfl, ⟨c, hc, rfl⟩, _, _, rfl, ⟨o, ho, rfl⟩, _, _, rfl, ⟨k, hk, rfl⟩, rfl⟩ := h
    exact ⟨⟨b, c, o, k⟩, ⟨hc, ho, hk.1, hk.2⟩, rfl⟩
set_option maxRecDepth 20000 in
theorem opens_Live : Opens Tryz.prog 34 8 (fun ts => ∃ X : Live, (SysB 140737488355328 X.s.progs X.s.states X.s.ways X.s.hist ∧ ShotB 140737488355328 X.shot.cut X.shot.opn X.shot.kept) ∧
    ts = [.sl 1 (X.s.progs.map rInsL), .sl 4 (X.s.states.map rState), .sl 1 (X.s.ways.map rItemL), .sl 1 (X.s.hist.map rEventL), .v (.bool X.shot.on), .sl 1 (X.shot.cut.map rI), .sl 1 (X.shot.opn.map rBool), .sl 1 (X.shot.kept.map rIntL)]) :=
  (Opens.struct Tryz.underlying34 (by kernel_rfl) (.mcons rfl (by kernel_rfl) opens_Sys (.mcons rfl (by kernel_rfl) opens_Shot .mnil))).mono fun ts h => by
    obtain ⟨_, _, rfl, ⟨X, hX, rfl⟩, _, _, rfl, ⟨Y, hY, rfl⟩, rfl⟩ := h
    exact ⟨⟨X, Y⟩, ⟨hX, hY⟩, rfl⟩
/-- Where a live system lies. -/
def LiveAt (w : World) (v : Value) (X : Live) : Prop := ∃ a0 a1 a2 a3 a5 a6 a7, v = .agg #[a0, a1, a2, a3, .bool X.shot.on, a5, a6, a7] ∧ Ow (fun k => k < w.heap.size) w 0 a0 (.sl 1 (X.s.progs.map rInsL)) none_ ∧ Ow (fun k => k < w.heap.size) w 0 a1 (.sl 4 (X.s.states.map rState)) none_ ∧
  Ow (fun k => k < w.heap.size) w 0 a2 (.sl 1 (X.s.ways.map rItemL)) none_ ∧ Ow (fun k => k < w.heap.size) w 0 a3 (.sl 1 (X.s.hist.map rEventL)) none_ ∧ Ow (fun k => k < w.heap.size) w 0 a5 (.sl 1 (X.shot.cut.map rI)) none_ ∧
  Ow (fun k => k < w.heap.size) w 0 a6 (.sl 1 (X.shot.opn.map rBool)) none_ ∧ Ow (fun k => k < w.heap.size) w 0 a7 (.sl 1 (X.shot.kept.map rIntL)) none_
theorem eight {α : Type} {l : Array α} (h : l.size = 8) : ∃ a b c d e f g i, l = #[a, b, c, d, e, f, g, i] := by
  obtain ⟨l⟩ := l
  match l, h with
  | [a, b, c, d, e, f, g, i], _ => exact ⟨a, b, c, d, e, f, g, i, rfl⟩
set_option maxRecDepth 20000 in
theorem open_Live {H : Type} {enc : TypeId × Value → H} {w : World} {base : Nat} {sp : Nat → Bool} {held : Bool} {v : Value} {d : DataW H} {ps : List MemPlace} {r : Go.Reach} {b0 : Nat}
    (hval : Value.okWide Tryz.prog w r b0 34 v) (h : DataW.Trod enc Tryz.prog w base sp held 34 v d ps) (hw : ∀ m ∈ d.weights Tryz.prog 34, m ≤ reachBytes) :
    ∃ X : Live, (SysB 140737488355328 X.s.progs X.s.states X.s.ways X.s.hist ∧ ShotB 140737488355328 X.shot.cut X.shot.opn X.shot.kept) ∧ LiveAt w v X := by
  obtain ⟨cs, rfl, hsz⟩ := Go.WideShapes.okWide_struct Tryz.underlying34 hval
  have hsz4 : cs.size = 8 := hsz.trans (by kernel_rfl)
  obtain ⟨a0, a1, a2, a3, a4, a5, a6, a7, rfl⟩ := eight hsz4
  obtain ⟨fuel, hf⟩ := h
  obtain ⟨_, ts, h1, ⟨X, hX, rfl⟩, h3⟩ := opens_Live H enc w base sp held fuel _ _ hf hw
  have g : ∀ {v : Value} {x : Value} {Z : Fp} {l : Nat}, Ow Z w l v (.v x) none_ → v = x := by
    intro v x Z l h
    cases h
    rfl
  have e4 := g (h3 4 _ _ rfl rfl)
  exact ⟨X, hX, a0, a1, a2, a3, a5, a6, a7, by rw [← e4], h3 0 _ _ rfl rfl, h3 1 _ _ rfl rfl, h3 2 _ _ rfl rfl, h3 3 _ _ rfl rfl, h3 5 _ _ rfl rfl, h3 6 _ _ rfl rfl, h3 7 _ _ rfl rfl⟩
theorem arg_Live {Z : Fp} {w : World} {ob : Objs} {ρ : Nat → Value} {j : Nat} {P : List (List Ins)} {S : List State} {W : List (List Item)} {H : List (List Event)} {on : Bool} {cut : List Int} {opn : List Bool} {kept : List (List Int)} {a0 a1 a2 a3 a5 a6 a7 : Value}
    (g0 : Ow Z w 0 a0 (.sl 1 (P.map rInsL)) none_) (g1 : Ow Z w 0 a1 (.sl 4 (S.map rState)) none_) (g2 : Ow Z w 0 a2 (.sl 1 (W.map rItemL)) none_) (g3 : Ow Z w 0 a3 (.sl 1 (H.map rEventL)) none_)
    (g5 : Ow Z w 0 a5 (.sl 1 (cut.map rI)) none_) (g6 : Ow Z w 0 a6 (.sl 1 (opn.map rBool)) none_) (g7 : Ow Z w 0 a7 (.sl 1 (kept.map rIntL)) none_)
    (e0 : ob (1000000 + j) = ⟨0, 0, false, tInsSS P⟩) (e1 : ob (1000001 + j) = ⟨0, 0, false, tStateS S⟩) (e2 : ob (1000002 + j) = ⟨0, 0, false, tItemSS W⟩) (e3 : ob (1000003 + j) = ⟨0, 0, false, tEventSS H⟩)
    (e5 : ob (1000004 + j) = ⟨0, 0, false, tI cut⟩) (e6 : ob (1000005 + j) = ⟨0, 0, false, tBool opn⟩) (e7 : ob (1000006 + j) = ⟨0, 0, false, tIntSS kept⟩)
    (r0 : ρ (1000000 + j) = a0) (r1 : ρ (1000001 + j) = a1) (r2 : ρ (1000002 + j) = a2) (r3 : ρ (1000003 + j) = a3) (r5 : ρ (1000004 + j) = a5) (r6 : ρ (1000005 + j) = a6) (r7 : ρ (1000006 + j) = a7) :
    AVR w ob ρ (aLive j P S W H on cut opn kept) (.agg #[a0, a1, a2, a3, .bool on, a5, a6, a7]) := by
  have h0 := arg_slice e0 r0 g0
  have h1 := arg_slice e1 r1 g1
  have h2 := arg_slice e2 r2 g2
  have h3 := arg_slice e3 r3 g3
  have h5 := arg_slice e5 r5 g5
  have h6 := arg_slice e6 r6 g6
  have h7 := arg_slice e7 r7 g7
  rw [List.length_map] at h0 h1 h2 h3 h5 h6 h7
  refine .ag rfl ?_
  rintro (_ | _ | _ | _ | _ | _ | _ | _ | i) y hy
  · cases hy; exact h0
  · cases hy; exact h1
  · cases hy; exact h2
  · cases hy; exact h3
  · cases hy; exact .s rfl
  · cases hy; exact h5
  · cases hy; exact h6
  · cases hy; exact h7
  · simp at hy

/-- The law, of any input. -/
theorem walk_FnExactShotDone {W : World} {v0 : Value} {X : Live} (h1 : SysB 140737488355328 X.s.progs X.s.states X.s.ways X.s.hist ∧ ShotB 140737488355328 X.shot.cut X.shot.opn X.shot.kept)
    (o1 : LiveAt W v0 X) :
    Calls PR 4 #[v0] W (fun e w' => e = .returned (.bool true) ∧ Below W.heap.size W w') := by
  have hF := callE_sound (C := C) tys_ok prims_ok _ _ _ _ _ (ok_laws_FnExactShotDone 0 X.s.progs X.s.states X.s.ways X.s.hist X.shot.on X.shot.cut X.shot.opn X.shot.kept h1.1 h1.2)
  obtain ⟨a0, a1, a2, a3, a5, a6, a7, rfl, g0, g1, g2, g3, g5, g6, g7⟩ := o1
  refine (hF.outside [a0, a1, a2, a3, a5, a6, a7] ?_ #[_] rfl ?_).mono ?_
  · rintro (_ | _ | _ | _ | _ | _ | _ | i) c hc
    · cases hc; exact ⟨_, _, rfl, rfl, g0⟩
    · cases hc; exact ⟨_, _, rfl, rfl, g1⟩
    · cases hc; exact ⟨_, _, rfl, rfl, g2⟩
    · cases hc; exact ⟨_, _, rfl, rfl, g3⟩
    · cases hc; exact ⟨_, _, rfl, rfl, g5⟩
    · cases hc; exact ⟨_, _, rfl, rfl, g6⟩
    · cases hc; exact ⟨_, _, rfl, rfl, g7⟩
    · simp at hc
  · rintro (_ | i) x' hx
    · cases hx
      exact arg_Live g0 g1 g2 g3 g5 g6 g7 rfl rfl rfl rfl rfl rfl rfl rfl rfl rfl rfl rfl rfl rfl
    · simp at hx
  · rintro e w' ⟨v, rfl, hb, ob', ρ', hv⟩
    exact ⟨by rw [hv.bool_inv], hb⟩

end Go.Proofs.YtlobpiebphnkiaaGreat.Abs
namespace Go.Proofs.YtlobpiebphnkiaaGreat.fnExactShotDone
open Go Go.Proofs Go.ChangeShapes Go.WideShapes Go.RowKit Go.Proofs.YtlobpiebphnkiaaGreat.Abs
set_option linter.unusedVariables false
theorem own : ownKnob Tryz.prog.godebug = none := by kernel_rfl
theorem laidOut : laidOutB Tryz.prog = true := by kernel_rfl
set_option maxRecDepth 100000 in
theorem lifted (os : Os) (started : os.Started) (H : Type) (enc : TypeId × Value → H) :
    ReturnsInHanded {} Tryz.checked os 4 .any (Rows.fnExactShotDoneSpec.pre6 enc Tryz.prog Tryz.f4 Rows.fnExactShotDoneRow.domain false) (Rows.fnExactShotDoneSpec.post enc Tryz.prog Tryz.f4 false true false false) := by
  refine returnsInHanded_of_change_sized (C := Tryz.checked) own started (by kernel_rfl) Tryz.func4
    (ChangeSpec.witness6 (enc := enc) (C := Tryz.checked) false ⟨#[], #[.agg #[.slice none 0 0, .slice none 0 0, .slice none 0 0, .slice none 0 0, .bool false, .slice none 0 0, .slice none 0 0, .slice none 0 0]], []⟩ 8 (by kernel_rfl) (by kernel_rfl) (by kernel_rfl) (by kernel_rfl)) ?_
  intro W base args ds gs before hval0 hW hcnd hsz0 _
  have hsz : (DataW.weightsEach Tryz.prog (Tryz.f4.params.toList ++ Rows.fnExactShotDoneSpec.plain.varTypes Tryz.prog) (ds ++ gs)).all (· ≤ reachBytes) = true := hsz0
  have hval : ∀ (j : Nat) t v, Tryz.f4.params[j]? = some t → args[j]? = some v → Value.okWide Tryz.prog W .any base t v := hval0
  have hW' := hW
  obtain ⟨p, q, hA0, hV, rfl, hfz, hnd⟩ := hW
  have hA : DataW.TrodAll enc Tryz.prog W 0 (fun _ => true) true Tryz.f4.params.toList args.toList ds p := hA0
  rw [Tryz.params4] at hA hval hsz
  obtain ⟨v0, vs0, d0, ds0, p0, q0, hargs, rfl, rfl, h0, r0⟩ := trodAll_cons hA
  obtain ⟨rfl, rfl, rfl⟩ := trodAll_nil r0
  obtain rfl : args = #[v0] := by cases args; simp_all
  obtain ⟨rfl, rfl⟩ := trodVars_none hV
  have hwt : ∀ (j : Nat) t d, [34][j]? = some t → [d0][j]? = some d → ∀ m ∈ d.weights Tryz.prog t, m ≤ reachBytes := by
    intro j t d ht hd m hm
    have := List.all_eq_true.1 hsz m (DataW.weights_mem_each (j := j) (t := t) (d := d) ht hd m hm)
    simpa using this
  have k0 := h0
  have lt0 : ∀ x ∈ p0, x.block < W.heap.size := by obtain ⟨m, hm⟩ := k0; exact DataW.trod_lt m _ _ _ hm
  obtain ⟨l0, s0, o0⟩ := open_Live (hval 0 34 v0 rfl rfl) h0 (hwt 0 _ _ rfl rfl)
  clear hA0 hval0 hsz0 hsz hwt
  refine (walk_FnExactShotDone s0 o0).mono fun e W' ⟨he, bel⟩ => ?_
  subst he
  exact ⟨_, rfl, _, _, _, [], _, [], hW', trodAll_mk1 (shut_bool Tryz.underlying4 _), (trodAll_cons_mk (Below.trod laidOut (by kernel_rfl) (of_decide_eq_true (by kernel_rfl)) k0 bel lt0) trodAll_mk0), rfl, bel.frame _, fun h => by cases h⟩
theorem andT {a b : Bool} (h1 : a = true) (h2 : b = true) : (a && b) = true := by rw [h1, h2]; rfl
theorem j0 : Rows.fnExactShotDoneRow.wf (OpenSpec.ofChange Rows.fnExactShotDoneSpec) = true := by kernel_rfl
theorem j1 : laidOutB Tryz.prog = true := by kernel_rfl
theorem j2 : mapsRowed Tryz.prog = true := by kernel_rfl
theorem j3 : Tryz.f4.params.all (Tryz.prog.readableRec ·) = true := by kernel_rfl
theorem j4 : namedTie Tryz.prog Rows.fnExactShotDoneRow.named Rows.fnExactShotDoneSpec.vars = true := by kernel_rfl
theorem j5 : (Rows.fnExactShotDoneRow.stops == []) = true := by kernel_rfl
theorem j6 : (Tryz.prog.stops == []) = true := by kernel_rfl
theorem j7 : (Rows.fnExactShotDoneRow.knobs == []) = true := by kernel_rfl
theorem j8 : (Tryz.prog.stopKnobs == []) = true := by kernel_rfl
theorem j9 : (Rows.fnExactShotDoneRow.inPlace == Tryz.prog.inPlace 4) = true := by kernel_rfl
theorem j10 : (Rows.fnExactShotDoneRow.unfollowed == Tryz.prog.unfollowed 4) = true := by kernel_rfl
theorem j11 : (Rows.fnExactShotDoneRow.recurses == Tryz.prog.recurses 4) = true := by kernel_rfl
theorem j12 : (Rows.fnExactShotDoneRow.named == Tryz.prog.varsNamed 4) = true := by kernel_rfl
theorem j13 : (Rows.fnExactShotDoneRow.maps == (Tryz.f4.params.toList ++ Rows.fnExactShotDoneSpec.plain.varTypes Tryz.prog).any (Tryz.prog.mapsRec ·)) = true := by kernel_rfl
theorem j14 : (Rows.fnExactShotDoneRow.ifaces == (Tryz.f4.params.toList ++ Rows.fnExactShotDoneSpec.plain.varTypes Tryz.prog).any (Tryz.prog.ifacesRec ·)) = true := by kernel_rfl
theorem j15 : (Rows.fnExactShotDoneRow.mapsOut == Tryz.prog.mapsAmong Tryz.f4.resultTypes.toList) = true := by kernel_rfl
theorem j16 : (Rows.fnExactShotDoneRow.loops == (Tryz.f4.params.toList ++ Rows.fnExactShotDoneSpec.plain.varTypes Tryz.prog).any (Tryz.prog.loopsFrom ·)) = true := by kernel_rfl
theorem j17 : (Rows.fnExactShotDoneRow.wideKeys == (Tryz.f4.params.toList ++ Rows.fnExactShotDoneSpec.plain.varTypes Tryz.prog ++ Tryz.f4.resultTypes.toList).any (Tryz.prog.wideKeysFrom ·)) = true := by kernel_rfl
theorem j18 : Rows.fnExactShotDoneSpec.vars.all (Tryz.prog.varReadable ·) = true := by kernel_rfl
theorem j19 : Tryz.f4.resultTypes.all (fun t => Tryz.prog.readableRec t && decide (t < Tryz.prog.types.size)) = true := by kernel_rfl
theorem j20 : (Rows.fnExactShotDoneRow.ifacesOut == Tryz.f4.resultTypes.toList.any (Tryz.prog.ifacesRec ·)) = true := by kernel_rfl
theorem j21 : (Rows.fnExactShotDoneRow.loopsOut == Tryz.f4.resultTypes.toList.any (Tryz.prog.loopsFrom ·)) = true := by kernel_rfl
theorem j22 : (Rows.fnExactShotDoneRow.plainKeys == Tryz.prog.plainKeys) = true := by kernel_rfl
theorem j23 : Rows.fnExactShotDoneRow.shortTexts.isNone = true := by kernel_rfl
theorem j24 : Tryz.prog.stopsHeard = true := by kernel_rfl
theorem j25 : Tryz.prog.mayEnter = true := by kernel_rfl
theorem j26 : (Rows.fnExactShotDoneRow.lifted == Tryz.prog.liftsFinal) = true := by kernel_rfl
theorem j27 : (Tryz.prog.make == some Rows.fnExactShotDoneRow.make) = true := by kernel_rfl
theorem j28 : (Rows.fnExactShotDoneRow.kinds == (if Rows.fnExactShotDoneRow.domain.isEmpty then [] else Tryz.f4.params.toList.map fun t => match Tryz.prog.underlying t with | some (.int k) => some k | _ => none)) = true := by kernel_rfl
theorem j29 : (Rows.fnExactShotDoneRow.pinned == Rows.fnExactShotDoneRow.pinnedBy) = true := by kernel_rfl
theorem j30 : (Rows.fnExactShotDoneRow.veiled == (Tryz.f4.params.toList ++ Rows.fnExactShotDoneSpec.plain.varTypes Tryz.prog ++ Tryz.f4.resultTypes.toList).any (Tryz.prog.veiledRec ·)) = true := by kernel_rfl
theorem j31 : Rows.fnExactShotDoneRow.veiledFits Tryz.prog Tryz.f4.params.toList (Tryz.f4.params.toList ++ Rows.fnExactShotDoneSpec.plain.varTypes Tryz.prog ++ Tryz.f4.resultTypes.toList) = true := by kernel_rfl
set_option maxRecDepth 100000 in
theorem joined : joinedFacts Tryz.prog 4 Tryz.f4 Rows.fnExactShotDoneSpec Rows.fnExactShotDoneRow = true := by
  unfold joinedFacts
  exact andT (andT (andT (andT (andT (andT (andT (andT (andT (andT (andT (andT (andT (andT (andT (andT (andT (andT (andT (andT (andT (andT (andT (andT (andT (andT (andT (andT (andT (andT (andT j0 j1) j2) j3) j4) j5) j6) j7) j8) j9) j10) j11) j12) j13) j14) j15) j16) j17) j18) j19) j20) j21) j22) j23) j24) j25) j26) j27) j28) j29) j30) j31
theorem over : Rows.fnExactShotDoneRow.holds Tryz.pinned (OpenSpec.ofChange Rows.fnExactShotDoneSpec) :=
  OpenClaim.holds_of_wide 4 Tryz.f4 rfl rfl rfl rfl rfl rfl rfl ⟨rfl, rfl, rfl, rfl, rfl⟩ rfl rfl rfl rfl rfl (by kernel_rfl) Tryz.func4 joined
    (of_decide_eq_true (by kernel_rfl)) (by unfold Func.isWrapper; first | (rw [if_pos (by decide +kernel)]; kernel_rfl) | (rw [if_neg (by decide +kernel)]; exact ⟨rfl, rfl⟩))
    (fun os started H enc _ => lifted os started H enc)
theorem proved : Rows.FnExactShotDoneSaid := over
#print axioms proved
end Go.Proofs.YtlobpiebphnkiaaGreat.fnExactShotDone
namespace Go.Proofs.YtlobpiebphnkiaaGreat
/-- The row, under a short name, for the claim. -/
theorem fnExactShotDone_holds : Rows.FnExactShotDoneSaid := fnExactShotDone.proved
end Go.Proofs.YtlobpiebphnkiaaGreat

