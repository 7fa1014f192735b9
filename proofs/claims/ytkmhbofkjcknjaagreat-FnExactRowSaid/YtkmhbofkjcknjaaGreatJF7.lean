/- FnExactRow returns true for every input, and leaves its arguments as they read. Conditions: none beside the row's own. -/
import Derived.ChangeSame
import Derived.SizedLaws
import Derived.DataReads
import Derived.Carry
import Derived.WideShapes
import Derived.KernelRfl
import Derived.Test.YtkmhbofkjcknjaaGreatRows
import Derived.WalkKit
import Derived.ProofKit
import Derived.OpenShut
import Derived.ShutString
import Derived.ChangeOld
import Derived.Below
import Derived.Test.YtkmhbofkjcknjaaGreatJF6
namespace Go.Proofs.YtkmhbofkjcknjaaGreat.Abs
open Go Go.Proofs
set_option linter.unusedVariables false
set_option linter.unusedSimpArgs false
attribute [local irreducible] callE
theorem rd_at {α : Type} [Inhabited α] {l : List α} {i : Nat} (h : i < l.length) : rd l i = l[i] := by simp [rd, h]
structure SP where
  j : Nat
  b1 : Nat
  b2 : Nat
set_option maxHeartbeats 8000000 in
theorem ok_spec_SysOk (k : Nat) (P : List (List Ins)) (S : List State) (W : List (List Item)) (H : List (List Event)) (hb : SysB 10000000000 P S W H) :
    callE PR C (k + 7) 19 [aSys 0 P S W H] [tInsSS P, tStateS S, tItemSS W, tEventSS H] = some ⟨bl (sysOk P S W H), [], [none, none, none, none]⟩ := by
  have b1 := hb.p
  have b2 := hb.s
  have b3 := hb.w
  have b4 := hb.h
  have q0 := fun k => ok_spec_l1In k (P.length : Int) 1 4
  by_cases d1 : 1 ≤ (P.length : Int) ∧ (P.length : Int) ≤ 4
  · rw [decide_eq_true d1] at q0
    have hnn : P.length * P.length ≤ 4 * 4 := Nat.mul_le_mul (by omega) (by omega)
    have w1 : IntKind.i64.wrap ((P.length : Int) * (P.length : Int)) = ((P.length * P.length : Nat) : Int) := by
      rw [show (P.length : Int) * (P.length : Int) = ((P.length * P.length : Nat) : Int) by simp]; exact wrap_i64 _ (by omega) (by omega)
    by_cases d2 : S.length = P.length
    · by_cases d3 : H.length = P.length
      · by_cases d4 : W.length = P.length * P.length
        · have hI : SysIs P S W H := ⟨by omega, d2, d3, d4⟩
          have eS : sysOk P S W H = (allBelow P.length (procOk' P S H) && ((allBelow P.length fun a => allBelow P.length fun b => pairOk P.length W H a b) && inRow H)) := by
            rw [← sysOk_spec, hI.sizes, Bool.true_and]
          (refine callE_is (callE_w [ResultVar.tmp 2] rfl Tryz.func19 rfl (by decide +kernel) rfl (by simp) ?_); (conv => whnf))
          repeat' ((with_reducible (first | refine sCall.of (q0 _) ?_ | refine sW.eq (w1) ?_ | refine gP ?_ | refine gN ?_ | refine fG.split (fun _ => ?_) (fun _ => ?_) | refine fG.not ?_ | refine gY ?_ | refine gF ?_ | refine fG.yes (flat_map (fun _ => rfl) _) ?_ | refine fG.bool (fun _ => ?_) (fun _ => ?_) | refine gS64 ?_ | refine gU8 ?_ | refine gI13 ?_ | refine fE.of rfl ?_ | refine gBq ?_ | refine gNum13 ?_ | refine gSet ?_ | refine gRd ?_ | refine gLk ?_ | refine gRow13 ?_ | refine fB.of (wide_map (fun _ => rfl) _) ?_ | refine fB.of (full_map (fun _ => rfl) _) ?_ | refine fB.of (full_map (fun x => full_rKept x) _) ?_ | refine fB.of (full_map (fun x => full_rInsL x) _) ?_ | refine fB.of (full_map (fun x => full_rItemL x) _) ?_ | refine fB.of (full_map (fun x => full_rEventL x) _) ?_ | refine fB.of (full_map (fun x => full_rState x) _) ?_ | refine fB.of (full_map (fun x => full_rIntL x) _) ?_ | refine gRf ?_ | refine sDraw.mk' (id := 9) [(1, 14), (4, 14), (6, 14), (9, 14), (10, 14)] (ty := tys) rfl (by decide +kernel) ?_ | refine sDraw.none (id := 10) (ty := tys) rfl (by decide +kernel) ?_ | refine sDraw.none (id := 30) (ty := tys) rfl (by decide +kernel) ?_)) <;> (try (conv => whnf)))
          refine loop_rule (ι := Nat) (fun j => [(1, .pt 1 1 0 [] 0 0), (3, i64 P.length), (4, i64 (j : Nat))])
            (fun _ => [(1000000, ⟨0, 0, false, tInsSS P⟩), (1000001, ⟨0, 0, false, tStateS S⟩), (1000002, ⟨0, 0, false, tItemSS W⟩), (1000003, ⟨0, 0, false, tEventSS H⟩), (1, ⟨1, 0, false, bSys P S W H⟩)])
            (fun j => P.length - j) (fun j => j ≤ P.length ∧ ∀ q, q < j → procOk' P S H q = true) 0 (by (try dsimp only [cond_true, cond_false]); exact ⟨⟨rfl, rfl, rfl, trivial⟩, ⟨rfl, rfl, rfl, rfl, rfl, trivial⟩⟩) ⟨Nat.zero_le _, fun q h => absurd h (Nat.not_lt_zero q)⟩ (by simp [C]; omega) ?_
          rintro p sl ob ⟨hj, hpr⟩
          (try dsimp only [cond_true, cond_false])
          (conv => whnf)
          by_cases hpl : p < P.length
          · have c1 := hb.pp p hpl
            have c2 := hb.hh p (by omega)
            have c3 := hb.ss p (by omega)
            have q1 := fun k => ok_spec_ProgOk k (rd P p) P.length (by omega) (by omega) (by omega)
            have q2 := fun k => ok_spec_Replay' k (rd P p) (rd H p) (by omega) (by omega)
            have hst := stOf_len (rd P p) (rd H p)
            cases e1 : progOk (rd P p) P.length with
            | false =>
              simp only [e1] at q1
              rw [eS, allBelow_no (f := procOk' P S H) hpl (by simp [procOk', e1]), Bool.false_and]
              repeat' ((with_reducible (first | refine sCall.of (q1 _) ?_ | refine gP ?_ | refine gN ?_ | refine fG.split (fun _ => ?_) (fun _ => ?_) | refine fG.not ?_ | refine gY ?_ | refine gF ?_ | refine fG.yes (flat_map (fun _ => rfl) _) ?_ | refine fG.bool (fun _ => ?_) (fun _ => ?_) | refine gS64 ?_ | refine gU8 ?_ | refine gI13 ?_ | refine fE.of rfl ?_ | refine gBq ?_ | refine gNum13 ?_ | refine gSet ?_ | refine gRd ?_ | refine gLk ?_ | refine gRow13 ?_ | refine fB.of (wide_map (fun _ => rfl) _) ?_ | refine fB.of (full_map (fun _ => rfl) _) ?_ | refine fB.of (full_map (fun x => full_rKept x) _) ?_ | refine fB.of (full_map (fun x => full_rInsL x) _) ?_ | refine fB.of (full_map (fun x => full_rItemL x) _) ?_ | refine fB.of (full_map (fun x => full_rEventL x) _) ?_ | refine fB.of (full_map (fun x => full_rState x) _) ?_ | refine fB.of (full_map (fun x => full_rIntL x) _) ?_ | refine gRf ?_ | refine sDraw.mk' (id := 9) [(1, 14), (4, 14), (6, 14), (9, 14), (10, 14)] (ty := tys) rfl (by decide +kernel) ?_ | refine sDraw.none (id := 10) (ty := tys) rfl (by decide +kernel) ?_ | refine sDraw.none (id := 30) (ty := tys) rfl (by decide +kernel) ?_)) <;> (try (conv => whnf)))
            | true =>
              simp only [e1] at q1
              cases e2 : (replayAll (rd P p) (rd H p)).isSome with
              | false =>
                simp only [e2] at q2
                rw [eS, allBelow_no (f := procOk' P S H) hpl (by simp [procOk', stoodAs, e2]), Bool.false_and]
                repeat' ((with_reducible (first | refine sCall.of (q1 _) ?_ | refine sCall.of (q2 _) ?_ | refine gP ?_ | refine gN ?_ | refine fG.split (fun _ => ?_) (fun _ => ?_) | refine fG.not ?_ | refine gY ?_ | refine gF ?_ | refine fG.yes (flat_map (fun _ => rfl) _) ?_ | refine fG.bool (fun _ => ?_) (fun _ => ?_) | refine gS64 ?_ | refine gU8 ?_ | refine gI13 ?_ | refine fE.of rfl ?_ | refine gBq ?_ | refine gNum13 ?_ | refine gSet ?_ | refine gRd ?_ | refine gLk ?_ | refine gRow13 ?_ | refine fB.of (wide_map (fun _ => rfl) _) ?_ | refine fB.of (full_map (fun _ => rfl) _) ?_ | refine fB.of (full_map (fun x => full_rKept x) _) ?_ | refine fB.of (full_map (fun x => full_rInsL x) _) ?_ | refine fB.of (full_map (fun x => full_rItemL x) _) ?_ | refine fB.of (full_map (fun x => full_rEventL x) _) ?_ | refine fB.of (full_map (fun x => full_rState x) _) ?_ | refine fB.of (full_map (fun x => full_rIntL x) _) ?_ | refine gRf ?_ | refine sDraw.mk' (id := 9) [(1, 14), (4, 14), (6, 14), (9, 14), (10, 14)] (ty := tys) rfl (by decide +kernel) ?_ | refine sDraw.none (id := 10) (ty := tys) rfl (by decide +kernel) ?_ | refine sDraw.none (id := 30) (ty := tys) rfl (by decide +kernel) ?_)) <;> (try (conv => whnf)))
              | true =>
                simp only [e2] at q2
                generalize hstd : stOf (replayAll (rd P p) (rd H p)) = st at q2 hst
                have q3 := fun k => ok_spec_l4SameState k st.at_ st.regs st.out st.code (rd S p).at_ (rd S p).regs (rd S p).out (rd S p).code (by omega) (by omega) (by omega) (by omega)
                rw [show sameS st.at_ st.regs st.out st.code (rd S p).at_ (rd S p).regs (rd S p).out (rd S p).code = decide (st = rd S p) from rfl] at q3
                by_cases e3 : st = rd S p
                · rw [decide_eq_true e3] at q3
                  have hsd : stoodAs (rd P p) (rd H p) (rd S p) = true := by simp [stoodAs, e2, hstd, e3]
                  repeat' ((with_reducible (first | refine sCall.of (q1 _) ?_ | refine sCall.of (q2 _) ?_ | refine sCall.of (q3 _) ?_ | refine gP ?_ | refine gN ?_ | refine fG.split (fun _ => ?_) (fun _ => ?_) | refine fG.not ?_ | refine gY ?_ | refine gF ?_ | refine fG.yes (flat_map (fun _ => rfl) _) ?_ | refine fG.bool (fun _ => ?_) (fun _ => ?_) | refine gS64 ?_ | refine gU8 ?_ | refine gI13 ?_ | refine fE.of rfl ?_ | refine gBq ?_ | refine gNum13 ?_ | refine gSet ?_ | refine gRd ?_ | refine gLk ?_ | refine gRow13 ?_ | refine fB.of (wide_map (fun _ => rfl) _) ?_ | refine fB.of (full_map (fun _ => rfl) _) ?_ | refine fB.of (full_map (fun x => full_rKept x) _) ?_ | refine fB.of (full_map (fun x => full_rInsL x) _) ?_ | refine fB.of (full_map (fun x => full_rItemL x) _) ?_ | refine fB.of (full_map (fun x => full_rEventL x) _) ?_ | refine fB.of (full_map (fun x => full_rState x) _) ?_ | refine fB.of (full_map (fun x => full_rIntL x) _) ?_ | refine gRf ?_ | refine sDraw.mk' (id := 9) [(1, 14), (4, 14), (6, 14), (9, 14), (10, 14)] (ty := tys) rfl (by decide +kernel) ?_ | refine sDraw.none (id := 10) (ty := tys) rfl (by decide +kernel) ?_ | refine sDraw.none (id := 30) (ty := tys) rfl (by decide +kernel) ?_)) <;> (try (conv => whnf)))
                  refine loop_rule (ι := Nat) (fun j => [(1, .pt 1 1 0 [] 0 0), (3, i64 P.length), (4, i64 (p : Nat)), (7, i64 (j : Nat))])
                    (fun _ => [(1000000, ⟨0, 0, false, tInsSS P⟩), (1000001, ⟨0, 0, false, tStateS S⟩), (1000002, ⟨0, 0, false, tItemSS W⟩), (1000003, ⟨0, 0, false, tEventSS H⟩), (1, ⟨1, 0, false, bSys P S W H⟩)])
                    (fun j => (rd H p).length - j) (fun j => j ≤ (rd H p).length ∧ ∀ i, i < j → (rd (rd H p) i).peer < (P.length : Int)) 0 (by (try dsimp only [cond_true, cond_false]); exact ⟨⟨rfl, rfl, rfl, rfl, trivial⟩, ⟨rfl, rfl, rfl, rfl, rfl, trivial⟩⟩) ⟨Nat.zero_le _, fun q h => absurd h (Nat.not_lt_zero q)⟩ (by simp [C]; omega) ?_
                  clear sl ob
                  rintro i sl ob ⟨hi, hpe⟩
                  have e4 : (List.map rEvent (rd H p)).length = (rd H p).length := by simp
                  (try dsimp only [cond_true, cond_false])
                  (conv => whnf)
                  by_cases hil : i < (rd H p).length
                  · by_cases e : (rd (rd H p) i).peer < (P.length : Int)
                    · repeat' ((with_reducible (first | refine gP ?_ | refine gN ?_ | refine fG.split (fun _ => ?_) (fun _ => ?_) | refine fG.not ?_ | refine gY ?_ | refine gF ?_ | refine fG.yes (flat_map (fun _ => rfl) _) ?_ | refine fG.bool (fun _ => ?_) (fun _ => ?_) | refine gS64 ?_ | refine gU8 ?_ | refine gI13 ?_ | refine fE.of rfl ?_ | refine gBq ?_ | refine gNum13 ?_ | refine gSet ?_ | refine gRd ?_ | refine gLk ?_ | refine gRow13 ?_ | refine fB.of (wide_map (fun _ => rfl) _) ?_ | refine fB.of (full_map (fun _ => rfl) _) ?_ | refine fB.of (full_map (fun x => full_rKept x) _) ?_ | refine fB.of (full_map (fun x => full_rInsL x) _) ?_ | refine fB.of (full_map (fun x => full_rItemL x) _) ?_ | refine fB.of (full_map (fun x => full_rEventL x) _) ?_ | refine fB.of (full_map (fun x => full_rState x) _) ?_ | refine fB.of (full_map (fun x => full_rIntL x) _) ?_ | refine gRf ?_ | refine sDraw.mk' (id := 9) [(1, 14), (4, 14), (6, 14), (9, 14), (10, 14)] (ty := tys) rfl (by decide +kernel) ?_ | refine sDraw.none (id := 10) (ty := tys) rfl (by decide +kernel) ?_ | refine sDraw.none (id := 30) (ty := tys) rfl (by decide +kernel) ?_)) <;> (try (conv => whnf)))
                      refine ⟨⟨i + 1, (by (try dsimp only [cond_true, cond_false]); exact ⟨⟨rfl, rfl, rfl, rfl, trivial⟩, ⟨rfl, rfl, rfl, rfl, rfl, trivial⟩⟩), ?_, ?_⟩⟩
                      · exact ⟨by show i + 1 ≤ _; omega, fun q hq => by rcases Nat.lt_succ_iff_lt_or_eq.1 hq with h | h; exact hpe q h; rw [h]; exact e⟩
                      · show (rd H p).length - (i + 1) < (rd H p).length - i; omega
                    · have ef : ((rd H p).all fun e => decide (e.peer < (P.length : Int))) = false := by
                        rw [List.all_eq_false]
                        exact ⟨_, rd_mem hil, by simpa using e⟩
                      rw [eS, allBelow_no (f := procOk' P S H) hpl (by simp only [procOk', ef, Bool.and_false]), Bool.false_and]
                      repeat' ((with_reducible (first | refine gP ?_ | refine gN ?_ | refine fG.split (fun _ => ?_) (fun _ => ?_) | refine fG.not ?_ | refine gY ?_ | refine gF ?_ | refine fG.yes (flat_map (fun _ => rfl) _) ?_ | refine fG.bool (fun _ => ?_) (fun _ => ?_) | refine gS64 ?_ | refine gU8 ?_ | refine gI13 ?_ | refine fE.of rfl ?_ | refine gBq ?_ | refine gNum13 ?_ | refine gSet ?_ | refine gRd ?_ | refine gLk ?_ | refine gRow13 ?_ | refine fB.of (wide_map (fun _ => rfl) _) ?_ | refine fB.of (full_map (fun _ => rfl) _) ?_ | refine fB.of (full_map (fun x => full_rKept x) _) ?_ | refine fB.of (full_map (fun x => full_rInsL x) _) ?_ | refine fB.of (full_map (fun x => full_rItemL x) _) ?_ | refine fB.of (full_map (fun x => full_rEventL x) _) ?_ | refine fB.of (full_map (fun x => full_rState x) _) ?_ | refine fB.of (full_map (fun x => full_rIntL x) _) ?_ | refine gRf ?_ | refine sDraw.mk' (id := 9) [(1, 14), (4, 14), (6, 14), (9, 14), (10, 14)] (ty := tys) rfl (by decide +kernel) ?_ | refine sDraw.none (id := 10) (ty := tys) rfl (by decide +kernel) ?_ | refine sDraw.none (id := 30) (ty := tys) rfl (by decide +kernel) ?_)) <;> (try (conv => whnf)))
                  · have ef : ((rd H p).all fun e => decide (e.peer < (P.length : Int))) = true := by
                      rw [List.all_eq_true]
                      intro x hx
                      obtain ⟨i, hi, rfl⟩ := List.mem_iff_getElem.1 hx
                      have h5 := hpe i (by omega)
                      rw [rd_at hi] at h5
                      exact decide_eq_true h5
                    repeat' ((with_reducible (first | refine gP ?_ | refine gN ?_ | refine fG.split (fun _ => ?_) (fun _ => ?_) | refine fG.not ?_ | refine gY ?_ | refine gF ?_ | refine fG.yes (flat_map (fun _ => rfl) _) ?_ | refine fG.bool (fun _ => ?_) (fun _ => ?_) | refine gS64 ?_ | refine gU8 ?_ | refine gI13 ?_ | refine fE.of rfl ?_ | refine gBq ?_ | refine gNum13 ?_ | refine gSet ?_ | refine gRd ?_ | refine gLk ?_ | refine gRow13 ?_ | refine fB.of (wide_map (fun _ => rfl) _) ?_ | refine fB.of (full_map (fun _ => rfl) _) ?_ | refine fB.of (full_map (fun x => full_rKept x) _) ?_ | refine fB.of (full_map (fun x => full_rInsL x) _) ?_ | refine fB.of (full_map (fun x => full_rItemL x) _) ?_ | refine fB.of (full_map (fun x => full_rEventL x) _) ?_ | refine fB.of (full_map (fun x => full_rState x) _) ?_ | refine fB.of (full_map (fun x => full_rIntL x) _) ?_ | refine gRf ?_ | refine sDraw.mk' (id := 9) [(1, 14), (4, 14), (6, 14), (9, 14), (10, 14)] (ty := tys) rfl (by decide +kernel) ?_ | refine sDraw.none (id := 10) (ty := tys) rfl (by decide +kernel) ?_ | refine sDraw.none (id := 30) (ty := tys) rfl (by decide +kernel) ?_)) <;> (try (conv => whnf)))
                    refine ⟨⟨p + 1, (by (try dsimp only [cond_true, cond_false]); exact ⟨⟨rfl, rfl, rfl, trivial⟩, ⟨rfl, rfl, rfl, rfl, rfl, trivial⟩⟩), ?_, ?_⟩⟩
                    · exact ⟨by show p + 1 ≤ _; omega, fun q hq => by rcases Nat.lt_succ_iff_lt_or_eq.1 hq with h | h; exact hpr q h; rw [h]; simp only [procOk', e1, hsd, ef, Bool.and_self]⟩
                    · show P.length - (p + 1) < P.length - p; omega
                · rw [decide_eq_false e3] at q3
                  rw [eS, allBelow_no (f := procOk' P S H) hpl (by simp [procOk', stoodAs, hstd, e3]), Bool.false_and]
                  repeat' ((with_reducible (first | refine sCall.of (q1 _) ?_ | refine sCall.of (q2 _) ?_ | refine sCall.of (q3 _) ?_ | refine gP ?_ | refine gN ?_ | refine fG.split (fun _ => ?_) (fun _ => ?_) | refine fG.not ?_ | refine gY ?_ | refine gF ?_ | refine fG.yes (flat_map (fun _ => rfl) _) ?_ | refine fG.bool (fun _ => ?_) (fun _ => ?_) | refine gS64 ?_ | refine gU8 ?_ | refine gI13 ?_ | refine fE.of rfl ?_ | refine gBq ?_ | refine gNum13 ?_ | refine gSet ?_ | refine gRd ?_ | refine gLk ?_ | refine gRow13 ?_ | refine fB.of (wide_map (fun _ => rfl) _) ?_ | refine fB.of (full_map (fun _ => rfl) _) ?_ | refine fB.of (full_map (fun x => full_rKept x) _) ?_ | refine fB.of (full_map (fun x => full_rInsL x) _) ?_ | refine fB.of (full_map (fun x => full_rItemL x) _) ?_ | refine fB.of (full_map (fun x => full_rEventL x) _) ?_ | refine fB.of (full_map (fun x => full_rState x) _) ?_ | refine fB.of (full_map (fun x => full_rIntL x) _) ?_ | refine gRf ?_ | refine sDraw.mk' (id := 9) [(1, 14), (4, 14), (6, 14), (9, 14), (10, 14)] (ty := tys) rfl (by decide +kernel) ?_ | refine sDraw.none (id := 10) (ty := tys) rfl (by decide +kernel) ?_ | refine sDraw.none (id := 30) (ty := tys) rfl (by decide +kernel) ?_)) <;> (try (conv => whnf)))
          · have ePr := allBelow_yes (f := procOk' P S H) (n := P.length) fun q hq => hpr q (by omega)
            have hpr' : ∀ p, p < P.length → procOk P S H p = true := fun q hq => by rw [← proc_same (by omega)]; exact hpr q (by omega)
            obtain ⟨hPI, h200⟩ := peersIn_of hI.n d3 hpr'
            rw [ePr, Bool.true_and] at eS
            repeat' ((with_reducible (first | refine gP ?_ | refine gN ?_ | refine fG.split (fun _ => ?_) (fun _ => ?_) | refine fG.not ?_ | refine gY ?_ | refine gF ?_ | refine fG.yes (flat_map (fun _ => rfl) _) ?_ | refine fG.bool (fun _ => ?_) (fun _ => ?_) | refine gS64 ?_ | refine gU8 ?_ | refine gI13 ?_ | refine fE.of rfl ?_ | refine gBq ?_ | refine gNum13 ?_ | refine gSet ?_ | refine gRd ?_ | refine gLk ?_ | refine gRow13 ?_ | refine fB.of (wide_map (fun _ => rfl) _) ?_ | refine fB.of (full_map (fun _ => rfl) _) ?_ | refine fB.of (full_map (fun x => full_rKept x) _) ?_ | refine fB.of (full_map (fun x => full_rInsL x) _) ?_ | refine fB.of (full_map (fun x => full_rItemL x) _) ?_ | refine fB.of (full_map (fun x => full_rEventL x) _) ?_ | refine fB.of (full_map (fun x => full_rState x) _) ?_ | refine fB.of (full_map (fun x => full_rIntL x) _) ?_ | refine gRf ?_ | refine sDraw.mk' (id := 9) [(1, 14), (4, 14), (6, 14), (9, 14), (10, 14)] (ty := tys) rfl (by decide +kernel) ?_ | refine sDraw.none (id := 10) (ty := tys) rfl (by decide +kernel) ?_ | refine sDraw.none (id := 30) (ty := tys) rfl (by decide +kernel) ?_)) <;> (try (conv => whnf)))
            refine loop_rule (ι := Nat) (fun j => [(1, .pt 1 1 0 [] 0 0), (3, i64 P.length), (8, i64 (j : Nat))])
              (fun _ => [(1000000, ⟨0, 0, false, tInsSS P⟩), (1000001, ⟨0, 0, false, tStateS S⟩), (1000002, ⟨0, 0, false, tItemSS W⟩), (1000003, ⟨0, 0, false, tEventSS H⟩), (1, ⟨1, 0, false, bSys P S W H⟩)])
              (fun j => P.length - j) (fun j => j ≤ P.length ∧ ∀ a, a < j → allBelow P.length (fun b => pairOk P.length W H a b) = true) 0 (by (try dsimp only [cond_true, cond_false]); exact ⟨⟨rfl, rfl, rfl, trivial⟩, ⟨rfl, rfl, rfl, rfl, rfl, trivial⟩⟩) ⟨Nat.zero_le _, fun q h => absurd h (Nat.not_lt_zero q)⟩ (by simp [C]; omega) ?_
            clear sl ob hpl hpr hj
            rintro a sl ob ⟨ha, hfa⟩
            (try dsimp only [cond_true, cond_false])
            (conv => whnf)
            by_cases hal : a < P.length
            · repeat' ((with_reducible (first | refine gP ?_ | refine gN ?_ | refine fG.split (fun _ => ?_) (fun _ => ?_) | refine fG.not ?_ | refine gY ?_ | refine gF ?_ | refine fG.yes (flat_map (fun _ => rfl) _) ?_ | refine fG.bool (fun _ => ?_) (fun _ => ?_) | refine gS64 ?_ | refine gU8 ?_ | refine gI13 ?_ | refine fE.of rfl ?_ | refine gBq ?_ | refine gNum13 ?_ | refine gSet ?_ | refine gRd ?_ | refine gLk ?_ | refine gRow13 ?_ | refine fB.of (wide_map (fun _ => rfl) _) ?_ | refine fB.of (full_map (fun _ => rfl) _) ?_ | refine fB.of (full_map (fun x => full_rKept x) _) ?_ | refine fB.of (full_map (fun x => full_rInsL x) _) ?_ | refine fB.of (full_map (fun x => full_rItemL x) _) ?_ | refine fB.of (full_map (fun x => full_rEventL x) _) ?_ | refine fB.of (full_map (fun x => full_rState x) _) ?_ | refine fB.of (full_map (fun x => full_rIntL x) _) ?_ | refine gRf ?_ | refine sDraw.mk' (id := 9) [(1, 14), (4, 14), (6, 14), (9, 14), (10, 14)] (ty := tys) rfl (by decide +kernel) ?_ | refine sDraw.none (id := 10) (ty := tys) rfl (by decide +kernel) ?_ | refine sDraw.none (id := 30) (ty := tys) rfl (by decide +kernel) ?_)) <;> (try (conv => whnf)))
              refine loop_rule (ι := Nat) (fun j => [(1, .pt 1 1 0 [] 0 0), (3, i64 P.length), (8, i64 (a : Nat)), (9, i64 (j : Nat))])
                (fun _ => [(1000000, ⟨0, 0, false, tInsSS P⟩), (1000001, ⟨0, 0, false, tStateS S⟩), (1000002, ⟨0, 0, false, tItemSS W⟩), (1000003, ⟨0, 0, false, tEventSS H⟩), (1, ⟨1, 0, false, bSys P S W H⟩)])
                (fun j => P.length - j) (fun j => j ≤ P.length ∧ ∀ b, b < j → pairOk P.length W H a b = true) 0 (by (try dsimp only [cond_true, cond_false]); exact ⟨⟨rfl, rfl, rfl, rfl, trivial⟩, ⟨rfl, rfl, rfl, rfl, rfl, trivial⟩⟩) ⟨Nat.zero_le _, fun q h => absurd h (Nat.not_lt_zero q)⟩ (by simp [C]; omega) ?_
              clear sl ob
              rintro b sl ob ⟨hb', hfb⟩
              (try dsimp only [cond_true, cond_false])
              (conv => whnf)
              by_cases hbl : b < P.length
              · have hpl := place_lt hal hbl
                rw [← d4] at hpl
                have c1 := h200 a (by omega)
                have c2 := h200 b (by omega)
                have c3 := hb.ww _ hpl
                have hle : a * P.length ≤ 4 * 4 := Nat.mul_le_mul (by omega) (by omega)
                have w2 : IntKind.i64.wrap ((a : Int) * (P.length : Int)) = ((a * P.length : Nat) : Int) := by
                  rw [show (a : Int) * (P.length : Int) = ((a * P.length : Nat) : Int) by simp]; exact wrap_i64 _ (by omega) (by omega)
                have w3 : IntKind.i64.wrap (((a * P.length : Nat) : Int) + (b : Int)) = ((a * P.length + b : Nat) : Int) := by rw [wrap_i64 _ (by omega) (by omega)]; simp
                have q1 := fun k => ok_spec_Values k (rd H b) 3 a (by omega)
                have q2 := fun k => ok_spec_Values k (rd H a) 2 b (by omega)
                have l1 := vals_le (rd H b) 3 a
                have l2 := vals_le (rd H a) 2 b
                have q3 := fun k => ok_spec_l4Way k (rd W (a * P.length + b)) (vals (rd H a) 2 b) (vals (rd H b) 3 a).length (by omega) (by omega) (by omega)
                cases e : l4way (rd W (a * P.length + b)) (vals (rd H a) 2 b) (vals (rd H b) 3 a).length with
                | false =>
                  simp only [e] at q3
                  rw [eS, allBelow_no (f := fun a => allBelow P.length fun b => pairOk P.length W H a b) hal (allBelow_no hbl (by simp only [pairOk, e, Bool.false_and])), Bool.false_and]
                  repeat' ((with_reducible (first | refine sCall.of (q1 _) ?_ | refine sCall.of (q2 _) ?_ | refine sW.eq (w2) ?_ | refine sW.eq (w3) ?_ | refine sCall.of (q3 _) ?_ | refine gP ?_ | refine gN ?_ | refine fG.split (fun _ => ?_) (fun _ => ?_) | refine fG.not ?_ | refine gY ?_ | refine gF ?_ | refine fG.yes (flat_map (fun _ => rfl) _) ?_ | refine fG.bool (fun _ => ?_) (fun _ => ?_) | refine gS64 ?_ | refine gU8 ?_ | refine gI13 ?_ | refine fE.of rfl ?_ | refine gBq ?_ | refine gNum13 ?_ | refine gSet ?_ | refine gRd ?_ | refine gLk ?_ | refine gRow13 ?_ | refine fB.of (wide_map (fun _ => rfl) _) ?_ | refine fB.of (full_map (fun _ => rfl) _) ?_ | refine fB.of (full_map (fun x => full_rKept x) _) ?_ | refine fB.of (full_map (fun x => full_rInsL x) _) ?_ | refine fB.of (full_map (fun x => full_rItemL x) _) ?_ | refine fB.of (full_map (fun x => full_rEventL x) _) ?_ | refine fB.of (full_map (fun x => full_rState x) _) ?_ | refine fB.of (full_map (fun x => full_rIntL x) _) ?_ | refine gRf ?_ | refine sDraw.mk' (id := 9) [(1, 14), (4, 14), (6, 14), (9, 14), (10, 14)] (ty := tys) rfl (by decide +kernel) ?_ | refine sDraw.none (id := 10) (ty := tys) rfl (by decide +kernel) ?_ | refine sDraw.none (id := 30) (ty := tys) rfl (by decide +kernel) ?_)) <;> (try (conv => whnf)))
                | true =>
                  simp only [e] at q3
                  have hlen : (vals (rd H b) 3 a).length ≤ (vals (rd H a) 2 b).length := by
                    simp only [l4way, Bool.and_eq_true, decide_eq_true_eq] at e
                    omega
                  have epair : pairOk P.length W H a b = decide ((vals (rd H a) 2 b).take (vals (rd H b) 3 a).length = vals (rd H b) 3 a) := by rw [pairOk, e, Bool.true_and]
                  repeat' ((with_reducible (first | refine sCall.of (q1 _) ?_ | refine sCall.of (q2 _) ?_ | refine sW.eq (w2) ?_ | refine sW.eq (w3) ?_ | refine sCall.of (q3 _) ?_ | refine gP ?_ | refine gN ?_ | refine fG.split (fun _ => ?_) (fun _ => ?_) | refine fG.not ?_ | refine gY ?_ | refine gF ?_ | refine fG.yes (flat_map (fun _ => rfl) _) ?_ | refine fG.bool (fun _ => ?_) (fun _ => ?_) | refine gS64 ?_ | refine gU8 ?_ | refine gI13 ?_ | refine fE.of rfl ?_ | refine gBq ?_ | refine gNum13 ?_ | refine gSet ?_ | refine gRd ?_ | refine gLk ?_ | refine gRow13 ?_ | refine fB.of (wide_map (fun _ => rfl) _) ?_ | refine fB.of (full_map (fun _ => rfl) _) ?_ | refine fB.of (full_map (fun x => full_rKept x) _) ?_ | refine fB.of (full_map (fun x => full_rInsL x) _) ?_ | refine fB.of (full_map (fun x => full_rItemL x) _) ?_ | refine fB.of (full_map (fun x => full_rEventL x) _) ?_ | refine fB.of (full_map (fun x => full_rState x) _) ?_ | refine fB.of (full_map (fun x => full_rIntL x) _) ?_ | refine gRf ?_ | refine sDraw.mk' (id := 9) [(1, 14), (4, 14), (6, 14), (9, 14), (10, 14)] (ty := tys) rfl (by decide +kernel) ?_ | refine sDraw.none (id := 10) (ty := tys) rfl (by decide +kernel) ?_ | refine sDraw.none (id := 30) (ty := tys) rfl (by decide +kernel) ?_)) <;> (try (conv => whnf)))
                  clear q1 q2 q3 w2 w3 e
                  generalize hT : vals (rd H b) 3 a = took at l1 hlen epair ⊢
                  generalize hS : vals (rd H a) 2 b = sent at l2 hlen epair ⊢
                  refine loop_rule (ι := SP) (fun z => [(1, .pt 1 1 0 [] 0 0), (3, i64 P.length), (8, i64 (a : Nat)), (9, i64 (b : Nat)), (10, .h 10118 z.b1 0 [] 1 0 took.length), (11, .h 10125 z.b2 0 [] 1 0 sent.length), (12, i64 (z.j : Nat))])
                    (fun z => [(1000000, ⟨0, 0, false, tInsSS P⟩), (1000001, ⟨0, 0, false, tStateS S⟩), (1000002, ⟨0, 0, false, tItemSS W⟩), (1000003, ⟨0, 0, false, tEventSS H⟩), (1, ⟨1, 0, false, bSys P S W H⟩), (10118, ⟨z.b1, 0, false, tI9 took⟩), (10125, ⟨z.b2, 0, false, tI9 sent⟩)])
                    (fun z => took.length - z.j) (fun z => z.j ≤ took.length ∧ ∀ i, i < z.j → rd took i = rd sent i) ⟨0, _, _⟩ (by (try dsimp only [cond_true, cond_false]); exact ⟨⟨rfl, rfl, rfl, rfl, rfl, rfl, rfl, trivial⟩, ⟨rfl, rfl, rfl, rfl, rfl, rfl, rfl, trivial⟩⟩) ⟨Nat.zero_le _, fun q h => absurd h (Nat.not_lt_zero q)⟩ (by simp [C]; omega) ?_
                  clear sl ob
                  rintro ⟨i, bb1, bb2⟩ sl ob ⟨hi, hok⟩
                  dsimp only at hi hok
                  (try dsimp only [cond_true, cond_false])
                  (conv => whnf)
                  by_cases hil : i < took.length
                  · by_cases e : rd took i = rd sent i
                    · repeat' ((with_reducible (first | refine gP ?_ | refine gN ?_ | refine fG.split (fun _ => ?_) (fun _ => ?_) | refine fG.not ?_ | refine gY ?_ | refine gF ?_ | refine fG.yes (flat_map (fun _ => rfl) _) ?_ | refine fG.bool (fun _ => ?_) (fun _ => ?_) | refine gS64 ?_ | refine gU8 ?_ | refine gI13 ?_ | refine fE.of rfl ?_ | refine gBq ?_ | refine gNum13 ?_ | refine gSet ?_ | refine gRd ?_ | refine gLk ?_ | refine gRow13 ?_ | refine fB.of (wide_map (fun _ => rfl) _) ?_ | refine fB.of (full_map (fun _ => rfl) _) ?_ | refine fB.of (full_map (fun x => full_rKept x) _) ?_ | refine fB.of (full_map (fun x => full_rInsL x) _) ?_ | refine fB.of (full_map (fun x => full_rItemL x) _) ?_ | refine fB.of (full_map (fun x => full_rEventL x) _) ?_ | refine fB.of (full_map (fun x => full_rState x) _) ?_ | refine fB.of (full_map (fun x => full_rIntL x) _) ?_ | refine gRf ?_ | refine sDraw.mk' (id := 9) [(1, 14), (4, 14), (6, 14), (9, 14), (10, 14)] (ty := tys) rfl (by decide +kernel) ?_ | refine sDraw.none (id := 10) (ty := tys) rfl (by decide +kernel) ?_ | refine sDraw.none (id := 30) (ty := tys) rfl (by decide +kernel) ?_)) <;> (try (conv => whnf)))
                      refine ⟨⟨⟨i + 1, _, _⟩, (by (try dsimp only [cond_true, cond_false]); exact ⟨⟨rfl, rfl, rfl, rfl, rfl, rfl, rfl, trivial⟩, ⟨rfl, rfl, rfl, rfl, rfl, rfl, rfl, trivial⟩⟩), ?_, ?_⟩⟩
                      · exact ⟨by show i + 1 ≤ _; omega, fun q hq => by rcases Nat.lt_succ_iff_lt_or_eq.1 hq with h | h; exact hok q h; rw [h]; exact e⟩
                      · show took.length - (i + 1) < took.length - i; omega
                    · rw [eS, allBelow_no (f := fun a => allBelow P.length fun b => pairOk P.length W H a b) hal (allBelow_no hbl (by
                        rw [epair, decide_eq_false]
                        intro h
                        apply e
                        conv => lhs; rw [← h]
                        simp [rd, hil])), Bool.false_and]
                      repeat' ((with_reducible (first | refine gP ?_ | refine gN ?_ | refine fG.split (fun _ => ?_) (fun _ => ?_) | refine fG.not ?_ | refine gY ?_ | refine gF ?_ | refine fG.yes (flat_map (fun _ => rfl) _) ?_ | refine fG.bool (fun _ => ?_) (fun _ => ?_) | refine gS64 ?_ | refine gU8 ?_ | refine gI13 ?_ | refine fE.of rfl ?_ | refine gBq ?_ | refine gNum13 ?_ | refine gSet ?_ | refine gRd ?_ | refine gLk ?_ | refine gRow13 ?_ | refine fB.of (wide_map (fun _ => rfl) _) ?_ | refine fB.of (full_map (fun _ => rfl) _) ?_ | refine fB.of (full_map (fun x => full_rKept x) _) ?_ | refine fB.of (full_map (fun x => full_rInsL x) _) ?_ | refine fB.of (full_map (fun x => full_rItemL x) _) ?_ | refine fB.of (full_map (fun x => full_rEventL x) _) ?_ | refine fB.of (full_map (fun x => full_rState x) _) ?_ | refine fB.of (full_map (fun x => full_rIntL x) _) ?_ | refine gRf ?_ | refine sDraw.mk' (id := 9) [(1, 14), (4, 14), (6, 14), (9, 14), (10, 14)] (ty := tys) rfl (by decide +kernel) ?_ | refine sDraw.none (id := 10) (ty := tys) rfl (by decide +kernel) ?_ | refine sDraw.none (id := 30) (ty := tys) rfl (by decide +kernel) ?_)) <;> (try (conv => whnf)))
                  · repeat' ((with_reducible (first | refine gP ?_ | refine gN ?_ | refine fG.split (fun _ => ?_) (fun _ => ?_) | refine fG.not ?_ | refine gY ?_ | refine gF ?_ | refine fG.yes (flat_map (fun _ => rfl) _) ?_ | refine fG.bool (fun _ => ?_) (fun _ => ?_) | refine gS64 ?_ | refine gU8 ?_ | refine gI13 ?_ | refine fE.of rfl ?_ | refine gBq ?_ | refine gNum13 ?_ | refine gSet ?_ | refine gRd ?_ | refine gLk ?_ | refine gRow13 ?_ | refine fB.of (wide_map (fun _ => rfl) _) ?_ | refine fB.of (full_map (fun _ => rfl) _) ?_ | refine fB.of (full_map (fun x => full_rKept x) _) ?_ | refine fB.of (full_map (fun x => full_rInsL x) _) ?_ | refine fB.of (full_map (fun x => full_rItemL x) _) ?_ | refine fB.of (full_map (fun x => full_rEventL x) _) ?_ | refine fB.of (full_map (fun x => full_rState x) _) ?_ | refine fB.of (full_map (fun x => full_rIntL x) _) ?_ | refine gRf ?_ | refine sDraw.mk' (id := 9) [(1, 14), (4, 14), (6, 14), (9, 14), (10, 14)] (ty := tys) rfl (by decide +kernel) ?_ | refine sDraw.none (id := 10) (ty := tys) rfl (by decide +kernel) ?_ | refine sDraw.none (id := 30) (ty := tys) rfl (by decide +kernel) ?_)) <;> (try (conv => whnf)))
                    refine ⟨⟨b + 1, (by (try dsimp only [cond_true, cond_false]); exact ⟨⟨rfl, rfl, rfl, rfl, trivial⟩, ⟨rfl, rfl, rfl, rfl, rfl, trivial⟩⟩), ?_, ?_⟩⟩
                    · exact ⟨by show b + 1 ≤ _; omega, fun q hq => by
                        rcases Nat.lt_succ_iff_lt_or_eq.1 hq with h | h
                        · exact hfb q h
                        · rw [h, epair, decide_eq_true]
                          refine rd_ext (by simp; omega) fun q hq => ?_
                          have hq2 : q < took.length := by simp at hq; omega
                          rw [hok q (by omega)]
                          simp [rd, hq2]⟩
                    · show P.length - (b + 1) < P.length - b; omega
              · repeat' ((with_reducible (first | refine gP ?_ | refine gN ?_ | refine fG.split (fun _ => ?_) (fun _ => ?_) | refine fG.not ?_ | refine gY ?_ | refine gF ?_ | refine fG.yes (flat_map (fun _ => rfl) _) ?_ | refine fG.bool (fun _ => ?_) (fun _ => ?_) | refine gS64 ?_ | refine gU8 ?_ | refine gI13 ?_ | refine fE.of rfl ?_ | refine gBq ?_ | refine gNum13 ?_ | refine gSet ?_ | refine gRd ?_ | refine gLk ?_ | refine gRow13 ?_ | refine fB.of (wide_map (fun _ => rfl) _) ?_ | refine fB.of (full_map (fun _ => rfl) _) ?_ | refine fB.of (full_map (fun x => full_rKept x) _) ?_ | refine fB.of (full_map (fun x => full_rInsL x) _) ?_ | refine fB.of (full_map (fun x => full_rItemL x) _) ?_ | refine fB.of (full_map (fun x => full_rEventL x) _) ?_ | refine fB.of (full_map (fun x => full_rState x) _) ?_ | refine fB.of (full_map (fun x => full_rIntL x) _) ?_ | refine gRf ?_ | refine sDraw.mk' (id := 9) [(1, 14), (4, 14), (6, 14), (9, 14), (10, 14)] (ty := tys) rfl (by decide +kernel) ?_ | refine sDraw.none (id := 10) (ty := tys) rfl (by decide +kernel) ?_ | refine sDraw.none (id := 30) (ty := tys) rfl (by decide +kernel) ?_)) <;> (try (conv => whnf)))
                refine ⟨⟨a + 1, (by (try dsimp only [cond_true, cond_false]); exact ⟨⟨rfl, rfl, rfl, trivial⟩, ⟨rfl, rfl, rfl, rfl, rfl, trivial⟩⟩), ?_, ?_⟩⟩
                · exact ⟨by show a + 1 ≤ _; omega, fun q hq => by rcases Nat.lt_succ_iff_lt_or_eq.1 hq with h | h; exact hfa q h; rw [h]; exact allBelow_yes fun b hb => hfb b (by omega)⟩
                · show P.length - (a + 1) < P.length - a; omega
            · have eF : (allBelow P.length fun a => allBelow P.length fun b => pairOk P.length W H a b) = true := allBelow_yes fun a h => hfa a (by omega)
              have q3 := fun k => ok_spec_l4Order k P S W H (by omega) (fun j hj => by have := h200 j hj; omega) hPI
              rw [eS, eF, Bool.true_and]
              repeat' ((with_reducible (first | refine sCall.of (q3 _) ?_ | refine gP ?_ | refine gN ?_ | refine fG.split (fun _ => ?_) (fun _ => ?_) | refine fG.not ?_ | refine gY ?_ | refine gF ?_ | refine fG.yes (flat_map (fun _ => rfl) _) ?_ | refine fG.bool (fun _ => ?_) (fun _ => ?_) | refine gS64 ?_ | refine gU8 ?_ | refine gI13 ?_ | refine fE.of rfl ?_ | refine gBq ?_ | refine gNum13 ?_ | refine gSet ?_ | refine gRd ?_ | refine gLk ?_ | refine gRow13 ?_ | refine fB.of (wide_map (fun _ => rfl) _) ?_ | refine fB.of (full_map (fun _ => rfl) _) ?_ | refine fB.of (full_map (fun x => full_rKept x) _) ?_ | refine fB.of (full_map (fun x => full_rInsL x) _) ?_ | refine fB.of (full_map (fun x => full_rItemL x) _) ?_ | refine fB.of (full_map (fun x => full_rEventL x) _) ?_ | refine fB.of (full_map (fun x => full_rState x) _) ?_ | refine fB.of (full_map (fun x => full_rIntL x) _) ?_ | refine gRf ?_ | refine sDraw.mk' (id := 9) [(1, 14), (4, 14), (6, 14), (9, 14), (10, 14)] (ty := tys) rfl (by decide +kernel) ?_ | refine sDraw.none (id := 10) (ty := tys) rfl (by decide +kernel) ?_ | refine sDraw.none (id := 30) (ty := tys) rfl (by decide +kernel) ?_)) <;> (try (conv => whnf)))
        · rw [sysOk_sizes (by simp [sizesOk, d4])]
          (refine callE_is (callE_w [ResultVar.tmp 2] rfl Tryz.func19 rfl (by decide +kernel) rfl (by simp) ?_); (conv => whnf))
          repeat' ((with_reducible (first | refine sCall.of (q0 _) ?_ | refine sW.eq (w1) ?_ | refine gP ?_ | refine gN ?_ | refine fG.split (fun _ => ?_) (fun _ => ?_) | refine fG.not ?_ | refine gY ?_ | refine gF ?_ | refine fG.yes (flat_map (fun _ => rfl) _) ?_ | refine fG.bool (fun _ => ?_) (fun _ => ?_) | refine gS64 ?_ | refine gU8 ?_ | refine gI13 ?_ | refine fE.of rfl ?_ | refine gBq ?_ | refine gNum13 ?_ | refine gSet ?_ | refine gRd ?_ | refine gLk ?_ | refine gRow13 ?_ | refine fB.of (wide_map (fun _ => rfl) _) ?_ | refine fB.of (full_map (fun _ => rfl) _) ?_ | refine fB.of (full_map (fun x => full_rKept x) _) ?_ | refine fB.of (full_map (fun x => full_rInsL x) _) ?_ | refine fB.of (full_map (fun x => full_rItemL x) _) ?_ | refine fB.of (full_map (fun x => full_rEventL x) _) ?_ | refine fB.of (full_map (fun x => full_rState x) _) ?_ | refine fB.of (full_map (fun x => full_rIntL x) _) ?_ | refine gRf ?_ | refine sDraw.mk' (id := 9) [(1, 14), (4, 14), (6, 14), (9, 14), (10, 14)] (ty := tys) rfl (by decide +kernel) ?_ | refine sDraw.none (id := 10) (ty := tys) rfl (by decide +kernel) ?_ | refine sDraw.none (id := 30) (ty := tys) rfl (by decide +kernel) ?_)) <;> (try (conv => whnf)))
          all_goals first
            | rfl
            | (exfalso; omega)
      · rw [sysOk_sizes (by simp [sizesOk, d3])]
        (refine callE_is (callE_w [ResultVar.tmp 2] rfl Tryz.func19 rfl (by decide +kernel) rfl (by simp) ?_); (conv => whnf))
        repeat' ((with_reducible (first | refine sCall.of (q0 _) ?_ | refine sW.eq (w1) ?_ | refine gP ?_ | refine gN ?_ | refine fG.split (fun _ => ?_) (fun _ => ?_) | refine fG.not ?_ | refine gY ?_ | refine gF ?_ | refine fG.yes (flat_map (fun _ => rfl) _) ?_ | refine fG.bool (fun _ => ?_) (fun _ => ?_) | refine gS64 ?_ | refine gU8 ?_ | refine gI13 ?_ | refine fE.of rfl ?_ | refine gBq ?_ | refine gNum13 ?_ | refine gSet ?_ | refine gRd ?_ | refine gLk ?_ | refine gRow13 ?_ | refine fB.of (wide_map (fun _ => rfl) _) ?_ | refine fB.of (full_map (fun _ => rfl) _) ?_ | refine fB.of (full_map (fun x => full_rKept x) _) ?_ | refine fB.of (full_map (fun x => full_rInsL x) _) ?_ | refine fB.of (full_map (fun x => full_rItemL x) _) ?_ | refine fB.of (full_map (fun x => full_rEventL x) _) ?_ | refine fB.of (full_map (fun x => full_rState x) _) ?_ | refine fB.of (full_map (fun x => full_rIntL x) _) ?_ | refine gRf ?_ | refine sDraw.mk' (id := 9) [(1, 14), (4, 14), (6, 14), (9, 14), (10, 14)] (ty := tys) rfl (by decide +kernel) ?_ | refine sDraw.none (id := 10) (ty := tys) rfl (by decide +kernel) ?_ | refine sDraw.none (id := 30) (ty := tys) rfl (by decide +kernel) ?_)) <;> (try (conv => whnf)))
        all_goals first
          | rfl
          | (exfalso; omega)
    · rw [sysOk_sizes (by simp [sizesOk, d2])]
      (refine callE_is (callE_w [ResultVar.tmp 2] rfl Tryz.func19 rfl (by decide +kernel) rfl (by simp) ?_); (conv => whnf))
      repeat' ((with_reducible (first | refine sCall.of (q0 _) ?_ | refine sW.eq (w1) ?_ | refine gP ?_ | refine gN ?_ | refine fG.split (fun _ => ?_) (fun _ => ?_) | refine fG.not ?_ | refine gY ?_ | refine gF ?_ | refine fG.yes (flat_map (fun _ => rfl) _) ?_ | refine fG.bool (fun _ => ?_) (fun _ => ?_) | refine gS64 ?_ | refine gU8 ?_ | refine gI13 ?_ | refine fE.of rfl ?_ | refine gBq ?_ | refine gNum13 ?_ | refine gSet ?_ | refine gRd ?_ | refine gLk ?_ | refine gRow13 ?_ | refine fB.of (wide_map (fun _ => rfl) _) ?_ | refine fB.of (full_map (fun _ => rfl) _) ?_ | refine fB.of (full_map (fun x => full_rKept x) _) ?_ | refine fB.of (full_map (fun x => full_rInsL x) _) ?_ | refine fB.of (full_map (fun x => full_rItemL x) _) ?_ | refine fB.of (full_map (fun x => full_rEventL x) _) ?_ | refine fB.of (full_map (fun x => full_rState x) _) ?_ | refine fB.of (full_map (fun x => full_rIntL x) _) ?_ | refine gRf ?_ | refine sDraw.mk' (id := 9) [(1, 14), (4, 14), (6, 14), (9, 14), (10, 14)] (ty := tys) rfl (by decide +kernel) ?_ | refine sDraw.none (id := 10) (ty := tys) rfl (by decide +kernel) ?_ | refine sDraw.none (id := 30) (ty := tys) rfl (by decide +kernel) ?_)) <;> (try (conv => whnf)))
      all_goals first
        | rfl
        | (exfalso; omega)
  · rw [decide_eq_false d1] at q0
    rw [sysOk_sizes (by simp [sizesOk, inB, d1])]
    (refine callE_is (callE_w [ResultVar.tmp 2] rfl Tryz.func19 rfl (by decide +kernel) rfl (by simp) ?_); (conv => whnf))
    repeat' ((with_reducible (first | refine sCall.of (q0 _) ?_ | refine gP ?_ | refine gN ?_ | refine fG.split (fun _ => ?_) (fun _ => ?_) | refine fG.not ?_ | refine gY ?_ | refine gF ?_ | refine fG.yes (flat_map (fun _ => rfl) _) ?_ | refine fG.bool (fun _ => ?_) (fun _ => ?_) | refine gS64 ?_ | refine gU8 ?_ | refine gI13 ?_ | refine fE.of rfl ?_ | refine gBq ?_ | refine gNum13 ?_ | refine gSet ?_ | refine gRd ?_ | refine gLk ?_ | refine gRow13 ?_ | refine fB.of (wide_map (fun _ => rfl) _) ?_ | refine fB.of (full_map (fun _ => rfl) _) ?_ | refine fB.of (full_map (fun x => full_rKept x) _) ?_ | refine fB.of (full_map (fun x => full_rInsL x) _) ?_ | refine fB.of (full_map (fun x => full_rItemL x) _) ?_ | refine fB.of (full_map (fun x => full_rEventL x) _) ?_ | refine fB.of (full_map (fun x => full_rState x) _) ?_ | refine fB.of (full_map (fun x => full_rIntL x) _) ?_ | refine gRf ?_ | refine sDraw.mk' (id := 9) [(1, 14), (4, 14), (6, 14), (9, 14), (10, 14)] (ty := tys) rfl (by decide +kernel) ?_ | refine sDraw.none (id := 10) (ty := tys) rfl (by decide +kernel) ?_ | refine sDraw.none (id := 30) (ty := tys) rfl (by decide +kernel) ?_)) <;> (try (conv => whnf)))

end Go.Proofs.YtkmhbofkjcknjaaGreat.Abs
namespace Go.Proofs.YtkmhbofkjcknjaaGreat.Abs
open Go Go.Proofs
set_option linter.unusedVariables false
set_option linter.unusedSimpArgs false
attribute [local irreducible] callE
/-! ### Senders -/
def nthGo (x y : Int) : List Event → Nat → Int → Int
  | [], _, _ => -1
  | e :: es, i, n => if isEv x y e = true then (if n = 0 then (i : Int) else nthGo x y es (i + 1) (n - 1)) else nthGo x y es (i + 1) n
def nth (es : List Event) (x y n : Int) : Int := nthGo x y es 0 n
theorem cnt_cons (e : Event) (es : List Event) (x y : Int) : cnt (e :: es) x y = (if isEv x y e = true then 1 else 0) + cnt es x y := by
  simp only [cnt, vals, List.filter_cons]
  split <;> simp <;> omega
theorem nthGo_lt (x y : Int) : ∀ (es : List Event) (i c m : Nat), ((i : Int) ≤ nthGo x y es i c ∧ nthGo x y es i c < (i + m : Nat)) ↔ c < cnt (es.take m) x y
  | [], i, c, m => by simp [nthGo, cnt, vals]; omega
  | e :: es, i, c, 0 => by
    simp only [List.take_zero, cnt, vals, List.filter_nil, List.map_nil, List.length_nil]
    constructor
    · rintro ⟨h1, h2⟩; omega
    · intro h; omega
  | e :: es, i, c, m + 1 => by
    rw [List.take_succ_cons, cnt_cons]
    unfold nthGo
    by_cases he : isEv x y e = true
    · rw [if_pos he, if_pos he]
      cases c with
      | zero => simp; omega
      | succ c =>
        have h := nthGo_lt x y es (i + 1) c m
        rw [if_neg (by omega), show (((c + 1 : Nat) : Int) - 1) = (c : Int) by omega]
        have hge : nthGo x y es (i + 1) c = -1 ∨ ((i + 1 : Nat) : Int) ≤ nthGo x y es (i + 1) c := nthGo_ge x y es (i + 1) c
        constructor
        · rintro ⟨h1, h2⟩
          have := h.1 ⟨by omega, by omega⟩
          omega
        · intro h1
          have := h.2 (by omega)
          omega
    · rw [if_neg he, if_neg he]
      have h := nthGo_lt x y es (i + 1) c m
      have hge : nthGo x y es (i + 1) c = -1 ∨ ((i + 1 : Nat) : Int) ≤ nthGo x y es (i + 1) c := nthGo_ge x y es (i + 1) c
      constructor
      · rintro ⟨h1, h2⟩
        have := h.1 ⟨by omega, by omega⟩
        omega
      · intro h1
        have := h.2 (by omega)
        omega
where
  nthGo_ge (x y : Int) : ∀ (es : List Event) (i : Nat) (c : Int), nthGo x y es i c = -1 ∨ (i : Int) ≤ nthGo x y es i c
    | [], i, c => .inl rfl
    | e :: es, i, c => by
      unfold nthGo
      split
      · split
        · right; omega
        · rcases nthGo_ge x y es (i + 1) (c - 1) with h | h
          · exact .inl h
          · right; omega
      · rcases nthGo_ge x y es (i + 1) c with h | h
        · exact .inl h
        · right; omega
theorem nth_lt (es : List Event) (x y : Int) (c m : Nat) : (0 ≤ nth es x y c ∧ nth es x y c < (m : Int)) ↔ c < cnt (es.take m) x y := by
  have := nthGo_lt x y es 0 c m
  simpa [nth] using this
def senderOf (H : List (List Event)) (p i : Nat) : Int := if (rd (rd H p) i).kind = 3 then nth (rd H (rd (rd H p) i).peer.toNat) 2 p (cnt ((rd H p).take i) 3 (rd (rd H p) i).peer) else -1
/-- As many were sent as were taken, at least. -/
def Sends (H : List (List Event)) : Prop := ∀ p q, p < H.length → q < H.length → cnt (rd H p) 3 q ≤ cnt (rd H q) 2 p
theorem cnt_step (es : List Event) {i : Nat} (hi : i < es.length) (x y : Int) (h : isEv x y (rd es i) = true) : cnt (es.take i) x y < cnt es x y := by
  have h1 : cnt (es.take (i + 1)) x y = cnt (es.take i) x y + 1 := by
    simp only [cnt]
    rw [vals_snoc es x y hi, if_pos h]
    simp
  have h2 := cnt_take es x y (a := i + 1) (b := es.length) (by omega)
  rw [List.take_length] at h2
  omega
/-- What may come, asked by its sender. -/
theorem sender_can {H : List (List Event)} {f : List Int} {p : Nat} (hP : PeersIn H) (hS : Sends H) (hf : FOk H f) (hp : p < H.length) (hl : rd f p < ((rd H p).length : Int)) :
    (senderOf H p (rd f p).toNat = -1 ∧ canCome H f p = true ∧ (rd (rd H p) (rd f p).toNat).kind ≠ 3) ∨
    (0 ≤ senderOf H p (rd f p).toNat ∧ (rd (rd H p) (rd f p).toNat).kind = 3 ∧ (rd (rd H p) (rd f p).toNat).peer.toNat < H.length ∧ 0 ≤ (rd (rd H p) (rd f p).toNat).peer ∧ canCome H f p = decide (senderOf H p (rd f p).toNat < rd f (rd (rd H p) (rd f p).toNat).peer.toNat)) := by
  have h0 := (hf.rng p hp).1
  have hi : (rd f p).toNat < (rd H p).length := by omega
  have hne : ¬ rd f p = ((rd H p).length : Int) := by omega
  by_cases hk : (rd (rd H p) (rd f p).toNat).kind = 3
  · right
    have hpe := hP p hp _ hi hk
    have hq : (rd (rd H p) (rd f p).toNat).peer.toNat < H.length := by omega
    have hfq := hf.rng _ hq
    have hs := hS p _ hp hq
    have hcq : ((rd (rd H p) (rd f p).toNat).peer.toNat : Int) = (rd (rd H p) (rd f p).toNat).peer := by omega
    have hst := cnt_step (rd H p) hi 3 (rd (rd H p) (rd f p).toNat).peer (by simp [isEv, hk])
    rw [hcq] at hs
    have hlast := nth_lt (rd H (rd (rd H p) (rd f p).toNat).peer.toNat) 2 p (cnt ((rd H p).take (rd f p).toNat) 3 (rd (rd H p) (rd f p).toNat).peer) (rd H (rd (rd H p) (rd f p).toNat).peer.toNat).length
    rw [List.take_length] at hlast
    have hnow := nth_lt (rd H (rd (rd H p) (rd f p).toNat).peer.toNat) 2 p (cnt ((rd H p).take (rd f p).toNat) 3 (rd (rd H p) (rd f p).toNat).peer) (rd f (rd (rd H p) (rd f p).toNat).peer.toNat).toNat
    have hge := (hlast.2 (by omega)).1
    rw [senderOf, if_pos hk]
    refine ⟨hge, hk, hq, hpe.1, ?_⟩
    rw [Bool.eq_iff_iff, decide_eq_true_eq]
    unfold canCome
    simp only [Bool.and_eq_true, Bool.not_eq_true', Bool.and_eq_false_iff, decide_eq_true_eq, decide_eq_false_iff_not, ne_eq, hne, not_false_eq_true, true_and, hk, not_true_eq_false, false_or]
    constructor
    · intro h
      have := hnow.2 (by omega)
      omega
    · intro h
      have := hnow.1 ⟨hge, by omega⟩
      omega
  · left
    refine ⟨by rw [senderOf, if_neg hk], ?_, hk⟩
    simp [canCome, hne, hk]

structure NT where
  j : Nat
  m : Int
theorem nthGo_drop (x y : Int) (es : List Event) {j : Nat} (hj : j < es.length) (m : Int) : nthGo x y (es.drop j) j m = if isEv x y (rd es j) = true then (if m = 0 then (j : Int) else nthGo x y (es.drop (j + 1)) (j + 1) (m - 1)) else nthGo x y (es.drop (j + 1)) (j + 1) m := by
  rw [drop_rd hj, nthGo]
theorem ok_impl_Nth (k : Nat) (es : List Event) (x y n : Int) (he : es.length ≤ 100000000000) (h0 : 0 ≤ n) (h1 : n ≤ 100000000000) : callE PR C (k + 2) 139 [hEvent 0 es, i64 x, i64 y, i64 n] [tEvent es] = some ⟨i64 (nth es x y n), [], [none]⟩ := by
  generalize hR : nth es x y n = R
  (refine callE_is (callE_w [ResultVar.tmp 8] rfl Tryz.func139 rfl (by decide +kernel) rfl (by simp) ?_); (conv => whnf))
  refine loop_rule (ι := NT) (fun z => [(1, i64 x), (2, i64 y), (3, i64 z.m), (11, hEvent 0 es), (12, i64 es.length), (13, i64 (z.j : Nat))])
    (fun z => [(1000000, ⟨0, 0, false, tEvent es⟩)])
    (fun z => es.length - z.j) (fun z => z.j ≤ es.length ∧ 0 ≤ z.m ∧ z.m ≤ 100000000000 ∧ R = nthGo x y (es.drop z.j) z.j z.m) ⟨0, n⟩ (by (try dsimp only [cond_true, cond_false]); exact ⟨⟨rfl, rfl, rfl, rfl, rfl, rfl, trivial⟩, ⟨rfl, trivial⟩⟩) ⟨Nat.zero_le _, h0, h1, by rw [← hR]; rfl⟩ (by simp [C]; omega) ?_
  clear hR h0 h1
  rintro ⟨j, m⟩ sl ob ⟨hj, h0, h1, hR⟩
  dsimp only at hj h0 h1 hR
  (try dsimp only [cond_true, cond_false])
  (conv => whnf)
  by_cases hjl : j < es.length
  · rw [nthGo_drop x y es hjl] at hR
    have q1 := fun k => ok_impl_isOf k (rd es j) x y
    cases e : isEv x y (rd es j) with
    | true =>
      simp only [e] at q1
      rw [e, if_pos rfl] at hR
      by_cases hm : m = 0
      · rw [if_pos hm] at hR
        subst hR
        repeat' ((with_reducible (first | refine sCall.of (q1 _) ?_ | refine gP ?_ | refine gN ?_ | refine fG.split (fun _ => ?_) (fun _ => ?_) | refine fG.not ?_ | refine gY ?_ | refine gF ?_ | refine fG.yes (flat_map (fun _ => rfl) _) ?_ | refine fG.bool (fun _ => ?_) (fun _ => ?_) | refine gS64 ?_ | refine gU8 ?_ | refine gI13 ?_ | refine fE.of rfl ?_ | refine gBq ?_ | refine gNum13 ?_ | refine gSet ?_ | refine gRd ?_ | refine gLk ?_ | refine gRow13 ?_ | refine fB.of (wide_map (fun _ => rfl) _) ?_ | refine fB.of (full_map (fun _ => rfl) _) ?_ | refine fB.of (full_map (fun x => full_rKept x) _) ?_ | refine fB.of (full_map (fun x => full_rInsL x) _) ?_ | refine fB.of (full_map (fun x => full_rItemL x) _) ?_ | refine fB.of (full_map (fun x => full_rEventL x) _) ?_ | refine fB.of (full_map (fun x => full_rState x) _) ?_ | refine fB.of (full_map (fun x => full_rIntL x) _) ?_ | refine gRf ?_)) <;> (try (conv => whnf)))
      · rw [if_neg hm] at hR
        repeat' ((with_reducible (first | refine sCall.of (q1 _) ?_ | refine gP ?_ | refine gN ?_ | refine fG.split (fun _ => ?_) (fun _ => ?_) | refine fG.not ?_ | refine gY ?_ | refine gF ?_ | refine fG.yes (flat_map (fun _ => rfl) _) ?_ | refine fG.bool (fun _ => ?_) (fun _ => ?_) | refine gS64 ?_ | refine gU8 ?_ | refine gI13 ?_ | refine fE.of rfl ?_ | refine gBq ?_ | refine gNum13 ?_ | refine gSet ?_ | refine gRd ?_ | refine gLk ?_ | refine gRow13 ?_ | refine fB.of (wide_map (fun _ => rfl) _) ?_ | refine fB.of (full_map (fun _ => rfl) _) ?_ | refine fB.of (full_map (fun x => full_rKept x) _) ?_ | refine fB.of (full_map (fun x => full_rInsL x) _) ?_ | refine fB.of (full_map (fun x => full_rItemL x) _) ?_ | refine fB.of (full_map (fun x => full_rEventL x) _) ?_ | refine fB.of (full_map (fun x => full_rState x) _) ?_ | refine fB.of (full_map (fun x => full_rIntL x) _) ?_ | refine gRf ?_)) <;> (try (conv => whnf)))
        refine ⟨⟨⟨j + 1, m - 1⟩, (by (try dsimp only [cond_true, cond_false]); exact ⟨⟨rfl, rfl, rfl, rfl, rfl, rfl, trivial⟩, ⟨rfl, trivial⟩⟩), ?_, ?_⟩⟩
        · exact ⟨by show j + 1 ≤ _; omega, by show 0 ≤ m - 1; omega, by show m - 1 ≤ _; omega, hR⟩
        · show es.length - (j + 1) < es.length - j; omega
    | false =>
      simp only [e] at q1
      rw [e, if_neg (by decide)] at hR
      repeat' ((with_reducible (first | refine sCall.of (q1 _) ?_ | refine gP ?_ | refine gN ?_ | refine fG.split (fun _ => ?_) (fun _ => ?_) | refine fG.not ?_ | refine gY ?_ | refine gF ?_ | refine fG.yes (flat_map (fun _ => rfl) _) ?_ | refine fG.bool (fun _ => ?_) (fun _ => ?_) | refine gS64 ?_ | refine gU8 ?_ | refine gI13 ?_ | refine fE.of rfl ?_ | refine gBq ?_ | refine gNum13 ?_ | refine gSet ?_ | refine gRd ?_ | refine gLk ?_ | refine gRow13 ?_ | refine fB.of (wide_map (fun _ => rfl) _) ?_ | refine fB.of (full_map (fun _ => rfl) _) ?_ | refine fB.of (full_map (fun x => full_rKept x) _) ?_ | refine fB.of (full_map (fun x => full_rInsL x) _) ?_ | refine fB.of (full_map (fun x => full_rItemL x) _) ?_ | refine fB.of (full_map (fun x => full_rEventL x) _) ?_ | refine fB.of (full_map (fun x => full_rState x) _) ?_ | refine fB.of (full_map (fun x => full_rIntL x) _) ?_ | refine gRf ?_)) <;> (try (conv => whnf)))
      refine ⟨⟨⟨j + 1, m⟩, (by (try dsimp only [cond_true, cond_false]); exact ⟨⟨rfl, rfl, rfl, rfl, rfl, rfl, trivial⟩, ⟨rfl, trivial⟩⟩), ?_, ?_⟩⟩
      · exact ⟨by show j + 1 ≤ _; omega, h0, h1, hR⟩
      · show es.length - (j + 1) < es.length - j; omega
  · rw [List.drop_eq_nil_of_le (by omega), nthGo] at hR
    subst hR
    repeat' ((with_reducible (first | refine gP ?_ | refine gN ?_ | refine fG.split (fun _ => ?_) (fun _ => ?_) | refine fG.not ?_ | refine gY ?_ | refine gF ?_ | refine fG.yes (flat_map (fun _ => rfl) _) ?_ | refine fG.bool (fun _ => ?_) (fun _ => ?_) | refine gS64 ?_ | refine gU8 ?_ | refine gI13 ?_ | refine fE.of rfl ?_ | refine gBq ?_ | refine gNum13 ?_ | refine gSet ?_ | refine gRd ?_ | refine gLk ?_ | refine gRow13 ?_ | refine fB.of (wide_map (fun _ => rfl) _) ?_ | refine fB.of (full_map (fun _ => rfl) _) ?_ | refine fB.of (full_map (fun x => full_rKept x) _) ?_ | refine fB.of (full_map (fun x => full_rInsL x) _) ?_ | refine fB.of (full_map (fun x => full_rItemL x) _) ?_ | refine fB.of (full_map (fun x => full_rEventL x) _) ?_ | refine fB.of (full_map (fun x => full_rState x) _) ?_ | refine fB.of (full_map (fun x => full_rIntL x) _) ?_ | refine gRf ?_)) <;> (try (conv => whnf)))
theorem ok_spec_Nth (k : Nat) (es : List Event) (x y n : Int) (he : es.length ≤ 100000000000) (h0 : 0 ≤ n) (h1 : n ≤ 100000000000) : callE PR C (k + 1) 206 [hEvent 0 es, i64 x, i64 y, i64 n] [tEvent es] = some ⟨i64 (nth es x y n), [], [none]⟩ := by
  generalize hR : nth es x y n = R
  (refine callE_is (callE_w [ResultVar.tmp 8] rfl Tryz.func206 rfl (by decide +kernel) rfl (by simp) ?_); (conv => whnf))
  refine loop_rule (ι := NT) (fun z => [(0, hEvent 0 es), (1, i64 x), (2, i64 y), (3, i64 z.m), (9, i64 (z.j : Nat))])
    (fun z => [(1000000, ⟨0, 0, false, tEvent es⟩)])
    (fun z => es.length - z.j) (fun z => z.j ≤ es.length ∧ 0 ≤ z.m ∧ z.m ≤ 100000000000 ∧ R = nthGo x y (es.drop z.j) z.j z.m) ⟨0, n⟩ (by (try dsimp only [cond_true, cond_false]); exact ⟨⟨rfl, rfl, rfl, rfl, rfl, trivial⟩, ⟨rfl, trivial⟩⟩) ⟨Nat.zero_le _, h0, h1, by rw [← hR]; rfl⟩ (by simp [C]; omega) ?_
  clear hR h0 h1
  rintro ⟨j, m⟩ sl ob ⟨hj, h0, h1, hR⟩
  dsimp only at hj h0 h1 hR
  (try dsimp only [cond_true, cond_false])
  (conv => whnf)
  by_cases hjl : j < es.length
  · rw [nthGo_drop x y es hjl] at hR
    cases e : isEv x y (rd es j) with
    | true =>
      have e' := e
      simp only [isEv, Bool.and_eq_true, decide_eq_true_eq] at e'
      obtain ⟨e1, e2⟩ := e'
      rw [e, if_pos rfl] at hR
      by_cases hm : m = 0
      · rw [if_pos hm] at hR
        subst hR
        repeat' ((with_reducible (first | refine gP ?_ | refine gN ?_ | refine fG.split (fun _ => ?_) (fun _ => ?_) | refine fG.not ?_ | refine gY ?_ | refine gF ?_ | refine fG.yes (flat_map (fun _ => rfl) _) ?_ | refine fG.bool (fun _ => ?_) (fun _ => ?_) | refine gS64 ?_ | refine gU8 ?_ | refine gI13 ?_ | refine fE.of rfl ?_ | refine gBq ?_ | refine gNum13 ?_ | refine gSet ?_ | refine gRd ?_ | refine gLk ?_ | refine gRow13 ?_ | refine fB.of (wide_map (fun _ => rfl) _) ?_ | refine fB.of (full_map (fun _ => rfl) _) ?_ | refine fB.of (full_map (fun x => full_rKept x) _) ?_ | refine fB.of (full_map (fun x => full_rInsL x) _) ?_ | refine fB.of (full_map (fun x => full_rItemL x) _) ?_ | refine fB.of (full_map (fun x => full_rEventL x) _) ?_ | refine fB.of (full_map (fun x => full_rState x) _) ?_ | refine fB.of (full_map (fun x => full_rIntL x) _) ?_ | refine gRf ?_)) <;> (try (conv => whnf)))
      · rw [if_neg hm] at hR
        repeat' ((with_reducible (first | refine gP ?_ | refine gN ?_ | refine fG.split (fun _ => ?_) (fun _ => ?_) | refine fG.not ?_ | refine gY ?_ | refine gF ?_ | refine fG.yes (flat_map (fun _ => rfl) _) ?_ | refine fG.bool (fun _ => ?_) (fun _ => ?_) | refine gS64 ?_ | refine gU8 ?_ | refine gI13 ?_ | refine fE.of rfl ?_ | refine gBq ?_ | refine gNum13 ?_ | refine gSet ?_ | refine gRd ?_ | refine gLk ?_ | refine gRow13 ?_ | refine fB.of (wide_map (fun _ => rfl) _) ?_ | refine fB.of (full_map (fun _ => rfl) _) ?_ | refine fB.of (full_map (fun x => full_rKept x) _) ?_ | refine fB.of (full_map (fun x => full_rInsL x) _) ?_ | refine fB.of (full_map (fun x => full_rItemL x) _) ?_ | refine fB.of (full_map (fun x => full_rEventL x) _) ?_ | refine fB.of (full_map (fun x => full_rState x) _) ?_ | refine fB.of (full_map (fun x => full_rIntL x) _) ?_ | refine gRf ?_)) <;> (try (conv => whnf)))
        refine ⟨⟨⟨j + 1, m - 1⟩, (by (try dsimp only [cond_true, cond_false]); exact ⟨⟨rfl, rfl, rfl, rfl, rfl, trivial⟩, ⟨rfl, trivial⟩⟩), ?_, ?_⟩⟩
        · exact ⟨by show j + 1 ≤ _; omega, by show 0 ≤ m - 1; omega, by show m - 1 ≤ _; omega, hR⟩
        · show es.length - (j + 1) < es.length - j; omega
    | false =>
      have e' : ¬ ((rd es j).kind = x ∧ (rd es j).peer = y) := by rintro ⟨h1, h2⟩; simp [isEv, h1, h2] at e
      rw [e, if_neg (by decide)] at hR
      repeat' ((with_reducible (first | refine gP ?_ | refine gN ?_ | refine fG.split (fun _ => ?_) (fun _ => ?_) | refine fG.not ?_ | refine gY ?_ | refine gF ?_ | refine fG.yes (flat_map (fun _ => rfl) _) ?_ | refine fG.bool (fun _ => ?_) (fun _ => ?_) | refine gS64 ?_ | refine gU8 ?_ | refine gI13 ?_ | refine fE.of rfl ?_ | refine gBq ?_ | refine gNum13 ?_ | refine gSet ?_ | refine gRd ?_ | refine gLk ?_ | refine gRow13 ?_ | refine fB.of (wide_map (fun _ => rfl) _) ?_ | refine fB.of (full_map (fun _ => rfl) _) ?_ | refine fB.of (full_map (fun x => full_rKept x) _) ?_ | refine fB.of (full_map (fun x => full_rInsL x) _) ?_ | refine fB.of (full_map (fun x => full_rItemL x) _) ?_ | refine fB.of (full_map (fun x => full_rEventL x) _) ?_ | refine fB.of (full_map (fun x => full_rState x) _) ?_ | refine fB.of (full_map (fun x => full_rIntL x) _) ?_ | refine gRf ?_)) <;> (try (conv => whnf)))
      all_goals first
        | (exfalso; omega)
        | (refine ⟨⟨⟨j + 1, m⟩, (by (try dsimp only [cond_true, cond_false]); exact ⟨⟨rfl, rfl, rfl, rfl, rfl, trivial⟩, ⟨rfl, trivial⟩⟩), ?_, ?_⟩⟩
           · exact ⟨by show j + 1 ≤ _; omega, h0, h1, hR⟩
           · show es.length - (j + 1) < es.length - j; omega)
  · rw [List.drop_eq_nil_of_le (by omega), nthGo] at hR
    subst hR
    repeat' ((with_reducible (first | refine gP ?_ | refine gN ?_ | refine fG.split (fun _ => ?_) (fun _ => ?_) | refine fG.not ?_ | refine gY ?_ | refine gF ?_ | refine fG.yes (flat_map (fun _ => rfl) _) ?_ | refine fG.bool (fun _ => ?_) (fun _ => ?_) | refine gS64 ?_ | refine gU8 ?_ | refine gI13 ?_ | refine fE.of rfl ?_ | refine gBq ?_ | refine gNum13 ?_ | refine gSet ?_ | refine gRd ?_ | refine gLk ?_ | refine gRow13 ?_ | refine fB.of (wide_map (fun _ => rfl) _) ?_ | refine fB.of (full_map (fun _ => rfl) _) ?_ | refine fB.of (full_map (fun x => full_rKept x) _) ?_ | refine fB.of (full_map (fun x => full_rInsL x) _) ?_ | refine fB.of (full_map (fun x => full_rItemL x) _) ?_ | refine fB.of (full_map (fun x => full_rEventL x) _) ?_ | refine fB.of (full_map (fun x => full_rState x) _) ?_ | refine fB.of (full_map (fun x => full_rIntL x) _) ?_ | refine gRf ?_)) <;> (try (conv => whnf)))
theorem cnt_le (es : List Event) (x y : Int) : cnt es x y ≤ es.length := vals_le es x y
theorem ok_impl_sender (k : Nat) (P : List (List Ins)) (S : List State) (W : List (List Item)) (H : List (List Event)) (p i : Nat) (hP : PeersIn H) (hp : p < H.length) (hi : i < (rd H p).length) (hl : ∀ j : Nat, j < H.length → (rd H j).length ≤ 1000000000) :
    callE PR C (k + 4) 75 [aSys 0 P S W H, i64 (p : Nat), i64 (i : Nat)] [tInsSS P, tStateS S, tItemSS W, tEventSS H] = some ⟨i64 (senderOf H p i), [], [none, none, none, none]⟩ := by
  have b1 := hl p hp
  unfold senderOf
  by_cases c2 : (rd (rd H p) i).kind = 3
  · rw [if_pos c2]
    have hq := hP p hp i hi c2
    have b2 := hl (rd (rd H p) i).peer.toNat (by omega)
    have hc := cnt_le ((rd H p).take i) 3 (rd (rd H p) i).peer
    rw [List.length_take] at hc
    have e4 : (List.map rEvent (rd H p)).length = (rd H p).length := by simp
    have q1 := fun k => ok_impl_Count k ((rd H p).take i) 3 (rd (rd H p) i).peer (by simp; omega)
    have q2 := fun k => ok_impl_Nth k (rd H (rd (rd H p) i).peer.toNat) 2 p (cnt ((rd H p).take i) 3 (rd (rd H p) i).peer : Nat) (by omega) (by omega) (by omega)
    (refine callE_is (callE_w [ResultVar.tmp 6] rfl Tryz.func75 rfl (by decide +kernel) rfl (by simp) ?_); (conv => whnf))
    repeat' ((with_reducible (first | refine sCall.of (q1 _) ?_ | refine sCall.of (q2 _) ?_ | refine gP ?_ | refine gN ?_ | refine fG.split (fun _ => ?_) (fun _ => ?_) | refine fG.not ?_ | refine gY ?_ | refine gF ?_ | refine fG.yes (flat_map (fun _ => rfl) _) ?_ | refine fG.bool (fun _ => ?_) (fun _ => ?_) | refine gS64 ?_ | refine gU8 ?_ | refine gI13 ?_ | refine fE.of rfl ?_ | refine gBq ?_ | refine gNum13 ?_ | refine gSet ?_ | refine gRd ?_ | refine gLk ?_ | refine gRow13 ?_ | refine fB.of (wide_map (fun _ => rfl) _) ?_ | refine fB.of (full_map (fun _ => rfl) _) ?_ | refine fB.of (full_map (fun x => full_rKept x) _) ?_ | refine fB.of (full_map (fun x => full_rInsL x) _) ?_ | refine fB.of (full_map (fun x => full_rItemL x) _) ?_ | refine fB.of (full_map (fun x => full_rEventL x) _) ?_ | refine fB.of (full_map (fun x => full_rState x) _) ?_ | refine fB.of (full_map (fun x => full_rIntL x) _) ?_ | refine gRf ?_ | refine sDraw.mk' (id := 4) [(1, 16), (3, 16), (5, 16)] (ty := tys) rfl (by decide +kernel) ?_)) <;> (try (conv => whnf)))
  · rw [if_neg c2]
    (refine callE_is (callE_w [ResultVar.tmp 6] rfl Tryz.func75 rfl (by decide +kernel) rfl (by simp) ?_); (conv => whnf))
    repeat' ((with_reducible (first | refine gP ?_ | refine gN ?_ | refine fG.split (fun _ => ?_) (fun _ => ?_) | refine fG.not ?_ | refine gY ?_ | refine gF ?_ | refine fG.yes (flat_map (fun _ => rfl) _) ?_ | refine fG.bool (fun _ => ?_) (fun _ => ?_) | refine gS64 ?_ | refine gU8 ?_ | refine gI13 ?_ | refine fE.of rfl ?_ | refine gBq ?_ | refine gNum13 ?_ | refine gSet ?_ | refine gRd ?_ | refine gLk ?_ | refine gRow13 ?_ | refine fB.of (wide_map (fun _ => rfl) _) ?_ | refine fB.of (full_map (fun _ => rfl) _) ?_ | refine fB.of (full_map (fun x => full_rKept x) _) ?_ | refine fB.of (full_map (fun x => full_rInsL x) _) ?_ | refine fB.of (full_map (fun x => full_rItemL x) _) ?_ | refine fB.of (full_map (fun x => full_rEventL x) _) ?_ | refine fB.of (full_map (fun x => full_rState x) _) ?_ | refine fB.of (full_map (fun x => full_rIntL x) _) ?_ | refine gRf ?_ | refine sDraw.mk' (id := 4) [(1, 16), (3, 16), (5, 16)] (ty := tys) rfl (by decide +kernel) ?_)) <;> (try (conv => whnf)))
theorem ok_spec_l7Sender (k : Nat) (P : List (List Ins)) (S : List State) (W : List (List Item)) (H : List (List Event)) (p i : Nat) (hP : PeersIn H) (hp : p < H.length) (hi : i < (rd H p).length) (hl : ∀ j : Nat, j < H.length → (rd H j).length ≤ 1000000000) :
    callE PR C (k + 3) 133 [aSys 0 P S W H, i64 (p : Nat), i64 (i : Nat)] [tInsSS P, tStateS S, tItemSS W, tEventSS H] = some ⟨i64 (senderOf H p i), [], [none, none, none, none]⟩ := by
  have b1 := hl p hp
  unfold senderOf
  by_cases c2 : (rd (rd H p) i).kind = 3
  · rw [if_pos c2]
    have hq := hP p hp i hi c2
    have b2 := hl (rd (rd H p) i).peer.toNat (by omega)
    have hc := cnt_le ((rd H p).take i) 3 (rd (rd H p) i).peer
    rw [List.length_take] at hc
    have e4 : (List.map rEvent (rd H p)).length = (rd H p).length := by simp
    have q1 := fun k => ok_spec_Count k ((rd H p).take i) 3 (rd (rd H p) i).peer (by simp; omega)
    have q2 := fun k => ok_spec_Nth k (rd H (rd (rd H p) i).peer.toNat) 2 p (cnt ((rd H p).take i) 3 (rd (rd H p) i).peer : Nat) (by omega) (by omega) (by omega)
    (refine callE_is (callE_w [ResultVar.tmp 6] rfl Tryz.func133 rfl (by decide +kernel) rfl (by simp) ?_); (conv => whnf))
    repeat' ((with_reducible (first | refine sCall.of (q1 _) ?_ | refine sCall.of (q2 _) ?_ | refine gP ?_ | refine gN ?_ | refine fG.split (fun _ => ?_) (fun _ => ?_) | refine fG.not ?_ | refine gY ?_ | refine gF ?_ | refine fG.yes (flat_map (fun _ => rfl) _) ?_ | refine fG.bool (fun _ => ?_) (fun _ => ?_) | refine gS64 ?_ | refine gU8 ?_ | refine gI13 ?_ | refine fE.of rfl ?_ | refine gBq ?_ | refine gNum13 ?_ | refine gSet ?_ | refine gRd ?_ | refine gLk ?_ | refine gRow13 ?_ | refine fB.of (wide_map (fun _ => rfl) _) ?_ | refine fB.of (full_map (fun _ => rfl) _) ?_ | refine fB.of (full_map (fun x => full_rKept x) _) ?_ | refine fB.of (full_map (fun x => full_rInsL x) _) ?_ | refine fB.of (full_map (fun x => full_rItemL x) _) ?_ | refine fB.of (full_map (fun x => full_rEventL x) _) ?_ | refine fB.of (full_map (fun x => full_rState x) _) ?_ | refine fB.of (full_map (fun x => full_rIntL x) _) ?_ | refine gRf ?_ | refine sDraw.mk' (id := 4) [(1, 16), (3, 16), (5, 16)] (ty := tys) rfl (by decide +kernel) ?_)) <;> (try (conv => whnf)))
  · rw [if_neg c2]
    (refine callE_is (callE_w [ResultVar.tmp 6] rfl Tryz.func133 rfl (by decide +kernel) rfl (by simp) ?_); (conv => whnf))
    repeat' ((with_reducible (first | refine gP ?_ | refine gN ?_ | refine fG.split (fun _ => ?_) (fun _ => ?_) | refine fG.not ?_ | refine gY ?_ | refine gF ?_ | refine fG.yes (flat_map (fun _ => rfl) _) ?_ | refine fG.bool (fun _ => ?_) (fun _ => ?_) | refine gS64 ?_ | refine gU8 ?_ | refine gI13 ?_ | refine fE.of rfl ?_ | refine gBq ?_ | refine gNum13 ?_ | refine gSet ?_ | refine gRd ?_ | refine gLk ?_ | refine gRow13 ?_ | refine fB.of (wide_map (fun _ => rfl) _) ?_ | refine fB.of (full_map (fun _ => rfl) _) ?_ | refine fB.of (full_map (fun x => full_rKept x) _) ?_ | refine fB.of (full_map (fun x => full_rInsL x) _) ?_ | refine fB.of (full_map (fun x => full_rItemL x) _) ?_ | refine fB.of (full_map (fun x => full_rEventL x) _) ?_ | refine fB.of (full_map (fun x => full_rState x) _) ?_ | refine fB.of (full_map (fun x => full_rIntL x) _) ?_ | refine gRf ?_ | refine sDraw.mk' (id := 4) [(1, 16), (3, 16), (5, 16)] (ty := tys) rfl (by decide +kernel) ?_)) <;> (try (conv => whnf)))
theorem ok_spec_l13Can (k : Nat) (P : List (List Ins)) (S : List State) (W : List (List Item)) (H : List (List Event)) (f : List Int) (p : Nat) (hP : PeersIn H) (hS : Sends H) (hf : FOk H f) (hp : p < H.length) (hl : ∀ j : Nat, j < H.length → (rd H j).length ≤ 1000000000) (hn : H.length ≤ 1000) :
    callE PR C (k + 4) 65 [aSys 0 P S W H, .h 1000004 0 0 [] 1 0 f.length, i64 (p : Nat)] [tInsSS P, tStateS S, tItemSS W, tEventSS H, tI f] = some ⟨bl (canCome H f p), [], [none, none, none, none, none]⟩ := by
  have b1 := hl p hp
  have hfl := hf.len
  have hfp := hf.rng p hp
  have e4 : (List.map rEvent (rd H p)).length = (rd H p).length := by simp
  by_cases c1 : rd f p = ((rd H p).length : Int)
  · rw [show canCome H f p = false by simp [canCome, c1]]
    (refine callE_is (callE_w [ResultVar.tmp 6] rfl Tryz.func65 rfl (by decide +kernel) rfl (by simp) ?_); (conv => whnf))
    repeat' ((with_reducible (first | refine gP ?_ | refine gN ?_ | refine fG.split (fun _ => ?_) (fun _ => ?_) | refine fG.not ?_ | refine gY ?_ | refine gF ?_ | refine fG.yes (flat_map (fun _ => rfl) _) ?_ | refine fG.bool (fun _ => ?_) (fun _ => ?_) | refine gS64 ?_ | refine gU8 ?_ | refine gI13 ?_ | refine fE.of rfl ?_ | refine gBq ?_ | refine gNum13 ?_ | refine gSet ?_ | refine gRd ?_ | refine gLk ?_ | refine gRow13 ?_ | refine fB.of (wide_map (fun _ => rfl) _) ?_ | refine fB.of (full_map (fun _ => rfl) _) ?_ | refine fB.of (full_map (fun x => full_rKept x) _) ?_ | refine fB.of (full_map (fun x => full_rInsL x) _) ?_ | refine fB.of (full_map (fun x => full_rItemL x) _) ?_ | refine fB.of (full_map (fun x => full_rEventL x) _) ?_ | refine fB.of (full_map (fun x => full_rState x) _) ?_ | refine fB.of (full_map (fun x => full_rIntL x) _) ?_ | refine gRf ?_ | refine sDraw.none (id := 1) (ty := tys) rfl (by decide +kernel) ?_ | refine sDraw.none (id := 3) (ty := tys) rfl (by decide +kernel) ?_ | refine sDraw.none (id := 4) (ty := tys) rfl (by decide +kernel) ?_)) <;> (try (conv => whnf)))
  · have hlt : rd f p < ((rd H p).length : Int) := by omega
    have q1 := fun k => ok_spec_l7Sender k P S W H p (rd f p).toNat hP hp (by omega) hl
    rw [show (((rd f p).toNat : Nat) : Int) = rd f p by omega] at q1
    rcases sender_can hP hS hf hp hlt with ⟨h1, h2, h3⟩ | ⟨h1, h2, h3, h4, h5⟩
    · rw [h1] at q1
      rw [h2]
      (refine callE_is (callE_w [ResultVar.tmp 6] rfl Tryz.func65 rfl (by decide +kernel) rfl (by simp) ?_); (conv => whnf))
      repeat' ((with_reducible (first | refine sCall.of (q1 _) ?_ | refine gP ?_ | refine gN ?_ | refine fG.split (fun _ => ?_) (fun _ => ?_) | refine fG.not ?_ | refine gY ?_ | refine gF ?_ | refine fG.yes (flat_map (fun _ => rfl) _) ?_ | refine fG.bool (fun _ => ?_) (fun _ => ?_) | refine gS64 ?_ | refine gU8 ?_ | refine gI13 ?_ | refine fE.of rfl ?_ | refine gBq ?_ | refine gNum13 ?_ | refine gSet ?_ | refine gRd ?_ | refine gLk ?_ | refine gRow13 ?_ | refine fB.of (wide_map (fun _ => rfl) _) ?_ | refine fB.of (full_map (fun _ => rfl) _) ?_ | refine fB.of (full_map (fun x => full_rKept x) _) ?_ | refine fB.of (full_map (fun x => full_rInsL x) _) ?_ | refine fB.of (full_map (fun x => full_rItemL x) _) ?_ | refine fB.of (full_map (fun x => full_rEventL x) _) ?_ | refine fB.of (full_map (fun x => full_rState x) _) ?_ | refine fB.of (full_map (fun x => full_rIntL x) _) ?_ | refine gRf ?_ | refine sDraw.none (id := 1) (ty := tys) rfl (by decide +kernel) ?_ | refine sDraw.none (id := 3) (ty := tys) rfl (by decide +kernel) ?_ | refine sDraw.none (id := 4) (ty := tys) rfl (by decide +kernel) ?_)) <;> (try (conv => whnf)))
    · rw [h5]
      generalize senderOf H p (rd f p).toNat = k' at q1 h1 ⊢
      (refine callE_is (callE_w [ResultVar.tmp 6] rfl Tryz.func65 rfl (by decide +kernel) rfl (by simp) ?_); (conv => whnf))
      repeat' ((with_reducible (first | refine sCall.of (q1 _) ?_ | refine gP ?_ | refine gN ?_ | refine fG.split (fun _ => ?_) (fun _ => ?_) | refine fG.not ?_ | refine gY ?_ | refine gF ?_ | refine fG.yes (flat_map (fun _ => rfl) _) ?_ | refine fG.bool (fun _ => ?_) (fun _ => ?_) | refine gS64 ?_ | refine gU8 ?_ | refine gI13 ?_ | refine fE.of rfl ?_ | refine gBq ?_ | refine gNum13 ?_ | refine gSet ?_ | refine gRd ?_ | refine gLk ?_ | refine gRow13 ?_ | refine fB.of (wide_map (fun _ => rfl) _) ?_ | refine fB.of (full_map (fun _ => rfl) _) ?_ | refine fB.of (full_map (fun x => full_rKept x) _) ?_ | refine fB.of (full_map (fun x => full_rInsL x) _) ?_ | refine fB.of (full_map (fun x => full_rItemL x) _) ?_ | refine fB.of (full_map (fun x => full_rEventL x) _) ?_ | refine fB.of (full_map (fun x => full_rState x) _) ?_ | refine fB.of (full_map (fun x => full_rIntL x) _) ?_ | refine gRf ?_ | refine sDraw.none (id := 1) (ty := tys) rfl (by decide +kernel) ?_ | refine sDraw.none (id := 3) (ty := tys) rfl (by decide +kernel) ?_ | refine sDraw.none (id := 4) (ty := tys) rfl (by decide +kernel) ?_)) <;> (try (conv => whnf)))
      all_goals simp

/-! ### Rows that are right -/
theorem sysOk_facts {P : List (List Ins)} {S : List State} {W : List (List Item)} {H : List (List Event)} (h : sysOk P S W H = true) : SysIs P S W H ∧ PeersIn H ∧ Sends H ∧ ∀ p, p < H.length → (rd H p).length ≤ 200 := by
  simp only [sysOk, sizesOk, inB, Bool.and_eq_true, decide_eq_true_eq, allBelow_eq] at h
  obtain ⟨⟨a1, a2, a3, a4⟩, _, b2, b3, _⟩ := h
  have hI : SysIs P S W H := ⟨by omega, a2, a3, a4⟩
  obtain ⟨h1, h2⟩ := peersIn_of hI.n a3 b2
  refine ⟨hI, h1, fun p q hp hq => ?_, h2⟩
  have h3 := b3 q (by omega) p (by omega)
  simp only [fits, decide_eq_true_eq] at h3
  have h4 := congrArg List.length h3
  simp only [List.length_append] at h4
  simp only [cnt]
  omega
abbrev tWho (l : List Who) : Cont := .tree 0 (.sl 2 (l.map rWho))

theorem set_rWho (l : List Who) (n : Nat) (a b : Int) : (l.map rWho).set n [.v (.int .i64 a), .v (.int .i64 b)] = (l.set n ⟨a, b⟩).map rWho := by simp [rWho, List.map_set]
theorem rep_rWho (n : Nat) (a b : Int) : List.replicate n [T.v (.int .i64 a), .v (.int .i64 b)] = (List.replicate n (⟨a, b⟩ : Who)).map rWho := by simp [rWho]
theorem gI14 {p A : Prop} (h : A) (e : p := by first | with_reducible assumption | omega | (simp only [Nat.zero_add, Nat.add_zero, Nat.sub_zero, Int.toNat_natCast, Int.toNat_zero, Int.toNat_one, List.length_map, List.length_nil, Int.reduceToNat, Nat.reduceAdd, Nat.reduceSub, Int.sub_zero, Int.reduceAdd, Int.reduceSub, Nat.sub_self, Int.toNat_natCast_add_one, marks_len, bs_len, List.length_append, List.length_cons, List.length_set, List.length_replicate, List.length_range]; first | done | omega)) : sI p A := sI.mk e h
theorem gNum14 {r r' : Nat} {F : Nat → Prop} (h : F r') (e : r = r' := by first | (simp only [Nat.zero_add, Nat.add_zero, Nat.sub_zero, Int.toNat_natCast, Int.toNat_zero, Int.toNat_one, List.length_map, List.length_nil, Int.reduceToNat, Nat.reduceAdd, Nat.reduceSub, Int.sub_zero, Int.reduceAdd, Int.reduceSub, Nat.sub_self, Int.toNat_natCast_add_one, marks_len, bs_len]; rfl) | rfl) : sN r F := sN.eq e h
theorem gRow14 {r r' : List (List T)} {F : List (List T) → Prop} (h : F r') (e : r = r' := by first | (simp only [Nat.add_zero, Nat.zero_add, Nat.reduceAdd, List.drop_zero, List.take_succ_cons, List.take_nil, List.drop_succ_cons, List.drop_nil, List.take_zero, List.nil_append, List.append_nil, List.map_nil, drop_suf, take_pre, drop_map, List.take_length, take_len_set, take_len_app, List.set_set, List.length_map, set_rWho, rep_rWho, snoc_rWho, set_rState, rep_rState, set_rInsL, rep_rInsL, set_rItemL, rep_rItemL, set_rEventL, rep_rEventL, set_rItem, rep_rItem, rep_rKept, marks_take, set_rKept, set_rIns, rep_rIns, set_rEvent, rep_rEvent, snoc_rKept, snoc_rEvent, snoc_rIns, bytesT_bs, snoc_rI, snoc_rB, snoc_rBool, set_rI, set_rBool, rep_rI, rep_rBool, map_app]; rfl) | rfl) : sR r F := sR.eq e h
theorem ok_laws_szWhoS (k : Nat) (l : List Who) (m : Int) (h0 : 0 ≤ m) (h1 : m ≤ 1048576) (hl : l.length ≤ 140737488355328) : callE PR C (k + 1) 31 [(.h 1000000 0 0 [] 2 0 l.length), i64 m] [(.tree 0 (.sl 2 (l.map rWho)))] = some ⟨i64 (left m l.length), [], [none]⟩ := by
  (refine callE_is (callE_w [ResultVar.tmp 4] rfl Tryz.func31 rfl (by decide +kernel) rfl (by simp) ?_); (conv => whnf))
  repeat' ((with_reducible (first | refine gP ?_ | refine gN ?_ | refine fG.split (fun _ => ?_) (fun _ => ?_) | refine fG.not ?_ | refine gY ?_ | refine gF ?_ | refine fG.yes (flat_map (fun _ => rfl) _) ?_ | refine fG.bool (fun _ => ?_) (fun _ => ?_) | refine gS64 ?_ | refine gU8 ?_ | refine gI14 ?_ | refine fE.of rfl ?_ | refine gBq ?_ | refine gNum14 ?_ | refine gSet ?_ | refine gRd ?_ | refine gLk ?_ | refine gRow14 ?_ | refine fB.of (wide_map (fun _ => rfl) _) ?_ | refine fB.of (full_map (fun _ => rfl) _) ?_ | refine fB.of (full_map (fun x => full_rKept x) _) ?_ | refine fB.of (full_map (fun x => full_rInsL x) _) ?_ | refine fB.of (full_map (fun x => full_rItemL x) _) ?_ | refine fB.of (full_map (fun x => full_rEventL x) _) ?_ | refine fB.of (full_map (fun x => full_rState x) _) ?_ | refine fB.of (full_map (fun x => full_rIntL x) _) ?_ | refine gRf ?_)) <;> (try (conv => whnf)))
  all_goals (simp only [left, *, if_true, if_false]; done)
set_option maxRecDepth 10000 in
theorem ok_laws_toWho (k : Nat) (a : Int) (b : Int) : callE PR C (k + 1) 91 [.ag [i64 a, i64 b]] [] = some ⟨.ag [i64 a, i64 b], [], []⟩ := by
  (refine callE_is (callE_w [ResultVar.cell 2 36] rfl Tryz.func91 rfl (by decide +kernel) rfl (by simp) ?_); (conv => whnf))
  repeat' ((with_reducible (first | refine gP ?_ | refine gN ?_ | refine fG.split (fun _ => ?_) (fun _ => ?_) | refine fG.not ?_ | refine gY ?_ | refine gF ?_ | refine fG.yes (flat_map (fun _ => rfl) _) ?_ | refine fG.bool (fun _ => ?_) (fun _ => ?_) | refine gS64 ?_ | refine gU8 ?_ | refine gI14 ?_ | refine fE.of rfl ?_ | refine gBq ?_ | refine gNum14 ?_ | refine gSet ?_ | refine gRd ?_ | refine gLk ?_ | refine gRow14 ?_ | refine fB.of (wide_map (fun _ => rfl) _) ?_ | refine fB.of (full_map (fun _ => rfl) _) ?_ | refine fB.of (full_map (fun x => full_rKept x) _) ?_ | refine fB.of (full_map (fun x => full_rInsL x) _) ?_ | refine fB.of (full_map (fun x => full_rItemL x) _) ?_ | refine fB.of (full_map (fun x => full_rEventL x) _) ?_ | refine fB.of (full_map (fun x => full_rState x) _) ?_ | refine fB.of (full_map (fun x => full_rIntL x) _) ?_ | refine gRf ?_)) <;> (try (conv => whnf)))
theorem ok_laws_eqWho (k : Nat) (a : Int) (b : Int) : callE PR C (k + 1) 92 [.ag [i64 a, i64 b], .ag [i64 a, i64 b]] [] = some ⟨bl true, [], []⟩ := by
  all_goals (refine callE_is (callE_w [ResultVar.tmp 4] rfl Tryz.func92 rfl (by decide +kernel) rfl (by simp) ?_); (conv => whnf))
  all_goals repeat' ((with_reducible (first | refine gP ?_ | refine gN ?_ | refine fG.split (fun _ => ?_) (fun _ => ?_) | refine fG.not ?_ | refine gY ?_ | refine gF ?_ | refine fG.yes (flat_map (fun _ => rfl) _) ?_ | refine fG.bool (fun _ => ?_) (fun _ => ?_) | refine gS64 ?_ | refine gU8 ?_ | refine gI14 ?_ | refine fE.of rfl ?_ | refine gBq ?_ | refine gNum14 ?_ | refine gSet ?_ | refine gRd ?_ | refine gLk ?_ | refine gRow14 ?_ | refine fB.of (wide_map (fun _ => rfl) _) ?_ | refine fB.of (full_map (fun _ => rfl) _) ?_ | refine fB.of (full_map (fun x => full_rKept x) _) ?_ | refine fB.of (full_map (fun x => full_rInsL x) _) ?_ | refine fB.of (full_map (fun x => full_rItemL x) _) ?_ | refine fB.of (full_map (fun x => full_rEventL x) _) ?_ | refine fB.of (full_map (fun x => full_rState x) _) ?_ | refine fB.of (full_map (fun x => full_rIntL x) _) ?_ | refine gRf ?_)) <;> (try (conv => whnf)))
theorem ok_laws_toWhoS (k : Nat) (l : List Who) (hl : l.length ≤ 100000000000) : callE PR C (k + 2) 33 [(.h 1000000 0 0 [] 2 0 l.length)] [(.tree 0 (.sl 2 (l.map rWho)))] = some ⟨.h 2000000 1 0 [] 2 0 l.length, [(.tree 9 (.sl 2 (l.map rWho)))], [none]⟩ := by
  (refine callE_is (callE_w [ResultVar.tmp 2] rfl Tryz.func33 rfl (by decide +kernel) rfl (by simp) ?_); (conv => whnf))
  repeat' ((with_reducible (first | refine gP ?_ | refine gN ?_ | refine fG.split (fun _ => ?_) (fun _ => ?_) | refine fG.not ?_ | refine gY ?_ | refine gF ?_ | refine fG.yes (flat_map (fun _ => rfl) _) ?_ | refine fG.bool (fun _ => ?_) (fun _ => ?_) | refine gS64 ?_ | refine gU8 ?_ | refine gI14 ?_ | refine fE.of rfl ?_ | refine gBq ?_ | refine gNum14 ?_ | refine gSet ?_ | refine gRd ?_ | refine gLk ?_ | refine gRow14 ?_ | refine fB.of (wide_map (fun _ => rfl) _) ?_ | refine fB.of (full_map (fun _ => rfl) _) ?_ | refine fB.of (full_map (fun x => full_rKept x) _) ?_ | refine fB.of (full_map (fun x => full_rInsL x) _) ?_ | refine fB.of (full_map (fun x => full_rItemL x) _) ?_ | refine fB.of (full_map (fun x => full_rEventL x) _) ?_ | refine fB.of (full_map (fun x => full_rState x) _) ?_ | refine fB.of (full_map (fun x => full_rIntL x) _) ?_ | refine gRf ?_)) <;> (try (conv => whnf)))
  refine loop_rule (ι := TL Who) (fun x => [(0, (.h 1000000 0 0 [] 2 0 l.length)), (3, .h 7 1 0 [] 2 0 l.length), (4, i64 (x.j : Nat))])
    (fun x => [(1000000, ⟨0, 0, false, (.tree 0 (.sl 2 (l.map rWho)))⟩), (7, ⟨1, x.g, x.d, .tree 9 (.sl 2 (x.l.map rWho))⟩)])
    (fun x => l.length - x.j) (fun x => x.j ≤ l.length ∧ x.l = fill l x.j) ⟨0, List.replicate l.length default, 0, false⟩ (by (try dsimp only [cond_true, cond_false]); exact ⟨⟨rfl, rfl, rfl, trivial⟩, ⟨rfl, rfl, trivial⟩⟩) ⟨Nat.zero_le _, (fill_zero l).symm⟩ (by simp [C]; omega) ?_
  rintro ⟨j, out, g, d⟩ sl ob ⟨hj, hout⟩
  dsimp only at hj hout
  have hlen : out.length = l.length := by rw [hout, fill_len]
  (try dsimp only [cond_true, cond_false])
  (conv => whnf)
  repeat' ((with_reducible (first | refine sCall.of (ok_laws_toWho _ _ _) ?_ | refine gP ?_ | refine gN ?_ | refine fG.split (fun _ => ?_) (fun _ => ?_) | refine fG.not ?_ | refine gY ?_ | refine gF ?_ | refine fG.yes (flat_map (fun _ => rfl) _) ?_ | refine fG.bool (fun _ => ?_) (fun _ => ?_) | refine gS64 ?_ | refine gU8 ?_ | refine gI14 ?_ | refine fE.of rfl ?_ | refine gBq ?_ | refine gNum14 ?_ | refine gSet ?_ | refine gRd ?_ | refine gLk ?_ | refine gRow14 ?_ | refine fB.of (wide_map (fun _ => rfl) _) ?_ | refine fB.of (full_map (fun _ => rfl) _) ?_ | refine fB.of (full_map (fun x => full_rKept x) _) ?_ | refine fB.of (full_map (fun x => full_rInsL x) _) ?_ | refine fB.of (full_map (fun x => full_rItemL x) _) ?_ | refine fB.of (full_map (fun x => full_rEventL x) _) ?_ | refine fB.of (full_map (fun x => full_rState x) _) ?_ | refine fB.of (full_map (fun x => full_rIntL x) _) ?_ | refine gRf ?_)) <;> (try (conv => whnf)))
  case' refine_1 h =>
    refine ⟨⟨⟨j + 1, out.set j (rd l j), _, _⟩, (by (try dsimp only [cond_true, cond_false]); exact ⟨⟨rfl, rfl, rfl, trivial⟩, ⟨rfl, rfl, trivial⟩⟩), ?_, ?_⟩⟩
    · exact ⟨by show j + 1 ≤ _; omega, by show _ = _; rw [hout]; exact fill_set l j (by omega)⟩
    · show l.length - (j + 1) < l.length - j; omega
  case refine_2 h =>
    have : j = l.length := by omega
    rw [hout, this, fill_all, List.take_length]
theorem ok_laws_eqWhoS (k : Nat) (l : List Who) (hl : l.length ≤ 100000000000) : callE PR C (k + 2) 34 [(.h 1000000 0 0 [] 2 0 l.length), (.h 1000001 0 0 [] 2 0 l.length)] [(.tree 0 (.sl 2 (l.map rWho))), (.tree 0 (.sl 2 (l.map rWho)))] = some ⟨bl true, [], [none, none]⟩ := by
  (refine callE_is (callE_w [ResultVar.tmp 4] rfl Tryz.func34 rfl (by decide +kernel) rfl (by simp) ?_); (conv => whnf))
  repeat' ((with_reducible (first | refine gP ?_ | refine gN ?_ | refine fG.split (fun _ => ?_) (fun _ => ?_) | refine fG.not ?_ | refine gY ?_ | refine gF ?_ | refine fG.yes (flat_map (fun _ => rfl) _) ?_ | refine fG.bool (fun _ => ?_) (fun _ => ?_) | refine gS64 ?_ | refine gU8 ?_ | refine gI14 ?_ | refine fE.of rfl ?_ | refine gBq ?_ | refine gNum14 ?_ | refine gSet ?_ | refine gRd ?_ | refine gLk ?_ | refine gRow14 ?_ | refine fB.of (wide_map (fun _ => rfl) _) ?_ | refine fB.of (full_map (fun _ => rfl) _) ?_ | refine fB.of (full_map (fun x => full_rKept x) _) ?_ | refine fB.of (full_map (fun x => full_rInsL x) _) ?_ | refine fB.of (full_map (fun x => full_rItemL x) _) ?_ | refine fB.of (full_map (fun x => full_rEventL x) _) ?_ | refine fB.of (full_map (fun x => full_rState x) _) ?_ | refine fB.of (full_map (fun x => full_rIntL x) _) ?_ | refine gRf ?_ | refine sDraw.none (id := 6) (ty := tys) rfl (by decide +kernel) ?_)) <;> (try (conv => whnf)))
  refine loop_rule (ι := Nat) (fun j => [(0, (.h 1000000 0 0 [] 2 0 l.length)), (1, (.h 1000001 0 0 [] 2 0 l.length)), (5, i64 (j : Nat))])
    (fun x => [(1000000, ⟨0, 0, false, (.tree 0 (.sl 2 (l.map rWho)))⟩), (1000001, ⟨0, 0, false, (.tree 0 (.sl 2 (l.map rWho)))⟩)])
    (fun j => l.length - j) (fun j => j ≤ l.length) 0 (by (try dsimp only [cond_true, cond_false]); exact ⟨⟨rfl, rfl, rfl, trivial⟩, ⟨rfl, rfl, trivial⟩⟩) (Nat.zero_le _) (by simp [C]; omega) ?_
  rintro j sl ob hj
  (try dsimp only [cond_true, cond_false])
  (conv => whnf)
  repeat' ((with_reducible (first | refine sCall.of (ok_laws_eqWho _ _ _) ?_ | refine gP ?_ | refine gN ?_ | refine fG.split (fun _ => ?_) (fun _ => ?_) | refine fG.not ?_ | refine gY ?_ | refine gF ?_ | refine fG.yes (flat_map (fun _ => rfl) _) ?_ | refine fG.bool (fun _ => ?_) (fun _ => ?_) | refine gS64 ?_ | refine gU8 ?_ | refine gI14 ?_ | refine fE.of rfl ?_ | refine gBq ?_ | refine gNum14 ?_ | refine gSet ?_ | refine gRd ?_ | refine gLk ?_ | refine gRow14 ?_ | refine fB.of (wide_map (fun _ => rfl) _) ?_ | refine fB.of (full_map (fun _ => rfl) _) ?_ | refine fB.of (full_map (fun x => full_rKept x) _) ?_ | refine fB.of (full_map (fun x => full_rInsL x) _) ?_ | refine fB.of (full_map (fun x => full_rItemL x) _) ?_ | refine fB.of (full_map (fun x => full_rEventL x) _) ?_ | refine fB.of (full_map (fun x => full_rState x) _) ?_ | refine fB.of (full_map (fun x => full_rIntL x) _) ?_ | refine gRf ?_ | refine sDraw.none (id := 6) (ty := tys) rfl (by decide +kernel) ?_)) <;> (try (conv => whnf)))
  case' refine_1 h =>
    refine ⟨⟨j + 1, (by (try dsimp only [cond_true, cond_false]); exact ⟨⟨rfl, rfl, rfl, trivial⟩, ⟨rfl, rfl, trivial⟩⟩), ?_, ?_⟩⟩
    · show j + 1 ≤ _; omega
    · show l.length - (j + 1) < l.length - j; omega

/-! ### The row -/
def rowIs (P : List (List Ins)) (S : List State) (W : List (List Item)) (H : List (List Event)) : List Who := if sysOk P S W H = true then rowOf H else []
theorem ok_impl_Row (k : Nat) (P : List (List Ins)) (S : List State) (W : List (List Item)) (H : List (List Event)) (hb : SysB 10000000000 P S W H) :
    callE PR C (k + 12) 17 [aSys 0 P S W H] [tInsSS P, tStateS S, tItemSS W, tEventSS H] = some ⟨.h 2000000 1 0 [] 2 0 (rowIs P S W H).length, [tWho9 (rowIs P S W H)], [none, none, none, none]⟩ := by
  have q1 := fun k => ok_impl_SysOk k P S W H hb
  unfold rowIs
  cases e : sysOk P S W H with
  | false =>
    simp only [e] at q1
    (refine callE_is (callE_w [ResultVar.tmp 2] rfl Tryz.func17 rfl (by decide +kernel) rfl (by simp) ?_); (conv => whnf))
    repeat' ((with_reducible (first | refine sCall.of (q1 _) ?_ | refine gP ?_ | refine gN ?_ | refine fG.split (fun _ => ?_) (fun _ => ?_) | refine fG.not ?_ | refine gY ?_ | refine gF ?_ | refine fG.yes (flat_map (fun _ => rfl) _) ?_ | refine fG.bool (fun _ => ?_) (fun _ => ?_) | refine gS64 ?_ | refine gU8 ?_ | refine gI14 ?_ | refine fE.of rfl ?_ | refine gBq ?_ | refine gNum14 ?_ | refine gSet ?_ | refine gRd ?_ | refine gLk ?_ | refine gRow14 ?_ | refine fB.of (wide_map (fun _ => rfl) _) ?_ | refine fB.of (full_map (fun _ => rfl) _) ?_ | refine fB.of (full_map (fun x => full_rKept x) _) ?_ | refine fB.of (full_map (fun x => full_rInsL x) _) ?_ | refine fB.of (full_map (fun x => full_rItemL x) _) ?_ | refine fB.of (full_map (fun x => full_rEventL x) _) ?_ | refine fB.of (full_map (fun x => full_rState x) _) ?_ | refine fB.of (full_map (fun x => full_rIntL x) _) ?_ | refine gRf ?_)) <;> (try (conv => whnf)))
    all_goals rfl
  | true =>
    simp only [e] at q1
    obtain ⟨hI, hP, hS, h200⟩ := sysOk_facts e
    have hN := hI.n
    have hHl := hI.h
    have q2 := fun k => ok_impl_rowOf k H (by omega) (fun j hj => by have := h200 j hj; omega) hP
    rw [if_pos rfl]
    (refine callE_is (callE_w [ResultVar.tmp 2] rfl Tryz.func17 rfl (by decide +kernel) rfl (by simp) ?_); (conv => whnf))
    repeat' ((with_reducible (first | refine sCall.of (q1 _) ?_ | refine sCall.of (q2 _) ?_ | refine gP ?_ | refine gN ?_ | refine fG.split (fun _ => ?_) (fun _ => ?_) | refine fG.not ?_ | refine gY ?_ | refine gF ?_ | refine fG.yes (flat_map (fun _ => rfl) _) ?_ | refine fG.bool (fun _ => ?_) (fun _ => ?_) | refine gS64 ?_ | refine gU8 ?_ | refine gI14 ?_ | refine fE.of rfl ?_ | refine gBq ?_ | refine gNum14 ?_ | refine gSet ?_ | refine gRd ?_ | refine gLk ?_ | refine gRow14 ?_ | refine fB.of (wide_map (fun _ => rfl) _) ?_ | refine fB.of (full_map (fun _ => rfl) _) ?_ | refine fB.of (full_map (fun x => full_rKept x) _) ?_ | refine fB.of (full_map (fun x => full_rInsL x) _) ?_ | refine fB.of (full_map (fun x => full_rItemL x) _) ?_ | refine fB.of (full_map (fun x => full_rEventL x) _) ?_ | refine fB.of (full_map (fun x => full_rState x) _) ?_ | refine fB.of (full_map (fun x => full_rIntL x) _) ?_ | refine gRf ?_)) <;> (try (conv => whnf)))
set_option maxHeartbeats 4000000 in
theorem ok_spec_Row (k : Nat) (P : List (List Ins)) (S : List State) (W : List (List Item)) (H : List (List Event)) (hb : SysB 10000000000 P S W H) :
    callE PR C (k + 8) 18 [aSys 0 P S W H] [tInsSS P, tStateS S, tItemSS W, tEventSS H] = some ⟨.h 2000000 1 0 [] 2 0 (rowIs P S W H).length, [tWho9 (rowIs P S W H)], [none, none, none, none]⟩ := by
  have q1 := fun k => ok_spec_SysOk k P S W H hb
  unfold rowIs
  cases e : sysOk P S W H with
  | false =>
    simp only [e] at q1
    (refine callE_is (callE_w [ResultVar.tmp 2] rfl Tryz.func18 rfl (by decide +kernel) rfl (by simp) ?_); (conv => whnf))
    repeat' ((with_reducible (first | refine sCall.of (q1 _) ?_ | refine gP ?_ | refine gN ?_ | refine fG.split (fun _ => ?_) (fun _ => ?_) | refine fG.not ?_ | refine gY ?_ | refine gF ?_ | refine fG.yes (flat_map (fun _ => rfl) _) ?_ | refine fG.bool (fun _ => ?_) (fun _ => ?_) | refine gS64 ?_ | refine gU8 ?_ | refine gI14 ?_ | refine fE.of rfl ?_ | refine gBq ?_ | refine gNum14 ?_ | refine gSet ?_ | refine gRd ?_ | refine gLk ?_ | refine gRow14 ?_ | refine fB.of (wide_map (fun _ => rfl) _) ?_ | refine fB.of (full_map (fun _ => rfl) _) ?_ | refine fB.of (full_map (fun x => full_rKept x) _) ?_ | refine fB.of (full_map (fun x => full_rInsL x) _) ?_ | refine fB.of (full_map (fun x => full_rItemL x) _) ?_ | refine fB.of (full_map (fun x => full_rEventL x) _) ?_ | refine fB.of (full_map (fun x => full_rState x) _) ?_ | refine fB.of (full_map (fun x => full_rIntL x) _) ?_ | refine gRf ?_)) <;> (try (conv => whnf)))
    all_goals rfl
  | true =>
    simp only [e] at q1
    obtain ⟨hI, hP, hS, h200⟩ := sysOk_facts e
    have hN := hI.n
    have hHl := hI.h
    have htot : allEv H ≤ 200 * 4 := by
      have h1 := wts_bound List.length 200 H h200
      rw [← allEv_wts] at h1
      omega
    rw [if_pos rfl]
    (refine callE_is (callE_w [ResultVar.tmp 2] rfl Tryz.func18 rfl (by decide +kernel) rfl (by simp) ?_); (conv => whnf))
    repeat' ((with_reducible (first | refine sCall.of (q1 _) ?_ | refine gP ?_ | refine gN ?_ | refine fG.split (fun _ => ?_) (fun _ => ?_) | refine fG.not ?_ | refine gY ?_ | refine gF ?_ | refine fG.yes (flat_map (fun _ => rfl) _) ?_ | refine fG.bool (fun _ => ?_) (fun _ => ?_) | refine gS64 ?_ | refine gU8 ?_ | refine gI14 ?_ | refine fE.of rfl ?_ | refine gBq ?_ | refine gNum14 ?_ | refine gSet ?_ | refine gRd ?_ | refine gLk ?_ | refine gRow14 ?_ | refine fB.of (wide_map (fun _ => rfl) _) ?_ | refine fB.of (full_map (fun _ => rfl) _) ?_ | refine fB.of (full_map (fun x => full_rKept x) _) ?_ | refine fB.of (full_map (fun x => full_rInsL x) _) ?_ | refine fB.of (full_map (fun x => full_rItemL x) _) ?_ | refine fB.of (full_map (fun x => full_rEventL x) _) ?_ | refine fB.of (full_map (fun x => full_rState x) _) ?_ | refine fB.of (full_map (fun x => full_rIntL x) _) ?_ | refine gRf ?_)) <;> (try (conv => whnf)))
    refine loop_rule (ι := RW) (fun z => [(1, .pt 1 1 0 [] 0 0), (3, .h z.o z.b 0 [] 2 0 z.l.length), (4, .h 14 1 0 [] 1 0 H.length), (5, i64 (z.p : Nat))])
      (fun z => [(1000000, ⟨0, 0, false, tInsSS P⟩), (1000001, ⟨0, 0, false, tStateS S⟩), (1000002, ⟨0, 0, false, tItemSS W⟩), (1000003, ⟨0, 0, false, tEventSS H⟩), (1, ⟨1, 0, false, bSys P S W H⟩), (z.o, ⟨z.b, 0, false, tWho9 z.l⟩), (14, ⟨1, z.g, z.d, tI9 z.f⟩)])
      (fun z => (allEv H - z.l.length) * (H.length + 1) + (H.length - z.p))
      (fun z => Reach H z.f z.l.length ∧ z.p ≤ H.length ∧ (∀ q, q < z.p → canCome H z.f q = false) ∧ z.l ++ greedy H (allEv H - z.l.length) z.f = rowOf H ∧ (z.o = 6 ∨ z.o = 34))
      ⟨[], List.replicate H.length 0, 0, 6, _, _, _⟩ (by (try dsimp only [cond_true, cond_false]); exact ⟨⟨rfl, rfl, rfl, rfl, trivial⟩, ⟨rfl, rfl, rfl, rfl, rfl, rfl, rfl, trivial⟩⟩) ⟨.zero, Nat.zero_le _, fun q h => absurd h (Nat.not_lt_zero q), by simp [rowOf], .inl rfl⟩ (by
        have : allEv H * (H.length + 1) ≤ 800 * 5 := Nat.mul_le_mul (by omega) (by omega)
        simp [C]; omega) ?_
    rintro ⟨out, f, p, o, b, g, d⟩ sl ob ⟨hr, hp, hno, hrow, ho⟩
    dsimp only at hr hp hno hrow ho
    have hf := hr.fok
    have hfl := hf.len
    have hle := hr.le_all
    by_cases hpl : p < H.length
    · have hfp := hf.rng p hpl
      have hhp := h200 p hpl
      have et : List.take H.length f = f := List.take_of_length_le (by omega)
      have q4 : ∀ k, callE PR C (k + 4) 65 [aSys 0 P S W H, .h 1000004 0 0 [] 1 0 (List.take H.length f).length, i64 (p : Nat)] [tInsSS P, tStateS S, tItemSS W, tEventSS H, tI (List.take H.length f)] = some ⟨bl (canCome H f p), [], [none, none, none, none, none]⟩ := by
        intro k
        rw [et]
        exact ok_spec_l13Can k P S W H f p hP hS hf hpl (fun j hj => by have := h200 j hj; omega) (by omega)
      cases hc : canCome H f p with
      | false =>
        rcases ho with rfl | rfl
        all_goals (try dsimp only [cond_true, cond_false])
        all_goals (conv => whnf)
        all_goals repeat' ((with_reducible (first | refine sCall.of (q4 _) ?_ | refine gP ?_ | refine gN ?_ | refine fG.split (fun _ => ?_) (fun _ => ?_) | refine fG.not ?_ | refine gY ?_ | refine gF ?_ | refine fG.yes (flat_map (fun _ => rfl) _) ?_ | refine fG.bool (fun _ => ?_) (fun _ => ?_) | refine gS64 ?_ | refine gU8 ?_ | refine gI14 ?_ | refine fE.of rfl ?_ | refine gBq ?_ | refine gNum14 ?_ | refine gSet ?_ | refine gRd ?_ | refine gLk ?_ | refine gRow14 ?_ | refine fB.of (wide_map (fun _ => rfl) _) ?_ | refine fB.of (full_map (fun _ => rfl) _) ?_ | refine fB.of (full_map (fun x => full_rKept x) _) ?_ | refine fB.of (full_map (fun x => full_rInsL x) _) ?_ | refine fB.of (full_map (fun x => full_rItemL x) _) ?_ | refine fB.of (full_map (fun x => full_rEventL x) _) ?_ | refine fB.of (full_map (fun x => full_rState x) _) ?_ | refine fB.of (full_map (fun x => full_rIntL x) _) ?_ | refine gRf ?_)) <;> (try (conv => whnf)))
        all_goals first
          | (exfalso; simp_all; done)
          | (refine ⟨⟨⟨out, f, p + 1, 6, _, _, _⟩, (by (try dsimp only [cond_true, cond_false]); exact ⟨⟨rfl, rfl, rfl, rfl, trivial⟩, ⟨rfl, rfl, rfl, rfl, rfl, rfl, rfl, trivial⟩⟩), ?_, ?_⟩⟩
             · exact ⟨hr, by show p + 1 ≤ _; omega, no_more hno hc, hrow, .inl rfl⟩
             · show (allEv H - out.length) * (H.length + 1) + (H.length - (p + 1)) < (allEv H - out.length) * (H.length + 1) + (H.length - p); omega)
          | (refine ⟨⟨⟨out, f, p + 1, 34, _, _, _⟩, (by (try dsimp only [cond_true, cond_false]); exact ⟨⟨rfl, rfl, rfl, rfl, trivial⟩, ⟨rfl, rfl, rfl, rfl, rfl, rfl, rfl, trivial⟩⟩), ?_, ?_⟩⟩
             · exact ⟨hr, by show p + 1 ≤ _; omega, no_more hno hc, hrow, .inr rfl⟩
             · show (allEv H - out.length) * (H.length + 1) + (H.length - (p + 1)) < (allEv H - out.length) * (H.length + 1) + (H.length - p); omega)
      | true =>
        obtain ⟨h1, h2, h3⟩ := row_step hr hpl hc hno hrow
        rcases ho with rfl | rfl
        all_goals (try dsimp only [cond_true, cond_false])
        all_goals (conv => whnf)
        all_goals repeat' ((with_reducible (first | refine sCall.of (q4 _) ?_ | refine gP ?_ | refine gN ?_ | refine fG.split (fun _ => ?_) (fun _ => ?_) | refine fG.not ?_ | refine gY ?_ | refine gF ?_ | refine fG.yes (flat_map (fun _ => rfl) _) ?_ | refine fG.bool (fun _ => ?_) (fun _ => ?_) | refine gS64 ?_ | refine gU8 ?_ | refine gI14 ?_ | refine fE.of rfl ?_ | refine gBq ?_ | refine gNum14 ?_ | refine gSet ?_ | refine gRd ?_ | refine gLk ?_ | refine gRow14 ?_ | refine fB.of (wide_map (fun _ => rfl) _) ?_ | refine fB.of (full_map (fun _ => rfl) _) ?_ | refine fB.of (full_map (fun x => full_rKept x) _) ?_ | refine fB.of (full_map (fun x => full_rInsL x) _) ?_ | refine fB.of (full_map (fun x => full_rItemL x) _) ?_ | refine fB.of (full_map (fun x => full_rEventL x) _) ?_ | refine fB.of (full_map (fun x => full_rState x) _) ?_ | refine fB.of (full_map (fun x => full_rIntL x) _) ?_ | refine gRf ?_)) <;> (try (conv => whnf)))
        all_goals first
          | (exfalso; simp_all; done)
          | (refine ⟨⟨⟨out ++ [⟨p, rd f p⟩], goOn f p, 0, 34, _, _, _⟩, (by (try dsimp only [cond_true, cond_false]); exact ⟨⟨rfl, rfl, rfl, rfl, trivial⟩, ⟨rfl, rfl, rfl, rfl, rfl, rfl, rfl, trivial⟩⟩), ?_, ?_⟩⟩
             · exact ⟨h1, Nat.zero_le _, fun q h => absurd h (Nat.not_lt_zero q), h2, .inr rfl⟩
             · exact h3)
    · have hst : Stuck H f := fun q hq => hno q (by omega)
      rw [greedy_stop hst, List.append_nil] at hrow
      subst hrow
      rcases ho with rfl | rfl
      all_goals (try dsimp only [cond_true, cond_false])
      all_goals (conv => whnf)
      all_goals repeat' ((with_reducible (first | refine gP ?_ | refine gN ?_ | refine fG.split (fun _ => ?_) (fun _ => ?_) | refine fG.not ?_ | refine gY ?_ | refine gF ?_ | refine fG.yes (flat_map (fun _ => rfl) _) ?_ | refine fG.bool (fun _ => ?_) (fun _ => ?_) | refine gS64 ?_ | refine gU8 ?_ | refine gI14 ?_ | refine fE.of rfl ?_ | refine gBq ?_ | refine gNum14 ?_ | refine gSet ?_ | refine gRd ?_ | refine gLk ?_ | refine gRow14 ?_ | refine fB.of (wide_map (fun _ => rfl) _) ?_ | refine fB.of (full_map (fun _ => rfl) _) ?_ | refine fB.of (full_map (fun x => full_rKept x) _) ?_ | refine fB.of (full_map (fun x => full_rInsL x) _) ?_ | refine fB.of (full_map (fun x => full_rItemL x) _) ?_ | refine fB.of (full_map (fun x => full_rEventL x) _) ?_ | refine fB.of (full_map (fun x => full_rState x) _) ?_ | refine fB.of (full_map (fun x => full_rIntL x) _) ?_ | refine gRf ?_)) <;> (try (conv => whnf)))
      all_goals rfl

end Go.Proofs.YtkmhbofkjcknjaaGreat.Abs
namespace Go.Proofs.YtkmhbofkjcknjaaGreat.Abs
open Go Go.Proofs
set_option linter.unusedVariables false
set_option linter.unusedSimpArgs false
attribute [local irreducible] callE
/-! ### Marks in systems (printed by a program in NOTES: gen/marks.py) -/
def mItem (m : Int) (x : Item) : Item := ⟨decide (m.tmod 3 = 0), m + 1⟩
def wItem (x : Item) : Nat := 2
theorem wts_wItem (l : List Item) : wts wItem l = 2 * l.length := wts_const 2 l
def mWho (m : Int) (x : Who) : Who := ⟨m, m + 1⟩
def wWho (x : Who) : Nat := 2
theorem wts_wWho (l : List Who) : wts wWho l = 2 * l.length := wts_const 2 l
theorem ok_laws_markInsS8 (k : Nat) (l : List Ins) (m : Int) (hl : l.length ≤ 100000000000) (h0 : 0 ≤ m) (h1 : m ≤ 100000000000) : callE PR C (k + 1) 155 [(.h 1000000 0 0 [] 5 0 l.length), i64 m] [(.tree 8 (.sl 5 (l.map rIns)))] = some ⟨i64 (m + 5 * l.length), [], [some (.tree 8 (.sl 5 ((marks mIns wIns m l).map rIns)))]⟩ := by
  (refine callE_is (callE_w [ResultVar.tmp 4] rfl Tryz.func155 rfl (by decide +kernel) rfl (by simp) ?_); (conv => whnf))
  repeat' ((with_reducible (first | refine gP ?_ | refine gN ?_ | refine fG.split (fun _ => ?_) (fun _ => ?_) | refine fG.not ?_ | refine gY ?_ | refine gF ?_ | refine fG.yes (flat_map (fun _ => rfl) _) ?_ | refine fG.bool (fun _ => ?_) (fun _ => ?_) | refine gS64 ?_ | refine gU8 ?_ | refine gI14 ?_ | refine fE.of rfl ?_ | refine gBq ?_ | refine gNum14 ?_ | refine gSet ?_ | refine gRd ?_ | refine gLk ?_ | refine gRow14 ?_ | refine fB.of (wide_map (fun _ => rfl) _) ?_ | refine fB.of (full_map (fun _ => rfl) _) ?_ | refine fB.of (full_map (fun x => full_rKept x) _) ?_ | refine fB.of (full_map (fun x => full_rInsL x) _) ?_ | refine fB.of (full_map (fun x => full_rItemL x) _) ?_ | refine fB.of (full_map (fun x => full_rEventL x) _) ?_ | refine fB.of (full_map (fun x => full_rState x) _) ?_ | refine fB.of (full_map (fun x => full_rIntL x) _) ?_ | refine gRf ?_)) <;> (try (conv => whnf)))
  refine loop_rule (ι := TM Ins) (fun x => [(0, (.h 1000000 0 0 [] 5 0 l.length)), (1, i64 x.m), (5, i64 (x.j : Nat))])
    (fun x => [(1000000, ⟨0, x.g, x.d, .tree 8 (.sl 5 (x.l.map rIns))⟩)])
    (fun x => l.length - x.j) (fun x => x.j ≤ l.length ∧ x.l = half mIns wIns m l x.j ∧ x.m = m + 5 * x.j) ⟨0, m, l, 0, false⟩ (by (try dsimp only [cond_true, cond_false]); exact ⟨⟨rfl, rfl, rfl, trivial⟩, ⟨rfl, trivial⟩⟩) ⟨Nat.zero_le _, (half_zero _ _ m l).symm, by simp⟩ (by simp [C]; omega) ?_
  rintro ⟨j, n, out, g, d⟩ sl ob ⟨hj, hout, hn⟩
  dsimp only at hj hout hn
  have hlen : out.length = l.length := by rw [hout, half_len]
  have hz : n.tmod 3 = n.tmod 3 := rfl
  (try dsimp only [cond_true, cond_false])
  (conv => whnf)
  repeat' ((with_reducible (first | refine sZ.eq (hz) ?_ | refine gP ?_ | refine gN ?_ | refine fG.split (fun _ => ?_) (fun _ => ?_) | refine fG.not ?_ | refine gY ?_ | refine gF ?_ | refine fG.yes (flat_map (fun _ => rfl) _) ?_ | refine fG.bool (fun _ => ?_) (fun _ => ?_) | refine gS64 ?_ | refine gU8 ?_ | refine gI14 ?_ | refine fE.of rfl ?_ | refine gBq ?_ | refine gNum14 ?_ | refine gSet ?_ | refine gRd ?_ | refine gLk ?_ | refine gRow14 ?_ | refine fB.of (wide_map (fun _ => rfl) _) ?_ | refine fB.of (full_map (fun _ => rfl) _) ?_ | refine fB.of (full_map (fun x => full_rKept x) _) ?_ | refine fB.of (full_map (fun x => full_rInsL x) _) ?_ | refine fB.of (full_map (fun x => full_rItemL x) _) ?_ | refine fB.of (full_map (fun x => full_rEventL x) _) ?_ | refine fB.of (full_map (fun x => full_rState x) _) ?_ | refine fB.of (full_map (fun x => full_rIntL x) _) ?_ | refine gRf ?_)) <;> (try (conv => whnf)))
  case' refine_1 h =>
    refine ⟨⟨⟨j + 1, n + 1 + 1 + 1 + 1 + 1, out.set j (mIns n (rd out j)), _, _⟩, (by (try dsimp only [cond_true, cond_false]); exact ⟨⟨rfl, rfl, rfl, trivial⟩, ⟨rfl, trivial⟩⟩), ?_, ?_⟩⟩
    · refine ⟨by show j + 1 ≤ _; omega, ?_, by show _ = _; push_cast; omega⟩
      show _ = _
      rw [← half_set _ _ m l j (by omega), hout, hn]
      simp only [wts_wIns, List.length_take, mIns, show min j l.length = j by omega, Int.natCast_mul]
      rfl
    · show l.length - (j + 1) < l.length - j; omega
  case refine_2 h =>
    have : j = l.length := by omega
    rw [hout, hn, this, half_all]
theorem ok_laws_markItemS8 (k : Nat) (l : List Item) (m : Int) (hl : l.length ≤ 100000000000) (h0 : 0 ≤ m) (h1 : m ≤ 100000000000) : callE PR C (k + 1) 156 [(.h 1000000 0 0 [] 2 0 l.length), i64 m] [(.tree 8 (.sl 2 (l.map rItem)))] = some ⟨i64 (m + 2 * l.length), [], [some (.tree 8 (.sl 2 ((marks mItem wItem m l).map rItem)))]⟩ := by
  (refine callE_is (callE_w [ResultVar.tmp 4] rfl Tryz.func156 rfl (by decide +kernel) rfl (by simp) ?_); (conv => whnf))
  repeat' ((with_reducible (first | refine gP ?_ | refine gN ?_ | refine fG.split (fun _ => ?_) (fun _ => ?_) | refine fG.not ?_ | refine gY ?_ | refine gF ?_ | refine fG.yes (flat_map (fun _ => rfl) _) ?_ | refine fG.bool (fun _ => ?_) (fun _ => ?_) | refine gS64 ?_ | refine gU8 ?_ | refine gI14 ?_ | refine fE.of rfl ?_ | refine gBq ?_ | refine gNum14 ?_ | refine gSet ?_ | refine gRd ?_ | refine gLk ?_ | refine gRow14 ?_ | refine fB.of (wide_map (fun _ => rfl) _) ?_ | refine fB.of (full_map (fun _ => rfl) _) ?_ | refine fB.of (full_map (fun x => full_rKept x) _) ?_ | refine fB.of (full_map (fun x => full_rInsL x) _) ?_ | refine fB.of (full_map (fun x => full_rItemL x) _) ?_ | refine fB.of (full_map (fun x => full_rEventL x) _) ?_ | refine fB.of (full_map (fun x => full_rState x) _) ?_ | refine fB.of (full_map (fun x => full_rIntL x) _) ?_ | refine gRf ?_)) <;> (try (conv => whnf)))
  refine loop_rule (ι := TM Item) (fun x => [(0, (.h 1000000 0 0 [] 2 0 l.length)), (1, i64 x.m), (5, i64 (x.j : Nat))])
    (fun x => [(1000000, ⟨0, x.g, x.d, .tree 8 (.sl 2 (x.l.map rItem))⟩)])
    (fun x => l.length - x.j) (fun x => x.j ≤ l.length ∧ x.l = half mItem wItem m l x.j ∧ x.m = m + 2 * x.j) ⟨0, m, l, 0, false⟩ (by (try dsimp only [cond_true, cond_false]); exact ⟨⟨rfl, rfl, rfl, trivial⟩, ⟨rfl, trivial⟩⟩) ⟨Nat.zero_le _, (half_zero _ _ m l).symm, by simp⟩ (by simp [C]; omega) ?_
  rintro ⟨j, n, out, g, d⟩ sl ob ⟨hj, hout, hn⟩
  dsimp only at hj hout hn
  have hlen : out.length = l.length := by rw [hout, half_len]
  have hz : n.tmod 3 = n.tmod 3 := rfl
  (try dsimp only [cond_true, cond_false])
  (conv => whnf)
  repeat' ((with_reducible (first | refine sZ.eq (hz) ?_ | refine gP ?_ | refine gN ?_ | refine fG.split (fun _ => ?_) (fun _ => ?_) | refine fG.not ?_ | refine gY ?_ | refine gF ?_ | refine fG.yes (flat_map (fun _ => rfl) _) ?_ | refine fG.bool (fun _ => ?_) (fun _ => ?_) | refine gS64 ?_ | refine gU8 ?_ | refine gI14 ?_ | refine fE.of rfl ?_ | refine gBq ?_ | refine gNum14 ?_ | refine gSet ?_ | refine gRd ?_ | refine gLk ?_ | refine gRow14 ?_ | refine fB.of (wide_map (fun _ => rfl) _) ?_ | refine fB.of (full_map (fun _ => rfl) _) ?_ | refine fB.of (full_map (fun x => full_rKept x) _) ?_ | refine fB.of (full_map (fun x => full_rInsL x) _) ?_ | refine fB.of (full_map (fun x => full_rItemL x) _) ?_ | refine fB.of (full_map (fun x => full_rEventL x) _) ?_ | refine fB.of (full_map (fun x => full_rState x) _) ?_ | refine fB.of (full_map (fun x => full_rIntL x) _) ?_ | refine gRf ?_)) <;> (try (conv => whnf)))
  case' refine_1 h =>
    refine ⟨⟨⟨j + 1, n + 1 + 1, out.set j (mItem n (rd out j)), _, _⟩, (by (try dsimp only [cond_true, cond_false]); exact ⟨⟨rfl, rfl, rfl, trivial⟩, ⟨rfl, trivial⟩⟩), ?_, ?_⟩⟩
    · refine ⟨by show j + 1 ≤ _; omega, ?_, by show _ = _; push_cast; omega⟩
      show _ = _
      rw [← half_set _ _ m l j (by omega), hout, hn]
      simp only [wts_wItem, List.length_take, mItem, show min j l.length = j by omega, Int.natCast_mul]
      rfl
    · show l.length - (j + 1) < l.length - j; omega
  case refine_2 h =>
    have : j = l.length := by omega
    rw [hout, hn, this, half_all]
theorem ok_laws_markEventS8 (k : Nat) (l : List Event) (m : Int) (hl : l.length ≤ 100000000000) (h0 : 0 ≤ m) (h1 : m ≤ 100000000000) : callE PR C (k + 1) 157 [(.h 1000000 0 0 [] 3 0 l.length), i64 m] [(.tree 8 (.sl 3 (l.map rEvent)))] = some ⟨i64 (m + 3 * l.length), [], [some (.tree 8 (.sl 3 ((marks mEvent wEvent m l).map rEvent)))]⟩ := by
  (refine callE_is (callE_w [ResultVar.tmp 4] rfl Tryz.func157 rfl (by decide +kernel) rfl (by simp) ?_); (conv => whnf))
  repeat' ((with_reducible (first | refine gP ?_ | refine gN ?_ | refine fG.split (fun _ => ?_) (fun _ => ?_) | refine fG.not ?_ | refine gY ?_ | refine gF ?_ | refine fG.yes (flat_map (fun _ => rfl) _) ?_ | refine fG.bool (fun _ => ?_) (fun _ => ?_) | refine gS64 ?_ | refine gU8 ?_ | refine gI14 ?_ | refine fE.of rfl ?_ | refine gBq ?_ | refine gNum14 ?_ | refine gSet ?_ | refine gRd ?_ | refine gLk ?_ | refine gRow14 ?_ | refine fB.of (wide_map (fun _ => rfl) _) ?_ | refine fB.of (full_map (fun _ => rfl) _) ?_ | refine fB.of (full_map (fun x => full_rKept x) _) ?_ | refine fB.of (full_map (fun x => full_rInsL x) _) ?_ | refine fB.of (full_map (fun x => full_rItemL x) _) ?_ | refine fB.of (full_map (fun x => full_rEventL x) _) ?_ | refine fB.of (full_map (fun x => full_rState x) _) ?_ | refine fB.of (full_map (fun x => full_rIntL x) _) ?_ | refine gRf ?_)) <;> (try (conv => whnf)))
  refine loop_rule (ι := TM Event) (fun x => [(0, (.h 1000000 0 0 [] 3 0 l.length)), (1, i64 x.m), (5, i64 (x.j : Nat))])
    (fun x => [(1000000, ⟨0, x.g, x.d, .tree 8 (.sl 3 (x.l.map rEvent))⟩)])
    (fun x => l.length - x.j) (fun x => x.j ≤ l.length ∧ x.l = half mEvent wEvent m l x.j ∧ x.m = m + 3 * x.j) ⟨0, m, l, 0, false⟩ (by (try dsimp only [cond_true, cond_false]); exact ⟨⟨rfl, rfl, rfl, trivial⟩, ⟨rfl, trivial⟩⟩) ⟨Nat.zero_le _, (half_zero _ _ m l).symm, by simp⟩ (by simp [C]; omega) ?_
  rintro ⟨j, n, out, g, d⟩ sl ob ⟨hj, hout, hn⟩
  dsimp only at hj hout hn
  have hlen : out.length = l.length := by rw [hout, half_len]
  have hz : n.tmod 3 = n.tmod 3 := rfl
  (try dsimp only [cond_true, cond_false])
  (conv => whnf)
  repeat' ((with_reducible (first | refine sZ.eq (hz) ?_ | refine gP ?_ | refine gN ?_ | refine fG.split (fun _ => ?_) (fun _ => ?_) | refine fG.not ?_ | refine gY ?_ | refine gF ?_ | refine fG.yes (flat_map (fun _ => rfl) _) ?_ | refine fG.bool (fun _ => ?_) (fun _ => ?_) | refine gS64 ?_ | refine gU8 ?_ | refine gI14 ?_ | refine fE.of rfl ?_ | refine gBq ?_ | refine gNum14 ?_ | refine gSet ?_ | refine gRd ?_ | refine gLk ?_ | refine gRow14 ?_ | refine fB.of (wide_map (fun _ => rfl) _) ?_ | refine fB.of (full_map (fun _ => rfl) _) ?_ | refine fB.of (full_map (fun x => full_rKept x) _) ?_ | refine fB.of (full_map (fun x => full_rInsL x) _) ?_ | refine fB.of (full_map (fun x => full_rItemL x) _) ?_ | refine fB.of (full_map (fun x => full_rEventL x) _) ?_ | refine fB.of (full_map (fun x => full_rState x) _) ?_ | refine fB.of (full_map (fun x => full_rIntL x) _) ?_ | refine gRf ?_)) <;> (try (conv => whnf)))
  case' refine_1 h =>
    refine ⟨⟨⟨j + 1, n + 1 + 1 + 1, out.set j (mEvent n (rd out j)), _, _⟩, (by (try dsimp only [cond_true, cond_false]); exact ⟨⟨rfl, rfl, rfl, trivial⟩, ⟨rfl, trivial⟩⟩), ?_, ?_⟩⟩
    · refine ⟨by show j + 1 ≤ _; omega, ?_, by show _ = _; push_cast; omega⟩
      show _ = _
      rw [← half_set _ _ m l j (by omega), hout, hn]
      simp only [wts_wEvent, List.length_take, mEvent, show min j l.length = j by omega, Int.natCast_mul]
      rfl
    · show l.length - (j + 1) < l.length - j; omega
  case refine_2 h =>
    have : j = l.length := by omega
    rw [hout, hn, this, half_all]
theorem ok_laws_markWhoS9 (k : Nat) (l : List Who) (m : Int) (hl : l.length ≤ 100000000000) (h0 : 0 ≤ m) (h1 : m ≤ 100000000000) : callE PR C (k + 1) 36 [(.h 1000000 0 0 [] 2 0 l.length), i64 m] [(.tree 9 (.sl 2 (l.map rWho)))] = some ⟨i64 (m + 2 * l.length), [], [some (.tree 9 (.sl 2 ((marks mWho wWho m l).map rWho)))]⟩ := by
  (refine callE_is (callE_w [ResultVar.tmp 4] rfl Tryz.func36 rfl (by decide +kernel) rfl (by simp) ?_); (conv => whnf))
  repeat' ((with_reducible (first | refine gP ?_ | refine gN ?_ | refine fG.split (fun _ => ?_) (fun _ => ?_) | refine fG.not ?_ | refine gY ?_ | refine gF ?_ | refine fG.yes (flat_map (fun _ => rfl) _) ?_ | refine fG.bool (fun _ => ?_) (fun _ => ?_) | refine gS64 ?_ | refine gU8 ?_ | refine gI14 ?_ | refine fE.of rfl ?_ | refine gBq ?_ | refine gNum14 ?_ | refine gSet ?_ | refine gRd ?_ | refine gLk ?_ | refine gRow14 ?_ | refine fB.of (wide_map (fun _ => rfl) _) ?_ | refine fB.of (full_map (fun _ => rfl) _) ?_ | refine fB.of (full_map (fun x => full_rKept x) _) ?_ | refine fB.of (full_map (fun x => full_rInsL x) _) ?_ | refine fB.of (full_map (fun x => full_rItemL x) _) ?_ | refine fB.of (full_map (fun x => full_rEventL x) _) ?_ | refine fB.of (full_map (fun x => full_rState x) _) ?_ | refine fB.of (full_map (fun x => full_rIntL x) _) ?_ | refine gRf ?_)) <;> (try (conv => whnf)))
  refine loop_rule (ι := TM Who) (fun x => [(0, (.h 1000000 0 0 [] 2 0 l.length)), (1, i64 x.m), (5, i64 (x.j : Nat))])
    (fun x => [(1000000, ⟨0, x.g, x.d, .tree 9 (.sl 2 (x.l.map rWho))⟩)])
    (fun x => l.length - x.j) (fun x => x.j ≤ l.length ∧ x.l = half mWho wWho m l x.j ∧ x.m = m + 2 * x.j) ⟨0, m, l, 0, false⟩ (by (try dsimp only [cond_true, cond_false]); exact ⟨⟨rfl, rfl, rfl, trivial⟩, ⟨rfl, trivial⟩⟩) ⟨Nat.zero_le _, (half_zero _ _ m l).symm, by simp⟩ (by simp [C]; omega) ?_
  rintro ⟨j, n, out, g, d⟩ sl ob ⟨hj, hout, hn⟩
  dsimp only at hj hout hn
  have hlen : out.length = l.length := by rw [hout, half_len]
  have hz : n.tmod 3 = n.tmod 3 := rfl
  (try dsimp only [cond_true, cond_false])
  (conv => whnf)
  repeat' ((with_reducible (first | refine sZ.eq (hz) ?_ | refine gP ?_ | refine gN ?_ | refine fG.split (fun _ => ?_) (fun _ => ?_) | refine fG.not ?_ | refine gY ?_ | refine gF ?_ | refine fG.yes (flat_map (fun _ => rfl) _) ?_ | refine fG.bool (fun _ => ?_) (fun _ => ?_) | refine gS64 ?_ | refine gU8 ?_ | refine gI14 ?_ | refine fE.of rfl ?_ | refine gBq ?_ | refine gNum14 ?_ | refine gSet ?_ | refine gRd ?_ | refine gLk ?_ | refine gRow14 ?_ | refine fB.of (wide_map (fun _ => rfl) _) ?_ | refine fB.of (full_map (fun _ => rfl) _) ?_ | refine fB.of (full_map (fun x => full_rKept x) _) ?_ | refine fB.of (full_map (fun x => full_rInsL x) _) ?_ | refine fB.of (full_map (fun x => full_rItemL x) _) ?_ | refine fB.of (full_map (fun x => full_rEventL x) _) ?_ | refine fB.of (full_map (fun x => full_rState x) _) ?_ | refine fB.of (full_map (fun x => full_rIntL x) _) ?_ | refine gRf ?_)) <;> (try (conv => whnf)))
  case' refine_1 h =>
    refine ⟨⟨⟨j + 1, n + 1 + 1, out.set j (mWho n (rd out j)), _, _⟩, (by (try dsimp only [cond_true, cond_false]); exact ⟨⟨rfl, rfl, rfl, trivial⟩, ⟨rfl, trivial⟩⟩), ?_, ?_⟩⟩
    · refine ⟨by show j + 1 ≤ _; omega, ?_, by show _ = _; push_cast; omega⟩
      show _ = _
      rw [← half_set _ _ m l j (by omega), hout, hn]
      simp only [wts_wWho, List.length_take, mWho, show min j l.length = j by omega, Int.natCast_mul]
      rfl
    · show l.length - (j + 1) < l.length - j; omega
  case refine_2 h =>
    have : j = l.length := by omega
    rw [hout, hn, this, half_all]
def mInsL (m : Int) (x : List Ins) : List Ins := marks mIns wIns m x
def wInsL (x : List Ins) : Nat := 5 * x.length
theorem ok_laws_markInsSS (k : Nat) (l : List (List Ins)) (m : Int) (hl : l.length ≤ 100000000000) (h0 : 0 ≤ m) (h1 : m + wts wInsL l ≤ 10000000000) (hx : ∀ j : Nat, j < l.length → (rd l j).length ≤ 10000000000) :
    callE PR C (k + 2) 93 [.h 1000000 0 0 [] 1 0 l.length, i64 m] [.tree 9 (.sl 1 (l.map rInsL))] = some ⟨i64 (m + wts wInsL l), [], [some (.tree 9 (.sl 1 ((marks mInsL wInsL m l).map rInsL)))]⟩ := by
  (refine callE_is (callE_w [ResultVar.tmp 4] rfl Tryz.func93 rfl (by decide +kernel) rfl (by simp) ?_); (conv => whnf))
  repeat' ((with_reducible (first | refine gP ?_ | refine gN ?_ | refine fG.split (fun _ => ?_) (fun _ => ?_) | refine fG.not ?_ | refine gY ?_ | refine gF ?_ | refine fG.yes (flat_map (fun _ => rfl) _) ?_ | refine fG.bool (fun _ => ?_) (fun _ => ?_) | refine gS64 ?_ | refine gU8 ?_ | refine gI14 ?_ | refine fE.of rfl ?_ | refine gBq ?_ | refine gNum14 ?_ | refine gSet ?_ | refine gRd ?_ | refine gLk ?_ | refine gRow14 ?_ | refine fB.of (wide_map (fun _ => rfl) _) ?_ | refine fB.of (full_map (fun _ => rfl) _) ?_ | refine fB.of (full_map (fun x => full_rKept x) _) ?_ | refine fB.of (full_map (fun x => full_rInsL x) _) ?_ | refine fB.of (full_map (fun x => full_rItemL x) _) ?_ | refine fB.of (full_map (fun x => full_rEventL x) _) ?_ | refine fB.of (full_map (fun x => full_rState x) _) ?_ | refine fB.of (full_map (fun x => full_rIntL x) _) ?_ | refine gRf ?_)) <;> (try (conv => whnf)))
  refine loop_rule (ι := TM (List Ins)) (fun x => [(0, .h 1000000 0 0 [] 1 0 l.length), (1, i64 x.m), (5, i64 (x.j : Nat))])
    (fun x => [(1000000, ⟨0, x.g, x.d, .tree 9 (.sl 1 (x.l.map rInsL))⟩)])
    (fun x => l.length - x.j) (fun x => x.j ≤ l.length ∧ x.l = half mInsL wInsL m l x.j ∧ x.m = m + wts wInsL (l.take x.j)) ⟨0, m, l, 0, false⟩ (by (try dsimp only [cond_true, cond_false]); exact ⟨⟨rfl, rfl, rfl, trivial⟩, ⟨rfl, trivial⟩⟩) ⟨Nat.zero_le _, (half_zero _ _ m l).symm, by simp [wts]⟩ (by simp [C]; omega) ?_
  rintro ⟨j, n, out, g, d⟩ sl ob ⟨hj, hout, hn⟩
  dsimp only at hj hout hn
  have hlen : out.length = l.length := by rw [hout, half_len]
  have hn1 : n ≤ 10000000000 := by have := wts_le wInsL l j; omega
  have hn0 : 0 ≤ n := by omega
  have hrd : j < l.length → rd out j = rd l j := fun h => by rw [hout]; exact half_rd _ _ m l j h
  (try dsimp only [cond_true, cond_false])
  (conv => whnf)
  by_cases hjl : j < l.length
  · have hx1 : (rd out j).length ≤ 10000000000 := by rw [hrd hjl]; exact hx j hjl
    have hq : ∀ k, callE PR C (k + 1) 155 [.h 1000000 0 0 [] 5 0 ((rd out j).map rIns).length, i64 n] [.tree 8 (.sl 5 ((rd out j).map rIns))] = some ⟨i64 (n + 5 * (rd out j).length), [], [some (.tree 8 (.sl 5 ((marks mIns wIns n (rd out j)).map rIns)))]⟩ := by
      intro k
      rw [List.length_map]
      exact ok_laws_markInsS8 k (rd out j) n (by omega) (by omega) (by omega)
    repeat' ((with_reducible (first | refine sCall.of (hq _) ?_ | refine gP ?_ | refine gN ?_ | refine fG.split (fun _ => ?_) (fun _ => ?_) | refine fG.not ?_ | refine gY ?_ | refine gF ?_ | refine fG.yes (flat_map (fun _ => rfl) _) ?_ | refine fG.bool (fun _ => ?_) (fun _ => ?_) | refine gS64 ?_ | refine gU8 ?_ | refine gI14 ?_ | refine fE.of rfl ?_ | refine gBq ?_ | refine gNum14 ?_ | refine gSet ?_ | refine gRd ?_ | refine gLk ?_ | refine gRow14 ?_ | refine fB.of (wide_map (fun _ => rfl) _) ?_ | refine fB.of (full_map (fun _ => rfl) _) ?_ | refine fB.of (full_map (fun x => full_rKept x) _) ?_ | refine fB.of (full_map (fun x => full_rInsL x) _) ?_ | refine fB.of (full_map (fun x => full_rItemL x) _) ?_ | refine fB.of (full_map (fun x => full_rEventL x) _) ?_ | refine fB.of (full_map (fun x => full_rState x) _) ?_ | refine fB.of (full_map (fun x => full_rIntL x) _) ?_ | refine gRf ?_)) <;> (try (conv => whnf)))
    refine ⟨⟨⟨j + 1, n + 5 * (rd out j).length, out.set j (mInsL n (rd out j)), _, _⟩, (by (try dsimp only [cond_true, cond_false]); exact ⟨⟨rfl, rfl, rfl, trivial⟩, ⟨rfl, trivial⟩⟩), ?_, ?_⟩⟩
    · have e := wts_take wInsL l j hjl
      refine ⟨by show j + 1 ≤ _; omega, ?_, ?_⟩
      · show _ = _
        rw [← half_set _ _ m l j hjl, hrd hjl, hout, hn]
      · show _ = _
        rw [e, hrd hjl]
        simp only [wInsL]
        omega
    · show l.length - (j + 1) < l.length - j; omega
  · have : j = l.length := by omega
    repeat' ((with_reducible (first | refine gP ?_ | refine gN ?_ | refine fG.split (fun _ => ?_) (fun _ => ?_) | refine fG.not ?_ | refine gY ?_ | refine gF ?_ | refine fG.yes (flat_map (fun _ => rfl) _) ?_ | refine fG.bool (fun _ => ?_) (fun _ => ?_) | refine gS64 ?_ | refine gU8 ?_ | refine gI14 ?_ | refine fE.of rfl ?_ | refine gBq ?_ | refine gNum14 ?_ | refine gSet ?_ | refine gRd ?_ | refine gLk ?_ | refine gRow14 ?_ | refine fB.of (wide_map (fun _ => rfl) _) ?_ | refine fB.of (full_map (fun _ => rfl) _) ?_ | refine fB.of (full_map (fun x => full_rKept x) _) ?_ | refine fB.of (full_map (fun x => full_rInsL x) _) ?_ | refine fB.of (full_map (fun x => full_rItemL x) _) ?_ | refine fB.of (full_map (fun x => full_rEventL x) _) ?_ | refine fB.of (full_map (fun x => full_rState x) _) ?_ | refine fB.of (full_map (fun x => full_rIntL x) _) ?_ | refine gRf ?_)) <;> (try (conv => whnf)))
    rw [hout, hn, this, half_all, List.take_length]
def mItemL (m : Int) (x : List Item) : List Item := marks mItem wItem m x
def wItemL (x : List Item) : Nat := 2 * x.length
theorem ok_laws_markItemSS (k : Nat) (l : List (List Item)) (m : Int) (hl : l.length ≤ 100000000000) (h0 : 0 ≤ m) (h1 : m + wts wItemL l ≤ 10000000000) (hx : ∀ j : Nat, j < l.length → (rd l j).length ≤ 10000000000) :
    callE PR C (k + 2) 95 [.h 1000000 0 0 [] 1 0 l.length, i64 m] [.tree 9 (.sl 1 (l.map rItemL))] = some ⟨i64 (m + wts wItemL l), [], [some (.tree 9 (.sl 1 ((marks mItemL wItemL m l).map rItemL)))]⟩ := by
  (refine callE_is (callE_w [ResultVar.tmp 4] rfl Tryz.func95 rfl (by decide +kernel) rfl (by simp) ?_); (conv => whnf))
  repeat' ((with_reducible (first | refine gP ?_ | refine gN ?_ | refine fG.split (fun _ => ?_) (fun _ => ?_) | refine fG.not ?_ | refine gY ?_ | refine gF ?_ | refine fG.yes (flat_map (fun _ => rfl) _) ?_ | refine fG.bool (fun _ => ?_) (fun _ => ?_) | refine gS64 ?_ | refine gU8 ?_ | refine gI14 ?_ | refine fE.of rfl ?_ | refine gBq ?_ | refine gNum14 ?_ | refine gSet ?_ | refine gRd ?_ | refine gLk ?_ | refine gRow14 ?_ | refine fB.of (wide_map (fun _ => rfl) _) ?_ | refine fB.of (full_map (fun _ => rfl) _) ?_ | refine fB.of (full_map (fun x => full_rKept x) _) ?_ | refine fB.of (full_map (fun x => full_rInsL x) _) ?_ | refine fB.of (full_map (fun x => full_rItemL x) _) ?_ | refine fB.of (full_map (fun x => full_rEventL x) _) ?_ | refine fB.of (full_map (fun x => full_rState x) _) ?_ | refine fB.of (full_map (fun x => full_rIntL x) _) ?_ | refine gRf ?_)) <;> (try (conv => whnf)))
  refine loop_rule (ι := TM (List Item)) (fun x => [(0, .h 1000000 0 0 [] 1 0 l.length), (1, i64 x.m), (5, i64 (x.j : Nat))])
    (fun x => [(1000000, ⟨0, x.g, x.d, .tree 9 (.sl 1 (x.l.map rItemL))⟩)])
    (fun x => l.length - x.j) (fun x => x.j ≤ l.length ∧ x.l = half mItemL wItemL m l x.j ∧ x.m = m + wts wItemL (l.take x.j)) ⟨0, m, l, 0, false⟩ (by (try dsimp only [cond_true, cond_false]); exact ⟨⟨rfl, rfl, rfl, trivial⟩, ⟨rfl, trivial⟩⟩) ⟨Nat.zero_le _, (half_zero _ _ m l).symm, by simp [wts]⟩ (by simp [C]; omega) ?_
  rintro ⟨j, n, out, g, d⟩ sl ob ⟨hj, hout, hn⟩
  dsimp only at hj hout hn
  have hlen : out.length = l.length := by rw [hout, half_len]
  have hn1 : n ≤ 10000000000 := by have := wts_le wItemL l j; omega
  have hn0 : 0 ≤ n := by omega
  have hrd : j < l.length → rd out j = rd l j := fun h => by rw [hout]; exact half_rd _ _ m l j h
  (try dsimp only [cond_true, cond_false])
  (conv => whnf)
  by_cases hjl : j < l.length
  · have hx1 : (rd out j).length ≤ 10000000000 := by rw [hrd hjl]; exact hx j hjl
    have hq : ∀ k, callE PR C (k + 1) 156 [.h 1000000 0 0 [] 2 0 ((rd out j).map rItem).length, i64 n] [.tree 8 (.sl 2 ((rd out j).map rItem))] = some ⟨i64 (n + 2 * (rd out j).length), [], [some (.tree 8 (.sl 2 ((marks mItem wItem n (rd out j)).map rItem)))]⟩ := by
      intro k
      rw [List.length_map]
      exact ok_laws_markItemS8 k (rd out j) n (by omega) (by omega) (by omega)
    repeat' ((with_reducible (first | refine sCall.of (hq _) ?_ | refine gP ?_ | refine gN ?_ | refine fG.split (fun _ => ?_) (fun _ => ?_) | refine fG.not ?_ | refine gY ?_ | refine gF ?_ | refine fG.yes (flat_map (fun _ => rfl) _) ?_ | refine fG.bool (fun _ => ?_) (fun _ => ?_) | refine gS64 ?_ | refine gU8 ?_ | refine gI14 ?_ | refine fE.of rfl ?_ | refine gBq ?_ | refine gNum14 ?_ | refine gSet ?_ | refine gRd ?_ | refine gLk ?_ | refine gRow14 ?_ | refine fB.of (wide_map (fun _ => rfl) _) ?_ | refine fB.of (full_map (fun _ => rfl) _) ?_ | refine fB.of (full_map (fun x => full_rKept x) _) ?_ | refine fB.of (full_map (fun x => full_rInsL x) _) ?_ | refine fB.of (full_map (fun x => full_rItemL x) _) ?_ | refine fB.of (full_map (fun x => full_rEventL x) _) ?_ | refine fB.of (full_map (fun x => full_rState x) _) ?_ | refine fB.of (full_map (fun x => full_rIntL x) _) ?_ | refine gRf ?_)) <;> (try (conv => whnf)))
    refine ⟨⟨⟨j + 1, n + 2 * (rd out j).length, out.set j (mItemL n (rd out j)), _, _⟩, (by (try dsimp only [cond_true, cond_false]); exact ⟨⟨rfl, rfl, rfl, trivial⟩, ⟨rfl, trivial⟩⟩), ?_, ?_⟩⟩
    · have e := wts_take wItemL l j hjl
      refine ⟨by show j + 1 ≤ _; omega, ?_, ?_⟩
      · show _ = _
        rw [← half_set _ _ m l j hjl, hrd hjl, hout, hn]
      · show _ = _
        rw [e, hrd hjl]
        simp only [wItemL]
        omega
    · show l.length - (j + 1) < l.length - j; omega
  · have : j = l.length := by omega
    repeat' ((with_reducible (first | refine gP ?_ | refine gN ?_ | refine fG.split (fun _ => ?_) (fun _ => ?_) | refine fG.not ?_ | refine gY ?_ | refine gF ?_ | refine fG.yes (flat_map (fun _ => rfl) _) ?_ | refine fG.bool (fun _ => ?_) (fun _ => ?_) | refine gS64 ?_ | refine gU8 ?_ | refine gI14 ?_ | refine fE.of rfl ?_ | refine gBq ?_ | refine gNum14 ?_ | refine gSet ?_ | refine gRd ?_ | refine gLk ?_ | refine gRow14 ?_ | refine fB.of (wide_map (fun _ => rfl) _) ?_ | refine fB.of (full_map (fun _ => rfl) _) ?_ | refine fB.of (full_map (fun x => full_rKept x) _) ?_ | refine fB.of (full_map (fun x => full_rInsL x) _) ?_ | refine fB.of (full_map (fun x => full_rItemL x) _) ?_ | refine fB.of (full_map (fun x => full_rEventL x) _) ?_ | refine fB.of (full_map (fun x => full_rState x) _) ?_ | refine fB.of (full_map (fun x => full_rIntL x) _) ?_ | refine gRf ?_)) <;> (try (conv => whnf)))
    rw [hout, hn, this, half_all, List.take_length]
def mEventL (m : Int) (x : List Event) : List Event := marks mEvent wEvent m x
def wEventL (x : List Event) : Nat := 3 * x.length
theorem ok_laws_markEventSS (k : Nat) (l : List (List Event)) (m : Int) (hl : l.length ≤ 100000000000) (h0 : 0 ≤ m) (h1 : m + wts wEventL l ≤ 10000000000) (hx : ∀ j : Nat, j < l.length → (rd l j).length ≤ 10000000000) :
    callE PR C (k + 2) 96 [.h 1000000 0 0 [] 1 0 l.length, i64 m] [.tree 9 (.sl 1 (l.map rEventL))] = some ⟨i64 (m + wts wEventL l), [], [some (.tree 9 (.sl 1 ((marks mEventL wEventL m l).map rEventL)))]⟩ := by
  (refine callE_is (callE_w [ResultVar.tmp 4] rfl Tryz.func96 rfl (by decide +kernel) rfl (by simp) ?_); (conv => whnf))
  repeat' ((with_reducible (first | refine gP ?_ | refine gN ?_ | refine fG.split (fun _ => ?_) (fun _ => ?_) | refine fG.not ?_ | refine gY ?_ | refine gF ?_ | refine fG.yes (flat_map (fun _ => rfl) _) ?_ | refine fG.bool (fun _ => ?_) (fun _ => ?_) | refine gS64 ?_ | refine gU8 ?_ | refine gI14 ?_ | refine fE.of rfl ?_ | refine gBq ?_ | refine gNum14 ?_ | refine gSet ?_ | refine gRd ?_ | refine gLk ?_ | refine gRow14 ?_ | refine fB.of (wide_map (fun _ => rfl) _) ?_ | refine fB.of (full_map (fun _ => rfl) _) ?_ | refine fB.of (full_map (fun x => full_rKept x) _) ?_ | refine fB.of (full_map (fun x => full_rInsL x) _) ?_ | refine fB.of (full_map (fun x => full_rItemL x) _) ?_ | refine fB.of (full_map (fun x => full_rEventL x) _) ?_ | refine fB.of (full_map (fun x => full_rState x) _) ?_ | refine fB.of (full_map (fun x => full_rIntL x) _) ?_ | refine gRf ?_)) <;> (try (conv => whnf)))
  refine loop_rule (ι := TM (List Event)) (fun x => [(0, .h 1000000 0 0 [] 1 0 l.length), (1, i64 x.m), (5, i64 (x.j : Nat))])
    (fun x => [(1000000, ⟨0, x.g, x.d, .tree 9 (.sl 1 (x.l.map rEventL))⟩)])
    (fun x => l.length - x.j) (fun x => x.j ≤ l.length ∧ x.l = half mEventL wEventL m l x.j ∧ x.m = m + wts wEventL (l.take x.j)) ⟨0, m, l, 0, false⟩ (by (try dsimp only [cond_true, cond_false]); exact ⟨⟨rfl, rfl, rfl, trivial⟩, ⟨rfl, trivial⟩⟩) ⟨Nat.zero_le _, (half_zero _ _ m l).symm, by simp [wts]⟩ (by simp [C]; omega) ?_
  rintro ⟨j, n, out, g, d⟩ sl ob ⟨hj, hout, hn⟩
  dsimp only at hj hout hn
  have hlen : out.length = l.length := by rw [hout, half_len]
  have hn1 : n ≤ 10000000000 := by have := wts_le wEventL l j; omega
  have hn0 : 0 ≤ n := by omega
  have hrd : j < l.length → rd out j = rd l j := fun h => by rw [hout]; exact half_rd _ _ m l j h
  (try dsimp only [cond_true, cond_false])
  (conv => whnf)
  by_cases hjl : j < l.length
  · have hx1 : (rd out j).length ≤ 10000000000 := by rw [hrd hjl]; exact hx j hjl
    have hq : ∀ k, callE PR C (k + 1) 157 [.h 1000000 0 0 [] 3 0 ((rd out j).map rEvent).length, i64 n] [.tree 8 (.sl 3 ((rd out j).map rEvent))] = some ⟨i64 (n + 3 * (rd out j).length), [], [some (.tree 8 (.sl 3 ((marks mEvent wEvent n (rd out j)).map rEvent)))]⟩ := by
      intro k
      rw [List.length_map]
      exact ok_laws_markEventS8 k (rd out j) n (by omega) (by omega) (by omega)
    repeat' ((with_reducible (first | refine sCall.of (hq _) ?_ | refine gP ?_ | refine gN ?_ | refine fG.split (fun _ => ?_) (fun _ => ?_) | refine fG.not ?_ | refine gY ?_ | refine gF ?_ | refine fG.yes (flat_map (fun _ => rfl) _) ?_ | refine fG.bool (fun _ => ?_) (fun _ => ?_) | refine gS64 ?_ | refine gU8 ?_ | refine gI14 ?_ | refine fE.of rfl ?_ | refine gBq ?_ | refine gNum14 ?_ | refine gSet ?_ | refine gRd ?_ | refine gLk ?_ | refine gRow14 ?_ | refine fB.of (wide_map (fun _ => rfl) _) ?_ | refine fB.of (full_map (fun _ => rfl) _) ?_ | refine fB.of (full_map (fun x => full_rKept x) _) ?_ | refine fB.of (full_map (fun x => full_rInsL x) _) ?_ | refine fB.of (full_map (fun x => full_rItemL x) _) ?_ | refine fB.of (full_map (fun x => full_rEventL x) _) ?_ | refine fB.of (full_map (fun x => full_rState x) _) ?_ | refine fB.of (full_map (fun x => full_rIntL x) _) ?_ | refine gRf ?_)) <;> (try (conv => whnf)))
    refine ⟨⟨⟨j + 1, n + 3 * (rd out j).length, out.set j (mEventL n (rd out j)), _, _⟩, (by (try dsimp only [cond_true, cond_false]); exact ⟨⟨rfl, rfl, rfl, trivial⟩, ⟨rfl, trivial⟩⟩), ?_, ?_⟩⟩
    · have e := wts_take wEventL l j hjl
      refine ⟨by show j + 1 ≤ _; omega, ?_, ?_⟩
      · show _ = _
        rw [← half_set _ _ m l j hjl, hrd hjl, hout, hn]
      · show _ = _
        rw [e, hrd hjl]
        simp only [wEventL]
        omega
    · show l.length - (j + 1) < l.length - j; omega
  · have : j = l.length := by omega
    repeat' ((with_reducible (first | refine gP ?_ | refine gN ?_ | refine fG.split (fun _ => ?_) (fun _ => ?_) | refine fG.not ?_ | refine gY ?_ | refine gF ?_ | refine fG.yes (flat_map (fun _ => rfl) _) ?_ | refine fG.bool (fun _ => ?_) (fun _ => ?_) | refine gS64 ?_ | refine gU8 ?_ | refine gI14 ?_ | refine fE.of rfl ?_ | refine gBq ?_ | refine gNum14 ?_ | refine gSet ?_ | refine gRd ?_ | refine gLk ?_ | refine gRow14 ?_ | refine fB.of (wide_map (fun _ => rfl) _) ?_ | refine fB.of (full_map (fun _ => rfl) _) ?_ | refine fB.of (full_map (fun x => full_rKept x) _) ?_ | refine fB.of (full_map (fun x => full_rInsL x) _) ?_ | refine fB.of (full_map (fun x => full_rItemL x) _) ?_ | refine fB.of (full_map (fun x => full_rEventL x) _) ?_ | refine fB.of (full_map (fun x => full_rState x) _) ?_ | refine fB.of (full_map (fun x => full_rIntL x) _) ?_ | refine gRf ?_)) <;> (try (conv => whnf)))
    rw [hout, hn, this, half_all, List.take_length]

theorem wts_mul {α : Type} (n : Nat) (l : List (List α)) : wts (fun x => n * x.length) l = n * wts List.length l := by
  induction l with
  | nil => rfl
  | cons a l ih => simp only [wts] at ih ⊢; rw [ih, Nat.mul_add]
def mState (m : Int) (x : State) : State := ⟨m, marksI (m + 1) x.regs, marksI (m + 1 + x.regs.length) x.out, m + 1 + x.regs.length + x.out.length⟩
def wState (x : State) : Nat := 2 + x.regs.length + x.out.length
theorem wts_wState (l : List State) : wts wState l = 2 * l.length + wts wSt l := by
  induction l with
  | nil => rfl
  | cons a l ih => simp only [wts, List.length_cons, wState, wSt] at ih ⊢; omega
set_option maxHeartbeats 4000000 in
theorem ok_laws_markStateS (k : Nat) (l : List State) (m : Int) (hl : l.length ≤ 100000000000) (h0 : 0 ≤ m) (h1 : m + wts wState l ≤ 10000000000) (hx : ∀ j : Nat, j < l.length → (rd l j).regs.length ≤ 10000000000 ∧ (rd l j).out.length ≤ 10000000000) :
    callE PR C (k + 2) 94 [.h 1000000 0 0 [] 4 0 l.length, i64 m] [tStateS9 l] = some ⟨i64 (m + wts wState l), [], [some (tStateS9 (marks mState wState m l))]⟩ := by
  (refine callE_is (callE_w [ResultVar.tmp 4] rfl Tryz.func94 rfl (by decide +kernel) rfl (by simp) ?_); (conv => whnf))
  repeat' ((with_reducible (first | refine gP ?_ | refine gN ?_ | refine fG.split (fun _ => ?_) (fun _ => ?_) | refine fG.not ?_ | refine gY ?_ | refine gF ?_ | refine fG.yes (flat_map (fun _ => rfl) _) ?_ | refine fG.bool (fun _ => ?_) (fun _ => ?_) | refine gS64 ?_ | refine gU8 ?_ | refine gI14 ?_ | refine fE.of rfl ?_ | refine gBq ?_ | refine gNum14 ?_ | refine gSet ?_ | refine gRd ?_ | refine gLk ?_ | refine gRow14 ?_ | refine fB.of (wide_map (fun _ => rfl) _) ?_ | refine fB.of (full_map (fun _ => rfl) _) ?_ | refine fB.of (full_map (fun x => full_rKept x) _) ?_ | refine fB.of (full_map (fun x => full_rInsL x) _) ?_ | refine fB.of (full_map (fun x => full_rItemL x) _) ?_ | refine fB.of (full_map (fun x => full_rEventL x) _) ?_ | refine fB.of (full_map (fun x => full_rState x) _) ?_ | refine fB.of (full_map (fun x => full_rIntL x) _) ?_ | refine gRf ?_)) <;> (try (conv => whnf)))
  refine loop_rule (ι := TM State) (fun x => [(0, .h 1000000 0 0 [] 4 0 l.length), (1, i64 x.m), (5, i64 (x.j : Nat))])
    (fun x => [(1000000, ⟨0, x.g, x.d, tStateS9 x.l⟩)])
    (fun x => l.length - x.j) (fun x => x.j ≤ l.length ∧ x.l = half mState wState m l x.j ∧ x.m = m + wts wState (l.take x.j)) ⟨0, m, l, 0, false⟩ (by (try dsimp only [cond_true, cond_false]); exact ⟨⟨rfl, rfl, rfl, trivial⟩, ⟨rfl, trivial⟩⟩) ⟨Nat.zero_le _, (half_zero _ _ m l).symm, by simp [wts]⟩ (by simp [C]; omega) ?_
  rintro ⟨j, n, out, g, d⟩ sl ob ⟨hj, hout, hn⟩
  dsimp only at hj hout hn
  have hlen : out.length = l.length := by rw [hout, half_len]
  have hn1 : n ≤ 10000000000 := by have := wts_le wState l j; omega
  have hn0 : 0 ≤ n := by omega
  have hrd : j < l.length → rd out j = rd l j := fun h => by rw [hout]; exact half_rd _ _ m l j h
  have hx' : j < l.length → (rd out j).regs.length ≤ 10000000000 ∧ (rd out j).out.length ≤ 10000000000 := fun h => by rw [hrd h]; exact hx j h
  (try dsimp only [cond_true, cond_false])
  (conv => whnf)
  by_cases hjl : j < l.length
  · have hx1 := (hx' hjl).1
    have hx2 := (hx' hjl).2
    have hq1 := fun k => ok_laws_markIntS' k (rd out j).regs (n + 1) (by omega) (by omega) (by omega)
    have hq2 := fun k => ok_laws_markIntS' k (rd out j).out (n + 1 + (rd out j).regs.length) (by omega) (by omega) (by omega)
    repeat' ((with_reducible (first | refine sCall.of (hq1 _) ?_ | refine sCall.of (hq2 _) ?_ | refine gP ?_ | refine gN ?_ | refine fG.split (fun _ => ?_) (fun _ => ?_) | refine fG.not ?_ | refine gY ?_ | refine gF ?_ | refine fG.yes (flat_map (fun _ => rfl) _) ?_ | refine fG.bool (fun _ => ?_) (fun _ => ?_) | refine gS64 ?_ | refine gU8 ?_ | refine gI14 ?_ | refine fE.of rfl ?_ | refine gBq ?_ | refine gNum14 ?_ | refine gSet ?_ | refine gRd ?_ | refine gLk ?_ | refine gRow14 ?_ | refine fB.of (wide_map (fun _ => rfl) _) ?_ | refine fB.of (full_map (fun _ => rfl) _) ?_ | refine fB.of (full_map (fun x => full_rKept x) _) ?_ | refine fB.of (full_map (fun x => full_rInsL x) _) ?_ | refine fB.of (full_map (fun x => full_rItemL x) _) ?_ | refine fB.of (full_map (fun x => full_rEventL x) _) ?_ | refine fB.of (full_map (fun x => full_rState x) _) ?_ | refine fB.of (full_map (fun x => full_rIntL x) _) ?_ | refine gRf ?_)) <;> (try (conv => whnf)))
    refine ⟨⟨⟨j + 1, n + 1 + (rd out j).regs.length + (rd out j).out.length + 1, out.set j (mState n (rd out j)), _, _⟩, (by (try dsimp only [cond_true, cond_false]); exact ⟨⟨rfl, rfl, rfl, trivial⟩, ⟨rfl, trivial⟩⟩), ?_, ?_⟩⟩
    · have e := wts_take wState l j hjl
      refine ⟨by show j + 1 ≤ _; omega, ?_, ?_⟩
      · show _ = _
        rw [← half_set _ _ m l j hjl, hrd hjl, hout, hn]
      · show _ = _
        rw [e, hrd hjl]
        simp only [wState]
        omega
    · show l.length - (j + 1) < l.length - j; omega
  · have : j = l.length := by omega
    repeat' ((with_reducible (first | refine gP ?_ | refine gN ?_ | refine fG.split (fun _ => ?_) (fun _ => ?_) | refine fG.not ?_ | refine gY ?_ | refine gF ?_ | refine fG.yes (flat_map (fun _ => rfl) _) ?_ | refine fG.bool (fun _ => ?_) (fun _ => ?_) | refine gS64 ?_ | refine gU8 ?_ | refine gI14 ?_ | refine fE.of rfl ?_ | refine gBq ?_ | refine gNum14 ?_ | refine gSet ?_ | refine gRd ?_ | refine gLk ?_ | refine gRow14 ?_ | refine fB.of (wide_map (fun _ => rfl) _) ?_ | refine fB.of (full_map (fun _ => rfl) _) ?_ | refine fB.of (full_map (fun x => full_rKept x) _) ?_ | refine fB.of (full_map (fun x => full_rInsL x) _) ?_ | refine fB.of (full_map (fun x => full_rItemL x) _) ?_ | refine fB.of (full_map (fun x => full_rEventL x) _) ?_ | refine fB.of (full_map (fun x => full_rState x) _) ?_ | refine fB.of (full_map (fun x => full_rIntL x) _) ?_ | refine gRf ?_)) <;> (try (conv => whnf)))
    rw [hout, hn, this, half_all, List.take_length]
theorem ok_laws_heldWhoS (k : Nat) (x l : List Who) (m : Int) (hl : l.length ≤ 1000000000) (h0 : 0 ≤ m) (h1 : m ≤ 1000000000) (e : x = marks mWho wWho m l) : callE PR C (k + 1) 37 [.h 1000000 0 0 [] 2 0 x.length, i64 m] [tWho x] = some ⟨i64 (m + 2 * l.length), [], [none]⟩ := by
  have hxl : x.length = l.length := by rw [e, marks_len]
  (refine callE_is (callE_w [ResultVar.tmp 4] rfl Tryz.func37 rfl (by decide +kernel) rfl (by simp) ?_); (conv => whnf))
  repeat' ((with_reducible (first | refine gP ?_ | refine gN ?_ | refine fG.split (fun _ => ?_) (fun _ => ?_) | refine fG.not ?_ | refine gY ?_ | refine gF ?_ | refine fG.yes (flat_map (fun _ => rfl) _) ?_ | refine fG.bool (fun _ => ?_) (fun _ => ?_) | refine gS64 ?_ | refine gU8 ?_ | refine gI14 ?_ | refine fE.of rfl ?_ | refine gBq ?_ | refine gNum14 ?_ | refine gSet ?_ | refine gRd ?_ | refine gLk ?_ | refine gRow14 ?_ | refine fB.of (wide_map (fun _ => rfl) _) ?_ | refine fB.of (full_map (fun _ => rfl) _) ?_ | refine fB.of (full_map (fun x => full_rKept x) _) ?_ | refine fB.of (full_map (fun x => full_rInsL x) _) ?_ | refine fB.of (full_map (fun x => full_rItemL x) _) ?_ | refine fB.of (full_map (fun x => full_rEventL x) _) ?_ | refine fB.of (full_map (fun x => full_rState x) _) ?_ | refine fB.of (full_map (fun x => full_rIntL x) _) ?_ | refine gRf ?_)) <;> (try (conv => whnf)))
  refine loop_rule (ι := TH) (fun z => [(0, .h 1000000 0 0 [] 2 0 x.length), (1, i64 z.m), (5, i64 (z.j : Nat))])
    (fun z => [(1000000, ⟨0, 0, false, tWho x⟩)])
    (fun z => l.length - z.j) (fun z => z.j ≤ l.length ∧ z.m = m + 2 * z.j) ⟨0, m⟩ (by (try dsimp only [cond_true, cond_false]); exact ⟨⟨rfl, rfl, rfl, trivial⟩, ⟨rfl, trivial⟩⟩) ⟨Nat.zero_le _, by simp⟩ (by simp [C]; omega) ?_
  rintro ⟨j, n⟩ sl ob ⟨hj, hn⟩
  dsimp only at hj hn
  (try dsimp only [cond_true, cond_false])
  (conv => whnf)
  by_cases hjl : j < l.length
  · have hr : rd x j = ⟨n, n + 1⟩ := by
      rw [e, marks_rd _ _ _ _ _ hjl, mWho, wts_wWho, List.length_take, hn]
      rw [show min j l.length = j by omega]
      simp
    have hr1 : (rd x j).p = n := by rw [hr]
    have hr2 : (rd x j).i = n + 1 := by rw [hr]
    repeat' ((with_reducible (first | refine gP ?_ | refine gN ?_ | refine fG.split (fun _ => ?_) (fun _ => ?_) | refine fG.not ?_ | refine gY ?_ | refine gF ?_ | refine fG.yes (flat_map (fun _ => rfl) _) ?_ | refine fG.bool (fun _ => ?_) (fun _ => ?_) | refine gS64 ?_ | refine gU8 ?_ | refine gI14 ?_ | refine fE.of rfl ?_ | refine gBq ?_ | refine gNum14 ?_ | refine gSet ?_ | refine gRd ?_ | refine gLk ?_ | refine gRow14 ?_ | refine fB.of (wide_map (fun _ => rfl) _) ?_ | refine fB.of (full_map (fun _ => rfl) _) ?_ | refine fB.of (full_map (fun x => full_rKept x) _) ?_ | refine fB.of (full_map (fun x => full_rInsL x) _) ?_ | refine fB.of (full_map (fun x => full_rItemL x) _) ?_ | refine fB.of (full_map (fun x => full_rEventL x) _) ?_ | refine fB.of (full_map (fun x => full_rState x) _) ?_ | refine fB.of (full_map (fun x => full_rIntL x) _) ?_ | refine gRf ?_)) <;> (try (conv => whnf)))
    refine ⟨⟨⟨j + 1, n + 1 + 1⟩, (by (try dsimp only [cond_true, cond_false]); exact ⟨⟨rfl, rfl, rfl, trivial⟩, ⟨rfl, trivial⟩⟩), ?_, ?_⟩⟩
    · exact ⟨by show j + 1 ≤ _; omega, by show _ = _; push_cast; omega⟩
    · show l.length - (j + 1) < l.length - j; omega
  · have : j = l.length := by omega
    repeat' ((with_reducible (first | refine gP ?_ | refine gN ?_ | refine fG.split (fun _ => ?_) (fun _ => ?_) | refine fG.not ?_ | refine gY ?_ | refine gF ?_ | refine fG.yes (flat_map (fun _ => rfl) _) ?_ | refine fG.bool (fun _ => ?_) (fun _ => ?_) | refine gS64 ?_ | refine gU8 ?_ | refine gI14 ?_ | refine fE.of rfl ?_ | refine gBq ?_ | refine gNum14 ?_ | refine gSet ?_ | refine gRd ?_ | refine gLk ?_ | refine gRow14 ?_ | refine fB.of (wide_map (fun _ => rfl) _) ?_ | refine fB.of (full_map (fun _ => rfl) _) ?_ | refine fB.of (full_map (fun x => full_rKept x) _) ?_ | refine fB.of (full_map (fun x => full_rInsL x) _) ?_ | refine fB.of (full_map (fun x => full_rItemL x) _) ?_ | refine fB.of (full_map (fun x => full_rEventL x) _) ?_ | refine fB.of (full_map (fun x => full_rState x) _) ?_ | refine fB.of (full_map (fun x => full_rIntL x) _) ?_ | refine gRf ?_)) <;> (try (conv => whnf)))
    rw [hn, this]
/-- How much marks a system takes. -/
def sysW (P : List (List Ins)) (S : List State) (W : List (List Item)) (H : List (List Event)) : Nat := wts wInsL P + (wts wState S + (wts wItemL W + wts wEventL H))
theorem sysW_le (P : List (List Ins)) (S : List State) (W : List (List Item)) (H : List (List Event)) : sysW P S W H ≤ 5 * sysSz P S W H := by
  have h1 : wts wInsL P = 5 * wts List.length P := wts_mul 5 P
  have h2 := wts_wState S
  have h3 : wts wItemL W = 2 * wts List.length W := wts_mul 2 W
  have h4 : wts wEventL H = 3 * wts List.length H := wts_mul 3 H
  unfold sysW sysSz
  omega
def mkP (m : Int) (P : List (List Ins)) : List (List Ins) := marks mInsL wInsL m P
def mkS (m : Int) (P : List (List Ins)) (S : List State) : List State := marks mState wState (m + wts wInsL P) S
def mkW (m : Int) (P : List (List Ins)) (S : List State) (W : List (List Item)) : List (List Item) := marks mItemL wItemL (m + wts wInsL P + wts wState S) W
def mkH (m : Int) (P : List (List Ins)) (S : List State) (W : List (List Item)) (H : List (List Event)) : List (List Event) := marks mEventL wEventL (m + wts wInsL P + wts wState S + wts wItemL W) H
theorem ok_laws_markSys (k : Nat) (P : List (List Ins)) (S : List State) (W : List (List Item)) (H : List (List Event)) (m : Int) (hb : SysB 1048576 P S W H) (h0 : 0 ≤ m) (h1 : m + sysW P S W H ≤ 1000000000) :
    callE PR C (k + 3) 35 [aSys 0 P S W H, i64 m] [tInsSS9 P, tStateS9 S, tItemSS9 W, tEventSS9 H] = some ⟨i64 (m + sysW P S W H), [], [some (tInsSS9 (mkP m P)), some (tStateS9 (mkS m P S)), some (tItemSS9 (mkW m P S W)), some (tEventSS9 (mkH m P S W H))]⟩ := by
  rw [show m + ((sysW P S W H : Nat) : Int) = m + wts wInsL P + wts wState S + wts wItemL W + wts wEventL H by simp only [sysW]; omega]
  unfold sysW at h1
  unfold mkP mkS mkW mkH
  have b1 := hb.p
  have b2 := hb.s
  have b3 := hb.w
  have b4 := hb.h
  have q1 := fun k => ok_laws_markInsSS k P m (by omega) h0 (by omega) (fun j hj => by have := hb.pp j hj; omega)
  have q2 := fun k => ok_laws_markStateS k S (m + wts wInsL P) (by omega) (by omega) (by omega) (fun j hj => by have := hb.ss j hj; omega)
  have q3 := fun k => ok_laws_markItemSS k W (m + wts wInsL P + wts wState S) (by omega) (by omega) (by omega) (fun j hj => by have := hb.ww j hj; omega)
  have q4 := fun k => ok_laws_markEventSS k H (m + wts wInsL P + wts wState S + wts wItemL W) (by omega) (by omega) (by omega) (fun j hj => by have := hb.hh j hj; omega)
  have e1 := marks_len mInsL wInsL P m
  have e2 := marks_len mState wState S (m + wts wInsL P)
  have e3 := marks_len mItemL wItemL W (m + wts wInsL P + wts wState S)
  have e4 := marks_len mEventL wEventL H (m + wts wInsL P + wts wState S + wts wItemL W)
  (refine callE_is (callE_w [ResultVar.tmp 4] rfl Tryz.func35 rfl (by decide +kernel) rfl (by simp) ?_); (conv => whnf))
  repeat' ((with_reducible (first | refine sCall.of (q1 _) ?_ | refine sCall.of (q2 _) ?_ | refine sCall.of (q3 _) ?_ | refine sCall.of (q4 _) ?_ | refine gP ?_ | refine gN ?_ | refine fG.split (fun _ => ?_) (fun _ => ?_) | refine fG.not ?_ | refine gY ?_ | refine gF ?_ | refine fG.yes (flat_map (fun _ => rfl) _) ?_ | refine fG.bool (fun _ => ?_) (fun _ => ?_) | refine gS64 ?_ | refine gU8 ?_ | refine gI14 ?_ | refine fE.of rfl ?_ | refine gBq ?_ | refine gNum14 ?_ | refine gSet ?_ | refine gRd ?_ | refine gLk ?_ | refine gRow14 ?_ | refine fB.of (wide_map (fun _ => rfl) _) ?_ | refine fB.of (full_map (fun _ => rfl) _) ?_ | refine fB.of (full_map (fun x => full_rKept x) _) ?_ | refine fB.of (full_map (fun x => full_rInsL x) _) ?_ | refine fB.of (full_map (fun x => full_rItemL x) _) ?_ | refine fB.of (full_map (fun x => full_rEventL x) _) ?_ | refine fB.of (full_map (fun x => full_rState x) _) ?_ | refine fB.of (full_map (fun x => full_rIntL x) _) ?_ | refine gRf ?_)) <;> (try (conv => whnf)))

theorem greedy_le (H : List (List Event)) : ∀ (m : Nat) (f : List Int), (greedy H m f).length ≤ m
  | 0, f => by simp [greedy]
  | m + 1, f => by
    unfold greedy
    cases firstP H f with
    | none => simp
    | some p => simp only [List.length_cons]; have := greedy_le H m (goOn f p); omega
theorem rowIs_le (P : List (List Ins)) (S : List State) (W : List (List Item)) (H : List (List Event)) : (rowIs P S W H).length ≤ sysSz P S W H := by
  unfold rowIs
  split
  · have h1 := greedy_le H (allEv H) (List.replicate H.length 0)
    rw [allEv_wts] at h1
    unfold rowOf sysSz
    rw [allEv_wts]
    omega
  · simp
set_option maxRecDepth 20000 in
set_option maxHeartbeats 8000000 in
theorem ok_laws_FnExactRow (k : Nat) (P : List (List Ins)) (S : List State) (W : List (List Item)) (H : List (List Event)) (hb : SysB 140737488355328 P S W H) :
    callE PR C (k + 13) 8 [aSys 0 P S W H] [tInsSS P, tStateS S, tItemSS W, tEventSS H] = some ⟨bl true, [], [none, none, none, none]⟩ := by
  have q0 := fun k => ok_laws_szSys k P S W H 1048576 (by omega) (by omega) hb
  by_cases c : left 1048576 (sysSz P S W H) < 0
  · rw [left_m1 c] at q0
    (refine callE_is (callE_w [ResultVar.tmp 2] rfl Tryz.func8 rfl (by decide +kernel) rfl (by simp) ?_); (conv => whnf))
    repeat' ((with_reducible (first | refine sCall.of (q0 _) ?_ | refine gP ?_ | refine gN ?_ | refine fG.split (fun _ => ?_) (fun _ => ?_) | refine fG.not ?_ | refine gY ?_ | refine gF ?_ | refine fG.yes (flat_map (fun _ => rfl) _) ?_ | refine fG.bool (fun _ => ?_) (fun _ => ?_) | refine gS64 ?_ | refine gU8 ?_ | refine gI14 ?_ | refine fE.of rfl ?_ | refine gBq ?_ | refine gNum14 ?_ | refine gSet ?_ | refine gRd ?_ | refine gLk ?_ | refine gRow14 ?_ | refine fB.of (wide_map (fun _ => rfl) _) ?_ | refine fB.of (full_map (fun _ => rfl) _) ?_ | refine fB.of (full_map (fun x => full_rKept x) _) ?_ | refine fB.of (full_map (fun x => full_rInsL x) _) ?_ | refine fB.of (full_map (fun x => full_rItemL x) _) ?_ | refine fB.of (full_map (fun x => full_rEventL x) _) ?_ | refine fB.of (full_map (fun x => full_rState x) _) ?_ | refine fB.of (full_map (fun x => full_rIntL x) _) ?_ | refine gRf ?_ | refine sDraw.mk' (id := 10) [(0, 2)] (ty := tys) rfl (by decide +kernel) ?_)) <;> (try (conv => whnf)))
  · obtain ⟨c1, c2⟩ := left_pos c
    have hB : SysB 1048576 P S W H := sysB_of (by omega)
    have hw := sysW_le P S W H
    have hR := rowIs_le P S W H
    have q1 := fun k => ok_laws_toSys k P S W H (hB.mono (by decide))
    have q2 := fun k => ok_laws_eqSys k P S W H (hB.mono (by decide))
    have q3 := fun k => ok_impl_Row k P S W H (hB.mono (by decide))
    have q4 := fun k => ok_spec_Row k P S W H (hB.mono (by decide))
    have q6 := fun k => ok_laws_markSys k P S W H 1 hB (by omega) (by omega)
    generalize rowIs P S W H = R at q3 q4 hR
    have q5 := fun k => ok_laws_eqWhoS k R (by omega)
    have q7 := fun k => ok_laws_markWhoS9 k R 1 (by omega) (by omega) (by omega)
    have q8 := fun k => ok_laws_heldWhoS k (marks mWho wWho 1 R) R 1 (by omega) (by omega) (by omega) rfl
    simp only [marks_len] at q8
    (refine callE_is (callE_w [ResultVar.tmp 2] rfl Tryz.func8 rfl (by decide +kernel) rfl (by simp) ?_); (conv => whnf))
    have e1 : (mkP 1 P).length = P.length := marks_len _ _ _ _
    have e2 : (mkS 1 P S).length = S.length := marks_len _ _ _ _
    have e3 : (mkW 1 P S W).length = W.length := marks_len _ _ _ _
    have e4 : (mkH 1 P S W H).length = H.length := marks_len _ _ _ _
    repeat' ((with_reducible (first | refine sCall.of (q0 _) ?_ | refine sCall.of (q1 _) ?_ | refine sCall.of (q2 _) ?_ | refine sCall.of (q3 _) ?_ | refine sCall.of (q4 _) ?_ | refine sCall.of (q5 _) ?_ | refine sCall.of (q6 _) ?_ | refine sCall.of (q7 _) ?_ | refine sCall.of (q8 _) ?_ | refine gP ?_ | refine gN ?_ | refine fG.split (fun _ => ?_) (fun _ => ?_) | refine fG.not ?_ | refine gY ?_ | refine gF ?_ | refine fG.yes (flat_map (fun _ => rfl) _) ?_ | refine fG.bool (fun _ => ?_) (fun _ => ?_) | refine gS64 ?_ | refine gU8 ?_ | refine gI14 ?_ | refine fE.of rfl ?_ | refine gBq ?_ | refine gNum14 ?_ | refine gSet ?_ | refine gRd ?_ | refine gLk ?_ | refine gRow14 ?_ | refine fB.of (wide_map (fun _ => rfl) _) ?_ | refine fB.of (full_map (fun _ => rfl) _) ?_ | refine fB.of (full_map (fun x => full_rKept x) _) ?_ | refine fB.of (full_map (fun x => full_rInsL x) _) ?_ | refine fB.of (full_map (fun x => full_rItemL x) _) ?_ | refine fB.of (full_map (fun x => full_rEventL x) _) ?_ | refine fB.of (full_map (fun x => full_rState x) _) ?_ | refine fB.of (full_map (fun x => full_rIntL x) _) ?_ | refine gRf ?_ | refine sDraw.mk' (id := 10) [(0, 2)] (ty := tys) rfl (by decide +kernel) ?_)) <;> (try (conv => whnf)))
    all_goals skip

end Go.Proofs.YtkmhbofkjcknjaaGreat.Abs
namespace Go.Proofs.YtkmhbofkjcknjaaGreat.Abs
open Go
set_option linter.unusedVariables false

/-- What is read at a type: as many cells, each of a tree that nobody writes; the trees have the property. -/
def Opens (P : Program) (t : TypeId) (n : Nat) (M : List T → Prop) : Prop :=
  ∀ (H : Type) (enc : TypeId × Value → H) (w : World) (base : Nat) (sp : Nat → Bool) (held : Bool) (fuel : Nat) (cs : List Value) (x : DataW H × List MemPlace),
    DataW.trod enc P w base sp held fuel t cs = some x → (∀ m ∈ x.1.weights P t, m ≤ reachBytes) →
      cs.length = n ∧ ∃ ts : List T, ts.length = n ∧ M ts ∧ ∀ (i : Nat) v t', cs[i]? = some v → ts[i]? = some t' → Ow (fun k => k < w.heap.size) w 0 v t' none_
theorem Opens.mono {P : Program} {t : TypeId} {n : Nat} {M M' : List T → Prop} (h : Opens P t n M) (hm : ∀ ts, M ts → M' ts) : Opens P t n M' := by
  intro H enc w base sp held fuel cs x hx hw
  obtain ⟨h1, ts, h2, h3, h4⟩ := h H enc w base sp held fuel cs x hx hw
  exact ⟨h1, ts, h2, hm _ h3, h4⟩
theorem one_ow {w : World} {v0 : Value} {t0 : T} (h : Ow (fun k => k < w.heap.size) w 0 v0 t0 none_) : ∀ (i : Nat) v t', [v0][i]? = some v → [t0][i]? = some t' → Ow (fun k => k < w.heap.size) w 0 v t' none_ := by
  rintro (_ | i) v t' h1 h2
  · simp at h1 h2; subst h1; subst h2; exact h
  · simp at h1
theorem Opens.int {P : Program} {t : TypeId} {k : IntKind} (ht : P.underlying t = some (.int k)) : Opens P t 1 (fun ts => ∃ n, (Lit.int k n).wf = true ∧ ts = [.v (.int k n)]) := by
  intro H enc w base sp held fuel cs x hx hw
  obtain ⟨n, rfl, rfl, h⟩ := DataW.trod_int ht hx
  exact ⟨rfl, _, rfl, ⟨n, h, rfl⟩, one_ow (.v rfl)⟩
theorem Opens.bool {P : Program} {t : TypeId} (ht : P.underlying t = some .bool) : Opens P t 1 (fun ts => ∃ b, ts = [.v (.bool b)]) := by
  intro H enc w base sp held fuel cs x hx hw
  obtain ⟨b, rfl, rfl⟩ := DataW.trod_bool ht hx
  exact ⟨rfl, _, rfl, ⟨b, rfl⟩, one_ow (.v rfl)⟩
theorem Opens.str {P : Program} {t : TypeId} (ht : P.underlying t = some .string) : Opens P t 1 (fun ts => ∃ s : ByteArray, s.size ≤ reachBytes ∧ ts = [.v (.string s)]) := by
  intro H enc w base sp held fuel cs x hx hw
  obtain ⟨s, rfl, rfl, h⟩ := DataW.trod_string ht hx
  refine ⟨rfl, _, rfl, ⟨s, ?_, rfl⟩, one_ow (.v rfl)⟩
  have := hw s.data.toList.length (by simp [DataW.weights])
  simpa using this
/-- The parts of a struct, from a place on. -/
def Parts (P : Program) : List Field → Nat → Nat → (List T → Prop) → Prop
  | [], _, n, M => n = 0 ∧ M []
  | f :: r, off, n, M => f.offset = off ∧ ∃ n1 n2 M1 M2, P.cellsOf f.type = n1 ∧ Opens P f.type n1 M1 ∧ Parts P r (off + n1) n2 M2 ∧ n = n1 + n2 ∧ ∀ a b, M1 a → M2 b → M (a ++ b)
theorem weights_part {P : Program} {H : Type} {ts : List TypeId} : ∀ {ds : List (DataW H)} {R : Nat}, (∀ m ∈ DataW.weightsEach P ts ds, m ≤ R) → ∀ (j : Nat) t d, ts[j]? = some t → ds[j]? = some d → ∀ m ∈ d.weights P t, m ≤ R :=
  fun h j t d ht hd m hm => h m (DataW.weights_mem_each ht hd m hm)
theorem Parts.opens {P : Program} {H : Type} {enc : TypeId × Value → H} {w : World} {base : Nat} {sp : Nat → Bool} {held : Bool} {fuel : Nat} {cs : List Value} : ∀ {fs : List Field} {off n : Nat} {M : List T → Prop}, Parts P fs off n M → off + n = cs.length →
    (∀ f ∈ fs, ∃ x, DataW.trod enc P w base sp held fuel f.type ((cs.drop f.offset).take (P.cellsOf f.type)) = some x ∧ (∀ m ∈ x.1.weights P f.type, m ≤ reachBytes)) →
    ∃ ts : List T, ts.length = n ∧ M ts ∧ ∀ (i : Nat) v t', cs[off + i]? = some v → ts[i]? = some t' → Ow (fun k => k < w.heap.size) w 0 v t' none_ := by
  intro fs
  induction fs with
  | nil =>
    intro off n M h hl _
    exact ⟨[], h.1.symm, h.2, fun i v t' _ h2 => by simp at h2⟩
  | cons f r ih =>
    intro off n M h hl hx
    obtain ⟨rfl, n1, n2, M1, M2, h1, h2, h3, rfl, h4⟩ := h
    obtain ⟨x, hx1, hx2⟩ := hx f (by simp)
    rw [h1] at hx1
    obtain ⟨k1, t1, k2, k3, k4⟩ := h2 H enc w base sp held fuel _ x hx1 hx2
    obtain ⟨t2, q1, q2, q3⟩ := ih h3 (by omega) fun g hg => hx g (by simp [hg])
    refine ⟨t1 ++ t2, by simp [k2, q1], h4 _ _ k3 q2, fun i v t' hv ht' => ?_⟩
    by_cases hi : i < n1
    · rw [List.getElem?_append_left (by omega)] at ht'
      exact k4 i v t' (by rw [List.getElem?_take, if_pos hi, List.getElem?_drop]; exact hv) ht'
    · rw [List.getElem?_append_right (by omega), k2] at ht'
      exact q3 (i - n1) v t' (by rw [show f.offset + n1 + (i - n1) = f.offset + i by omega]; exact hv) ht'
theorem Opens.struct {P : Program} {t : TypeId} {fs : Array Field} {n : Nat} {M : List T → Prop} (ht : P.underlying t = some (.struct fs)) (hc : P.cellsOf t = n) (hp : Parts P fs.toList 0 n M) : Opens P t n M := by
  intro H enc w base sp held fuel cs x hx hw
  obtain ⟨xs, m, _, rfl, hl, hlen, hf⟩ := DataW.trod_struct ht hx
  have hl' : cs.length = n := hl.trans hc
  obtain ⟨ts, h1, h2, h3⟩ := hp.opens (enc := enc) (w := w) (base := base) (sp := sp) (held := held) (fuel := m) (cs := cs) (by omega) (by
    intro f hfm
    obtain ⟨i, hi⟩ := List.getElem?_of_mem hfm
    have hi' : fs[i]? = some f := by simpa using hi
    have hlt : i < xs.length := by rw [hlen]; exact (Array.getElem?_eq_some_iff.1 hi').1
    have hy : xs[i]? = some xs[i] := List.getElem?_eq_getElem hlt
    refine ⟨xs[i], (hf i f hi').trans hy, ?_⟩
    refine weights_part (ts := fs.toList.map (·.type)) (ds := xs.map (·.1)) ?_ i f.type xs[i].1 (by simp [hi']) (by rw [List.getElem?_map, hy]; rfl)
    intro q hq
    refine hw q ?_
    simpa [DataW.weights, ht] using hq)
  exact ⟨hl', ts, h1, h2, fun i v t' hv ht' => h3 i v t' (by simpa using hv) ht'⟩
/-- As many whole numbers. -/
def IntsM (n : Nat) (ts : List T) : Prop := ∃ zs : List Int, zs.length = n ∧ ts = zs.map fun z => T.v (.int .i64 z)
theorem Parts.nil {P : Program} {off : Nat} : Parts P [] off 0 (IntsM 0) := ⟨rfl, [], rfl, rfl⟩
theorem Parts.int {P : Program} {f : Field} {r : List Field} {off n : Nat} (ho : f.offset = off) (hc : P.cellsOf f.type = 1) (ht : P.underlying f.type = some (.int .i64)) (h : Parts P r (off + 1) n (IntsM n)) :
    Parts P (f :: r) off (1 + n) (IntsM (1 + n)) := by
  refine ⟨ho, 1, n, _, _, hc, Opens.int ht, h, rfl, ?_⟩
  rintro a b ⟨z, _, rfl⟩ ⟨zs, hz, rfl⟩
  exact ⟨z :: zs, by simp [hz]; omega, rfl⟩
/-- Parts, each of a kind. -/
def Ms : List (List T → Prop) → List T → Prop
  | [], ts => ts = []
  | M :: r, ts => ∃ a b, ts = a ++ b ∧ M a ∧ Ms r b
theorem Parts.mnil {P : Program} {off : Nat} : Parts P [] off 0 (Ms []) := ⟨rfl, rfl⟩
theorem Parts.mcons {P : Program} {f : Field} {r : List Field} {off n1 n : Nat} {M : List T → Prop} {l : List (List T → Prop)} (ho : f.offset = off) (hc : P.cellsOf f.type = n1) (ht : Opens P f.type n1 M) (h : Parts P r (off + n1) n (Ms l)) :
    Parts P (f :: r) off (n1 + n) (Ms (M :: l)) :=
  ⟨ho, n1, n, _, _, hc, ht, h, rfl, fun a b ha hb => ⟨a, b, rfl, ha, hb⟩⟩

/-- Rows of a kind are a list's. -/
theorem rows_map {α : Type} {f : α → List T} {p : α → Prop} {rows : List (List T)} (h : ∀ r ∈ rows, ∃ x, p x ∧ r = f x) : ∃ l : List α, rows = l.map f ∧ ∀ x ∈ l, p x := by
  induction rows with
  | nil => exact ⟨[], rfl, by simp⟩
  | cons r rows ih =>
    obtain ⟨x, hx, rfl⟩ := h r (by simp)
    obtain ⟨l, rfl, hl⟩ := ih fun q hq => h q (by simp [hq])
    exact ⟨x :: l, rfl, by simpa using ⟨hx, hl⟩⟩
theorem weights_all {P : Program} {H : Type} {e : TypeId} {d : DataW H} : ∀ {l : List (DataW H)}, d ∈ l → ∀ m ∈ d.weights P e, m ∈ DataW.weightsAll P e l
  | a :: r, hd, m, hm => by
    simp only [DataW.weightsAll, List.mem_append]
    rcases List.mem_cons.1 hd with rfl | hd
    · exact .inl hm
    · exact .inr (weights_all hd m hm)
/-- A slice. -/
theorem Opens.slice {P : Program} {t e : TypeId} {sz B : Nat} {M : List T → Prop} (ht : P.underlying t = some (.slice e)) (hc : P.cellsOf e = sz) (hB : P.bytesOf e = B) (hsz : 0 < sz) (hE : Opens P e sz M) :
    Opens P t 1 (fun ts => ∃ rows, ts = [.sl sz rows] ∧ (∀ x ∈ rows, M x) ∧ rows.length * B ≤ reachBytes) := by
  intro H enc w base sp held fuel cs0 x hx hw
  rcases DataW.trod_slice ht hx with ⟨rfl, _⟩ | ⟨a, len, cap, elems, rest, n, _, rfl, rfl, _, hl, _, hlen, hel, _⟩
  · exact ⟨rfl, _, rfl, ⟨[], rfl, by simp, by simp⟩, one_ow .nil⟩
  · have hw1 : (elems.length + rest.length) * B ≤ reachBytes := by
      have := hw ((elems.length + rest.length) * P.bytesOf e) (by simp [DataW.weights, ht])
      rwa [hB] at this
    have hcell : ∀ i : Nat, ∃ q : List Value × List T, i < len → q.1.length = sz ∧ q.2.length = sz ∧ M q.2 ∧ (∀ j, j < sz → w.cell? ((a.add (i * sz)).add j) = q.1[j]?) ∧
        ∀ (j : Nat) v t', q.1[j]? = some v → q.2[j]? = some t' → Ow (fun k => k < w.heap.size) w 0 v t' none_ := by
      intro i
      by_cases hi : i < len
      · have hy : elems[i]? = some (elems[i]'(by omega)) := List.getElem?_eq_getElem (by omega)
        have h1 := hel i hi
        rw [hy, hc, Option.bind_eq_some_iff] at h1
        obtain ⟨cs, hcs, htr⟩ := h1
        obtain ⟨k1, ts, k2, k3, k4⟩ := hE H enc w base sp held n cs _ htr (by
          intro m hm
          refine hw m ?_
          have := weights_all (P := P) (e := e) (l := elems.map (·.1)) (List.mem_map_of_mem (List.getElem_mem (by omega : i < elems.length))) m hm
          simp [DataW.weights, ht, this])
        obtain ⟨_, g1, g2⟩ := World.cells?_some hcs
        exact ⟨(cs, ts), fun _ => ⟨k1, k2, k3, g2, k4⟩⟩
      · exact ⟨([], []), fun h => absurd h hi⟩
    obtain ⟨c, hc2⟩ := Classical.axiomOfChoice hcell
    have hblk : 0 < len → a.block < w.heap.size := by
      intro h0
      obtain ⟨k1, k2, k3, k4, k5⟩ := hc2 0 h0
      have h1 := k4 0 hsz
      have h2 : (c 0).1[0]? = some ((c 0).1[0]'(by omega)) := List.getElem?_eq_getElem (by omega)
      rw [h2] at h1
      by_cases hlt : a.block < w.heap.size
      · exact hlt
      · unfold World.cell? at h1
        rw [add_block, add_block, Array.getElem?_eq_none (by omega)] at h1
        simp at h1
    have hat : ∀ i j t', cellT ((List.range len).map fun i => (c i).2) i j = some t' → i < len ∧ (c i).2[j]? = some t' := by
      intro i j t' h'
      unfold cellT at h'
      rw [List.getElem?_map] at h'
      by_cases hi : i < len
      · have hr : (List.range len)[i]? = some i := by simp [hi]
        rw [hr] at h'
        exact ⟨hi, by simpa using h'⟩
      · have hr : (List.range len)[i]? = none := by simp; omega
        rw [hr] at h'
        simp at h'
    refine ⟨rfl, [.sl sz ((List.range len).map fun i => (c i).2)], rfl, ⟨_, rfl, ?_, ?_⟩, one_ow ?_⟩
    · intro x hx
      obtain ⟨i, hi, rfl⟩ := List.mem_map.1 hx
      exact (hc2 i (List.mem_range.1 hi)).2.2.1
    · rw [List.length_map, List.length_range]
      exact Nat.le_trans (Nat.mul_le_mul_right _ (by omega)) hw1
    · have hro := Ow.ro (Z := fun k => k < w.heap.size) (w := w) (a := a) (c := cap) (rows := (List.range len).map fun i => (c i).2) (sz := sz) (fun i j => (c i).1.getD j undef) (by simpa using hl)
        (by
          intro r hr
          obtain ⟨i, hi, rfl⟩ := List.mem_map.1 hr
          exact (hc2 i (List.mem_range.1 hi)).2.1) (fun hne => hblk (by
            rcases Nat.eq_zero_or_pos len with h0 | h0
            · subst h0; exact absurd rfl hne
            · exact h0))
        (by
          intro i j t' h'
          obtain ⟨hi, hj⟩ := hat i j t' h'
          obtain ⟨k1, k2, k3, k4, k5⟩ := hc2 i hi
          have hj' : j < sz := by rw [← k2]; exact (List.getElem?_eq_some_iff.1 hj).1
          rw [← Addr.add_add, k4 j hj', List.getElem?_eq_getElem (by omega)]
          simp [List.getD, show j < (c i).1.length by omega])
        (by
          intro i j t' h'
          obtain ⟨hi, hj⟩ := hat i j t' h'
          obtain ⟨k1, k2, k3, k4, k5⟩ := hc2 i hi
          have hj' : j < sz := by rw [← k2]; exact (List.getElem?_eq_some_iff.1 hj).1
          refine k5 j _ t' ?_ hj
          rw [List.getElem?_eq_getElem (by omega)]
          simp [List.getD, show j < (c i).1.length by omega])
      simpa using hro
/-- An argument of one cell. -/
theorem Opens.one {P : Program} {t : TypeId} {M : List T → Prop} (h : Opens P t 1 M) {H : Type} {enc : TypeId × Value → H} {w : World} {base : Nat} {sp : Nat → Bool} {held : Bool} {v : Value} {d : DataW H} {ps : List MemPlace}
    (hv : v.cells.toList = [v]) (hd : DataW.Trod enc P w base sp held t v d ps) (hw : ∀ m ∈ d.weights P t, m ≤ reachBytes) : ∃ t', M [t'] ∧ Ow (fun k => k < w.heap.size) w 0 v t' none_ := by
  obtain ⟨fuel, hf⟩ := hd
  rw [hv] at hf
  obtain ⟨_, ts, h1, h2, h3⟩ := h H enc w base sp held fuel _ _ hf hw
  obtain ⟨t', rfl⟩ := List.length_eq_one_iff.1 h1
  exact ⟨t', h2, h3 0 v t' rfl rfl⟩
end Go.Proofs.YtkmhbofkjcknjaaGreat.Abs
namespace Go.Proofs.YtkmhbofkjcknjaaGreat.Abs
open Go Go.RowKit
set_option linter.unusedVariables false

theorem Ow.slice_inv {Z : Fp} {w : World} {v : Value} {sz : Nat} {rows : List (List T)} {F : Fp} {l : Nat} (h : Ow Z w l v (.sl sz rows) F) :
    (v = .slice none 0 0 ∧ rows = []) ∨ ∃ a c, v = .slice (some a) rows.length c ∧ rows.length ≤ c := by
  cases h with
  | nil => exact .inl ⟨rfl, rfl⟩
  | ro xs hc hs hz hx ht => exact .inr ⟨_, _, rfl, hc⟩
  | own xs F hb hfr hc hoff hmax hs hx ht hF hnb hd => exact .inr ⟨_, _, rfl, hc⟩
theorem arg_slice {Z : Fp} {w : World} {ob : Objs} {ρ : Nat → Value} {o sz : Nat} {rows : List (List T)} {v : Value} (h1 : ob o = ⟨0, 0, false, .tree 0 (.sl sz rows)⟩) (h2 : ρ o = v) (h3 : Ow Z w 0 v (.sl sz rows) none_) :
    AVR w ob ρ (.h o 0 0 [] sz 0 rows.length) v := by
  have hin := h3.slice_inv
  refine .h ?_ ?_ fun _ => ?_
  · rw [h1]; exact ⟨Nat.le_refl _, fun _ h => absurd rfl h⟩
  · rcases hin with ⟨rfl, rfl⟩ | ⟨a, c, rfl, hc⟩
    · exact ⟨none, 0, rfl, Nat.le_refl _, fun _ => rfl⟩
    · exact ⟨some a, c, rfl, hc, fun h => by cases h⟩
  · rw [h1, h2]
    refine ⟨fun cells h => by (dsimp only at h; cases h), fun lvl t hc => ?_⟩
    dsimp only at hc
    cases hc
    refine ⟨v, rows, .here, by omega, ?_⟩
    rcases hin with ⟨rfl, rfl⟩ | ⟨a, c, rfl, hc⟩
    · exact .inl ⟨rfl, rfl, rfl, rfl⟩
    · refine .inr ⟨a, rows.length, c, 0, c, rfl, ?_, hc, by omega, Nat.le_refl _, fun _ => rfl⟩
      rw [Nat.zero_mul]
      cases a with
      | mk b off s => cases s <;> simp [Addr.add]
/-- A call from the outside. -/
theorem FnOk.outside {P : Program} {W : World} {f : FuncId} {args : List AV} {conts : List Cont} {r : Res} (h : FnOk P f args conts r) (vals : List Value)
    (ho : ∀ (i : Nat) c, conts[i]? = some c → ∃ t v, c = .tree 0 t ∧ vals[i]? = some v ∧ Ow (fun k => k < W.heap.size) W 0 v t none_) (vs : Array Value) (hs : vs.size = args.length)
    (hA : ∀ (i : Nat) x, args[i]? = some x → AVR W (obIn conts) (fun o => vals.getD (o - 1000000) undef) x (vs.getD i undef)) :
    Calls P f vs W (fun e w' => ∃ v, e = .returned v ∧ Below W.heap.size W w' ∧ ∃ ob' ρ', AVR w' ob' ρ' r.v v) := by
  have hI : OInv W none_ (obIn conts) W (fun o => vals.getD (o - 1000000) undef) (fun _ => none_) (fun k => k < W.heap.size) := by
    refine ⟨Keep.refl _ _, fun k hk _ => hk, fun k hk => hk, fun o k hk => hk.elim, fun o o' k hk => hk.elim, fun o k hk => hk.elim, fun o => ?_⟩
    unfold ObOk
    by_cases h1 : 1000000 ≤ o
    · simp only [obIn, h1, if_true]
      cases hc : conts[o - 1000000]? with
      | none =>
        have e : conts.getD (o - 1000000) .dead = .dead := by simp [List.getD, hc]
        rw [e]
        exact fun k hk => hk
      | some c =>
        obtain ⟨t, v, rfl, hv, how⟩ := ho _ _ hc
        have e : conts.getD (o - 1000000) .dead = .tree 0 t := by simp [List.getD, hc]
        have e2 : vals.getD (o - 1000000) undef = v := by simp [List.getD, hv]
        rw [e, e2]
        exact how
    · simp only [obIn, h1, if_false]
      exact fun k hk => hk
  have hr := h.run W none_ _ _ _ vs hI (fun k _ hk => hk) hs hA
  intro cs
  obtain ⟨e, w', fr, hR, hC, hfn, hl⟩ := hr cs
  refine ⟨e, w', fr, ?_, hC, hfn, hl⟩
  cases e with
  | returned v =>
    obtain ⟨ρ', φ', Z', hst, hav⟩ := hR
    exact ⟨v, rfl, ⟨hst.inv.keep.os, hst.inv.keep.tape, hst.inv.keep.output, hst.inv.keep.size, fun k hk => hst.inv.keep.block k hk id⟩, _, _, hav⟩
  | _ => exact hR.elim
theorem AVR.bool_inv {w : World} {ob : Objs} {ρ : Nat → Value} {b : Bool} {v : Value} (h : AVR w ob ρ (.s (.bool b)) v) : v = .bool b := by
  cases h; rfl
end Go.Proofs.YtkmhbofkjcknjaaGreat.Abs
namespace Go.Proofs.YtkmhbofkjcknjaaGreat.Abs
open Go Go.Proofs Go.RowKit
set_option linter.unusedVariables false
set_option linter.unusedSimpArgs false
attribute [local irreducible] callE
theorem ints_Ins {ts : List T} (h : IntsM 5 ts) : ∃ x : Ins, True ∧ ts = rIns x := by
  obtain ⟨zs, hz, rfl⟩ := h
  match zs, hz with
  | [a, b, c, d, e], _ => exact ⟨⟨a, b, c, d, e⟩, trivial, rfl⟩
theorem ints_Event {ts : List T} (h : IntsM 3 ts) : ∃ x : Event, True ∧ ts = rEvent x := by
  obtain ⟨zs, hz, rfl⟩ := h
  match zs, hz with
  | [a, b, c], _ => exact ⟨⟨a, b, c⟩, trivial, rfl⟩
set_option maxRecDepth 20000 in
theorem opens_Ins : Opens Tryz.prog 226 5 (fun ts => ∃ x : Ins, True ∧ ts = rIns x) :=
  (Opens.struct Tryz.underlying226 (by kernel_rfl) (.int rfl (by kernel_rfl) Tryz.underlying3 (.int rfl (by kernel_rfl) Tryz.underlying3 (.int rfl (by kernel_rfl) Tryz.underlying3 (.int rfl (by kernel_rfl) Tryz.underlying3 (.int rfl (by kernel_rfl) Tryz.underlying3 .nil)))))).mono fun _ => ints_Ins
set_option maxRecDepth 20000 in
theorem opens_Event : Opens Tryz.prog 230 3 (fun ts => ∃ x : Event, True ∧ ts = rEvent x) :=
  (Opens.struct Tryz.underlying230 (by kernel_rfl) (.int rfl (by kernel_rfl) Tryz.underlying3 (.int rfl (by kernel_rfl) Tryz.underlying3 (.int rfl (by kernel_rfl) Tryz.underlying3 .nil)))).mono fun _ => ints_Event
set_option maxRecDepth 20000 in
theorem opens_InsS : Opens Tryz.prog 176 1 (fun ts => ∃ l : List Ins, l.length ≤ 140737488355328 ∧ ts = [.sl 5 (l.map rIns)]) :=
  (Opens.slice (sz := 5) (B := 40) Tryz.underlying176 (by kernel_rfl) (by kernel_rfl) (by decide) opens_Ins).mono fun ts h => by
    obtain ⟨rows, rfl, h1, h2⟩ := h
    obtain ⟨l, rfl, hl⟩ := rows_map h1
    rw [List.length_map] at h2
    have := reachBytes_lt
    exact ⟨l, by omega, rfl⟩
set_option maxRecDepth 20000 in
theorem open_InsS {H : Type} {enc : TypeId × Value → H} {w : World} {base : Nat} {sp : Nat → Bool} {held : Bool} {v : Value} {d : DataW H} {ps : List MemPlace} {r : Go.Reach} {b0 : Nat}
    (hval : Value.okWide Tryz.prog w r b0 176 v) (h : DataW.Trod enc Tryz.prog w base sp held 176 v d ps) (hw : ∀ m ∈ d.weights Tryz.prog 176, m ≤ reachBytes) :
    ∃ l : List Ins, l.length ≤ 140737488355328 ∧ Ow (fun k => k < w.heap.size) w 0 v (.sl 5 (l.map rIns)) none_ := by
  obtain ⟨a0, len0, cap0, rfl⟩ := Go.WideShapes.okWide_slice Tryz.underlying176 hval
  obtain ⟨t', ⟨l, h1, h2⟩, h3⟩ := opens_InsS.one rfl h hw
  cases h2
  exact ⟨l, h1, h3⟩
set_option maxRecDepth 20000 in
theorem opens_EventS : Opens Tryz.prog 182 1 (fun ts => ∃ l : List Event, l.length ≤ 140737488355328 ∧ ts = [.sl 3 (l.map rEvent)]) :=
  (Opens.slice (sz := 3) (B := 24) Tryz.underlying182 (by kernel_rfl) (by kernel_rfl) (by decide) opens_Event).mono fun ts h => by
    obtain ⟨rows, rfl, h1, h2⟩ := h
    obtain ⟨l, rfl, hl⟩ := rows_map h1
    rw [List.length_map] at h2
    have := reachBytes_lt
    exact ⟨l, by omega, rfl⟩
set_option maxRecDepth 20000 in
theorem open_EventS {H : Type} {enc : TypeId × Value → H} {w : World} {base : Nat} {sp : Nat → Bool} {held : Bool} {v : Value} {d : DataW H} {ps : List MemPlace} {r : Go.Reach} {b0 : Nat}
    (hval : Value.okWide Tryz.prog w r b0 182 v) (h : DataW.Trod enc Tryz.prog w base sp held 182 v d ps) (hw : ∀ m ∈ d.weights Tryz.prog 182, m ≤ reachBytes) :
    ∃ l : List Event, l.length ≤ 140737488355328 ∧ Ow (fun k => k < w.heap.size) w 0 v (.sl 3 (l.map rEvent)) none_ := by
  obtain ⟨a0, len0, cap0, rfl⟩ := Go.WideShapes.okWide_slice Tryz.underlying182 hval
  obtain ⟨t', ⟨l, h1, h2⟩, h3⟩ := opens_EventS.one rfl h hw
  cases h2
  exact ⟨l, h1, h3⟩

set_option maxRecDepth 20000 in
theorem opens_ints : Opens Tryz.prog 62 1 (fun ts => ∃ l : List Int, l.length ≤ 140737488355328 ∧ ts = [.sl 1 (l.map rI)]) :=
  (Opens.slice (sz := 1) (B := 8) Tryz.underlying62 (by kernel_rfl) (by kernel_rfl) (by decide) (Opens.int Tryz.underlying3)).mono fun ts h => by
    obtain ⟨rows, rfl, h1, h2⟩ := h
    obtain ⟨l, rfl, _⟩ := rows_map (f := rI) (p := fun _ => True) (fun r hr => by obtain ⟨n, _, rfl⟩ := h1 r hr; exact ⟨n, trivial, rfl⟩)
    rw [List.length_map] at h2
    have := reachBytes_lt
    exact ⟨l, by omega, rfl⟩
set_option maxRecDepth 20000 in
theorem opens_State : Opens Tryz.prog 178 4 (fun ts => ∃ x : State, (x.regs.length ≤ 140737488355328 ∧ x.out.length ≤ 140737488355328) ∧ ts = rState x) :=
  (Opens.struct Tryz.underlying178 (by kernel_rfl) (.mcons rfl (by kernel_rfl) (Opens.int Tryz.underlying3) (.mcons rfl (by kernel_rfl) opens_ints (.mcons rfl (by kernel_rfl) opens_ints (.mcons rfl (by kernel_rfl) (Opens.int Tryz.underlying3) .mnil))))).mono fun ts h => by
    obtain ⟨_, _, rfl, ⟨a, _, rfl⟩, _, _, rfl, ⟨r, hr, rfl⟩, _, _, rfl, ⟨o, ho, rfl⟩, _, _, rfl, ⟨c, _, rfl⟩, rfl⟩ := h
    exact ⟨⟨a, r, o, c⟩, ⟨hr, ho⟩, rfl⟩
set_option maxRecDepth 20000 in
theorem opens_StateS : Opens Tryz.prog 39 1 (fun ts => ∃ l : List State, (l.length ≤ 140737488355328 ∧ ∀ j : Nat, j < l.length → (rd l j).regs.length ≤ 140737488355328 ∧ (rd l j).out.length ≤ 140737488355328) ∧ ts = [.sl 4 (l.map rState)]) :=
  (Opens.slice (sz := 4) (B := 64) Tryz.underlying39 (by kernel_rfl) (by kernel_rfl) (by decide) opens_State).mono fun ts h => by
    obtain ⟨rows, rfl, h1, h2⟩ := h
    obtain ⟨l, rfl, hl⟩ := rows_map h1
    rw [List.length_map] at h2
    have := reachBytes_lt
    exact ⟨l, ⟨by omega, fun j hj => hl _ (rd_mem hj)⟩, rfl⟩
set_option maxRecDepth 20000 in
theorem opens_Item : Opens Tryz.prog 228 2 (fun ts => ∃ x : Item, True ∧ ts = rItem x) :=
  (Opens.struct Tryz.underlying228 (by kernel_rfl) (.mcons rfl (by kernel_rfl) (Opens.bool Tryz.underlying4) (.mcons rfl (by kernel_rfl) (Opens.int Tryz.underlying3) .mnil))).mono fun ts h => by
    obtain ⟨_, _, rfl, ⟨a, rfl⟩, _, _, rfl, ⟨r, _, rfl⟩, rfl⟩ := h
    exact ⟨⟨a, r⟩, trivial, rfl⟩
set_option maxRecDepth 20000 in
theorem opens_ItemS : Opens Tryz.prog 180 1 (fun ts => ∃ l : List Item, l.length ≤ 140737488355328 ∧ ts = [.sl 2 (l.map rItem)]) :=
  (Opens.slice (sz := 2) (B := 16) Tryz.underlying180 (by kernel_rfl) (by kernel_rfl) (by decide) opens_Item).mono fun ts h => by
    obtain ⟨rows, rfl, h1, h2⟩ := h
    obtain ⟨l, rfl, hl⟩ := rows_map h1
    rw [List.length_map] at h2
    have := reachBytes_lt
    exact ⟨l, by omega, rfl⟩
theorem opens_SS {α : Type} {t e : TypeId} {f : α → List T} {sz : Nat} (ht : (Tryz.prog).underlying t = some (.slice e)) (hc : (Tryz.prog).cellsOf e = 1) (hB : (Tryz.prog).bytesOf e = 24)
    (h : Opens Tryz.prog e 1 (fun ts => ∃ l : List α, l.length ≤ 140737488355328 ∧ ts = [.sl sz (l.map f)])) :
    Opens Tryz.prog t 1 (fun ts => ∃ l : List (List α), (l.length ≤ 140737488355328 ∧ ∀ j : Nat, j < l.length → (rd l j).length ≤ 140737488355328) ∧ ts = [.sl 1 (l.map fun x => [T.sl sz (x.map f)])]) :=
  (Opens.slice (sz := 1) (B := 24) ht hc hB (by decide) h).mono fun ts h => by
    obtain ⟨rows, rfl, h1, h2⟩ := h
    obtain ⟨l, rfl, hl⟩ := rows_map h1
    rw [List.length_map] at h2
    have := reachBytes_lt
    exact ⟨l, ⟨by omega, fun j hj => hl _ (rd_mem hj)⟩, rfl⟩
set_option maxRecDepth 20000 in
theorem opens_Sys : Opens Tryz.prog 43 4 (fun ts => ∃ X : Sys, SysB 140737488355328 X.progs X.states X.ways X.hist ∧ ts = [.sl 1 (X.progs.map rInsL), .sl 4 (X.states.map rState), .sl 1 (X.ways.map rItemL), .sl 1 (X.hist.map rEventL)]) :=
  (Opens.struct Tryz.underlying43 (by kernel_rfl) (.mcons rfl (by kernel_rfl) (opens_SS Tryz.underlying38 (by kernel_rfl) (by kernel_rfl) opens_InsS) (.mcons rfl (by kernel_rfl) opens_StateS (.mcons rfl (by kernel_rfl) (opens_SS Tryz.underlying40 (by kernel_rfl) (by kernel_rfl) opens_ItemS) (.mcons rfl (by kernel_rfl) (opens_SS Tryz.underlying41 (by kernel_rfl) (by kernel_rfl) opens_EventS) .mnil))))).mono fun ts h => by
    obtain ⟨_, _, rfl, ⟨P, hP, rfl⟩, _, _, rfl, ⟨S, hS, rfl⟩, _, _, rfl, ⟨W, hW, rfl⟩, _, _, rfl, ⟨X, hX, rfl⟩, rfl⟩ := h
    exact ⟨⟨P, S, W, X⟩, ⟨hP.1, hP.2, hS.1, hS.2, hW.1, hW.2, hX.1, hX.2⟩, rfl⟩
/-- Where a system lies. -/
def SysAt (w : World) (v : Value) (X : Sys) : Prop := ∃ a0 a1 a2 a3, v = .agg #[a0, a1, a2, a3] ∧ Ow (fun k => k < w.heap.size) w 0 a0 (.sl 1 (X.progs.map rInsL)) none_ ∧ Ow (fun k => k < w.heap.size) w 0 a1 (.sl 4 (X.states.map rState)) none_ ∧
  Ow (fun k => k < w.heap.size) w 0 a2 (.sl 1 (X.ways.map rItemL)) none_ ∧ Ow (fun k => k < w.heap.size) w 0 a3 (.sl 1 (X.hist.map rEventL)) none_
theorem four {α : Type} {l : Array α} (h : l.size = 4) : ∃ a b c d, l = #[a, b, c, d] := by
  obtain ⟨l⟩ := l
  match l, h with
  | [a, b, c, d], _ => exact ⟨a, b, c, d, rfl⟩
theorem three {α : Type} {l : Array α} (h : l.size = 3) : ∃ a b c, l = #[a, b, c] := by
  obtain ⟨l⟩ := l
  match l, h with
  | [a, b, c], _ => exact ⟨a, b, c, rfl⟩
set_option maxRecDepth 20000 in
theorem open_Sys {H : Type} {enc : TypeId × Value → H} {w : World} {base : Nat} {sp : Nat → Bool} {held : Bool} {v : Value} {d : DataW H} {ps : List MemPlace} {r : Go.Reach} {b0 : Nat}
    (hval : Value.okWide Tryz.prog w r b0 43 v) (h : DataW.Trod enc Tryz.prog w base sp held 43 v d ps) (hw : ∀ m ∈ d.weights Tryz.prog 43, m ≤ reachBytes) :
    ∃ X : Sys, SysB 140737488355328 X.progs X.states X.ways X.hist ∧ SysAt w v X := by
  obtain ⟨cs, rfl, hsz⟩ := Go.WideShapes.okWide_struct Tryz.underlying43 hval
  have hsz4 : cs.size = 4 := hsz.trans (by kernel_rfl)
  obtain ⟨a0, a1, a2, a3, rfl⟩ := four hsz4
  obtain ⟨fuel, hf⟩ := h
  obtain ⟨_, ts, h1, ⟨X, hX, rfl⟩, h3⟩ := opens_Sys H enc w base sp held fuel _ _ hf hw
  exact ⟨X, hX, a0, a1, a2, a3, rfl, h3 0 _ _ rfl rfl, h3 1 _ _ rfl rfl, h3 2 _ _ rfl rfl, h3 3 _ _ rfl rfl⟩
structure Stop where
  p : Int
  kind : Int
  v : Int
set_option maxRecDepth 20000 in
theorem opens_Stop : Opens Tryz.prog 45 3 (fun ts => ∃ x : Stop, True ∧ ts = [.v (.int .i64 x.p), .v (.int .i64 x.kind), .v (.int .i64 x.v)]) :=
  (Opens.struct Tryz.underlying45 (by kernel_rfl) (.int rfl (by kernel_rfl) Tryz.underlying3 (.int rfl (by kernel_rfl) Tryz.underlying3 (.int rfl (by kernel_rfl) Tryz.underlying3 .nil)))).mono fun _ h => by
    obtain ⟨x, _, rfl⟩ := ints_Event h
    exact ⟨⟨x.kind, x.peer, x.v⟩, trivial, rfl⟩
set_option maxRecDepth 20000 in
theorem open_Stop {H : Type} {enc : TypeId × Value → H} {w : World} {base : Nat} {sp : Nat → Bool} {held : Bool} {v : Value} {d : DataW H} {ps : List MemPlace} {r : Go.Reach} {b0 : Nat}
    (hval : Value.okWide Tryz.prog w r b0 45 v) (h : DataW.Trod enc Tryz.prog w base sp held 45 v d ps) (hw : ∀ m ∈ d.weights Tryz.prog 45, m ≤ reachBytes) :
    ∃ X : Stop, True ∧ v = .agg #[.int .i64 X.p, .int .i64 X.kind, .int .i64 X.v] := by
  obtain ⟨cs, rfl, hsz⟩ := Go.WideShapes.okWide_struct Tryz.underlying45 hval
  have hsz4 : cs.size = 3 := hsz.trans (by kernel_rfl)
  obtain ⟨a0, a1, a2, rfl⟩ := three hsz4
  obtain ⟨fuel, hf⟩ := h
  obtain ⟨_, ts, h1, ⟨X, _, rfl⟩, h3⟩ := opens_Stop H enc w base sp held fuel _ _ hf hw
  have g : ∀ {v : Value} {x : Value} {Z : Fp} {l : Nat}, Ow Z w l v (.v x) none_ → v = x := by
    intro v x Z l h
    cases h
    rfl
  refine ⟨X, trivial, ?_⟩
  rw [g (h3 0 _ _ rfl rfl), g (h3 1 _ _ rfl rfl), g (h3 2 _ _ rfl rfl)]
theorem arg_Sys {Z : Fp} {w : World} {ob : Objs} {ρ : Nat → Value} {j : Nat} {P : List (List Ins)} {S : List State} {W : List (List Item)} {H : List (List Event)} {a0 a1 a2 a3 : Value}
    (g0 : Ow Z w 0 a0 (.sl 1 (P.map rInsL)) none_) (g1 : Ow Z w 0 a1 (.sl 4 (S.map rState)) none_) (g2 : Ow Z w 0 a2 (.sl 1 (W.map rItemL)) none_) (g3 : Ow Z w 0 a3 (.sl 1 (H.map rEventL)) none_)
    (e0 : ob (1000000 + j) = ⟨0, 0, false, tInsSS P⟩) (e1 : ob (1000001 + j) = ⟨0, 0, false, tStateS S⟩) (e2 : ob (1000002 + j) = ⟨0, 0, false, tItemSS W⟩) (e3 : ob (1000003 + j) = ⟨0, 0, false, tEventSS H⟩)
    (r0 : ρ (1000000 + j) = a0) (r1 : ρ (1000001 + j) = a1) (r2 : ρ (1000002 + j) = a2) (r3 : ρ (1000003 + j) = a3) : AVR w ob ρ (aSys j P S W H) (.agg #[a0, a1, a2, a3]) := by
  have h0 := arg_slice e0 r0 g0
  have h1 := arg_slice e1 r1 g1
  have h2 := arg_slice e2 r2 g2
  have h3 := arg_slice e3 r3 g3
  rw [List.length_map] at h0 h1 h2 h3
  refine .ag rfl ?_
  rintro (_ | _ | _ | _ | i) y hy
  · cases hy; exact h0
  · cases hy; exact h1
  · cases hy; exact h2
  · cases hy; exact h3
  · simp at hy

/-- The law, of any input. -/
theorem walk_FnExactRow {W : World} {v0 : Value} {X : Sys} (h1 : SysB 140737488355328 X.progs X.states X.ways X.hist)
    (o1 : SysAt W v0 X) :
    Calls PR 8 #[v0] W (fun e w' => e = .returned (.bool true) ∧ Below W.heap.size W w') := by
  have hF := callE_sound (C := C) tys_ok prims_ok _ _ _ _ _ (ok_laws_FnExactRow 0 X.progs X.states X.ways X.hist h1)
  obtain ⟨a0, a1, a2, a3, rfl, g0, g1, g2, g3⟩ := o1
  refine (hF.outside [a0, a1, a2, a3] ?_ #[_] rfl ?_).mono ?_
  · rintro (_ | _ | _ | _ | i) c hc
    · cases hc; exact ⟨_, _, rfl, rfl, g0⟩
    · cases hc; exact ⟨_, _, rfl, rfl, g1⟩
    · cases hc; exact ⟨_, _, rfl, rfl, g2⟩
    · cases hc; exact ⟨_, _, rfl, rfl, g3⟩
    · simp at hc
  · rintro (_ | i) x' hx
    · cases hx
      exact arg_Sys g0 g1 g2 g3 rfl rfl rfl rfl rfl rfl rfl rfl
    · simp at hx
  · rintro e w' ⟨v, rfl, hb, ob', ρ', hv⟩
    exact ⟨by rw [hv.bool_inv], hb⟩

end Go.Proofs.YtkmhbofkjcknjaaGreat.Abs
namespace Go.Proofs.YtkmhbofkjcknjaaGreat.fnExactRow
open Go Go.Proofs Go.ChangeShapes Go.WideShapes Go.RowKit Go.Proofs.YtkmhbofkjcknjaaGreat.Abs
set_option linter.unusedVariables false
theorem own : ownKnob Tryz.prog.godebug = none := by kernel_rfl
theorem laidOut : laidOutB Tryz.prog = true := by kernel_rfl
set_option maxRecDepth 100000 in
theorem lifted (os : Os) (started : os.Started) (H : Type) (enc : TypeId × Value → H) :
    ReturnsInHanded {} Tryz.checked os 8 .any (Rows.fnExactRowSpec.pre6 enc Tryz.prog Tryz.f8 Rows.fnExactRowRow.domain false) (Rows.fnExactRowSpec.post enc Tryz.prog Tryz.f8 false true false false) := by
  refine returnsInHanded_of_change_sized (C := Tryz.checked) own started (by kernel_rfl) Tryz.func8
    (ChangeSpec.witness6 (enc := enc) (C := Tryz.checked) false ⟨#[], #[.agg #[.slice none 0 0, .slice none 0 0, .slice none 0 0, .slice none 0 0]], []⟩ 8 (by kernel_rfl) (by kernel_rfl) (by kernel_rfl) (by kernel_rfl)) ?_
  intro W base args ds gs before hval0 hW hcnd hsz0 _
  have hsz : (DataW.weightsEach Tryz.prog (Tryz.f8.params.toList ++ Rows.fnExactRowSpec.plain.varTypes Tryz.prog) (ds ++ gs)).all (· ≤ reachBytes) = true := hsz0
  have hval : ∀ (j : Nat) t v, Tryz.f8.params[j]? = some t → args[j]? = some v → Value.okWide Tryz.prog W .any base t v := hval0
  have hW' := hW
  obtain ⟨p, q, hA0, hV, rfl, hfz, hnd⟩ := hW
  have hA : DataW.TrodAll enc Tryz.prog W 0 (fun _ => true) true Tryz.f8.params.toList args.toList ds p := hA0
  rw [Tryz.params8] at hA hval hsz
  obtain ⟨v0, vs0, d0, ds0, p0, q0, hargs, rfl, rfl, h0, r0⟩ := trodAll_cons hA
  obtain ⟨rfl, rfl, rfl⟩ := trodAll_nil r0
  obtain rfl : args = #[v0] := by cases args; simp_all
  obtain ⟨rfl, rfl⟩ := trodVars_none hV
  have hwt : ∀ (j : Nat) t d, [43][j]? = some t → [d0][j]? = some d → ∀ m ∈ d.weights Tryz.prog t, m ≤ reachBytes := by
    intro j t d ht hd m hm
    have := List.all_eq_true.1 hsz m (DataW.weights_mem_each (j := j) (t := t) (d := d) ht hd m hm)
    simpa using this
  have k0 := h0
  have lt0 : ∀ x ∈ p0, x.block < W.heap.size := by obtain ⟨m, hm⟩ := k0; exact DataW.trod_lt m _ _ _ hm
  obtain ⟨l0, s0, o0⟩ := open_Sys (hval 0 43 v0 rfl rfl) h0 (hwt 0 _ _ rfl rfl)
  clear hA0 hval0 hsz0 hsz hwt
  refine (walk_FnExactRow s0 o0).mono fun e W' ⟨he, bel⟩ => ?_
  subst he
  exact ⟨_, rfl, _, _, _, [], _, [], hW', trodAll_mk1 (shut_bool Tryz.underlying4 _), (trodAll_cons_mk (Below.trod laidOut (by kernel_rfl) (of_decide_eq_true (by kernel_rfl)) k0 bel lt0) trodAll_mk0), rfl, bel.frame _, fun h => by cases h⟩
theorem andT {a b : Bool} (h1 : a = true) (h2 : b = true) : (a && b) = true := by rw [h1, h2]; rfl
theorem j0 : Rows.fnExactRowRow.wf (OpenSpec.ofChange Rows.fnExactRowSpec) = true := by kernel_rfl
theorem j1 : laidOutB Tryz.prog = true := by kernel_rfl
theorem j2 : mapsRowed Tryz.prog = true := by kernel_rfl
theorem j3 : Tryz.f8.params.all (Tryz.prog.readableRec ·) = true := by kernel_rfl
theorem j4 : namedTie Tryz.prog Rows.fnExactRowRow.named Rows.fnExactRowSpec.vars = true := by kernel_rfl
theorem j5 : (Rows.fnExactRowRow.stops == []) = true := by kernel_rfl
theorem j6 : (Tryz.prog.stops == []) = true := by kernel_rfl
theorem j7 : (Rows.fnExactRowRow.knobs == []) = true := by kernel_rfl
theorem j8 : (Tryz.prog.stopKnobs == []) = true := by kernel_rfl
theorem j9 : (Rows.fnExactRowRow.inPlace == Tryz.prog.inPlace 8) = true := by kernel_rfl
theorem j10 : (Rows.fnExactRowRow.unfollowed == Tryz.prog.unfollowed 8) = true := by kernel_rfl
theorem j11 : (Rows.fnExactRowRow.recurses == Tryz.prog.recurses 8) = true := by kernel_rfl
theorem j12 : (Rows.fnExactRowRow.named == Tryz.prog.varsNamed 8) = true := by kernel_rfl
theorem j13 : (Rows.fnExactRowRow.maps == (Tryz.f8.params.toList ++ Rows.fnExactRowSpec.plain.varTypes Tryz.prog).any (Tryz.prog.mapsRec ·)) = true := by kernel_rfl
theorem j14 : (Rows.fnExactRowRow.ifaces == (Tryz.f8.params.toList ++ Rows.fnExactRowSpec.plain.varTypes Tryz.prog).any (Tryz.prog.ifacesRec ·)) = true := by kernel_rfl
theorem j15 : (Rows.fnExactRowRow.mapsOut == Tryz.prog.mapsAmong Tryz.f8.resultTypes.toList) = true := by kernel_rfl
theorem j16 : (Rows.fnExactRowRow.loops == (Tryz.f8.params.toList ++ Rows.fnExactRowSpec.plain.varTypes Tryz.prog).any (Tryz.prog.loopsFrom ·)) = true := by kernel_rfl
theorem j17 : (Rows.fnExactRowRow.wideKeys == (Tryz.f8.params.toList ++ Rows.fnExactRowSpec.plain.varTypes Tryz.prog ++ Tryz.f8.resultTypes.toList).any (Tryz.prog.wideKeysFrom ·)) = true := by kernel_rfl
theorem j18 : Rows.fnExactRowSpec.vars.all (Tryz.prog.varReadable ·) = true := by kernel_rfl
theorem j19 : Tryz.f8.resultTypes.all (fun t => Tryz.prog.readableRec t && decide (t < Tryz.prog.types.size)) = true := by kernel_rfl
theorem j20 : (Rows.fnExactRowRow.ifacesOut == Tryz.f8.resultTypes.toList.any (Tryz.prog.ifacesRec ·)) = true := by kernel_rfl
theorem j21 : (Rows.fnExactRowRow.loopsOut == Tryz.f8.resultTypes.toList.any (Tryz.prog.loopsFrom ·)) = true := by kernel_rfl
theorem j22 : (Rows.fnExactRowRow.plainKeys == Tryz.prog.plainKeys) = true := by kernel_rfl
theorem j23 : Rows.fnExactRowRow.shortTexts.isNone = true := by kernel_rfl
theorem j24 : Tryz.prog.stopsHeard = true := by kernel_rfl
theorem j25 : Tryz.prog.mayEnter = true := by kernel_rfl
theorem j26 : (Rows.fnExactRowRow.lifted == Tryz.prog.liftsFinal) = true := by kernel_rfl
theorem j27 : (Tryz.prog.make == some Rows.fnExactRowRow.make) = true := by kernel_rfl
theorem j28 : (Rows.fnExactRowRow.kinds == (if Rows.fnExactRowRow.domain.isEmpty then [] else Tryz.f8.params.toList.map fun t => match Tryz.prog.underlying t with | some (.int k) => some k | _ => none)) = true := by kernel_rfl
theorem j29 : (Rows.fnExactRowRow.pinned == Rows.fnExactRowRow.pinnedBy) = true := by kernel_rfl
theorem j30 : (Rows.fnExactRowRow.veiled == (Tryz.f8.params.toList ++ Rows.fnExactRowSpec.plain.varTypes Tryz.prog ++ Tryz.f8.resultTypes.toList).any (Tryz.prog.veiledRec ·)) = true := by kernel_rfl
theorem j31 : Rows.fnExactRowRow.veiledFits Tryz.prog Tryz.f8.params.toList (Tryz.f8.params.toList ++ Rows.fnExactRowSpec.plain.varTypes Tryz.prog ++ Tryz.f8.resultTypes.toList) = true := by kernel_rfl
set_option maxRecDepth 100000 in
theorem joined : joinedFacts Tryz.prog 8 Tryz.f8 Rows.fnExactRowSpec Rows.fnExactRowRow = true := by
  unfold joinedFacts
  exact andT (andT (andT (andT (andT (andT (andT (andT (andT (andT (andT (andT (andT (andT (andT (andT (andT (andT (andT (andT (andT (andT (andT (andT (andT (andT (andT (andT (andT (andT (andT j0 j1) j2) j3) j4) j5) j6) j7) j8) j9) j10) j11) j12) j13) j14) j15) j16) j17) j18) j19) j20) j21) j22) j23) j24) j25) j26) j27) j28) j29) j30) j31
theorem over : Rows.fnExactRowRow.holds Tryz.pinned (OpenSpec.ofChange Rows.fnExactRowSpec) :=
  OpenClaim.holds_of_wide 8 Tryz.f8 rfl rfl rfl rfl rfl rfl rfl ⟨rfl, rfl, rfl, rfl, rfl⟩ rfl rfl rfl rfl rfl (by kernel_rfl) Tryz.func8 joined
    (of_decide_eq_true (by kernel_rfl)) (by unfold Func.isWrapper; first | (rw [if_pos (by decide +kernel)]; kernel_rfl) | (rw [if_neg (by decide +kernel)]; exact ⟨rfl, rfl⟩))
    (fun os started H enc _ => lifted os started H enc)
theorem proved : Rows.FnExactRowSaid := over
#print axioms proved
end Go.Proofs.YtkmhbofkjcknjaaGreat.fnExactRow
namespace Go.Proofs.YtkmhbofkjcknjaaGreat
/-- The row, under a short name, for the claim. -/
theorem fnExactRow_holds : Rows.FnExactRowSaid := fnExactRow.proved
end Go.Proofs.YtkmhbofkjcknjaaGreat

