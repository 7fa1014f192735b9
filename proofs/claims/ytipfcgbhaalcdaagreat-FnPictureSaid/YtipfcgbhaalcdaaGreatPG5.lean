/- Part 5 of the words by which the law is followed: an interpreter over data trees, proved of the machine, and what functions of this program come to by it. No condition. -/
import Derived.Test.YtipfcgbhaalcdaaGreatPG4
set_option maxRecDepth 20000
set_option maxHeartbeats 16000000
namespace Go.Proofs.YtipfcgbhaalcdaaGreat.Abs
open Go Go.Proofs
set_option linter.unusedVariables false
set_option linter.unusedSimpArgs false
attribute [local irreducible] callE
theorem peersIn_of {P : List (List Ins)} {S : List State} {H : List (List Event)} (hn : 1 ≤ P.length ∧ P.length ≤ 4) (hh : H.length = P.length) (h : ∀ p, p < P.length → procOk P S H p = true) : PeersIn H ∧ ∀ p, p < H.length → (rd H p).length ≤ 200 := by
 refine ⟨fun p hp i hi hk => ?_, fun p hp => ?_⟩
 ·have h1 := h p (by omega)
  simp only [procOk, Bool.and_eq_true] at h1
  have h2 := h1.2.1
  simp only [peersOk, List.all_eq_true] at h2
  have h3 := h2 _ (rd_mem hi)
  simp [peerOk, inB, hk] at h3
  omega
 ·have h1 := h p (by omega)
  simp only [procOk, Bool.and_eq_true] at h1
  exact (stood_evOk h1.2.2).2.2.2.1
theorem sysOk_sizes {P : List (List Ins)} {S : List State} {W : List (List Item)} {H : List (List Event)} (h : sizesOk P S W H = false) : sysOk P S W H = false := by simp [sysOk, h]
structure SysIs (P : List (List Ins)) (S : List State) (W : List (List Item)) (H : List (List Event)) : Prop where
 n : 1 ≤ P.length ∧ P.length ≤ 4
 s : S.length = P.length
 h : H.length = P.length
 w : W.length = P.length * P.length
theorem SysIs.sizes {P : List (List Ins)} {S : List State} {W : List (List Item)} {H : List (List Event)} (h : SysIs P S W H) : sizesOk P S W H = true := by
 have := h.n
 simp only [sizesOk, inB, Bool.and_eq_true, decide_eq_true_eq]
 exact ⟨by omega, h.s, h.h, h.w⟩
abbrev bSys (P : List (List Ins)) (S : List State) (W : List (List Item)) (H : List (List Event)) : Cont := .box [.h 1000000 0 0 [] 1 0 P.length, .h 1000001 0 0 [] 4 0 S.length, .h 1000002 0 0 [] 1 0 W.length, .h 1000003 0 0 [] 1 0 H.length]
theorem i_SysOk (k : Nat) (P : List (List Ins)) (S : List State) (W : List (List Item)) (H : List (List Event)) (hb : SysB 10000000000 P S W H) :
  callE PR C (k + 11) 20 [aSys 0 P S W H] [tInsSS P, tStateS S, tItemSS W, tEventSS H] = some ⟨bl (sysOk P S W H), [], [none, none, none, none]⟩ := by
 have b1 := hb.p
 have b2 := hb.s
 have b3 := hb.w
 have b4 := hb.h
 have q0 := fun k => i_in k (P.length : Int) 1 4
 by_cases d1 : 1 ≤ (P.length : Int) ∧ (P.length : Int) ≤ 4
 ·rw [decide_eq_true d1] at q0
  have hnn : P.length * P.length ≤ 4 * 4 := Nat.mul_le_mul (by omega) (by omega)
  have w1 : IntKind.i64.wrap ((P.length : Int) * (P.length : Int)) = ((P.length * P.length : Nat) : Int) := by
   rw [show (P.length : Int) * (P.length : Int) = ((P.length * P.length : Nat) : Int) by simp]; exact wrap_i64 _ (by omega) (by omega)
  by_cases d2 : S.length = P.length
  ·by_cases d3 : H.length = P.length
   ·by_cases d4 : W.length = P.length * P.length
    ·have hI : SysIs P S W H := ⟨by omega, d2, d3, d4⟩
     have qW := fun k => ok_ContainsFunc_Way k W (by omega) (fun j hj => by have := hb.ww j hj; omega)
     cases eW : W.all wayOk with
     | false =>
      simp only [eW] at qW
      rw [show sysOk P S W H = false by simp [sysOk, eW]]
      (refine fnI [ResultVar.tmp 2] Tryz.func20 ?_; conv => whnf)
      repeat' ((with_reducible (first | refine sCall.of (q0 _) ?_|refine sW.eq (w1) ?_|refine sCall.of (qW _) ?_|refine st13 ?_|refine gA ?_ ?_<;>intro _|refine gE ?_ ?_<;>intro _|refine gD 20 [(2, 5)] ?_)) <;> (try (conv => whnf)))
     | true =>
      simp only [eW] at qW
      (refine fnI [ResultVar.tmp 2] Tryz.func20 ?_; conv => whnf)
      repeat' ((with_reducible (first | refine sCall.of (q0 _) ?_|refine sW.eq (w1) ?_|refine sCall.of (qW _) ?_|refine st13 ?_|refine gA ?_ ?_<;>intro _|refine gE ?_ ?_<;>intro _|refine gD 20 [(2, 5)] ?_)) <;> (try (conv => whnf)))
      refine loop_rule (ι := Nat) (fun j => [(1, .pt 1 1 0 [] 0 0), (3, i64 P.length), (41, i64 P.length), (42, i64 (j : Nat))])
       (fun _ => [(1000000, ⟨0, 0, false, tInsSS P⟩), (1000001, ⟨0, 0, false, tStateS S⟩), (1000002, ⟨0, 0, false, tItemSS W⟩), (1000003, ⟨0, 0, false, tEventSS H⟩), (1, ⟨1, 0, false, bSys P S W H⟩)])
       (fun j => P.length - j) (fun j => j ≤ P.length ∧ ∀ q, q < j → procOk P S H q = true) 0 fitOk ⟨Nat.zero_le _, fun q h => absurd h (Nat.not_lt_zero q)⟩ (by simp [C]; omega) ?_
      rintro j sl ob ⟨hj, hpr⟩
      (try dsimp only [cond_true, cond_false])
      (conv => whnf)
      by_cases hjl : j < P.length
      ·have q1 := fun k => i_procOk k P S W H j (hb.mono (by decide)) hjl (by omega) d2 d3
       cases e : procOk P S H j with
       | false =>
        simp only [e] at q1
        rw [show sysOk P S W H = false by simp [sysOk, allBelow_no hjl e]]
        repeat' ((with_reducible (first | refine sCall.of (q1 _) ?_|refine st13 ?_|refine gA ?_ ?_<;>intro _|refine gE ?_ ?_<;>intro _|refine gD 20 [(2, 5)] ?_)) <;> (try (conv => whnf)))
       | true =>
        simp only [e] at q1
        repeat' ((with_reducible (first | refine sCall.of (q1 _) ?_|refine st13 ?_|refine gA ?_ ?_<;>intro _|refine gE ?_ ?_<;>intro _|refine gD 20 [(2, 5)] ?_)) <;> (try (conv => whnf)))
        refine ⟨⟨j + 1, fitOk, ?_, ?_⟩⟩
        ·exact ⟨by show j + 1 ≤ _; omega, fun q hq => by rcases Nat.lt_succ_iff_lt_or_eq.1 hq with h | h; exact hpr q h; rw [h]; exact e⟩
        ·show P.length - (j + 1) < P.length - j; omega
      ·have hpr' : ∀ p, p < P.length → procOk P S H p = true := fun p hp => hpr p (by omega)
       obtain ⟨hPI, h200⟩ := peersIn_of hI.n d3 hpr'
       have ePr := allBelow_yes hpr'
       clear hpr
       repeat' ((with_reducible (first | refine st13 ?_|refine gA ?_ ?_<;>intro _|refine gE ?_ ?_<;>intro _|refine gD 20 [(2, 5)] ?_)) <;> (try (conv => whnf)))
       refine loop_rule (ι := Nat) (fun j => [(1, .pt 1 1 0 [] 0 0), (3, i64 P.length), (50, i64 P.length), (51, i64 (j : Nat))])
        (fun _ => [(1000000, ⟨0, 0, false, tInsSS P⟩), (1000001, ⟨0, 0, false, tStateS S⟩), (1000002, ⟨0, 0, false, tItemSS W⟩), (1000003, ⟨0, 0, false, tEventSS H⟩), (1, ⟨1, 0, false, bSys P S W H⟩)])
        (fun j => P.length - j) (fun j => j ≤ P.length ∧ ∀ a, a < j → allBelow P.length (fun b => fits P.length W H a b) = true) 0 fitOk ⟨Nat.zero_le _, fun q h => absurd h (Nat.not_lt_zero q)⟩ (by simp [C]; omega) ?_
       clear sl ob
       rintro a sl ob ⟨ha, hfa⟩
       (try dsimp only [cond_true, cond_false])
       (conv => whnf)
       by_cases hal : a < P.length
       ·repeat' ((with_reducible (first | refine st13 ?_|refine gA ?_ ?_<;>intro _|refine gE ?_ ?_<;>intro _|refine gD 20 [(2, 5)] ?_)) <;> (try (conv => whnf)))
        refine loop_rule (ι := Nat) (fun j => [(1, .pt 1 1 0 [] 0 0), (3, i64 P.length), (5, i64 (a : Nat)), (50, i64 P.length), (51, i64 (a : Nat)), (54, i64 P.length), (55, i64 (j : Nat))])
         (fun _ => [(1000000, ⟨0, 0, false, tInsSS P⟩), (1000001, ⟨0, 0, false, tStateS S⟩), (1000002, ⟨0, 0, false, tItemSS W⟩), (1000003, ⟨0, 0, false, tEventSS H⟩), (1, ⟨1, 0, false, bSys P S W H⟩)])
         (fun j => P.length - j) (fun j => j ≤ P.length ∧ ∀ b, b < j → fits P.length W H a b = true) 0 fitOk ⟨Nat.zero_le _, fun q h => absurd h (Nat.not_lt_zero q)⟩ (by simp [C]; omega) ?_
        clear sl ob
        rintro b sl ob ⟨hb', hfb⟩
        (try dsimp only [cond_true, cond_false])
        (conv => whnf)
        by_cases hbl : b < P.length
        ·have q2 := fun k => i_fits k P S W H a b hb hal hbl (by omega) d3 d4
         cases e : fits P.length W H a b with
         | false =>
          simp only [e] at q2
          rw [show sysOk P S W H = false by simp [sysOk, allBelow_no (f := fun a => allBelow P.length fun b => fits P.length W H a b) hal (allBelow_no hbl e)]]
          repeat' ((with_reducible (first | refine sCall.of (q2 _) ?_|refine st13 ?_|refine gA ?_ ?_<;>intro _|refine gE ?_ ?_<;>intro _|refine gD 20 [(2, 5)] ?_)) <;> (try (conv => whnf)))
         | true =>
          simp only [e] at q2
          repeat' ((with_reducible (first | refine sCall.of (q2 _) ?_|refine st13 ?_|refine gA ?_ ?_<;>intro _|refine gE ?_ ?_<;>intro _|refine gD 20 [(2, 5)] ?_)) <;> (try (conv => whnf)))
          refine ⟨⟨b + 1, fitOk, ?_, ?_⟩⟩
          ·exact ⟨by show b + 1 ≤ _; omega, fun q hq => by rcases Nat.lt_succ_iff_lt_or_eq.1 hq with h | h; exact hfb q h; rw [h]; exact e⟩
          ·show P.length - (b + 1) < P.length - b; omega
        ·repeat' ((with_reducible (first | refine st13 ?_|refine gA ?_ ?_<;>intro _|refine gE ?_ ?_<;>intro _|refine gD 20 [(2, 5)] ?_)) <;> (try (conv => whnf)))
         refine ⟨⟨a + 1, fitOk, ?_, ?_⟩⟩
         ·exact ⟨by show a + 1 ≤ _; omega, fun q hq => by rcases Nat.lt_succ_iff_lt_or_eq.1 hq with h | h; exact hfa q h; rw [h]; exact allBelow_yes fun b hb => hfb b (by omega)⟩
         ·show P.length - (a + 1) < P.length - a; omega
       ·have eF : allBelow P.length (fun a => allBelow P.length fun b => fits P.length W H a b) = true := allBelow_yes fun a h => hfa a (by omega)
        have q3 := fun k => i_rowOf k H (by omega) (fun j hj => by have := h200 j hj; omega) hPI
        have hall : allEv H ≤ 1000000000000 := by
         have h1 := wts_bound List.length 200 H h200
         rw [← allEv_wts] at h1
         omega
        have q4 := fun k => i_allEvents k H (by omega) hall
        rw [show sysOk P S W H = inRow H by simp [sysOk, hI.sizes, eW, ePr, eF]]
        repeat' ((with_reducible (first | refine sCall.of (q3 _) ?_|refine sCall.of (q4 _) ?_|refine st13 ?_|refine gA ?_ ?_<;>intro _|refine gE ?_ ?_<;>intro _|refine gD 20 [(2, 5)] ?_)) <;> (try (conv => whnf)))
        simp [inRow]
        omega
    ·rw [sysOk_sizes (by simp [sizesOk, d4])]
     (refine fnI [ResultVar.tmp 2] Tryz.func20 ?_; conv => whnf)
     repeat' ((with_reducible (first | refine sCall.of (q0 _) ?_|refine sW.eq (w1) ?_|refine st13 ?_|refine gA ?_ ?_<;>intro _|refine gE ?_ ?_<;>intro _|refine gD 20 [(2, 5)] ?_)) <;> (try (conv => whnf)))
     all_goals first
      | rfl
      | (exfalso; omega)
   ·rw [sysOk_sizes (by simp [sizesOk, d3])]
    (refine fnI [ResultVar.tmp 2] Tryz.func20 ?_; conv => whnf)
    repeat' ((with_reducible (first | refine sCall.of (q0 _) ?_|refine sW.eq (w1) ?_|refine st13 ?_|refine gA ?_ ?_<;>intro _|refine gE ?_ ?_<;>intro _|refine gD 20 [(2, 5)] ?_)) <;> (try (conv => whnf)))
    all_goals first
     | rfl
     | (exfalso; omega)
  ·rw [sysOk_sizes (by simp [sizesOk, d2])]
   (refine fnI [ResultVar.tmp 2] Tryz.func20 ?_; conv => whnf)
   repeat' ((with_reducible (first | refine sCall.of (q0 _) ?_|refine sW.eq (w1) ?_|refine st13 ?_|refine gA ?_ ?_<;>intro _|refine gE ?_ ?_<;>intro _|refine gD 20 [(2, 5)] ?_)) <;> (try (conv => whnf)))
   all_goals first
    | rfl
    | (exfalso; omega)
 ·rw [decide_eq_false d1] at q0
  rw [sysOk_sizes (by simp [sizesOk, inB, d1])]
  (refine fnI [ResultVar.tmp 2] Tryz.func20 ?_; conv => whnf)
  repeat' ((with_reducible (first | refine sCall.of (q0 _) ?_|refine st13 ?_|refine gA ?_ ?_<;>intro _|refine gE ?_ ?_<;>intro _|refine gD 20 [(2, 5)] ?_)) <;> (try (conv => whnf)))

end Go.Proofs.YtipfcgbhaalcdaaGreat.Abs
namespace Go.Proofs.YtipfcgbhaalcdaaGreat.Abs
open Go Go.Proofs
set_option linter.unusedVariables false
set_option linter.unusedSimpArgs false
attribute [local irreducible] callE
theorem s_l4Way (k : Nat) (w : List Item) (sent : List Int) (tk : Nat) (hw : w.length ≤ 10000000000) (hs : sent.length ≤ 10000000000) (ht : tk ≤ 10000000000) :
    callE PR C (k + 3) 178 [.h 1000000 0 0 [] 2 0 w.length, .h 1000001 0 0 [] 1 0 sent.length, i64 (tk : Nat)] [tItem w, tI sent] = some ⟨bl (l4way w sent tk), [], [none, none]⟩ := by
  have hnl := numbers_le w
  (refine fnI [ResultVar.tmp 6] Tryz.func178 ?_; conv => whnf)
  refine loop_rule (ι := Nat) (fun j => [(0, .h 1000000 0 0 [] 2 0 w.length), (1, .h 1000001 0 0 [] 1 0 sent.length), (2, i64 (tk : Nat)), (7, i64 (j : Nat))])
    (fun _ => [(1000000, ⟨0, 0, false, tItem w⟩), (1000001, ⟨0, 0, false, tI sent⟩)])
    (fun j => w.length - j) (fun j => j ≤ w.length ∧ ∀ i, i < j → itemOk (rd w i) = true) 0 fitOk ⟨Nat.zero_le _, fun q h => absurd h (Nat.not_lt_zero q)⟩ (by simp [C]; omega) ?_
  rintro j sl ob ⟨hj, hok⟩
  (try dsimp only [cond_true, cond_false])
  (conv => whnf)
  by_cases hjl : j < w.length
  · have q1 : ∀ k, callE PR C (k + 2) 263 [i64 (rd w j).v] [] = some ⟨bl (numOk (rd w j).v), [], []⟩ := fun k => s_l1Num k (rd w j).v
    cases e : itemOk (rd w j) with
    | false =>
      rw [show l4way w sent tk = false by
        have : w.all itemOk = false := by rw [List.all_eq_false]; exact ⟨_, rd_mem hjl, by rw [e]; decide⟩
        simp [l4way, this]]
      cases en : numOk (rd w j).v with
      | false =>
        rw [en] at q1
        repeat' ((with_reducible (first | refine sCall.of (q1 _) ?_|refine st13 ?_|refine gA ?_ ?_<;>intro _|refine gE ?_ ?_<;>intro _|refine gDn 12 ?_)) <;> (try (conv => whnf)))
      | true =>
        rw [en] at q1
        cases em : (rd w j).mark with
        | false => simp [itemOk, en, em] at e
        | true =>
          have hv : ¬ (rd w j).v = 0 := by intro h; unfold itemOk at e; rw [en, em] at e; simp [h] at e
          repeat' ((with_reducible (first | refine sCall.of (q1 _) ?_|refine st13 ?_|refine gA ?_ ?_<;>intro _|refine gE ?_ ?_<;>intro _|refine gDn 12 ?_)) <;> (try (conv => whnf)))
          all_goals first
            | (exfalso; simp [em] at *; done)
            | skip
    | true =>
      have en : numOk (rd w j).v = true := by simp only [itemOk, Bool.and_eq_true] at e; exact e.1
      rw [en] at q1
      have e' := e
      simp only [itemOk, en, Bool.true_and, Bool.not_eq_true', Bool.and_eq_false_iff, Bool.not_eq_false', decide_eq_true_eq] at e'
      repeat' ((with_reducible (first | refine sCall.of (q1 _) ?_|refine st13 ?_|refine gA ?_ ?_<;>intro _|refine gE ?_ ?_<;>intro _|refine gDn 12 ?_)) <;> (try (conv => whnf)))
      all_goals first
        | (exfalso; rcases e' with h | h <;> simp_all; done)
        | (refine ⟨⟨j + 1, fitOk, ?_, ?_⟩⟩
           · exact ⟨by show j + 1 ≤ _; omega, fun q hq => by rcases Nat.lt_succ_iff_lt_or_eq.1 hq with h | h; exact hok q h; rw [h]; exact e⟩
           · show w.length - (j + 1) < w.length - j; omega)
  · have eA : w.all itemOk = true := by
      rw [List.all_eq_true]
      intro x hx
      obtain ⟨i, hi, rfl⟩ := List.mem_iff_getElem.1 hx
      have := hok i (by omega)
      simpa [rd, hi] using this
    have q2 := fun k => s_Numbers k w (by omega)
    by_cases d1 : w.length ≤ 12
    · by_cases d2 : (sent.length : Int) - (tk : Int) = ((numbersOf w).length : Int)
      · rw [show l4way w sent tk = decide (sent.drop tk = numbersOf w) by simp [l4way, eA, d1, d2]]
        repeat' ((with_reducible (first | refine sCall.of (q2 _) ?_|refine st13 ?_|refine gA ?_ ?_<;>intro _|refine gE ?_ ?_<;>intro _|refine gDn 12 ?_)) <;> (try (conv => whnf)))
        refine loop_rule (ι := VI) (fun z => [(1, .h 1000001 0 0 [] 1 0 sent.length), (2, i64 (tk : Nat)), (8, .h 10039 z.b 0 [] 1 0 (numbersOf w).length), (9, i64 (z.j : Nat))])
          (fun z => [(1000000, ⟨0, 0, false, tItem w⟩), (1000001, ⟨0, 0, false, tI sent⟩), (10039, ⟨z.b, 0, false, tI9 (numbersOf w)⟩)])
          (fun z => (numbersOf w).length - z.j) (fun z => z.j ≤ (numbersOf w).length ∧ ∀ i, i < z.j → rd (numbersOf w) i = rd sent (tk + i)) ⟨0, [], 0, _⟩ fitOk ⟨Nat.zero_le _, fun q h => absurd h (Nat.not_lt_zero q)⟩ (by simp [C]; omega) ?_
        clear hok hj hjl sl ob j
        rintro ⟨j, _, _, bb⟩ sl ob ⟨hj, hok⟩
        dsimp only at hj hok
        (try dsimp only [cond_true, cond_false])
        (conv => whnf)
        by_cases hjl : j < (numbersOf w).length
        · have et : ((tk : Int) + (j : Int)).toNat = tk + j := by omega
          by_cases e : rd (numbersOf w) j = rd sent (tk + j)
          · have e' : rd (numbersOf w) j = rd sent ((tk : Int) + (j : Int)).toNat := by rw [et]; exact e
            repeat' ((with_reducible (first | refine st13 ?_|refine gA ?_ ?_<;>intro _|refine gE ?_ ?_<;>intro _|refine gDn 12 ?_)) <;> (try (conv => whnf)))
            refine ⟨⟨⟨j + 1, [], 0, _⟩, fitOk, ?_, ?_⟩⟩
            · exact ⟨by show j + 1 ≤ _; omega, fun q hq => by rcases Nat.lt_succ_iff_lt_or_eq.1 hq with h | h; exact hok q h; rw [h]; exact e⟩
            · show (numbersOf w).length - (j + 1) < (numbersOf w).length - j; omega
          · have e' : ¬ rd (numbersOf w) j = rd sent ((tk : Int) + (j : Int)).toNat := by rw [et]; exact e
            rw [decide_eq_false (p := sent.drop tk = numbersOf w) (fun h => e (by rw [← h]; simp [rd]))]
            repeat' ((with_reducible (first | refine st13 ?_|refine gA ?_ ?_<;>intro _|refine gE ?_ ?_<;>intro _|refine gDn 12 ?_)) <;> (try (conv => whnf)))
        · rw [decide_eq_true (p := sent.drop tk = numbersOf w) (rd_ext (by simp; omega) fun q hq => by
            have := hok q (by simp at hq; omega)
            rw [this]; simp [rd])]
          repeat' ((with_reducible (first | refine st13 ?_|refine gA ?_ ?_<;>intro _|refine gE ?_ ?_<;>intro _|refine gDn 12 ?_)) <;> (try (conv => whnf)))
      · rw [show l4way w sent tk = false by simp [l4way, d2]]
        repeat' ((with_reducible (first | refine sCall.of (q2 _) ?_|refine st13 ?_|refine gA ?_ ?_<;>intro _|refine gE ?_ ?_<;>intro _|refine gDn 12 ?_)) <;> (try (conv => whnf)))
    · rw [show l4way w sent tk = false by simp [l4way, d1]]
      repeat' ((with_reducible (first | refine sCall.of (q2 _) ?_|refine st13 ?_|refine gA ?_ ?_<;>intro _|refine gE ?_ ?_<;>intro _|refine gDn 12 ?_)) <;> (try (conv => whnf)))

structure LO where
 f : List Int
 n : Nat
 p : Nat
 m : Bool
 x : Int
 g : Nat
 d : Bool
theorem s_l4Order (k : Nat) (P : List (List Ins)) (S : List State) (W : List (List Item)) (H : List (List Event)) (hl : H.length ≤ 1000) (hh : ∀ j : Nat, j < H.length → (rd H j).length ≤ 1000) (hP : PeersIn H) :
  callE PR C (k + 3) 179 [aSys 0 P S W H] [tInsSS P, tStateS S, tItemSS W, tEventSS H] = some ⟨bl (inRow H), [], [none, none, none, none]⟩ := by
 have htot : allEv H ≤ 1000 * 1000 := by
  have := wts_bound List.length 1000 H hh
  rw [allEv_wts]
  exact Nat.le_trans this (Nat.mul_le_mul_left _ hl)
 (refine fnI [ResultVar.tmp 2] Tryz.func179 ?_; conv => whnf)
 repeat' ((with_reducible (first | refine st13 ?_|refine gA ?_ ?_<;>intro _|refine gE ?_ ?_<;>intro _|refine gDn 14 ?_|refine gD 15 [(1, 11), (4, 11), (8, 11), (10, 11)] ?_|refine gD 16 [(16, 18), (16, 20), (16, 22), (16, 25), (16, 27)] ?_)) <;> (try (conv => whnf)))
 refine loop_rule (ι := TH) (fun z => [(1, .pt 1 1 0 [] 0 0), (3, i64 H.length), (4, .h 14 1 0 [] 1 0 H.length), (5, bl true), (6, i64 z.m), (7, i64 (z.j : Nat))])
  (fun _ => [(1000000, ⟨0, 0, false, tInsSS P⟩), (1000001, ⟨0, 0, false, tStateS S⟩), (1000002, ⟨0, 0, false, tItemSS W⟩), (1000003, ⟨0, 0, false, tEventSS H⟩), (1, ⟨1, 0, false, bSys P S W H⟩), (14, ⟨1, 0, false, tI9 (List.replicate H.length 0)⟩)])
  (fun z => H.length - z.j) (fun z => z.j ≤ H.length ∧ z.m = (allEv (H.take z.j) : Nat)) ⟨0, 0⟩ fitOk ⟨Nat.zero_le _, rfl⟩ (by simp [C]; omega) ?_
 rintro ⟨j, m⟩ sl ob ⟨hj, hm⟩
 dsimp only at hj hm
 subst hm
 (try dsimp only [cond_true, cond_false])
 (conv => whnf)
 by_cases hjl : j < H.length
 ·have e1 := allEv_take hjl
  have e2 := allEv_le H (j + 1)
  have e4 : (List.map rEvent (rd H j)).length = (rd H j).length := by simp
  repeat' ((with_reducible (first | refine st13 ?_|refine gA ?_ ?_<;>intro _|refine gE ?_ ?_<;>intro _|refine gDn 14 ?_|refine gD 15 [(1, 11), (4, 11), (8, 11), (10, 11)] ?_|refine gD 16 [(16, 18), (16, 20), (16, 22), (16, 25), (16, 27)] ?_)) <;> (try (conv => whnf)))
  refine ⟨⟨⟨j + 1, _⟩, fitOk, ?_, ?_⟩⟩
  ·exact ⟨by show j + 1 ≤ _; omega, by show ((allEv (H.take j) : Nat) : Int) + ((List.map rEvent (rd H j)).length : Nat) = (allEv (H.take (j + 1)) : Nat); omega⟩
  ·show H.length - (j + 1) < H.length - j; omega
 ·rw [List.take_of_length_le (by omega)]
  repeat' ((with_reducible (first | refine st13 ?_|refine gA ?_ ?_<;>intro _|refine gE ?_ ?_<;>intro _|refine gDn 14 ?_|refine gD 15 [(1, 11), (4, 11), (8, 11), (10, 11)] ?_|refine gD 16 [(16, 18), (16, 20), (16, 22), (16, 25), (16, 27)] ?_)) <;> (try (conv => whnf)))
  refine loop_rule (ι := LO) (fun z => [(1, .pt 1 1 0 [] 0 0), (3, i64 H.length), (4, .h 14 1 0 [] 1 0 H.length), (5, bl z.m), (6, i64 z.x)])
   (fun z => [(1000000, ⟨0, 0, false, tInsSS P⟩), (1000001, ⟨0, 0, false, tStateS S⟩), (1000002, ⟨0, 0, false, tItemSS W⟩), (1000003, ⟨0, 0, false, tEventSS H⟩), (1, ⟨1, 0, false, bSys P S W H⟩), (14, ⟨1, z.g, z.d, tI9 z.f⟩)])
   (fun z => 2 * (allEv H - z.n) + (bif z.m then 1 else 0)) (fun z => Reach H z.f z.n ∧ z.x = (allEv H : Int) - z.n ∧ (z.m = false → Stuck H z.f))
   ⟨List.replicate H.length 0, 0, 0, true, _, _, _⟩ fitOk ⟨.zero, by simp, fun h => by cases h⟩ (by simp [C]; omega) ?_
  clear hj hjl sl ob
  rintro ⟨f0, n0, _, m0, x0, g0, d0⟩ sl ob ⟨hr0, hx0, hs0⟩
  dsimp only at hr0 hx0 hs0
  have hle0 := hr0.le_all
  cases m0 with
  | false =>
   have hrl := row_len hP hr0 (hs0 rfl)
   (try dsimp only [cond_true, cond_false])
   (conv => whnf)
   repeat' ((with_reducible (first | refine st13 ?_|refine gA ?_ ?_<;>intro _|refine gE ?_ ?_<;>intro _|refine gDn 14 ?_|refine gD 15 [(1, 11), (4, 11), (8, 11), (10, 11)] ?_|refine gD 16 [(16, 18), (16, 20), (16, 22), (16, 25), (16, 27)] ?_)) <;> (try (conv => whnf)))
   simp only [inRow, hrl, hx0]
   congr 3
   rw [decide_eq_decide]
   omega
  | true =>
   clear hs0
   (try dsimp only [cond_true, cond_false])
   (conv => whnf)
   repeat' ((with_reducible (first | refine st13 ?_|refine gA ?_ ?_<;>intro _|refine gE ?_ ?_<;>intro _|refine gDn 14 ?_|refine gD 15 [(1, 11), (4, 11), (8, 11), (10, 11)] ?_|refine gD 16 [(16, 18), (16, 20), (16, 22), (16, 25), (16, 27)] ?_)) <;> (try (conv => whnf)))
   refine loop_rule (ι := LO) (fun z => [(1, .pt 1 1 0 [] 0 0), (3, i64 H.length), (4, .h 14 1 0 [] 1 0 H.length), (5, bl z.m), (6, i64 z.x), (8, i64 (z.p : Nat))])
    (fun z => [(1000000, ⟨0, 0, false, tInsSS P⟩), (1000001, ⟨0, 0, false, tStateS S⟩), (1000002, ⟨0, 0, false, tItemSS W⟩), (1000003, ⟨0, 0, false, tEventSS H⟩), (1, ⟨1, 0, false, bSys P S W H⟩), (14, ⟨1, z.g, z.d, tI9 z.f⟩)])
    (fun z => H.length - z.p) (fun z => z.p ≤ H.length ∧ Reach H z.f z.n ∧ z.x = (allEv H : Int) - z.n ∧ n0 ≤ z.n ∧ (z.m = true → n0 < z.n) ∧ (z.m = false → ∀ q, q < z.p → canCome H z.f q = false))
    ⟨f0, n0, 0, false, x0, _, _⟩ fitOk ⟨Nat.zero_le _, hr0, hx0, Nat.le_refl _, (fun h => by cases h), fun _ q h => absurd h (Nat.not_lt_zero q)⟩ (by simp [C]; omega) ?_
   clear hr0 hx0 sl ob
   rintro ⟨f, n, p, m, x, g, d⟩ sl ob ⟨hp, hr, hx, hn0, hmt, hmf⟩
   dsimp only at hp hr hx hn0 hmt hmf
   have hf := hr.fok
   have hfl := hf.len
   have hle := hr.le_all
   (try dsimp only [cond_true, cond_false])
   (conv => whnf)
   by_cases hpl : p < H.length
   ·have hfp := hf.rng p hpl
    have hhp := hh p hpl
    have e4 : (List.map rEvent (rd H p)).length = (rd H p).length := by simp
    by_cases c1 : rd f p = ((rd H p).length : Int)
    ·have hcan : canCome H f p = false := by simp [canCome, c1]
     repeat' ((with_reducible (first | refine st13 ?_|refine gA ?_ ?_<;>intro _|refine gE ?_ ?_<;>intro _|refine gDn 14 ?_|refine gD 15 [(1, 11), (4, 11), (8, 11), (10, 11)] ?_|refine gD 16 [(16, 18), (16, 20), (16, 22), (16, 25), (16, 27)] ?_)) <;> (try (conv => whnf)))
     refine ⟨⟨⟨f, n, p + 1, m, x, _, _⟩, fitOk, ?_, ?_⟩⟩
     ·exact ⟨by show p + 1 ≤ _; omega, hr, hx, hn0, hmt, fun h => no_more (hmf h) hcan⟩
     ·show H.length - (p + 1) < H.length - p; omega
    ·by_cases c2 : (rd (rd H p) (rd f p).toNat).kind = 3
     ·have hq := hP p hpl (rd f p).toNat (by omega) c2
      have hfq := hf.rng (rd (rd H p) (rd f p).toNat).peer.toNat (by omega)
      have hhq := hh (rd (rd H p) (rd f p).toNat).peer.toNat (by omega)
      have e5 : (List.map rEvent (rd H (rd (rd H p) (rd f p).toNat).peer.toNat)).length = (rd H (rd (rd H p) (rd f p).toNat).peer.toNat).length := by simp
      have qa := fun k => s_Count k ((rd H p).take (rd f p).toNat) 3 (rd (rd H p) (rd f p).toNat).peer (by simp; omega)
      have qb := fun k => s_Count k ((rd H (rd (rd H p) (rd f p).toNat).peer.toNat).take (rd f (rd (rd H p) (rd f p).toNat).peer.toNat).toNat) 2 p (by simp; omega)
      by_cases c3 : (cnt ((rd H (rd (rd H p) (rd f p).toNat).peer.toNat).take (rd f (rd (rd H p) (rd f p).toNat).peer.toNat).toNat) 2 p : Int) ≤ (cnt ((rd H p).take (rd f p).toNat) 3 (rd (rd H p) (rd f p).toNat).peer : Int)
      ·have hcan : canCome H f p = false := by simp [canCome, c2]; intro _; omega
       repeat' ((with_reducible (first | refine sCall.of (qa _) ?_|refine sCall.of (qb _) ?_|refine st13 ?_|refine gA ?_ ?_<;>intro _|refine gE ?_ ?_<;>intro _|refine gDn 14 ?_|refine gD 15 [(1, 11), (4, 11), (8, 11), (10, 11)] ?_|refine gD 16 [(16, 18), (16, 20), (16, 22), (16, 25), (16, 27)] ?_)) <;> (try (conv => whnf)))
       refine ⟨⟨⟨f, n, p + 1, m, x, _, _⟩, fitOk, ?_, ?_⟩⟩
       ·exact ⟨by show p + 1 ≤ _; omega, hr, hx, hn0, hmt, fun h => no_more (hmf h) hcan⟩
       ·show H.length - (p + 1) < H.length - p; omega
      ·have hcan : canCome H f p = true := by simp [canCome, c1, c2]; omega
       repeat' ((with_reducible (first | refine sCall.of (qa _) ?_|refine sCall.of (qb _) ?_|refine st13 ?_|refine gA ?_ ?_<;>intro _|refine gE ?_ ?_<;>intro _|refine gDn 14 ?_|refine gD 15 [(1, 11), (4, 11), (8, 11), (10, 11)] ?_|refine gD 16 [(16, 18), (16, 20), (16, 22), (16, 25), (16, 27)] ?_)) <;> (try (conv => whnf)))
       refine ⟨⟨⟨goOn f p, n + 1, p + 1, true, x - 1, _, _⟩, fitOk, ?_, ?_⟩⟩
       ·exact ⟨by show p + 1 ≤ _; omega, hr.step hpl hcan, by show x - 1 = (allEv H : Int) - ((n + 1 : Nat) : Int); omega, by show n0 ≤ n + 1; omega, (fun _ => by show n0 < n + 1; omega), fun h => by cases h⟩
       ·show H.length - (p + 1) < H.length - p; omega
     ·have hcan : canCome H f p = true := by simp [canCome, c1, c2]
      repeat' ((with_reducible (first | refine st13 ?_|refine gA ?_ ?_<;>intro _|refine gE ?_ ?_<;>intro _|refine gDn 14 ?_|refine gD 15 [(1, 11), (4, 11), (8, 11), (10, 11)] ?_|refine gD 16 [(16, 18), (16, 20), (16, 22), (16, 25), (16, 27)] ?_)) <;> (try (conv => whnf)))
      refine ⟨⟨⟨goOn f p, n + 1, p + 1, true, x - 1, _, _⟩, fitOk, ?_, ?_⟩⟩
      ·exact ⟨by show p + 1 ≤ _; omega, hr.step hpl hcan, by show x - 1 = (allEv H : Int) - ((n + 1 : Nat) : Int); omega, by show n0 ≤ n + 1; omega, (fun _ => by show n0 < n + 1; omega), fun h => by cases h⟩
      ·show H.length - (p + 1) < H.length - p; omega
   ·repeat' ((with_reducible (first | refine st13 ?_|refine gA ?_ ?_<;>intro _|refine gE ?_ ?_<;>intro _|refine gDn 14 ?_|refine gD 15 [(1, 11), (4, 11), (8, 11), (10, 11)] ?_|refine gD 16 [(16, 18), (16, 20), (16, 22), (16, 25), (16, 27)] ?_)) <;> (try (conv => whnf)))
    refine ⟨⟨⟨f, n, 0, m, x, _, _⟩, fitOk, ?_, ?_⟩⟩
    ·exact ⟨hr, hx, fun h q hq => hmf h q (by omega)⟩
    ·show 2 * (allEv H - n) + (bif m then 1 else 0) < 2 * (allEv H - n0) + (bif true then 1 else 0)
     cases m with
     | true => have := hmt rfl; simp only [cond_true]; omega
     | false => simp only [cond_true, cond_false]; omega

end Go.Proofs.YtipfcgbhaalcdaaGreat.Abs
namespace Go.Proofs.YtipfcgbhaalcdaaGreat.Abs
open Go Go.Proofs
set_option linter.unusedVariables false
set_option linter.unusedSimpArgs false
attribute [local irreducible] callE
theorem rd_at {α : Type} [Inhabited α] {l : List α} {i : Nat} (h : i < l.length) : rd l i = l[i] := by simp [rd, h]
structure SP where
 j : Nat
 b1 : Nat
 b2 : Nat
theorem s_SysOk (k : Nat) (P : List (List Ins)) (S : List State) (W : List (List Item)) (H : List (List Event)) (hb : SysB 10000000000 P S W H) :
  callE PR C (k + 7) 76 [aSys 0 P S W H] [tInsSS P, tStateS S, tItemSS W, tEventSS H] = some ⟨bl (sysOk P S W H), [], [none, none, none, none]⟩ := by
 have b1 := hb.p
 have b2 := hb.s
 have b3 := hb.w
 have b4 := hb.h
 have q0 := fun k => s_l1In k (P.length : Int) 1 4
 by_cases d1 : 1 ≤ (P.length : Int) ∧ (P.length : Int) ≤ 4
 ·rw [decide_eq_true d1] at q0
  have hnn : P.length * P.length ≤ 4 * 4 := Nat.mul_le_mul (by omega) (by omega)
  have w1 : IntKind.i64.wrap ((P.length : Int) * (P.length : Int)) = ((P.length * P.length : Nat) : Int) := by
   rw [show (P.length : Int) * (P.length : Int) = ((P.length * P.length : Nat) : Int) by simp]; exact wrap_i64 _ (by omega) (by omega)
  by_cases d2 : S.length = P.length
  ·by_cases d3 : H.length = P.length
   ·by_cases d4 : W.length = P.length * P.length
    ·have hI : SysIs P S W H := ⟨by omega, d2, d3, d4⟩
     have eS : sysOk P S W H = (allBelow P.length (procOk' P S H) && ((allBelow P.length fun a => allBelow P.length fun b => pairOk P.length W H a b) && inRow H)) := by
      rw [← sysOk_spec, hI.sizes, Bool.true_and]
     (refine fnI [ResultVar.tmp 2] Tryz.func76 ?_; conv => whnf)
     repeat' ((with_reducible (first | refine sCall.of (q0 _) ?_|refine sW.eq (w1) ?_|refine st13 ?_|refine gA ?_ ?_<;>intro _|refine gE ?_ ?_<;>intro _|refine gD 9 [(1, 14), (4, 14), (6, 14), (9, 14), (10, 14)] ?_|refine gDn 10 ?_|refine gDn 30 ?_)) <;> (try (conv => whnf)))
     refine loop_rule (ι := Nat) (fun j => [(1, .pt 1 1 0 [] 0 0), (3, i64 P.length), (4, i64 (j : Nat))])
      (fun _ => [(1000000, ⟨0, 0, false, tInsSS P⟩), (1000001, ⟨0, 0, false, tStateS S⟩), (1000002, ⟨0, 0, false, tItemSS W⟩), (1000003, ⟨0, 0, false, tEventSS H⟩), (1, ⟨1, 0, false, bSys P S W H⟩)])
      (fun j => P.length - j) (fun j => j ≤ P.length ∧ ∀ q, q < j → procOk' P S H q = true) 0 fitOk ⟨Nat.zero_le _, fun q h => absurd h (Nat.not_lt_zero q)⟩ (by simp [C]; omega) ?_
     rintro p sl ob ⟨hj, hpr⟩
     (try dsimp only [cond_true, cond_false])
     (conv => whnf)
     by_cases hpl : p < P.length
     ·have c1 := hb.pp p hpl
      have c2 := hb.hh p (by omega)
      have c3 := hb.ss p (by omega)
      have q1 := fun k => s_ProgOk k (rd P p) P.length (by omega) (by omega) (by omega)
      have q2 := fun k => s_Replay' k (rd P p) (rd H p) (by omega) (by omega)
      have hst := stOf_len (rd P p) (rd H p)
      cases e1 : progOk (rd P p) P.length with
      | false =>
       simp only [e1] at q1
       rw [eS, allBelow_no (f := procOk' P S H) hpl (by simp [procOk', e1]), Bool.false_and]
       repeat' ((with_reducible (first | refine sCall.of (q1 _) ?_|refine st13 ?_|refine gA ?_ ?_<;>intro _|refine gE ?_ ?_<;>intro _|refine gD 9 [(1, 14), (4, 14), (6, 14), (9, 14), (10, 14)] ?_|refine gDn 10 ?_|refine gDn 30 ?_)) <;> (try (conv => whnf)))
      | true =>
       simp only [e1] at q1
       cases e2 : (replayAll (rd P p) (rd H p)).isSome with
       | false =>
        simp only [e2] at q2
        rw [eS, allBelow_no (f := procOk' P S H) hpl (by simp [procOk', stoodAs, e2]), Bool.false_and]
        repeat' ((with_reducible (first | refine sCall.of (q1 _) ?_|refine sCall.of (q2 _) ?_|refine st13 ?_|refine gA ?_ ?_<;>intro _|refine gE ?_ ?_<;>intro _|refine gD 9 [(1, 14), (4, 14), (6, 14), (9, 14), (10, 14)] ?_|refine gDn 10 ?_|refine gDn 30 ?_)) <;> (try (conv => whnf)))
       | true =>
        simp only [e2] at q2
        generalize hstd : stOf (replayAll (rd P p) (rd H p)) = st at q2 hst
        have q3 := fun k => s_l4SameState k st.at_ st.regs st.out st.code (rd S p).at_ (rd S p).regs (rd S p).out (rd S p).code (by omega) (by omega) (by omega) (by omega)
        rw [show sameS st.at_ st.regs st.out st.code (rd S p).at_ (rd S p).regs (rd S p).out (rd S p).code = decide (st = rd S p) from rfl] at q3
        by_cases e3 : st = rd S p
        ·rw [decide_eq_true e3] at q3
         have hsd : stoodAs (rd P p) (rd H p) (rd S p) = true := by simp [stoodAs, e2, hstd, e3]
         repeat' ((with_reducible (first | refine sCall.of (q1 _) ?_|refine sCall.of (q2 _) ?_|refine sCall.of (q3 _) ?_|refine st13 ?_|refine gA ?_ ?_<;>intro _|refine gE ?_ ?_<;>intro _|refine gD 9 [(1, 14), (4, 14), (6, 14), (9, 14), (10, 14)] ?_|refine gDn 10 ?_|refine gDn 30 ?_)) <;> (try (conv => whnf)))
         refine loop_rule (ι := Nat) (fun j => [(1, .pt 1 1 0 [] 0 0), (3, i64 P.length), (4, i64 (p : Nat)), (7, i64 (j : Nat))])
          (fun _ => [(1000000, ⟨0, 0, false, tInsSS P⟩), (1000001, ⟨0, 0, false, tStateS S⟩), (1000002, ⟨0, 0, false, tItemSS W⟩), (1000003, ⟨0, 0, false, tEventSS H⟩), (1, ⟨1, 0, false, bSys P S W H⟩)])
          (fun j => (rd H p).length - j) (fun j => j ≤ (rd H p).length ∧ ∀ i, i < j → (rd (rd H p) i).peer < (P.length : Int)) 0 fitOk ⟨Nat.zero_le _, fun q h => absurd h (Nat.not_lt_zero q)⟩ (by simp [C]; omega) ?_
         clear sl ob
         rintro i sl ob ⟨hi, hpe⟩
         have e4 : (List.map rEvent (rd H p)).length = (rd H p).length := by simp
         (try dsimp only [cond_true, cond_false])
         (conv => whnf)
         by_cases hil : i < (rd H p).length
         ·by_cases e : (rd (rd H p) i).peer < (P.length : Int)
          ·repeat' ((with_reducible (first | refine st13 ?_|refine gA ?_ ?_<;>intro _|refine gE ?_ ?_<;>intro _|refine gD 9 [(1, 14), (4, 14), (6, 14), (9, 14), (10, 14)] ?_|refine gDn 10 ?_|refine gDn 30 ?_)) <;> (try (conv => whnf)))
           refine ⟨⟨i + 1, fitOk, ?_, ?_⟩⟩
           ·exact ⟨by show i + 1 ≤ _; omega, fun q hq => by rcases Nat.lt_succ_iff_lt_or_eq.1 hq with h | h; exact hpe q h; rw [h]; exact e⟩
           ·show (rd H p).length - (i + 1) < (rd H p).length - i; omega
          ·have ef : ((rd H p).all fun e => decide (e.peer < (P.length : Int))) = false := by
            rw [List.all_eq_false]
            exact ⟨_, rd_mem hil, by simpa using e⟩
           rw [eS, allBelow_no (f := procOk' P S H) hpl (by simp only [procOk', ef, Bool.and_false]), Bool.false_and]
           repeat' ((with_reducible (first | refine st13 ?_|refine gA ?_ ?_<;>intro _|refine gE ?_ ?_<;>intro _|refine gD 9 [(1, 14), (4, 14), (6, 14), (9, 14), (10, 14)] ?_|refine gDn 10 ?_|refine gDn 30 ?_)) <;> (try (conv => whnf)))
         ·have ef : ((rd H p).all fun e => decide (e.peer < (P.length : Int))) = true := by
           rw [List.all_eq_true]
           intro x hx
           obtain ⟨i, hi, rfl⟩ := List.mem_iff_getElem.1 hx
           have h5 := hpe i (by omega)
           rw [rd_at hi] at h5
           exact decide_eq_true h5
          repeat' ((with_reducible (first | refine st13 ?_|refine gA ?_ ?_<;>intro _|refine gE ?_ ?_<;>intro _|refine gD 9 [(1, 14), (4, 14), (6, 14), (9, 14), (10, 14)] ?_|refine gDn 10 ?_|refine gDn 30 ?_)) <;> (try (conv => whnf)))
          refine ⟨⟨p + 1, fitOk, ?_, ?_⟩⟩
          ·exact ⟨by show p + 1 ≤ _; omega, fun q hq => by rcases Nat.lt_succ_iff_lt_or_eq.1 hq with h | h; exact hpr q h; rw [h]; simp only [procOk', e1, hsd, ef, Bool.and_self]⟩
          ·show P.length - (p + 1) < P.length - p; omega
        ·rw [decide_eq_false e3] at q3
         rw [eS, allBelow_no (f := procOk' P S H) hpl (by simp [procOk', stoodAs, hstd, e3]), Bool.false_and]
         repeat' ((with_reducible (first | refine sCall.of (q1 _) ?_|refine sCall.of (q2 _) ?_|refine sCall.of (q3 _) ?_|refine st13 ?_|refine gA ?_ ?_<;>intro _|refine gE ?_ ?_<;>intro _|refine gD 9 [(1, 14), (4, 14), (6, 14), (9, 14), (10, 14)] ?_|refine gDn 10 ?_|refine gDn 30 ?_)) <;> (try (conv => whnf)))
     ·have ePr := allBelow_yes (f := procOk' P S H) (n := P.length) fun q hq => hpr q (by omega)
      have hpr' : ∀ p, p < P.length → procOk P S H p = true := fun q hq => by rw [← proc_same (by omega)]; exact hpr q (by omega)
      obtain ⟨hPI, h200⟩ := peersIn_of hI.n d3 hpr'
      rw [ePr, Bool.true_and] at eS
      repeat' ((with_reducible (first | refine st13 ?_|refine gA ?_ ?_<;>intro _|refine gE ?_ ?_<;>intro _|refine gD 9 [(1, 14), (4, 14), (6, 14), (9, 14), (10, 14)] ?_|refine gDn 10 ?_|refine gDn 30 ?_)) <;> (try (conv => whnf)))
      refine loop_rule (ι := Nat) (fun j => [(1, .pt 1 1 0 [] 0 0), (3, i64 P.length), (8, i64 (j : Nat))])
       (fun _ => [(1000000, ⟨0, 0, false, tInsSS P⟩), (1000001, ⟨0, 0, false, tStateS S⟩), (1000002, ⟨0, 0, false, tItemSS W⟩), (1000003, ⟨0, 0, false, tEventSS H⟩), (1, ⟨1, 0, false, bSys P S W H⟩)])
       (fun j => P.length - j) (fun j => j ≤ P.length ∧ ∀ a, a < j → allBelow P.length (fun b => pairOk P.length W H a b) = true) 0 fitOk ⟨Nat.zero_le _, fun q h => absurd h (Nat.not_lt_zero q)⟩ (by simp [C]; omega) ?_
      clear sl ob hpl hpr hj
      rintro a sl ob ⟨ha, hfa⟩
      (try dsimp only [cond_true, cond_false])
      (conv => whnf)
      by_cases hal : a < P.length
      ·repeat' ((with_reducible (first | refine st13 ?_|refine gA ?_ ?_<;>intro _|refine gE ?_ ?_<;>intro _|refine gD 9 [(1, 14), (4, 14), (6, 14), (9, 14), (10, 14)] ?_|refine gDn 10 ?_|refine gDn 30 ?_)) <;> (try (conv => whnf)))
       refine loop_rule (ι := Nat) (fun j => [(1, .pt 1 1 0 [] 0 0), (3, i64 P.length), (8, i64 (a : Nat)), (9, i64 (j : Nat))])
        (fun _ => [(1000000, ⟨0, 0, false, tInsSS P⟩), (1000001, ⟨0, 0, false, tStateS S⟩), (1000002, ⟨0, 0, false, tItemSS W⟩), (1000003, ⟨0, 0, false, tEventSS H⟩), (1, ⟨1, 0, false, bSys P S W H⟩)])
        (fun j => P.length - j) (fun j => j ≤ P.length ∧ ∀ b, b < j → pairOk P.length W H a b = true) 0 fitOk ⟨Nat.zero_le _, fun q h => absurd h (Nat.not_lt_zero q)⟩ (by simp [C]; omega) ?_
       clear sl ob
       rintro b sl ob ⟨hb', hfb⟩
       (try dsimp only [cond_true, cond_false])
       (conv => whnf)
       by_cases hbl : b < P.length
       ·have hpl := place_lt hal hbl
        rw [← d4] at hpl
        have c1 := h200 a (by omega)
        have c2 := h200 b (by omega)
        have c3 := hb.ww _ hpl
        have hle : a * P.length ≤ 4 * 4 := Nat.mul_le_mul (by omega) (by omega)
        have w2 : IntKind.i64.wrap ((a : Int) * (P.length : Int)) = ((a * P.length : Nat) : Int) := by
         rw [show (a : Int) * (P.length : Int) = ((a * P.length : Nat) : Int) by simp]; exact wrap_i64 _ (by omega) (by omega)
        have w3 : IntKind.i64.wrap (((a * P.length : Nat) : Int) + (b : Int)) = ((a * P.length + b : Nat) : Int) := by rw [wrap_i64 _ (by omega) (by omega)]; simp
        have q1 := fun k => s_Values k (rd H b) 3 a (by omega)
        have q2 := fun k => s_Values k (rd H a) 2 b (by omega)
        have l1 := vals_le (rd H b) 3 a
        have l2 := vals_le (rd H a) 2 b
        have q3 := fun k => s_l4Way k (rd W (a * P.length + b)) (vals (rd H a) 2 b) (vals (rd H b) 3 a).length (by omega) (by omega) (by omega)
        cases e : l4way (rd W (a * P.length + b)) (vals (rd H a) 2 b) (vals (rd H b) 3 a).length with
        | false =>
         simp only [e] at q3
         rw [eS, allBelow_no (f := fun a => allBelow P.length fun b => pairOk P.length W H a b) hal (allBelow_no hbl (by simp only [pairOk, e, Bool.false_and])), Bool.false_and]
         repeat' ((with_reducible (first | refine sCall.of (q1 _) ?_|refine sCall.of (q2 _) ?_|refine sW.eq (w2) ?_|refine sW.eq (w3) ?_|refine sCall.of (q3 _) ?_|refine st13 ?_|refine gA ?_ ?_<;>intro _|refine gE ?_ ?_<;>intro _|refine gD 9 [(1, 14), (4, 14), (6, 14), (9, 14), (10, 14)] ?_|refine gDn 10 ?_|refine gDn 30 ?_)) <;> (try (conv => whnf)))
        | true =>
         simp only [e] at q3
         have hlen : (vals (rd H b) 3 a).length ≤ (vals (rd H a) 2 b).length := by
          simp only [l4way, Bool.and_eq_true, decide_eq_true_eq] at e
          omega
         have epair : pairOk P.length W H a b = decide ((vals (rd H a) 2 b).take (vals (rd H b) 3 a).length = vals (rd H b) 3 a) := by rw [pairOk, e, Bool.true_and]
         repeat' ((with_reducible (first | refine sCall.of (q1 _) ?_|refine sCall.of (q2 _) ?_|refine sW.eq (w2) ?_|refine sW.eq (w3) ?_|refine sCall.of (q3 _) ?_|refine st13 ?_|refine gA ?_ ?_<;>intro _|refine gE ?_ ?_<;>intro _|refine gD 9 [(1, 14), (4, 14), (6, 14), (9, 14), (10, 14)] ?_|refine gDn 10 ?_|refine gDn 30 ?_)) <;> (try (conv => whnf)))
         clear q1 q2 q3 w2 w3 e
         generalize hT : vals (rd H b) 3 a = took at l1 hlen epair ⊢
         generalize hS : vals (rd H a) 2 b = sent at l2 hlen epair ⊢
         refine loop_rule (ι := SP) (fun z => [(1, .pt 1 1 0 [] 0 0), (3, i64 P.length), (8, i64 (a : Nat)), (9, i64 (b : Nat)), (10, .h 10118 z.b1 0 [] 1 0 took.length), (11, .h 10125 z.b2 0 [] 1 0 sent.length), (12, i64 (z.j : Nat))])
          (fun z => [(1000000, ⟨0, 0, false, tInsSS P⟩), (1000001, ⟨0, 0, false, tStateS S⟩), (1000002, ⟨0, 0, false, tItemSS W⟩), (1000003, ⟨0, 0, false, tEventSS H⟩), (1, ⟨1, 0, false, bSys P S W H⟩), (10118, ⟨z.b1, 0, false, tI9 took⟩), (10125, ⟨z.b2, 0, false, tI9 sent⟩)])
          (fun z => took.length - z.j) (fun z => z.j ≤ took.length ∧ ∀ i, i < z.j → rd took i = rd sent i) ⟨0, _, _⟩ fitOk ⟨Nat.zero_le _, fun q h => absurd h (Nat.not_lt_zero q)⟩ (by simp [C]; omega) ?_
         clear sl ob
         rintro ⟨i, bb1, bb2⟩ sl ob ⟨hi, hok⟩
         dsimp only at hi hok
         (try dsimp only [cond_true, cond_false])
         (conv => whnf)
         by_cases hil : i < took.length
         ·by_cases e : rd took i = rd sent i
          ·repeat' ((with_reducible (first | refine st13 ?_|refine gA ?_ ?_<;>intro _|refine gE ?_ ?_<;>intro _|refine gD 9 [(1, 14), (4, 14), (6, 14), (9, 14), (10, 14)] ?_|refine gDn 10 ?_|refine gDn 30 ?_)) <;> (try (conv => whnf)))
           refine ⟨⟨⟨i + 1, _, _⟩, fitOk, ?_, ?_⟩⟩
           ·exact ⟨by show i + 1 ≤ _; omega, fun q hq => by rcases Nat.lt_succ_iff_lt_or_eq.1 hq with h | h; exact hok q h; rw [h]; exact e⟩
           ·show took.length - (i + 1) < took.length - i; omega
          ·rw [eS, allBelow_no (f := fun a => allBelow P.length fun b => pairOk P.length W H a b) hal (allBelow_no hbl (by
            rw [epair, decide_eq_false]
            intro h
            apply e
            conv => lhs; rw [← h]
            simp [rd, hil])), Bool.false_and]
           repeat' ((with_reducible (first | refine st13 ?_|refine gA ?_ ?_<;>intro _|refine gE ?_ ?_<;>intro _|refine gD 9 [(1, 14), (4, 14), (6, 14), (9, 14), (10, 14)] ?_|refine gDn 10 ?_|refine gDn 30 ?_)) <;> (try (conv => whnf)))
         ·repeat' ((with_reducible (first | refine st13 ?_|refine gA ?_ ?_<;>intro _|refine gE ?_ ?_<;>intro _|refine gD 9 [(1, 14), (4, 14), (6, 14), (9, 14), (10, 14)] ?_|refine gDn 10 ?_|refine gDn 30 ?_)) <;> (try (conv => whnf)))
          refine ⟨⟨b + 1, fitOk, ?_, ?_⟩⟩
          ·exact ⟨by show b + 1 ≤ _; omega, fun q hq => by
            rcases Nat.lt_succ_iff_lt_or_eq.1 hq with h | h
            ·exact hfb q h
            ·rw [h, epair, decide_eq_true]
             refine rd_ext (by simp; omega) fun q hq => ?_
             have hq2 : q < took.length := by simp at hq; omega
             rw [hok q (by omega)]
             simp [rd, hq2]⟩
          ·show P.length - (b + 1) < P.length - b; omega
       ·repeat' ((with_reducible (first | refine st13 ?_|refine gA ?_ ?_<;>intro _|refine gE ?_ ?_<;>intro _|refine gD 9 [(1, 14), (4, 14), (6, 14), (9, 14), (10, 14)] ?_|refine gDn 10 ?_|refine gDn 30 ?_)) <;> (try (conv => whnf)))
        refine ⟨⟨a + 1, fitOk, ?_, ?_⟩⟩
        ·exact ⟨by show a + 1 ≤ _; omega, fun q hq => by rcases Nat.lt_succ_iff_lt_or_eq.1 hq with h | h; exact hfa q h; rw [h]; exact allBelow_yes fun b hb => hfb b (by omega)⟩
        ·show P.length - (a + 1) < P.length - a; omega
      ·have eF : (allBelow P.length fun a => allBelow P.length fun b => pairOk P.length W H a b) = true := allBelow_yes fun a h => hfa a (by omega)
       have q3 := fun k => s_l4Order k P S W H (by omega) (fun j hj => by have := h200 j hj; omega) hPI
       rw [eS, eF, Bool.true_and]
       repeat' ((with_reducible (first | refine sCall.of (q3 _) ?_|refine st13 ?_|refine gA ?_ ?_<;>intro _|refine gE ?_ ?_<;>intro _|refine gD 9 [(1, 14), (4, 14), (6, 14), (9, 14), (10, 14)] ?_|refine gDn 10 ?_|refine gDn 30 ?_)) <;> (try (conv => whnf)))
    ·rw [sysOk_sizes (by simp [sizesOk, d4])]
     (refine fnI [ResultVar.tmp 2] Tryz.func76 ?_; conv => whnf)
     repeat' ((with_reducible (first | refine sCall.of (q0 _) ?_|refine sW.eq (w1) ?_|refine st13 ?_|refine gA ?_ ?_<;>intro _|refine gE ?_ ?_<;>intro _|refine gD 9 [(1, 14), (4, 14), (6, 14), (9, 14), (10, 14)] ?_|refine gDn 10 ?_|refine gDn 30 ?_)) <;> (try (conv => whnf)))
     all_goals first
      | rfl
      | (exfalso; omega)
   ·rw [sysOk_sizes (by simp [sizesOk, d3])]
    (refine fnI [ResultVar.tmp 2] Tryz.func76 ?_; conv => whnf)
    repeat' ((with_reducible (first | refine sCall.of (q0 _) ?_|refine sW.eq (w1) ?_|refine st13 ?_|refine gA ?_ ?_<;>intro _|refine gE ?_ ?_<;>intro _|refine gD 9 [(1, 14), (4, 14), (6, 14), (9, 14), (10, 14)] ?_|refine gDn 10 ?_|refine gDn 30 ?_)) <;> (try (conv => whnf)))
    all_goals first
     | rfl
     | (exfalso; omega)
  ·rw [sysOk_sizes (by simp [sizesOk, d2])]
   (refine fnI [ResultVar.tmp 2] Tryz.func76 ?_; conv => whnf)
   repeat' ((with_reducible (first | refine sCall.of (q0 _) ?_|refine sW.eq (w1) ?_|refine st13 ?_|refine gA ?_ ?_<;>intro _|refine gE ?_ ?_<;>intro _|refine gD 9 [(1, 14), (4, 14), (6, 14), (9, 14), (10, 14)] ?_|refine gDn 10 ?_|refine gDn 30 ?_)) <;> (try (conv => whnf)))
   all_goals first
    | rfl
    | (exfalso; omega)
 ·rw [decide_eq_false d1] at q0
  rw [sysOk_sizes (by simp [sizesOk, inB, d1])]
  (refine fnI [ResultVar.tmp 2] Tryz.func76 ?_; conv => whnf)
  repeat' ((with_reducible (first | refine sCall.of (q0 _) ?_|refine st13 ?_|refine gA ?_ ?_<;>intro _|refine gE ?_ ?_<;>intro _|refine gD 9 [(1, 14), (4, 14), (6, 14), (9, 14), (10, 14)] ?_|refine gDn 10 ?_|refine gDn 30 ?_)) <;> (try (conv => whnf)))

end Go.Proofs.YtipfcgbhaalcdaaGreat.Abs
namespace Go.Proofs.YtipfcgbhaalcdaaGreat.Abs
open Go Go.Proofs
set_option linter.unusedVariables false
set_option linter.unusedSimpArgs false
attribute [local irreducible] callE
def nthGo (x y : Int) : List Event → Nat → Int → Int
 | [], _, _ => -1
 | e :: es, i, n => if isEv x y e = true then (if n = 0 then (i : Int) else nthGo x y es (i + 1) (n - 1)) else nthGo x y es (i + 1) n
def nth (es : List Event) (x y n : Int) : Int := nthGo x y es 0 n
theorem cnt_cons (e : Event) (es : List Event) (x y : Int) : cnt (e :: es) x y = (if isEv x y e = true then 1 else 0) + cnt es x y := by
 simp only [cnt, vals, List.filter_cons]
 split <;> simp <;> omega
theorem nthGo_lt (x y : Int) : ∀ (es : List Event) (i c m : Nat), ((i : Int) ≤ nthGo x y es i c ∧ nthGo x y es i c < (i + m : Nat)) ↔ c < cnt (es.take m) x y
 | [], i, c, m => by simp [nthGo, cnt, vals]; omega
 | e :: es, i, c, 0 => by
  simp only [List.take_zero, cnt, vals, List.filter_nil, List.map_nil, List.length_nil]
  constructor
  ·rintro ⟨h1, h2⟩; omega
  ·intro h; omega
 | e :: es, i, c, m + 1 => by
  rw [List.take_succ_cons, cnt_cons]
  unfold nthGo
  by_cases he : isEv x y e = true
  ·rw [if_pos he, if_pos he]
   cases c with
   | zero => simp; omega
   | succ c =>
    have h := nthGo_lt x y es (i + 1) c m
    rw [if_neg (by omega), show (((c + 1 : Nat) : Int) - 1) = (c : Int) by omega]
    have hge : nthGo x y es (i + 1) c = -1 ∨ ((i + 1 : Nat) : Int) ≤ nthGo x y es (i + 1) c := nthGo_ge x y es (i + 1) c
    constructor
    ·rintro ⟨h1, h2⟩
     have := h.1 ⟨by omega, by omega⟩
     omega
    ·intro h1
     have := h.2 (by omega)
     omega
  ·rw [if_neg he, if_neg he]
   have h := nthGo_lt x y es (i + 1) c m
   have hge : nthGo x y es (i + 1) c = -1 ∨ ((i + 1 : Nat) : Int) ≤ nthGo x y es (i + 1) c := nthGo_ge x y es (i + 1) c
   constructor
   ·rintro ⟨h1, h2⟩
    have := h.1 ⟨by omega, by omega⟩
    omega
   ·intro h1
    have := h.2 (by omega)
    omega
where
 nthGo_ge (x y : Int) : ∀ (es : List Event) (i : Nat) (c : Int), nthGo x y es i c = -1 ∨ (i : Int) ≤ nthGo x y es i c
  | [], i, c => .inl rfl
  | e :: es, i, c => by
   unfold nthGo
   split
   ·split
    ·right; omega
    ·rcases nthGo_ge x y es (i + 1) (c - 1) with h | h
     ·exact .inl h
     ·right; omega
   ·rcases nthGo_ge x y es (i + 1) c with h | h
    ·exact .inl h
    ·right; omega
theorem nth_lt (es : List Event) (x y : Int) (c m : Nat) : (0 ≤ nth es x y c ∧ nth es x y c < (m : Int)) ↔ c < cnt (es.take m) x y := by
 have := nthGo_lt x y es 0 c m
 simpa [nth] using this
def senderOf (H : List (List Event)) (p i : Nat) : Int := if (rd (rd H p) i).kind = 3 then nth (rd H (rd (rd H p) i).peer.toNat) 2 p (cnt ((rd H p).take i) 3 (rd (rd H p) i).peer) else -1
def Sends (H : List (List Event)) : Prop := ∀ p q, p < H.length → q < H.length → cnt (rd H p) 3 q ≤ cnt (rd H q) 2 p
structure NT where
 j : Nat
 m : Int
theorem nthGo_drop (x y : Int) (es : List Event) {j : Nat} (hj : j < es.length) (m : Int) : nthGo x y (es.drop j) j m = if isEv x y (rd es j) = true then (if m = 0 then (j : Int) else nthGo x y (es.drop (j + 1)) (j + 1) (m - 1)) else nthGo x y (es.drop (j + 1)) (j + 1) m := by
 rw [drop_rd hj, nthGo]
theorem i_Nth (k : Nat) (es : List Event) (x y n : Int) (he : es.length ≤ 100000000000) (h0 : 0 ≤ n) (h1 : n ≤ 100000000000) : callE PR C (k + 2) 216 [hEvent 0 es, i64 x, i64 y, i64 n] [tEvent es] = some ⟨i64 (nth es x y n), [], [none]⟩ := by
 generalize hR : nth es x y n = R
 (refine fnI [ResultVar.tmp 8] Tryz.func216 ?_; conv => whnf)
 refine loop_rule (ι := NT) (fun z => [(1, i64 x), (2, i64 y), (3, i64 z.m), (11, hEvent 0 es), (12, i64 es.length), (13, i64 (z.j : Nat))])
  (fun z => [(1000000, ⟨0, 0, false, tEvent es⟩)])
  (fun z => es.length - z.j) (fun z => z.j ≤ es.length ∧ 0 ≤ z.m ∧ z.m ≤ 100000000000 ∧ R = nthGo x y (es.drop z.j) z.j z.m) ⟨0, n⟩ fitOk ⟨Nat.zero_le _, h0, h1, by rw [← hR]; rfl⟩ (by simp [C]; omega) ?_
 clear hR h0 h1
 rintro ⟨j, m⟩ sl ob ⟨hj, h0, h1, hR⟩
 dsimp only at hj h0 h1 hR
 (try dsimp only [cond_true, cond_false])
 (conv => whnf)
 by_cases hjl : j < es.length
 ·rw [nthGo_drop x y es hjl] at hR
  have q1 := fun k => i_isOf k (rd es j) x y
  cases e : isEv x y (rd es j) with
  | true =>
   simp only [e] at q1
   rw [e, if_pos rfl] at hR
   by_cases hm : m = 0
   ·rw [if_pos hm] at hR
    subst hR
    repeat' ((with_reducible (first | refine sCall.of (q1 _) ?_|refine st13 ?_|refine gA ?_ ?_<;>intro _|refine gE ?_ ?_<;>intro _)) <;> (try (conv => whnf)))
   ·rw [if_neg hm] at hR
    repeat' ((with_reducible (first | refine sCall.of (q1 _) ?_|refine st13 ?_|refine gA ?_ ?_<;>intro _|refine gE ?_ ?_<;>intro _)) <;> (try (conv => whnf)))
    refine ⟨⟨⟨j + 1, m - 1⟩, fitOk, ?_, ?_⟩⟩
    ·exact ⟨by show j + 1 ≤ _; omega, by show 0 ≤ m - 1; omega, by show m - 1 ≤ _; omega, hR⟩
    ·show es.length - (j + 1) < es.length - j; omega
  | false =>
   simp only [e] at q1
   rw [e, if_neg (by decide)] at hR
   repeat' ((with_reducible (first | refine sCall.of (q1 _) ?_|refine st13 ?_|refine gA ?_ ?_<;>intro _|refine gE ?_ ?_<;>intro _)) <;> (try (conv => whnf)))
   refine ⟨⟨⟨j + 1, m⟩, fitOk, ?_, ?_⟩⟩
   ·exact ⟨by show j + 1 ≤ _; omega, h0, h1, hR⟩
   ·show es.length - (j + 1) < es.length - j; omega
 ·rw [List.drop_eq_nil_of_le (by omega), nthGo] at hR
  subst hR
  repeat' ((with_reducible (first | refine st13 ?_|refine gA ?_ ?_<;>intro _|refine gE ?_ ?_<;>intro _)) <;> (try (conv => whnf)))
theorem cnt_le (es : List Event) (x y : Int) : cnt es x y ≤ es.length := vals_le es x y
theorem sysOk_facts {P : List (List Ins)} {S : List State} {W : List (List Item)} {H : List (List Event)} (h : sysOk P S W H = true) : SysIs P S W H ∧ PeersIn H ∧ Sends H ∧ ∀ p, p < H.length → (rd H p).length ≤ 200 := by
 simp only [sysOk, sizesOk, inB, Bool.and_eq_true, decide_eq_true_eq, allBelow_eq] at h
 obtain ⟨⟨a1, a2, a3, a4⟩, _, b2, b3, _⟩ := h
 have hI : SysIs P S W H := ⟨by omega, a2, a3, a4⟩
 obtain ⟨h1, h2⟩ := peersIn_of hI.n a3 b2
 refine ⟨hI, h1, fun p q hp hq => ?_, h2⟩
 have h3 := b3 q (by omega) p (by omega)
 simp only [fits, decide_eq_true_eq] at h3
 have h4 := congrArg List.length h3
 simp only [List.length_append] at h4
 simp only [cnt]
 omega
abbrev tWho (l : List Who) : Cont := .tree 0 (.sl 2 (l.map rWho))

theorem set_rWho (l : List Who) (n : Nat) (a b : Int) : (l.map rWho).set n [.v (.int .i64 a), .v (.int .i64 b)] = (l.set n ⟨a, b⟩).map rWho := by simp [rWho, List.map_set]
theorem rep_rWho (n : Nat) (a b : Int) : List.replicate n [T.v (.int .i64 a), .v (.int .i64 b)] = (List.replicate n (⟨a, b⟩ : Who)).map rWho := by simp [rWho]
theorem gI14 {p A : Prop} (h : A) (e : p := by first | with_reducible assumption | omega | (simp only [Nat.zero_add, Nat.add_zero, Nat.sub_zero, Int.toNat_natCast, Int.toNat_zero, Int.toNat_one, List.length_map, List.length_nil, Int.reduceToNat, Nat.reduceAdd, Nat.reduceSub, Int.sub_zero, Int.reduceAdd, Int.reduceSub, Nat.sub_self, Int.toNat_natCast_add_one, marks_len, bs_len, List.length_append, List.length_cons, List.length_set, List.length_replicate, List.length_range]; first | done | omega)) : sI p A := sI.mk e h
theorem gNum14 {r r' : Nat} {F : Nat → Prop} (h : F r') (e : r = r' := by first | (simp only [Nat.zero_add, Nat.add_zero, Nat.sub_zero, Int.toNat_natCast, Int.toNat_zero, Int.toNat_one, List.length_map, List.length_nil, Int.reduceToNat, Nat.reduceAdd, Nat.reduceSub, Int.sub_zero, Int.reduceAdd, Int.reduceSub, Nat.sub_self, Int.toNat_natCast_add_one, marks_len, bs_len]; rfl) | rfl) : sN r F := sN.eq e h
theorem gRow14 {r r' : List (List T)} {F : List (List T) → Prop} (h : F r') (e : r = r' := by first | (simp only [Nat.add_zero, Nat.zero_add, Nat.reduceAdd, List.drop_zero, List.take_succ_cons, List.take_nil, List.drop_succ_cons, List.drop_nil, List.take_zero, List.nil_append, List.append_nil, List.map_nil, drop_suf, take_pre, drop_map, List.take_length, take_len_set, take_len_app, List.set_set, List.length_map, set_rWho, rep_rWho, snoc_rWho, set_rState, rep_rState, set_rInsL, rep_rInsL, set_rItemL, rep_rItemL, set_rEventL, rep_rEventL, set_rItem, rep_rItem, rep_rKept, marks_take, set_rKept, set_rIns, rep_rIns, set_rEvent, rep_rEvent, snoc_rKept, snoc_rEvent, snoc_rIns, bytesT_bs, snoc_rI, snoc_rB, snoc_rBool, set_rI, set_rBool, rep_rI, rep_rBool, map_app]; rfl) | rfl) : sR r F := sR.eq e h
theorem st14 {P Q : Prop} (h : Q) (e : Q → P := by with_reducible first | exact fun h => gP h | exact fun h => gN h | exact fun h => fG.not h | exact fun h => gY h | exact fun h => gF h | exact fun h => fG.yes (flat_map (fun _ => rfl) _) h | exact fun h => gS64 h | exact fun h => gU8 h | exact fun h => gI14 h | exact fun h => fE.of rfl h | exact fun h => gNum14 h | exact fun h => gSet h | exact fun h => gRd h | exact fun h => gLk h | exact fun h => gRow14 h | exact fun h => gRf4 h) : P := e h
def rowIs (P : List (List Ins)) (S : List State) (W : List (List Item)) (H : List (List Event)) : List Who := if sysOk P S W H = true then rowOf H else []
end Go.Proofs.YtipfcgbhaalcdaaGreat.Abs
namespace Go.Proofs.YtipfcgbhaalcdaaGreat.Abs
open Go Go.Proofs
set_option linter.unusedVariables false
set_option linter.unusedSimpArgs false
attribute [local irreducible] callE
theorem sW.eq {k : IntKind} {n r : Int} {F : Int → Prop} (e : k.wrap n = r) (h : F r) : sW k n F := ⟨by rw [e]; exact h⟩

theorem cnt_take_le (es : List Event) (x y : Int) (m : Nat) : cnt (es.take m) x y ≤ cnt es x y := by
 have h := cnt_take es x y (a := m) (b := max m es.length) (Nat.le_max_left _ _)
 rwa [List.take_of_length_le (l := es) (Nat.le_max_right _ _)] at h
theorem nth_nonneg (es : List Event) (x y : Int) (c : Nat) : 0 ≤ nth es x y c ↔ c < cnt es x y := by
 constructor
 ·intro h
  have h1 := (nth_lt es x y c ((nth es x y c).toNat + 1)).1 ⟨h, by omega⟩
  have := cnt_take_le es x y ((nth es x y c).toNat + 1)
  omega
 ·intro h
  exact ((nth_lt es x y c es.length).2 (by rw [List.take_length]; exact h)).1
theorem nth_len {es : List Event} {x y : Int} {c : Nat} (h : 0 ≤ nth es x y c) : nth es x y c < (es.length : Int) :=
 ((nth_lt es x y c es.length).2 (by rw [List.take_length]; exact (nth_nonneg es x y c).1 h)).2
def sentC (H : List (List Event)) (c : List Int) (a b : Nat) : Nat := cnt ((rd H a).take (rd c a).toNat) 2 b
def tookC (H : List (List Event)) (c : List Int) (a b : Nat) : Nat := cnt ((rd H b).take (rd c b).toNat) 3 a
def lacks (H : List (List Event)) (c : List Int) (a b : Nat) : Int := nth ((rd H b).take (rd c b).toNat) 3 a (sentC H c a b)
def wholeB (H : List (List Event)) (c : List Int) : Bool := allBelow H.length fun a => allBelow H.length fun b => decide (lacks H c a b < 0)
theorem lacks_iff (H : List (List Event)) (c : List Int) (a b : Nat) : 0 ≤ lacks H c a b ↔ sentC H c a b < tookC H c a b := nth_nonneg _ _ _ _
theorem wholeB_eq {H : List (List Event)} {c : List Int} : wholeB H c = true ↔ ∀ a b, a < H.length → b < H.length → tookC H c a b ≤ sentC H c a b := by
 simp only [wholeB, allBelow_eq, decide_eq_true_eq]
 constructor
 ·intro h a b ha hb
  have h1 := h a ha b hb
  have := lacks_iff H c a b
  omega
 ·intro h a ha b hb
  have h1 := h a b ha hb
  have := lacks_iff H c a b
  omega
theorem rd_set {d : List Int} {b q : Nat} (x : Int) (hb : b < d.length) : rd (d.set b x) q = if q = b then x else rd d q := by
 simp only [rd, List.getD_eq_getElem?_getD, List.getElem?_set]
 by_cases h : b = q
 ·subst h; simp [hb]
 ·rw [if_neg h, if_neg (fun e => h e.symm)]
theorem sum_put : ∀ (f : List Int) (p : Nat) (x : Int), p < f.length → (f.set p x).sum = f.sum - rd f p + x
 | a :: f, 0, x, _ => by simp [rd]; omega
 | a :: f, p + 1, x, h => by
  have := sum_put f p x (by simpa using h)
  simp only [List.set_cons_succ, List.sum_cons]
  rw [show rd (a :: f) (p + 1) = rd f p from rfl, this]
  omega
theorem lacks_lt {H : List (List Event)} {d : List Int} {a b : Nat} (hf : FOk H d) (hb : b < H.length) (hi : 0 ≤ lacks H d a b) : lacks H d a b < rd d b := by
 have h1 := nth_len hi
 have h2 := hf.rng b hb
 simp only [List.length_take] at h1
 unfold lacks
 omega
inductive Closes (H : List (List Event)) (c : List Int) : List Int → Prop where
 | refl : Closes H c c
 | step {d : List Int} {a b : Nat} (h : Closes H c d) (ha : a < H.length) (hb : b < H.length) (hi : 0 ≤ lacks H d a b) : Closes H c (d.set b (lacks H d a b))
theorem Closes.fok {H : List (List Event)} {c d : List Int} (h : Closes H c d) (hc : FOk H c) : FOk H d := by
 induction h with
 | refl => exact hc
 | @step d a b h ha hb hi ih =>
  have h1 := lacks_lt ih hb hi
  refine ⟨by simp [ih.len], fun q hq => ?_⟩
  rw [rd_set _ (by rw [ih.len]; exact hb)]
  have h2 := ih.rng q hq
  split
  ·rename_i e; subst e; omega
  ·exact h2
theorem Closes.under {H : List (List Event)} {c d : List Int} (h : Closes H c d) (hc : FOk H c) : ∀ q, q < H.length → rd d q ≤ rd c q := by
 induction h with
 | refl => intro q _; exact Int.le_refl _
 | @step d a b h ha hb hi ih =>
  intro q hq
  have hf := h.fok hc
  have h1 := lacks_lt hf hb hi
  rw [rd_set _ (by rw [hf.len]; exact hb)]
  have h2 := ih q hq
  split
  ·rename_i e; subst e; omega
  ·exact h2
open Classical in
noncomputable def closeOf (H : List (List Event)) (c : List Int) : List Int := if h : ∃ d, Closes H c d ∧ wholeB H d = true then h.choose else c
def cutH (H : List (List Event)) (c : List Int) : List (List Event) := (List.range H.length).map fun p => (rd H p).take (rd c p).toNat
theorem cutH_len (H : List (List Event)) (c : List Int) : (cutH H c).length = H.length := by simp [cutH]
theorem rd_range {α : Type} [Inhabited α] {n p : Nat} (f : Nat → α) (h : p < n) : rd ((List.range n).map f) p = f p := by simp [rd, h]
theorem rd_cutH {H : List (List Event)} {c : List Int} {p : Nat} (hp : p < H.length) : rd (cutH H c) p = (rd H p).take (rd c p).toNat := rd_range _ hp
theorem rd_take {α : Type} [Inhabited α] {l : List α} {n i : Nat} (h : i < n) : rd (l.take n) i = rd l i := by simp [rd, h, List.getElem?_take]
theorem Reach.cut_le {H : List (List Event)} {c g f : List Int} {n : Nat} (h : Reach H g n) (hP : PeersIn H) (hc : FOk H c) (hw : wholeB H c = true) (hf : FOk (cutH H c) f) (hs : Stuck (cutH H c) f) : ∀ q, q < H.length → rd g q ≤ rd f q ∨ rd c q ≤ rd f q := by
 have hfr : ∀ q, q < H.length → 0 ≤ rd f q ∧ rd f q ≤ rd c q ∧ ((rd (cutH H c) q).length : Int) = rd c q := fun q hq => by
  have h1 := hf.rng q (by rw [cutH_len]; exact hq)
  have h2 := hc.rng q hq
  rw [rd_cutH hq, List.length_take] at h1 ⊢
  omega
 induction h with
 | zero => intro q hq; rw [rd_zero]; exact .inl (hfr q hq).1
 | @step g n p h hp hcn ih =>
  have hg := h.fok
  intro q hq
  rw [rd_goOn (by rw [hg.len]; exact hp)]
  split
  ·rename_i e; subst e
   have hq1 := hfr q hq
   rcases ih q hq with h1 | h1
   ·by_cases h2 : rd c q ≤ rd f q
    ·exact .inr h2
    ·by_cases h3 : rd g q < rd f q
     ·exact .inl (by omega)
     ·exfalso
      have e1 : rd g q = rd f q := by omega
      have hno := hs q (by rw [cutH_len]; exact hq)
      have : canCome (cutH H c) f q = true := by
       unfold canCome at hcn ⊢
       rw [e1] at hcn
       have hct : ((rd H q).take (rd c q).toNat).take (rd f q).toNat = (rd H q).take (rd f q).toNat := by rw [List.take_take, Nat.min_eq_left (by omega)]
       have hlq := hc.rng q hq
       rw [rd_cutH hq] at hq1 ⊢
       rw [rd_take (by omega), hct]
       simp only [Bool.and_eq_true, Bool.not_eq_true', Bool.and_eq_false_iff, decide_eq_true_eq, decide_eq_false_iff_not] at hcn ⊢
       refine ⟨by omega, ?_⟩
       rcases hcn.2 with h4 | h4
       ·exact .inl h4
       ·by_cases hk : (rd (rd H q) (rd f q).toNat).kind = 3
        ·right
         have hpe := hP q hq (rd f q).toNat (by omega) hk
         have hev : isEv 3 (rd (rd H q) (rd f q).toNat).peer (rd (rd H q) (rd f q).toNat) = true := by simp [isEv, hk]
         generalize (rd (rd H q) (rd f q).toNat).peer = z at hpe h4 hev ⊢
         have hz : z.toNat < H.length := by omega
         have hzr := hfr _ hz
         rw [rd_cutH hz]
         rcases ih _ hz with h5 | h5
         ·rw [List.take_take, Nat.min_eq_left (by omega)]
          have := cnt_take (rd H z.toNat) 2 q (a := (rd g z.toNat).toNat) (b := (rd f z.toNat).toNat) (by omega)
          omega
         ·have e2 : ((rd H z.toNat).take (rd c z.toNat).toNat).take (rd f z.toNat).toNat = (rd H z.toNat).take (rd c z.toNat).toNat := List.take_of_length_le (by rw [List.length_take]; omega)
          rw [e2]
          have h6 := wholeB_eq.1 hw z.toNat q hz hq
          have h7 : cnt ((rd H q).take ((rd f q).toNat + 1)) 3 z = cnt ((rd H q).take (rd f q).toNat) 3 z + 1 := by
           simp only [cnt]
           rw [vals_snoc _ _ _ (by omega), if_pos hev]
           simp
          have h8 := cnt_take (rd H q) 3 z (a := (rd f q).toNat + 1) (b := (rd c q).toNat) (by omega)
          simp only [tookC, sentC] at h6
          rw [show ((z.toNat : Nat) : Int) = z by omega] at h6
          omega
        ·exact .inl hk
      rw [this] at hno
      cases hno
   ·exact .inr h1
  ·exact ih q hq
theorem sum_all : ∀ (H : List (List Event)) (f : List Int), f.length = H.length → (∀ q, q < H.length → rd f q = ((rd H q).length : Int)) → f.sum = (allEv H : Int)
 | [], [], _, _ => by simp [allEv]
 | h :: H, a :: f, hl, hr => by
  have h1 := sum_all H f (by simpa using hl) fun q hq => hr (q + 1) (by simp; omega)
  have h0 := hr 0 (by simp)
  have e0 : rd (a :: f) 0 = a := rfl
  have e1 : rd (h :: H) 0 = h := rfl
  rw [e0, e1] at h0
  have es : (allEv (h :: H) : Int) = h.length + allEv H := by simp [allEv]
  rw [es, List.sum_cons]
  omega
theorem cut_inRow {H : List (List Event)} {c : List Int} (hP : PeersIn H) (hc : FOk H c) (hw : wholeB H c = true) (hr : inRow H = true) : inRow (cutH H c) = true := by
 simp only [inRow, decide_eq_true_eq] at hr ⊢
 obtain ⟨g, k, h1, h2, h3⟩ := greedy_reach (H := H) (allEv H) .zero (by omega)
 obtain ⟨f, m, h4, h5, h6⟩ := greedy_reach (H := cutH H c) (allEv (cutH H c)) .zero (by omega)
 have e1 : k = allEv H := by unfold rowOf at hr; omega
 have hg := (sum_le H g h1.fok.len fun q hq => (h1.fok.rng q hq).2).2 (by rw [h1.sum, e1])
 have hle := h1.cut_le hP hc hw h4.fok h5
 have hf := sum_all (cutH H c) f h4.fok.len fun q hq => by
  have h7 := h4.fok.rng q hq
  rw [cutH_len] at hq
  have h8 := hle q hq
  have h9 := hg q hq
  have h10 := hc.rng q hq
  rw [rd_cutH hq, List.length_take] at h7 ⊢
  omega
 rw [h4.sum] at hf
 unfold rowOf
 omega

theorem comes_num {l : List Ins} {s : State} {e : Event} (hs : SOk l.length s) (hi : IOk l.length (rd l s.at_.toNat)) (hc : comes e (next l s) = true) (hk : e.kind = 2) : -1000000000 ≤ e.v ∧ e.v ≤ 1000000000 := by
 by_cases h6 : (rd l s.at_.toNat).op = 6
 ·have hn : next l s = ⟨2, (rd l s.at_.toNat).n, rd s.regs (rd l s.at_.toNat).a.toNat⟩ := by simp [next, h6]
  have ha := hi.a
  have := hs.nums (rd l s.at_.toNat).a.toNat (by omega)
  rw [hn, comes_other (by simp)] at hc
  simp at hc
  rw [hc.2.2]
  exact this
 ·exfalso
  by_cases h7 : (rd l s.at_.toNat).op = 7
  ·have hn : next l s = ⟨3, (rd l s.at_.toNat).n, 0⟩ := by simp [next, h7]
   rw [hn, comes_take] at hc
   omega
  ·by_cases h8 : (rd l s.at_.toNat).op = 8
   ·have hn : next l s = ⟨4, 0, rd s.regs (rd l s.at_.toNat).a.toNat⟩ := by simp [next, h8]
    rw [hn, comes_other (by simp)] at hc
    simp at hc
    omega
   ·have hn : next l s = ⟨1, 0, 0⟩ := by simp [next, h6, h7, h8]
    rw [hn, comes_other (by simp)] at hc
    simp at hc
    omega
theorem replay_num {l : List Ins} (hi : ∀ i, i < l.length → IOk l.length (rd l i)) : ∀ (es : List Event) {s s' : State}, SOk l.length s → replay l s es = some s' → ∀ e ∈ es, e.kind = 2 → -1000000000 ≤ e.v ∧ e.v ≤ 1000000000
 | [], _, _, _, _ => by simp
 | e :: es, s, s', hs, h => by
  rw [replay] at h
  split at h
  ·rename_i hc
   have h0 := hs.at0
   have h1 := hs.at1
   have hx := hi s.at_.toNat (by omega)
   intro x hx'
   rcases List.mem_cons.1 hx' with rfl | hm
   ·exact comes_num hs hx hc.2
   ·exact replay_num hi es (did_ok hs hx hc.2) h x hm
  ·cases h
theorem replayAll_num {l : List Ins} {es : List Event} (h : (replayAll l es).isSome = true) : ∀ e ∈ es, e.kind = 2 → -1000000000 ≤ e.v ∧ e.v ≤ 1000000000 := by
 have h3 := replay_take h es.length
 rw [List.take_length] at h3
 have h4 := replayAll_some h
 exact replay_num (fun i hi => progOk_iok h4.1 hi) es (newState_ok (progOk_len h4.1).1) h3.1
def stsOf (P : List (List Ins)) (H : List (List Event)) : List State := (List.range P.length).map fun p => stOf (replayAll (rd P p) (rd H p))
def leftOf (H : List (List Event)) (a b : Nat) : List Int := (vals (rd H a) 2 b).drop (vals (rd H b) 3 a).length
def wayOf (l : List Int) : List Item := l.map fun v => ⟨false, v⟩
def waysOf (H : List (List Event)) (n : Nat) : List (List Item) := (List.range (n * n)).map fun i => wayOf (leftOf H (i / n) (i % n))
def waysFit (H : List (List Event)) (n : Nat) : Bool := allBelow n fun a => allBelow n fun b => decide ((leftOf H a b).length ≤ 12)
theorem place_div {n a b : Nat} (hb : b < n) : (a * n + b) / n = a ∧ (a * n + b) % n = b := by
 rw [Nat.add_comm, Nat.add_mul_div_right _ _ (by omega), Nat.add_mul_mod_self_right, Nat.div_eq_of_lt hb, Nat.mod_eq_of_lt hb]
 omega
theorem rd_waysOf {H : List (List Event)} {n a b : Nat} (ha : a < n) (hb : b < n) : rd (waysOf H n) (a * n + b) = wayOf (leftOf H a b) := by
 unfold waysOf
 rw [rd_range _ (place_lt ha hb), (place_div (a := a) hb).1, (place_div (a := a) hb).2]
theorem numbers_wayOf (l : List Int) : numbersOf (wayOf l) = l := by
 induction l with
 | nil => rfl
 | cons a l ih =>
  simp only [numbersOf, wayOf, List.map_cons] at ih ⊢
  rw [List.filter_cons]
  simp [ih]
theorem vals_of_take (es : List Event) (x y : Int) (k : Nat) : vals (es.take k) x y = (vals es x y).take (vals (es.take k) x y).length := by
 have e : vals es x y = vals (es.take k) x y ++ vals (es.drop k) x y := by
  conv => lhs; rw [← List.take_append_drop k es]
  simp only [vals, List.filter_append, List.map_append]
 rw [e, List.take_left]
theorem vals_num {es : List Event} {y : Int} (h : ∀ e ∈ es, e.kind = 2 → -1000000000 ≤ e.v ∧ e.v ≤ 1000000000) : ∀ v ∈ vals es 2 y, -1000000000 ≤ v ∧ v ≤ 1000000000 := by
 intro v hv
 simp only [vals, List.mem_map, List.mem_filter, isEv, Bool.and_eq_true, decide_eq_true_eq] at hv
 obtain ⟨e, ⟨h1, h2, _⟩, rfl⟩ := hv
 exact h e h1 h2
theorem wayOk_wayOf {l : List Int} (h : ∀ v ∈ l, -1000000000 ≤ v ∧ v ≤ 1000000000) : wayOk (wayOf l) = decide (l.length ≤ 12) := by
 have : (wayOf l).all itemOk = true := by
  simp only [List.all_eq_true, wayOf, List.mem_map]
  rintro _ ⟨v, hv, rfl⟩
  have := h v hv
  simp [itemOk, numOk, this]
 unfold wayOk
 rw [this, Bool.and_true]
 simp [wayOf]
theorem replayAll_cut {l : List Ins} {es : List Event} (h : (replayAll l es).isSome = true) (k : Nat) : (replayAll l (es.take k)).isSome = true := by
 have h1 := (replay_take h k).1
 obtain ⟨h2, h3⟩ := replayAll_some h
 have e : replayAll l (es.take k) = replay l newState (es.take k) := by unfold replayAll; rw [if_pos ⟨h2, by rw [List.length_take]; omega⟩]
 rw [e, h1]; rfl
theorem left_fits {V X N : List Int} {t s : Nat} (h : X ++ N = V) (ht : t ≤ X.length) (hs : t ≤ s) : X.take t ++ (V.take s).drop t = V.take s := by
 subst h
 have e : X.take t = ((X ++ N).take s).take t := by
  rw [List.take_take, Nat.min_eq_left hs, List.take_append_of_le_length ht]
 rw [e]
 exact List.take_append_drop _ _
theorem cut_fits {P : List (List Ins)} {W : List (List Item)} {H : List (List Event)} {c : List Int} {a b n : Nat} (hn : H.length = n) (ha : a < n) (hb : b < n) (h : fits n W H a b = true) (hw : wholeB H c = true) : fits n (waysOf (cutH H c) n) (cutH H c) a b = true := by
 simp only [fits, decide_eq_true_eq] at h ⊢
 rw [rd_waysOf ha hb, numbers_wayOf, leftOf, rd_cutH (by omega), rd_cutH (by omega)]
 have h1 := wholeB_eq.1 hw a b (by omega) (by omega)
 have e1 := vals_of_take (rd H b) 3 a (rd c b).toNat
 have e2 := vals_of_take (rd H a) 2 b (rd c a).toNat
 simp only [tookC, sentC, cnt] at h1
 have h2 : (vals ((rd H b).take (rd c b).toNat) 3 a).length ≤ (vals (rd H b) 3 a).length := cnt_take_le (rd H b) 3 a _
 generalize (vals ((rd H b).take (rd c b).toNat) 3 a).length = t at *
 generalize (vals ((rd H a).take (rd c a).toNat) 2 b).length = s at *
 rw [e1, e2]
 exact left_fits h h2 h1
theorem cut_sysOk {P : List (List Ins)} {S : List State} {W : List (List Item)} {H : List (List Event)} {c : List Int} (h : sysOk P S W H = true) (hc : FOk H c) (hw : wholeB H c = true) :
  sysOk P (stsOf P (cutH H c)) (waysOf (cutH H c) P.length) (cutH H c) = waysFit (cutH H c) P.length := by
 simp only [sysOk, sizesOk, inB, Bool.and_eq_true, decide_eq_true_eq, allBelow_eq] at h
 obtain ⟨⟨a1, a2, a3, a4⟩, b1, b2, b3, b4⟩ := h
 have hP := (peersIn_of (by omega) a3 b2).1
 have e1 : sizesOk P (stsOf P (cutH H c)) (waysOf (cutH H c) P.length) (cutH H c) = true := by
  simp [sizesOk, inB, stsOf, waysOf, cutH_len, a3]; omega
 have e2 : allBelow P.length (procOk P (stsOf P (cutH H c)) (cutH H c)) = true := by
  rw [allBelow_eq]
  intro p hp
  have h1 := b2 p hp
  simp only [procOk, Bool.and_eq_true] at h1 ⊢
  refine ⟨h1.1, ?_, ?_⟩
  ·have h2 := h1.2.1
   simp only [peersOk, List.all_eq_true] at h2 ⊢
   rw [rd_cutH (by omega)]
   intro e he
   exact h2 e (List.mem_of_mem_take he)
  ·have h2 := h1.2.2
   simp only [stoodAs, Bool.and_eq_true, decide_eq_true_eq] at h2 ⊢
   refine ⟨?_, ?_⟩
   ·rw [rd_cutH (by omega)]; exact replayAll_cut h2.1 _
   ·exact (rd_range (fun p => stOf (replayAll (rd P p) (rd (cutH H c) p))) hp).symm
 have e3 : (allBelow P.length fun a => allBelow P.length fun b => fits P.length (waysOf (cutH H c) P.length) (cutH H c) a b) = true := by
  simp only [allBelow_eq]
  intro a ha b hb
  exact cut_fits (P := P) a3 ha hb (b3 a ha b hb) hw
 have e4 := cut_inRow hP hc hw b4
 unfold sysOk
 rw [e1, e2, e3, e4, Bool.true_and, Bool.true_and, Bool.and_true, Bool.and_true]
 rw [ways_all (n := P.length) (by simp [waysOf])]
 unfold waysFit
 rw [Bool.eq_iff_iff]
 simp only [allBelow_eq]
 have hk : ∀ a, a < P.length → ∀ b, b < P.length → wayOk (rd (waysOf (cutH H c) P.length) (a * P.length + b)) = decide ((leftOf (cutH H c) a b).length ≤ 12) := by
  intro a ha b hb
  rw [rd_waysOf ha hb]
  apply wayOk_wayOf
  intro v hv
  unfold leftOf at hv
  have hv := List.mem_of_mem_drop hv
  rw [rd_cutH (by omega)] at hv
  have h1 := b2 a ha
  simp only [procOk, Bool.and_eq_true, stoodAs] at h1
  exact vals_num (fun e he => replayAll_num h1.2.2.1 e (List.mem_of_mem_take he)) v hv
 constructor
 ·intro h a ha b hb; rw [← hk a ha b hb]; exact h a ha b hb
 ·intro h a ha b hb; rw [hk a ha b hb]; exact h a ha b hb

theorem i_cutOk (k : Nat) (P : List (List Ins)) (S : List State) (W : List (List Item)) (H : List (List Event)) (c : List Int) (hc : FOk H c) (hl : ∀ j : Nat, j < H.length → (rd H j).length ≤ 1000000000) (hn : H.length ≤ 1000) :
  callE PR C (k + 2) 207 [aSys 0 P S W H, .h 1000004 0 0 [] 1 0 c.length] [tInsSS P, tStateS S, tItemSS W, tEventSS H, tI c] = some ⟨bl true, [], [none, none, none, none, none]⟩ := by
 have hcl := hc.len
 (refine fnI [ResultVar.tmp 4] Tryz.func207 ?_; conv => whnf)
 repeat' ((with_reducible (first | refine st14 ?_|refine gA ?_ ?_<;>intro _|refine gE ?_ ?_<;>intro _)) <;> (try (conv => whnf)))
 refine loop_rule (ι := Nat) (fun j => [(2, .pt 2 1 0 [] 0 0), (13, .h 1000004 0 0 [] 1 0 c.length), (14, i64 c.length), (15, i64 (j : Nat))])
  (fun _ => [(1000000, ⟨0, 0, false, tInsSS P⟩), (1000001, ⟨0, 0, false, tStateS S⟩), (1000002, ⟨0, 0, false, tItemSS W⟩), (1000003, ⟨0, 0, false, tEventSS H⟩), (1000004, ⟨0, 0, false, tI c⟩), (2, ⟨1, 0, false, bSys P S W H⟩)])
  (fun j => c.length - j) (fun j => j ≤ c.length) 0 fitOk (Nat.zero_le _) (by simp [C]; omega) ?_
 rintro j sl ob hj
 (try dsimp only [cond_true, cond_false])
 (conv => whnf)
 by_cases hjl : j < c.length
 ·have hr := hc.rng j (by omega)
  have hlj := hl j (by omega)
  have e4 : (List.map rEvent (rd H j)).length = (rd H j).length := by simp
  have q := fun k => i_in k (rd c j) 0 ((List.map rEvent (rd H j)).length : Int)
  rw [decide_eq_true (by omega)] at q
  repeat' ((with_reducible (first | refine sCall.of (q _) ?_|refine st14 ?_|refine gA ?_ ?_<;>intro _|refine gE ?_ ?_<;>intro _)) <;> (try (conv => whnf)))
  refine ⟨⟨j + 1, fitOk, ?_, ?_⟩⟩
  ·show j + 1 ≤ _; omega
  ·show c.length - (j + 1) < c.length - j; omega
 ·repeat' ((with_reducible (first | refine st14 ?_|refine gA ?_ ?_<;>intro _|refine gE ?_ ?_<;>intro _)) <;> (try (conv => whnf)))
theorem i_lacks (k : Nat) (P : List (List Ins)) (S : List State) (W : List (List Item)) (H : List (List Event)) (c : List Int) (a b : Nat) (hc : FOk H c) (ha : a < H.length) (hb : b < H.length) (hl : ∀ j : Nat, j < H.length → (rd H j).length ≤ 1000000000) (hn : H.length ≤ 1000) :
  callE PR C (k + 4) 208 [aSys 0 P S W H, .h 1000004 0 0 [] 1 0 c.length, i64 (a : Nat), i64 (b : Nat)] [tInsSS P, tStateS S, tItemSS W, tEventSS H, tI c] = some ⟨i64 (lacks H c a b), [], [none, none, none, none, none]⟩ := by
 unfold lacks sentC
 have hcl := hc.len
 have ra := hc.rng a ha
 have rb := hc.rng b hb
 have la := hl a ha
 have lb := hl b hb
 have ea : (List.map rEvent (rd H a)).length = (rd H a).length := by simp
 have eb : (List.map rEvent (rd H b)).length = (rd H b).length := by simp
 have hcn := cnt_le ((rd H a).take (rd c a).toNat) 2 b
 rw [List.length_take] at hcn
 have q1 := fun k => i_Count k ((rd H a).take (rd c a).toNat) 2 b (by simp; omega)
 have q2 := fun k => i_Nth k ((rd H b).take (rd c b).toNat) 3 a (cnt ((rd H a).take (rd c a).toNat) 2 b : Nat) (by simp; omega) (by omega) (by omega)
 (refine fnI [ResultVar.tmp 8] Tryz.func208 ?_; conv => whnf)
 repeat' ((with_reducible (first | refine sCall.of (q1 _) ?_|refine sCall.of (q2 _) ?_|refine st14 ?_|refine gA ?_ ?_<;>intro _|refine gE ?_ ?_<;>intro _|refine gDn 1 ?_|refine gDn 2 ?_)) <;> (try (conv => whnf)))
theorem wholeB_no {H : List (List Event)} {c : List Int} {a b : Nat} (ha : a < H.length) (hb : b < H.length) (h : 0 ≤ lacks H c a b) : wholeB H c = false :=
 allBelow_no (f := fun a => allBelow H.length fun b => decide (lacks H c a b < 0)) ha (allBelow_no (f := fun b => decide (lacks H c a b < 0)) hb (decide_eq_false (by omega)))
theorem wholeB_yes {H : List (List Event)} {c : List Int} (h : ∀ a, a < H.length → ∀ b, b < H.length → ¬ 0 ≤ lacks H c a b) : wholeB H c = true :=
 allBelow_yes fun a ha => allBelow_yes fun b hb => decide_eq_true (by have := h a ha b hb; omega)
theorem i_whole (k : Nat) (P : List (List Ins)) (S : List State) (W : List (List Item)) (H : List (List Event)) (c : List Int) (hc : FOk H c) (hl : ∀ j : Nat, j < H.length → (rd H j).length ≤ 1000000000) (hn : H.length ≤ 1000) :
  callE PR C (k + 5) 107 [aSys 0 P S W H, .h 1000004 0 0 [] 1 0 c.length] [tInsSS P, tStateS S, tItemSS W, tEventSS H, tI c] = some ⟨bl (wholeB H c), [], [none, none, none, none, none]⟩ := by
 have hcl := hc.len
 (refine fnI [ResultVar.tmp 4] Tryz.func107 ?_; conv => whnf)
 repeat' ((with_reducible (first | refine st14 ?_|refine gA ?_ ?_<;>intro _|refine gE ?_ ?_<;>intro _)) <;> (try (conv => whnf)))
 refine loop_rule (ι := Nat) (fun a => [(1, .h 1000004 0 0 [] 1 0 c.length), (2, .pt 2 1 0 [] 0 0), (8, i64 c.length), (9, i64 (a : Nat))])
  (fun _ => [(1000000, ⟨0, 0, false, tInsSS P⟩), (1000001, ⟨0, 0, false, tStateS S⟩), (1000002, ⟨0, 0, false, tItemSS W⟩), (1000003, ⟨0, 0, false, tEventSS H⟩), (1000004, ⟨0, 0, false, tI c⟩), (2, ⟨1, 0, false, bSys P S W H⟩)])
  (fun a => c.length - a) (fun a => a ≤ c.length ∧ ∀ x, x < a → ∀ b, b < H.length → ¬ 0 ≤ lacks H c x b) 0 fitOk ⟨Nat.zero_le _, fun x h => absurd h (Nat.not_lt_zero x)⟩ (by simp [C]; omega) ?_
 rintro a sl ob ⟨ha, hall⟩
 (try dsimp only [cond_true, cond_false])
 (conv => whnf)
 by_cases hal : a < c.length
 ·repeat' ((with_reducible (first | refine st14 ?_|refine gA ?_ ?_<;>intro _|refine gE ?_ ?_<;>intro _)) <;> (try (conv => whnf)))
  refine loop_rule (ι := Nat) (fun b => [(1, .h 1000004 0 0 [] 1 0 c.length), (2, .pt 2 1 0 [] 0 0), (5, i64 (a : Nat)), (8, i64 c.length), (9, i64 (a : Nat)), (13, i64 c.length), (14, i64 (b : Nat))])
   (fun _ => [(1000000, ⟨0, 0, false, tInsSS P⟩), (1000001, ⟨0, 0, false, tStateS S⟩), (1000002, ⟨0, 0, false, tItemSS W⟩), (1000003, ⟨0, 0, false, tEventSS H⟩), (1000004, ⟨0, 0, false, tI c⟩), (2, ⟨1, 0, false, bSys P S W H⟩)])
   (fun b => c.length - b) (fun b => b ≤ c.length ∧ ∀ x, x < b → ¬ 0 ≤ lacks H c a x) 0 fitOk ⟨Nat.zero_le _, fun x h => absurd h (Nat.not_lt_zero x)⟩ (by simp [C]; omega) ?_
  clear sl ob
  rintro b sl ob ⟨hb, hbl⟩
  (try dsimp only [cond_true, cond_false])
  (conv => whnf)
  by_cases hbb : b < c.length
  ·have q := fun k => i_lacks k P S W H c a b hc (by omega) (by omega) hl hn
   by_cases hi : 0 ≤ lacks H c a b
   ·rw [wholeB_no (by omega) (by omega) hi]
    repeat' ((with_reducible (first | refine sCall.of (q _) ?_|refine st14 ?_|refine gA ?_ ?_<;>intro _|refine gE ?_ ?_<;>intro _)) <;> (try (conv => whnf)))
   ·repeat' ((with_reducible (first | refine sCall.of (q _) ?_|refine st14 ?_|refine gA ?_ ?_<;>intro _|refine gE ?_ ?_<;>intro _)) <;> (try (conv => whnf)))
    refine ⟨⟨b + 1, fitOk, ?_, ?_⟩⟩
    ·exact ⟨by show b + 1 ≤ _; omega, fun x hx => by rcases Nat.lt_succ_iff_lt_or_eq.1 hx with h | h; exact hbl x h; rw [h]; exact hi⟩
    ·show c.length - (b + 1) < c.length - b; omega
  ·repeat' ((with_reducible (first | refine st14 ?_|refine gA ?_ ?_<;>intro _|refine gE ?_ ?_<;>intro _)) <;> (try (conv => whnf)))
   refine ⟨⟨a + 1, fitOk, ?_, ?_⟩⟩
   ·exact ⟨by show a + 1 ≤ _; omega, fun x hx y hy => by rcases Nat.lt_succ_iff_lt_or_eq.1 hx with h | h; exact hall x h y hy; rw [h]; exact hbl y (by omega)⟩
   ·show c.length - (a + 1) < c.length - a; omega
 ·rw [wholeB_yes fun x hx y hy => hall x (by omega) y hy]
  repeat' ((with_reducible (first | refine st14 ?_|refine gA ?_ ?_<;>intro _|refine gE ?_ ?_<;>intro _)) <;> (try (conv => whnf)))
theorem i_CutOk (k : Nat) (P : List (List Ins)) (S : List State) (W : List (List Item)) (H : List (List Event)) (c : List Int) (hb : SysB 10000000000 P S W H) (e : sysOk P S W H = true) (hc : FOk H c) :
  callE PR C (k + 12) 106 [aSys 0 P S W H, .h 1000004 0 0 [] 1 0 c.length] [tInsSS P, tStateS S, tItemSS W, tEventSS H, tI c] = some ⟨bl true, [], [none, none, none, none, none]⟩ := by
 have q1 := fun k => i_SysOk k P S W H hb
 simp only [e] at q1
 obtain ⟨hI, hP, hS, h200⟩ := sysOk_facts e
 have hN := hI.n
 have hHl := hI.h
 have q2 := fun k => i_cutOk k P S W H c hc (fun j hj => by have := h200 j hj; omega) (by omega)
 (refine fnI [ResultVar.tmp 4] Tryz.func106 ?_; conv => whnf)
 repeat' ((with_reducible (first | refine sCall.of (q1 _) ?_|refine sCall.of (q2 _) ?_|refine st14 ?_|refine gA ?_ ?_<;>intro _|refine gE ?_ ?_<;>intro _)) <;> (try (conv => whnf)))
theorem i_Whole (k : Nat) (P : List (List Ins)) (S : List State) (W : List (List Item)) (H : List (List Event)) (c : List Int) (hb : SysB 10000000000 P S W H) (e : sysOk P S W H = true) (hc : FOk H c) :
  callE PR C (k + 13) 27 [aSys 0 P S W H, .h 1000004 0 0 [] 1 0 c.length] [tInsSS P, tStateS S, tItemSS W, tEventSS H, tI c] = some ⟨bl (wholeB H c), [], [none, none, none, none, none]⟩ := by
 have q1 := fun k => i_CutOk k P S W H c hb e hc
 obtain ⟨hI, hP, hS, h200⟩ := sysOk_facts e
 have hN := hI.n
 have hHl := hI.h
 have q2 := fun k => i_whole k P S W H c hc (fun j hj => by have := h200 j hj; omega) (by omega)
 (refine fnI [ResultVar.tmp 4] Tryz.func27 ?_; conv => whnf)
 repeat' ((with_reducible (first | refine sCall.of (q1 _) ?_|refine sCall.of (q2 _) ?_|refine st14 ?_|refine gA ?_ ?_<;>intro _|refine gE ?_ ?_<;>intro _)) <;> (try (conv => whnf)))
def lensOf (H : List (List Event)) : List Int := H.map fun h => (h.length : Int)
def Prog (H : List (List Event)) (d d' : List Int) (a b : Nat) : Prop := d'.sum < d.sum ∨ (d' = d ∧ (∀ x, x < a → ∀ y, y < H.length → ¬ 0 ≤ lacks H d x y) ∧ ∀ y, y < b → ¬ 0 ≤ lacks H d a y)
theorem Prog.zero (H : List (List Event)) (d : List Int) : Prog H d d 0 0 := .inr ⟨rfl, fun x h => absurd h (Nat.not_lt_zero x), fun x h => absurd h (Nat.not_lt_zero x)⟩
theorem Prog.no {H : List (List Event)} {d d' : List Int} {a b : Nat} (h : Prog H d d' a b) (hi : ¬ 0 ≤ lacks H d' a b) : Prog H d d' a (b + 1) := by
 rcases h with h | ⟨rfl, h1, h2⟩
 ·exact .inl h
 ·refine .inr ⟨rfl, h1, fun y hy => ?_⟩
  rcases Nat.lt_succ_iff_lt_or_eq.1 hy with h | h
  ·exact h2 y h
  ·rw [h]; exact hi
theorem Prog.yes {H : List (List Event)} {d d' : List Int} {a b : Nat} (h : Prog H d d' a b) (hf : FOk H d') (hb : b < H.length) (hi : 0 ≤ lacks H d' a b) : Prog H d (d'.set b (lacks H d' a b)) a (b + 1) := by
 have h1 := lacks_lt hf hb hi
 have h2 := sum_put d' b (lacks H d' a b) (by rw [hf.len]; exact hb)
 left
 rcases h with h | ⟨rfl, _⟩ <;> omega
theorem Prog.row {H : List (List Event)} {d d' : List Int} {a b : Nat} (h : Prog H d d' a b) (hb : H.length ≤ b) : Prog H d d' (a + 1) 0 := by
 rcases h with h | ⟨rfl, h1, h2⟩
 ·exact .inl h
 ·refine .inr ⟨rfl, fun x hx y hy => ?_, fun x h => absurd h (Nat.not_lt_zero x)⟩
  rcases Nat.lt_succ_iff_lt_or_eq.1 hx with h | h
  ·exact h1 x h y hy
  ·rw [h]; exact h2 y (by omega)
theorem Prog.end {H : List (List Event)} {d d' : List Int} {a b : Nat} (h : Prog H d d' a b) (ha : H.length ≤ a) (hw : wholeB H d = false) : d'.sum < d.sum := by
 rcases h with h | ⟨rfl, h1, h2⟩
 ·exact h
 ·rw [wholeB_yes fun x hx y hy => h1 x (by omega) y hy] at hw; cases hw
structure CL where
 n : Nat
 d : List Int
 g : Nat
 dd : Bool
structure CL2 where
 a : Nat
 d : List Int
 g : Nat
 dd : Bool
end Go.Proofs.YtipfcgbhaalcdaaGreat.Abs
namespace Go.Proofs.YtipfcgbhaalcdaaGreat.Abs
open Go Go.Proofs
set_option linter.unusedVariables false
set_option linter.unusedSimpArgs false
attribute [local irreducible] callE
theorem snoc_rInsL (l : List (List Ins)) (x : List Ins) : l.map rInsL ++ [[.sl 5 (x.map rIns)]] = (l ++ [x]).map rInsL := by simp [rInsL]
theorem snoc_rItemL (l : List (List Item)) (x : List Item) : l.map rItemL ++ [[.sl 2 (x.map rItem)]] = (l ++ [x]).map rItemL := by simp [rItemL]
theorem snoc_rEventL (l : List (List Event)) (x : List Event) : l.map rEventL ++ [[.sl 3 (x.map rEvent)]] = (l ++ [x]).map rEventL := by simp [rEventL]
theorem snoc_rState (l : List State) (a c : Int) (r o : List Int) : l.map rState ++ [[.v (.int .i64 a), .sl 1 (r.map rI), .sl 1 (o.map rI), .v (.int .i64 c)]] = (l ++ [(⟨a, r, o, c⟩ : State)]).map rState := by simp [rState]
theorem gI15 {p A : Prop} (h : A) (e : p := by first | with_reducible assumption | omega | (simp only [Nat.zero_add, Nat.add_zero, Nat.sub_zero, Int.toNat_natCast, Int.toNat_zero, Int.toNat_one, List.length_map, List.length_nil, Int.reduceToNat, Nat.reduceAdd, Nat.reduceSub, Int.sub_zero, Int.reduceAdd, Int.reduceSub, Nat.sub_self, Int.toNat_natCast_add_one, marks_len, bs_len, List.length_append, List.length_cons, List.length_set, List.length_replicate, List.length_range]; first | done | omega)) : sI p A := sI.mk e h
theorem gNum15 {r r' : Nat} {F : Nat → Prop} (h : F r') (e : r = r' := by first | (simp only [Nat.zero_add, Nat.add_zero, Nat.sub_zero, Int.toNat_natCast, Int.toNat_zero, Int.toNat_one, List.length_map, List.length_nil, Int.reduceToNat, Nat.reduceAdd, Nat.reduceSub, Int.sub_zero, Int.reduceAdd, Int.reduceSub, Nat.sub_self, Int.toNat_natCast_add_one, marks_len, bs_len]; rfl) | rfl) : sN r F := sN.eq e h
theorem gRow15 {r r' : List (List T)} {F : List (List T) → Prop} (h : F r') (e : r = r' := by first | (simp only [Nat.add_zero, Nat.zero_add, Nat.reduceAdd, List.drop_zero, List.take_succ_cons, List.take_nil, List.drop_succ_cons, List.drop_nil, List.take_zero, List.nil_append, List.append_nil, List.map_nil, drop_suf, take_pre, drop_map, List.take_length, take_len_set, take_len_app, List.set_set, List.length_map, snoc_rInsL, snoc_rItemL, snoc_rEventL, snoc_rState, set_rWho, rep_rWho, snoc_rWho, set_rState, rep_rState, set_rInsL, rep_rInsL, set_rItemL, rep_rItemL, set_rEventL, rep_rEventL, set_rItem, rep_rItem, rep_rKept, marks_take, set_rKept, set_rIns, rep_rIns, set_rEvent, rep_rEvent, snoc_rKept, snoc_rEvent, snoc_rIns, bytesT_bs, snoc_rI, snoc_rB, snoc_rBool, set_rI, set_rBool, rep_rI, rep_rBool, map_app]; rfl) | rfl) : sR r F := sR.eq e h
theorem st15 {P Q : Prop} (h : Q) (e : Q → P := by with_reducible first | exact fun h => gP h | exact fun h => gN h | exact fun h => fG.not h | exact fun h => gY h | exact fun h => gF h | exact fun h => fG.yes (flat_map (fun _ => rfl) _) h | exact fun h => gS64 h | exact fun h => gU8 h | exact fun h => gI15 h | exact fun h => fE.of rfl h | exact fun h => gNum15 h | exact fun h => gSet h | exact fun h => gRd h | exact fun h => gLk h | exact fun h => gRow15 h | exact fun h => gRf4 h) : P := e h
theorem ok_Clone_Ins (k : Nat) (l : List Ins) (hl : l.length ≤ 100000000000) : callE PR C (k + 1) 180 [.h 1000000 0 0 [] 5 0 l.length] [tIns l] = some ⟨.h 2000000 1 0 [] 5 0 l.length, [tIns9 l], [none]⟩ := by
 have := callE_prim (k := k) (f := 180) rfl (cloneP_run (sz := 5) (bytes := 40) (wide_map (f := rIns) (fun _ => rfl) l) (flat_map (fun _ => rfl) l) (full_map (fun _ => rfl) l) (by simp; omega))
 simpa using this
theorem ok_Clone_Item (k : Nat) (l : List Item) (hl : l.length ≤ 100000000000) : callE PR C (k + 1) 147 [.h 1000000 0 0 [] 2 0 l.length] [tItem l] = some ⟨.h 2000000 1 0 [] 2 0 l.length, [tItem9 l], [none]⟩ := by
 have := callE_prim (k := k) (f := 147) rfl (cloneP_run (sz := 2) (bytes := 16) (wide_map (f := rItem) (fun _ => rfl) l) (flat_map (fun _ => rfl) l) (full_map (fun _ => rfl) l) (by simp; omega))
 simpa using this
theorem ok_Clone_Event (k : Nat) (l : List Event) (hl : l.length ≤ 100000000000) : callE PR C (k + 1) 182 [.h 1000000 0 0 [] 3 0 l.length] [tEvent l] = some ⟨.h 2000000 1 0 [] 3 0 l.length, [tEvent9 l], [none]⟩ := by
 have := callE_prim (k := k) (f := 182) rfl (cloneP_run (sz := 3) (bytes := 24) (wide_map (f := rEvent) (fun _ => rfl) l) (flat_map (fun _ => rfl) l) (full_map (fun _ => rfl) l) (by simp; omega))
 simpa using this
structure CS (α : Type) where
 j : Nat
 l : List α
 v : AV
 b : Nat
 g : Nat
 d : Bool
 c : Cont
 dd : Bool
def Grown {α : Type} (o sz : Nat) (t : List α → Cont) (X : List α) (z : CS α) : Prop := z.l = X.take z.j ∧ ((z.j = 0 ∧ z.v = .nl sz ∧ z.b = 0 ∧ z.g = 0 ∧ z.d = false ∧ z.c = .dead) ∨ (0 < z.j ∧ z.v = .h o z.b 0 [] sz 0 z.l.length ∧ z.c = t z.l))
theorem grown_nil {α : Type} {o sz : Nat} {t : List α → Cont} {X : List α} {dd : Bool} : Grown o sz t X ⟨0, [], .nl sz, 0, 0, false, .dead, dd⟩ := ⟨rfl, .inl ⟨rfl, rfl, rfl, rfl, rfl, rfl⟩⟩
theorem grown_one {α : Type} [Inhabited α] {o sz b g : Nat} {d dd : Bool} {t : List α → Cont} {X : List α} (h : 0 < X.length) : Grown o sz t X ⟨0 + 1, [rd X 0], .h o b 0 [] sz 0 1, b, g, d, t [rd X 0], dd⟩ := ⟨by show _ = X.take (0 + 1); rw [take_rd h]; rfl, .inr ⟨Nat.one_pos, rfl, rfl⟩⟩
theorem grown_more {α : Type} [Inhabited α] {o sz b g j : Nat} {l : List α} {d dd : Bool} {t : List α → Cont} {X : List α} (h : j < X.length) (hl : l = X.take j) : Grown o sz t X ⟨j + 1, l ++ [rd X j], .h o b 0 [] sz 0 (l ++ [rd X j]).length, b, g, d, t (l ++ [rd X j]), dd⟩ := ⟨by show _ = X.take (j + 1); rw [take_rd h, hl], .inr ⟨Nat.succ_pos j, rfl, rfl⟩⟩
structure SysN (P : List (List Ins)) (S : List State) (W : List (List Item)) (H : List (List Event)) : Prop where
 p : 0 < P.length
 s : 0 < S.length
 w : 0 < W.length
 h : 0 < H.length
theorem SysIs.some {P : List (List Ins)} {S : List State} {W : List (List Item)} {H : List (List Event)} (h : SysIs P S W H) : SysN P S W H := by
 have h1 := h.n
 have h2 := h.s
 have h3 := h.h
 have h4 := h.w
 exact ⟨by omega, by omega, by rw [h4]; exact Nat.mul_pos (by omega) (by omega), by omega⟩
theorem i_cloneSys (k : Nat) (P : List (List Ins)) (S : List State) (W : List (List Item)) (H : List (List Event)) (hb : SysB 100000000000 P S W H) (hn : SysN P S W H) :
  callE PR C (k + 3) 79 [aSys 0 P S W H] [tInsSS P, tStateS S, tItemSS W, tEventSS H] = some ⟨nSys 0 P S W H, [tInsSS9 P, tStateS9 S, tItemSS9 W, tEventSS9 H], [none, none, none, none]⟩ := by
 have n0 := hn.p
 have n1 := hn.s
 have n2 := hn.w
 have n3 := hn.h
 have m0 := hb.p
 have m1 := hb.s
 have m2 := hb.w
 have m3 := hb.h
 (refine fnI [ResultVar.cell 2 29] Tryz.func79 ?_; conv => whnf)
 repeat' ((with_reducible (first | refine st15 ?_|refine gA ?_ ?_<;>intro _|refine gE ?_ ?_<;>intro _|refine gD 5 [(1, 3), (1, 4)] ?_|refine gD 10 [(1, 3), (1, 4)] ?_|refine gD 15 [(1, 3), (1, 4)] ?_|refine gD 20 [(1, 3), (1, 4)] ?_)) <;> (try (conv => whnf)))
 refine loop_rule (ι := CS (List Ins)) (fun z => [(1, .pt 1 1 0 [] 0 0), (2, .pt 2 1 0 [] 0 0), (3, .pt 3 1 0 [] 0 0), (14, .h 1000000 0 0 [] 1 0 P.length), (15, i64 P.length), (16, i64 (z.j : Nat))])
  (fun z => [(1000000, ⟨0, 0, false, tInsSS P⟩), (1000001, ⟨0, 0, false, tStateS S⟩), (1000002, ⟨0, 0, false, tItemSS W⟩), (1000003, ⟨0, 0, false, tEventSS H⟩), (1, ⟨1, 0, false, .box [.h 1000000 0 0 [] 1 0 P.length, .h 1000001 0 0 [] 4 0 S.length, .h 1000002 0 0 [] 1 0 W.length, .h 1000003 0 0 [] 1 0 H.length]⟩), (2, ⟨1, 0, false, .box [.nl 1, .nl 4, .nl 1, .nl 1]⟩), (3, ⟨1, 0, z.dd, .box [z.v, .nl 4, .nl 1, .nl 1]⟩), (25, ⟨z.b, z.g, z.d, z.c⟩), (40, ⟨0, 0, false, .dead⟩), (55, ⟨0, 0, false, .dead⟩), (70, ⟨0, 0, false, .dead⟩)])
  (fun z => P.length - z.j) (fun z => z.j ≤ P.length ∧ Grown 25 1 tInsSS9 P z) ⟨0, [], .nl 1, 0, 0, false, .dead, _⟩ fitOk ⟨Nat.zero_le _, grown_nil⟩ (by simp [C]; omega) ?_
 rintro ⟨j, l, v, b0, g0, d0, c, dd⟩ sl ob ⟨hj, hl, hg⟩
 dsimp only at hj hl hg
 by_cases hjl : j < P.length
 ·have hx := hb.pp j hjl
  have q := fun k => ok_Clone_Ins k (rd P j) (by omega)
  rcases hg with ⟨e1, e2, e3, e4, e5, e6⟩ | ⟨h0, e2, e3⟩
  all_goals dsimp only at *
  ·subst e1 e2 e3 e4 e5 e6 hl
   (try dsimp only [cond_true, cond_false])
   (conv => whnf)
   repeat' ((with_reducible (first | refine sCall.of (q _) ?_|refine st15 ?_|refine gA ?_ ?_<;>intro _|refine gE ?_ ?_<;>intro _|refine gD 5 [(1, 3), (1, 4)] ?_|refine gD 10 [(1, 3), (1, 4)] ?_|refine gD 15 [(1, 3), (1, 4)] ?_|refine gD 20 [(1, 3), (1, 4)] ?_)) <;> (try (conv => whnf)))
   refine ⟨⟨⟨0 + 1, [rd P 0], _, _, _, _, _, _⟩, fitOk, ?_, ?_⟩⟩
   ·exact ⟨by show 0 + 1 ≤ _; omega, grown_one hjl⟩
   ·show P.length - (0 + 1) < P.length - 0; omega
  ·subst e2 e3
   have hle : l.length = j := by rw [hl]; simp; omega
   (try dsimp only [cond_true, cond_false])
   (conv => whnf)
   repeat' ((with_reducible (first | refine sCall.of (q _) ?_|refine st15 ?_|refine gA ?_ ?_<;>intro _|refine gE ?_ ?_<;>intro _|refine gD 5 [(1, 3), (1, 4)] ?_|refine gD 10 [(1, 3), (1, 4)] ?_|refine gD 15 [(1, 3), (1, 4)] ?_|refine gD 20 [(1, 3), (1, 4)] ?_)) <;> (try (conv => whnf)))
   refine ⟨⟨⟨j + 1, l ++ [rd P j], _, _, _, _, _, _⟩, fitOk, ?_, ?_⟩⟩
   ·exact ⟨by show j + 1 ≤ _; omega, grown_more hjl hl⟩
   ·show P.length - (j + 1) < P.length - j; omega
 rcases hg with ⟨e1, e2, e3, e4, e5, e6⟩ | ⟨h0, e2, e3⟩
 all_goals dsimp only at *
 ·exfalso; omega
 rw [List.take_of_length_le (by omega)] at hl
 rw [hl] at e2 e3
 subst e2 e3
 (try dsimp only [cond_true, cond_false])
 (conv => whnf)
 repeat' ((with_reducible (first | refine st15 ?_|refine gA ?_ ?_<;>intro _|refine gE ?_ ?_<;>intro _|refine gD 5 [(1, 3), (1, 4)] ?_|refine gD 10 [(1, 3), (1, 4)] ?_|refine gD 15 [(1, 3), (1, 4)] ?_|refine gD 20 [(1, 3), (1, 4)] ?_)) <;> (try (conv => whnf)))
 refine loop_rule (ι := CS State) (fun z => [(1, .pt 1 1 0 [] 0 0), (2, .pt 2 1 0 [] 0 0), (3, .pt 3 1 0 [] 0 0), (29, .h 1000001 0 0 [] 4 0 S.length), (30, i64 S.length), (31, i64 (z.j : Nat))])
  (fun z => [(1000000, ⟨0, 0, false, tInsSS P⟩), (1000001, ⟨0, 0, false, tStateS S⟩), (1000002, ⟨0, 0, false, tItemSS W⟩), (1000003, ⟨0, 0, false, tEventSS H⟩), (1, ⟨1, 0, false, .box [.h 1000000 0 0 [] 1 0 P.length, .h 1000001 0 0 [] 4 0 S.length, .h 1000002 0 0 [] 1 0 W.length, .h 1000003 0 0 [] 1 0 H.length]⟩), (2, ⟨1, 0, false, .box [.nl 1, .nl 4, .nl 1, .nl 1]⟩), (3, ⟨1, 0, z.dd, .box [.h 25 b0 0 [] 1 0 P.length, z.v, .nl 1, .nl 1]⟩), (25, ⟨b0, g0, d0, tInsSS9 P⟩), (40, ⟨z.b, z.g, z.d, z.c⟩), (55, ⟨0, 0, false, .dead⟩), (70, ⟨0, 0, false, .dead⟩)])
  (fun z => S.length - z.j) (fun z => z.j ≤ S.length ∧ Grown 40 4 tStateS9 S z) ⟨0, [], .nl 4, 0, 0, false, .dead, _⟩ fitOk ⟨Nat.zero_le _, grown_nil⟩ (by simp [C]; omega) ?_
 clear sl ob
 rintro ⟨j, l, v, b1, g1, d1, c, dd⟩ sl ob ⟨hj, hl, hg⟩
 dsimp only at hj hl hg
 by_cases hjl : j < S.length
 ·have hx := hb.ss j hjl
  have q := fun k => i_cloneState k (rd S j).at_ (rd S j).regs (rd S j).out (rd S j).code hx.1 hx.2
  rcases hg with ⟨e1, e2, e3, e4, e5, e6⟩ | ⟨h0, e2, e3⟩
  all_goals dsimp only at *
  ·subst e1 e2 e3 e4 e5 e6 hl
   (try dsimp only [cond_true, cond_false])
   (conv => whnf)
   repeat' ((with_reducible (first | refine sCall.of (q _) ?_|refine st15 ?_|refine gA ?_ ?_<;>intro _|refine gE ?_ ?_<;>intro _|refine gD 5 [(1, 3), (1, 4)] ?_|refine gD 10 [(1, 3), (1, 4)] ?_|refine gD 15 [(1, 3), (1, 4)] ?_|refine gD 20 [(1, 3), (1, 4)] ?_)) <;> (try (conv => whnf)))
   refine ⟨⟨⟨0 + 1, [rd S 0], _, _, _, _, _, _⟩, fitOk, ?_, ?_⟩⟩
   ·exact ⟨by show 0 + 1 ≤ _; omega, grown_one hjl⟩
   ·show S.length - (0 + 1) < S.length - 0; omega
  ·subst e2 e3
   have hle : l.length = j := by rw [hl]; simp; omega
   (try dsimp only [cond_true, cond_false])
   (conv => whnf)
   repeat' ((with_reducible (first | refine sCall.of (q _) ?_|refine st15 ?_|refine gA ?_ ?_<;>intro _|refine gE ?_ ?_<;>intro _|refine gD 5 [(1, 3), (1, 4)] ?_|refine gD 10 [(1, 3), (1, 4)] ?_|refine gD 15 [(1, 3), (1, 4)] ?_|refine gD 20 [(1, 3), (1, 4)] ?_)) <;> (try (conv => whnf)))
   refine ⟨⟨⟨j + 1, l ++ [rd S j], _, _, _, _, _, _⟩, fitOk, ?_, ?_⟩⟩
   ·exact ⟨by show j + 1 ≤ _; omega, grown_more hjl hl⟩
   ·show S.length - (j + 1) < S.length - j; omega
 rcases hg with ⟨e1, e2, e3, e4, e5, e6⟩ | ⟨h0, e2, e3⟩
 all_goals dsimp only at *
 ·exfalso; omega
 rw [List.take_of_length_le (by omega)] at hl
 rw [hl] at e2 e3
 subst e2 e3
 (try dsimp only [cond_true, cond_false])
 (conv => whnf)
 repeat' ((with_reducible (first | refine st15 ?_|refine gA ?_ ?_<;>intro _|refine gE ?_ ?_<;>intro _|refine gD 5 [(1, 3), (1, 4)] ?_|refine gD 10 [(1, 3), (1, 4)] ?_|refine gD 15 [(1, 3), (1, 4)] ?_|refine gD 20 [(1, 3), (1, 4)] ?_)) <;> (try (conv => whnf)))
 refine loop_rule (ι := CS (List Item)) (fun z => [(1, .pt 1 1 0 [] 0 0), (2, .pt 2 1 0 [] 0 0), (3, .pt 3 1 0 [] 0 0), (44, .h 1000002 0 0 [] 1 0 W.length), (45, i64 W.length), (46, i64 (z.j : Nat))])
  (fun z => [(1000000, ⟨0, 0, false, tInsSS P⟩), (1000001, ⟨0, 0, false, tStateS S⟩), (1000002, ⟨0, 0, false, tItemSS W⟩), (1000003, ⟨0, 0, false, tEventSS H⟩), (1, ⟨1, 0, false, .box [.h 1000000 0 0 [] 1 0 P.length, .h 1000001 0 0 [] 4 0 S.length, .h 1000002 0 0 [] 1 0 W.length, .h 1000003 0 0 [] 1 0 H.length]⟩), (2, ⟨1, 0, false, .box [.nl 1, .nl 4, .nl 1, .nl 1]⟩), (3, ⟨1, 0, z.dd, .box [.h 25 b0 0 [] 1 0 P.length, .h 40 b1 0 [] 4 0 S.length, z.v, .nl 1]⟩), (25, ⟨b0, g0, d0, tInsSS9 P⟩), (40, ⟨b1, g1, d1, tStateS9 S⟩), (55, ⟨z.b, z.g, z.d, z.c⟩), (70, ⟨0, 0, false, .dead⟩)])
  (fun z => W.length - z.j) (fun z => z.j ≤ W.length ∧ Grown 55 1 tItemSS9 W z) ⟨0, [], .nl 1, 0, 0, false, .dead, _⟩ fitOk ⟨Nat.zero_le _, grown_nil⟩ (by simp [C]; omega) ?_
 clear sl ob
 rintro ⟨j, l, v, b2, g2, d2, c, dd⟩ sl ob ⟨hj, hl, hg⟩
 dsimp only at hj hl hg
 by_cases hjl : j < W.length
 ·have hx := hb.ww j hjl
  have q := fun k => ok_Clone_Item k (rd W j) (by omega)
  rcases hg with ⟨e1, e2, e3, e4, e5, e6⟩ | ⟨h0, e2, e3⟩
  all_goals dsimp only at *
  ·subst e1 e2 e3 e4 e5 e6 hl
   (try dsimp only [cond_true, cond_false])
   (conv => whnf)
   repeat' ((with_reducible (first | refine sCall.of (q _) ?_|refine st15 ?_|refine gA ?_ ?_<;>intro _|refine gE ?_ ?_<;>intro _|refine gD 5 [(1, 3), (1, 4)] ?_|refine gD 10 [(1, 3), (1, 4)] ?_|refine gD 15 [(1, 3), (1, 4)] ?_|refine gD 20 [(1, 3), (1, 4)] ?_)) <;> (try (conv => whnf)))
   refine ⟨⟨⟨0 + 1, [rd W 0], _, _, _, _, _, _⟩, fitOk, ?_, ?_⟩⟩
   ·exact ⟨by show 0 + 1 ≤ _; omega, grown_one hjl⟩
   ·show W.length - (0 + 1) < W.length - 0; omega
  ·subst e2 e3
   have hle : l.length = j := by rw [hl]; simp; omega
   (try dsimp only [cond_true, cond_false])
   (conv => whnf)
   repeat' ((with_reducible (first | refine sCall.of (q _) ?_|refine st15 ?_|refine gA ?_ ?_<;>intro _|refine gE ?_ ?_<;>intro _|refine gD 5 [(1, 3), (1, 4)] ?_|refine gD 10 [(1, 3), (1, 4)] ?_|refine gD 15 [(1, 3), (1, 4)] ?_|refine gD 20 [(1, 3), (1, 4)] ?_)) <;> (try (conv => whnf)))
   refine ⟨⟨⟨j + 1, l ++ [rd W j], _, _, _, _, _, _⟩, fitOk, ?_, ?_⟩⟩
   ·exact ⟨by show j + 1 ≤ _; omega, grown_more hjl hl⟩
   ·show W.length - (j + 1) < W.length - j; omega
 rcases hg with ⟨e1, e2, e3, e4, e5, e6⟩ | ⟨h0, e2, e3⟩
 all_goals dsimp only at *
 ·exfalso; omega
 rw [List.take_of_length_le (by omega)] at hl
 rw [hl] at e2 e3
 subst e2 e3
 (try dsimp only [cond_true, cond_false])
 (conv => whnf)
 repeat' ((with_reducible (first | refine st15 ?_|refine gA ?_ ?_<;>intro _|refine gE ?_ ?_<;>intro _|refine gD 5 [(1, 3), (1, 4)] ?_|refine gD 10 [(1, 3), (1, 4)] ?_|refine gD 15 [(1, 3), (1, 4)] ?_|refine gD 20 [(1, 3), (1, 4)] ?_)) <;> (try (conv => whnf)))
 refine loop_rule (ι := CS (List Event)) (fun z => [(2, .pt 2 1 0 [] 0 0), (3, .pt 3 1 0 [] 0 0), (59, .h 1000003 0 0 [] 1 0 H.length), (60, i64 H.length), (61, i64 (z.j : Nat))])
  (fun z => [(1000000, ⟨0, 0, false, tInsSS P⟩), (1000001, ⟨0, 0, false, tStateS S⟩), (1000002, ⟨0, 0, false, tItemSS W⟩), (1000003, ⟨0, 0, false, tEventSS H⟩), (2, ⟨1, 0, false, .box [.nl 1, .nl 4, .nl 1, .nl 1]⟩), (3, ⟨1, 0, z.dd, .box [.h 25 b0 0 [] 1 0 P.length, .h 40 b1 0 [] 4 0 S.length, .h 55 b2 0 [] 1 0 W.length, z.v]⟩), (25, ⟨b0, g0, d0, tInsSS9 P⟩), (40, ⟨b1, g1, d1, tStateS9 S⟩), (55, ⟨b2, g2, d2, tItemSS9 W⟩), (70, ⟨z.b, z.g, z.d, z.c⟩)])
  (fun z => H.length - z.j) (fun z => z.j ≤ H.length ∧ Grown 70 1 tEventSS9 H z) ⟨0, [], .nl 1, 0, 0, false, .dead, _⟩ fitOk ⟨Nat.zero_le _, grown_nil⟩ (by simp [C]; omega) ?_
 clear sl ob
 rintro ⟨j, l, v, b3, g3, d3, c, dd⟩ sl ob ⟨hj, hl, hg⟩
 dsimp only at hj hl hg
 by_cases hjl : j < H.length
 ·have hx := hb.hh j hjl
  have q := fun k => ok_Clone_Event k (rd H j) (by omega)
  rcases hg with ⟨e1, e2, e3, e4, e5, e6⟩ | ⟨h0, e2, e3⟩
  all_goals dsimp only at *
  ·subst e1 e2 e3 e4 e5 e6 hl
   (try dsimp only [cond_true, cond_false])
   (conv => whnf)
   repeat' ((with_reducible (first | refine sCall.of (q _) ?_|refine st15 ?_|refine gA ?_ ?_<;>intro _|refine gE ?_ ?_<;>intro _|refine gD 5 [(1, 3), (1, 4)] ?_|refine gD 10 [(1, 3), (1, 4)] ?_|refine gD 15 [(1, 3), (1, 4)] ?_|refine gD 20 [(1, 3), (1, 4)] ?_)) <;> (try (conv => whnf)))
   refine ⟨⟨⟨0 + 1, [rd H 0], _, _, _, _, _, _⟩, fitOk, ?_, ?_⟩⟩
   ·exact ⟨by show 0 + 1 ≤ _; omega, grown_one hjl⟩
   ·show H.length - (0 + 1) < H.length - 0; omega
  ·subst e2 e3
   have hle : l.length = j := by rw [hl]; simp; omega
   (try dsimp only [cond_true, cond_false])
   (conv => whnf)
   repeat' ((with_reducible (first | refine sCall.of (q _) ?_|refine st15 ?_|refine gA ?_ ?_<;>intro _|refine gE ?_ ?_<;>intro _|refine gD 5 [(1, 3), (1, 4)] ?_|refine gD 10 [(1, 3), (1, 4)] ?_|refine gD 15 [(1, 3), (1, 4)] ?_|refine gD 20 [(1, 3), (1, 4)] ?_)) <;> (try (conv => whnf)))
   refine ⟨⟨⟨j + 1, l ++ [rd H j], _, _, _, _, _, _⟩, fitOk, ?_, ?_⟩⟩
   ·exact ⟨by show j + 1 ≤ _; omega, grown_more hjl hl⟩
   ·show H.length - (j + 1) < H.length - j; omega
 rcases hg with ⟨e1, e2, e3, e4, e5, e6⟩ | ⟨h0, e2, e3⟩
 all_goals dsimp only at *
 ·exfalso; omega
 rw [List.take_of_length_le (by omega)] at hl
 rw [hl] at e2 e3
 subst e2 e3
 (try dsimp only [cond_true, cond_false])
 (conv => whnf)
 repeat' ((with_reducible (first | refine st15 ?_|refine gA ?_ ?_<;>intro _|refine gE ?_ ?_<;>intro _|refine gD 5 [(1, 3), (1, 4)] ?_|refine gD 10 [(1, 3), (1, 4)] ?_|refine gD 15 [(1, 3), (1, 4)] ?_|refine gD 20 [(1, 3), (1, 4)] ?_)) <;> (try (conv => whnf)))
structure CL4Ins where
 j : Nat
 l : List (List Ins)
 o : Nat
 b : Nat
theorem s_l4Ins (k : Nat) (l : List (List Ins)) (hl : l.length ≤ 100000000000) (hx : ∀ j : Nat, j < l.length → (rd l j).length ≤ 100000000000) :
  callE PR C (k + 1) 185 [.h 1000000 0 0 [] 1 0 l.length] [tInsSS l] = some ⟨.h 2000000 1 0 [] 1 0 l.length, [tInsSS9 l], [none]⟩ := by
 (refine fnI [ResultVar.tmp 2] Tryz.func185 ?_; conv => whnf)
 repeat' ((with_reducible (first | refine st15 ?_|refine gA ?_ ?_<;>intro _|refine gE ?_ ?_<;>intro _)) <;> (try (conv => whnf)))
 refine loop_rule (ι := CL4Ins) (fun z => [(0, .h 1000000 0 0 [] 1 0 l.length), (3, .h z.o z.b 0 [] 1 0 z.l.length), (4, i64 (z.j : Nat))])
  (fun z => [(1000000, ⟨0, 0, false, tInsSS l⟩), (z.o, ⟨z.b, 0, false, tInsSS9 z.l⟩)])
  (fun z => l.length - z.j) (fun z => z.j ≤ l.length ∧ z.l = l.take z.j ∧ (z.o = 5 ∨ z.o = 20)) ⟨0, [], 5, _⟩ fitOk ⟨Nat.zero_le _, rfl, .inl rfl⟩ (by simp [C]; omega) ?_
 rintro ⟨j, out, o, b⟩ sl ob ⟨hj, hout, ho⟩
 dsimp only at hj hout ho
 have hle : out.length ≤ l.length := by rw [hout]; simp; omega
 by_cases hjl : j < l.length
 ·have hxj := hx j hjl
  rcases ho with rfl | rfl
  all_goals (try dsimp only [cond_true, cond_false])
  all_goals (conv => whnf)
  all_goals repeat' ((with_reducible (first | refine st15 ?_|refine gA ?_ ?_<;>intro _|refine gE ?_ ?_<;>intro _)) <;> (try (conv => whnf)))
  all_goals
   refine ⟨⟨⟨j + 1, out ++ [rd l j], 20, _⟩, fitOk, ?_, ?_⟩⟩
   ·exact ⟨by show j + 1 ≤ _; omega, by show out ++ [rd l j] = _; rw [take_rd hjl, hout], .inr rfl⟩
   ·show l.length - (j + 1) < l.length - j; omega
 ·rw [List.take_of_length_le (by omega)] at hout
  subst hout
  rcases ho with rfl | rfl
  all_goals (try dsimp only [cond_true, cond_false])
  all_goals (conv => whnf)
  all_goals repeat' ((with_reducible (first | refine st15 ?_|refine gA ?_ ?_<;>intro _|refine gE ?_ ?_<;>intro _)) <;> (try (conv => whnf)))
  all_goals rfl
structure CL4Event where
 j : Nat
 l : List (List Event)
 o : Nat
 b : Nat
theorem s_l4Events (k : Nat) (l : List (List Event)) (hl : l.length ≤ 100000000000) (hx : ∀ j : Nat, j < l.length → (rd l j).length ≤ 100000000000) :
  callE PR C (k + 1) 186 [.h 1000000 0 0 [] 1 0 l.length] [tEventSS l] = some ⟨.h 2000000 1 0 [] 1 0 l.length, [tEventSS9 l], [none]⟩ := by
 (refine fnI [ResultVar.tmp 2] Tryz.func186 ?_; conv => whnf)
 repeat' ((with_reducible (first | refine st15 ?_|refine gA ?_ ?_<;>intro _|refine gE ?_ ?_<;>intro _)) <;> (try (conv => whnf)))
 refine loop_rule (ι := CL4Event) (fun z => [(0, .h 1000000 0 0 [] 1 0 l.length), (3, .h z.o z.b 0 [] 1 0 z.l.length), (4, i64 (z.j : Nat))])
  (fun z => [(1000000, ⟨0, 0, false, tEventSS l⟩), (z.o, ⟨z.b, 0, false, tEventSS9 z.l⟩)])
  (fun z => l.length - z.j) (fun z => z.j ≤ l.length ∧ z.l = l.take z.j ∧ (z.o = 5 ∨ z.o = 20)) ⟨0, [], 5, _⟩ fitOk ⟨Nat.zero_le _, rfl, .inl rfl⟩ (by simp [C]; omega) ?_
 rintro ⟨j, out, o, b⟩ sl ob ⟨hj, hout, ho⟩
 dsimp only at hj hout ho
 have hle : out.length ≤ l.length := by rw [hout]; simp; omega
 by_cases hjl : j < l.length
 ·have hxj := hx j hjl
  rcases ho with rfl | rfl
  all_goals (try dsimp only [cond_true, cond_false])
  all_goals (conv => whnf)
  all_goals repeat' ((with_reducible (first | refine st15 ?_|refine gA ?_ ?_<;>intro _|refine gE ?_ ?_<;>intro _)) <;> (try (conv => whnf)))
  all_goals
   refine ⟨⟨⟨j + 1, out ++ [rd l j], 20, _⟩, fitOk, ?_, ?_⟩⟩
   ·exact ⟨by show j + 1 ≤ _; omega, by show out ++ [rd l j] = _; rw [take_rd hjl, hout], .inr rfl⟩
   ·show l.length - (j + 1) < l.length - j; omega
 ·rw [List.take_of_length_le (by omega)] at hout
  subst hout
  rcases ho with rfl | rfl
  all_goals (try dsimp only [cond_true, cond_false])
  all_goals (conv => whnf)
  all_goals repeat' ((with_reducible (first | refine st15 ?_|refine gA ?_ ?_<;>intro _|refine gE ?_ ?_<;>intro _)) <;> (try (conv => whnf)))
  all_goals rfl
theorem s_l4Copy (k : Nat) (P : List (List Ins)) (S : List State) (W : List (List Item)) (H : List (List Event)) (hb : SysB 100000000000 P S W H) (hn : SysN P S W H) :
  callE PR C (k + 2) 83 [aSys 0 P S W H] [tInsSS P, tStateS S, tItemSS W, tEventSS H] = some ⟨nSys 0 P S W H, [tInsSS9 P, tStateS9 S, tItemSS9 W, tEventSS9 H], [none, none, none, none]⟩ := by
 have n1 := hn.s
 have n2 := hn.w
 have m0 := hb.p
 have m1 := hb.s
 have m2 := hb.w
 have m3 := hb.h
 have q1 := fun k => s_l4Ins k P m0 hb.pp
 have q2 := fun k => s_l4Events k H m3 hb.hh
 (refine fnI [ResultVar.cell 2 29] Tryz.func83 ?_; conv => whnf)
 repeat' ((with_reducible (first | refine sCall.of (q1 _) ?_|refine sCall.of (q2 _) ?_|refine st15 ?_|refine gA ?_ ?_<;>intro _|refine gE ?_ ?_<;>intro _|refine gD 1 [(2, 4), (1, 7), (2, 7), (4, 7), (5, 7)] ?_|refine gD 5 [(1, 7), (1, 8)] ?_|refine gD 9 [(1, 2), (2, 4), (2, 7), (1, 8), (1, 9)] ?_)) <;> (try (conv => whnf)))
 refine loop_rule (ι := CS State) (fun z => [(1, .pt 1 1 0 [] 0 0), (2, .pt 2 1 0 [] 0 0), (3, .pt 3 1 0 [] 0 0), (4, i64 (z.j : Nat))])
  (fun z => [(1000000, ⟨0, 0, false, tInsSS P⟩), (1000001, ⟨0, 0, false, tStateS S⟩), (1000002, ⟨0, 0, false, tItemSS W⟩), (1000003, ⟨0, 0, false, tEventSS H⟩), (1, ⟨1, 0, false, .box [.h 1000000 0 0 [] 1 0 P.length, .h 1000001 0 0 [] 4 0 S.length, .h 1000002 0 0 [] 1 0 W.length, .h 1000003 0 0 [] 1 0 H.length]⟩), (2, ⟨1, 0, false, .box [.nl 1, .nl 4, .nl 1, .nl 1]⟩), (3, ⟨1, 0, z.dd, .box [.h 10008 1 0 [] 1 0 P.length, z.v, .nl 1, .h 10011 1 0 [] 1 0 H.length]⟩), (10008, ⟨1, 0, false, tInsSS9 P⟩), (10011, ⟨1, 0, false, tEventSS9 H⟩), (29, ⟨z.b, z.g, z.d, z.c⟩), (48, ⟨0, 0, false, .dead⟩)])
  (fun z => S.length - z.j) (fun z => z.j ≤ S.length ∧ Grown 29 4 tStateS9 S z) ⟨0, [], .nl 4, 0, 0, false, .dead, _⟩ fitOk ⟨Nat.zero_le _, grown_nil⟩ (by simp [C]; omega) ?_
 rintro ⟨j, l, v, b0, g0, d0, c, dd⟩ sl ob ⟨hj, hl, hg⟩
 dsimp only at hj hl hg
 by_cases hjl : j < S.length
 ·have hx := hb.ss j hjl
  have q := fun k => s_l2Copy k (rd S j).at_ (rd S j).regs (rd S j).out (rd S j).code hx.1 hx.2
  rcases hg with ⟨e1, e2, e3, e4, e5, e6⟩ | ⟨h0, e2, e3⟩
  all_goals dsimp only at *
  ·subst e1 e2 e3 e4 e5 e6 hl
   (try dsimp only [cond_true, cond_false])
   (conv => whnf)
   repeat' ((with_reducible (first | refine sCall.of (q _) ?_|refine st15 ?_|refine gA ?_ ?_<;>intro _|refine gE ?_ ?_<;>intro _|refine gD 1 [(2, 4), (1, 7), (2, 7), (4, 7), (5, 7)] ?_|refine gD 5 [(1, 7), (1, 8)] ?_|refine gD 9 [(1, 2), (2, 4), (2, 7), (1, 8), (1, 9)] ?_)) <;> (try (conv => whnf)))
   refine ⟨⟨⟨0 + 1, [rd S 0], _, _, _, _, _, _⟩, fitOk, ?_, ?_⟩⟩
   ·exact ⟨by show 0 + 1 ≤ _; omega, grown_one hjl⟩
   ·show S.length - (0 + 1) < S.length - 0; omega
  ·subst e2 e3
   have hle : l.length = j := by rw [hl]; simp; omega
   (try dsimp only [cond_true, cond_false])
   (conv => whnf)
   repeat' ((with_reducible (first | refine sCall.of (q _) ?_|refine st15 ?_|refine gA ?_ ?_<;>intro _|refine gE ?_ ?_<;>intro _|refine gD 1 [(2, 4), (1, 7), (2, 7), (4, 7), (5, 7)] ?_|refine gD 5 [(1, 7), (1, 8)] ?_|refine gD 9 [(1, 2), (2, 4), (2, 7), (1, 8), (1, 9)] ?_)) <;> (try (conv => whnf)))
   refine ⟨⟨⟨j + 1, l ++ [rd S j], _, _, _, _, _, _⟩, fitOk, ?_, ?_⟩⟩
   ·exact ⟨by show j + 1 ≤ _; omega, grown_more hjl hl⟩
   ·show S.length - (j + 1) < S.length - j; omega
 rcases hg with ⟨e1, e2, e3, e4, e5, e6⟩ | ⟨h0, e2, e3⟩
 all_goals dsimp only at *
 ·exfalso; omega
 rw [List.take_of_length_le (by omega)] at hl
 rw [hl] at e2 e3
 subst e2 e3
 (try dsimp only [cond_true, cond_false])
 (conv => whnf)
 repeat' ((with_reducible (first | refine st15 ?_|refine gA ?_ ?_<;>intro _|refine gE ?_ ?_<;>intro _|refine gD 1 [(2, 4), (1, 7), (2, 7), (4, 7), (5, 7)] ?_|refine gD 5 [(1, 7), (1, 8)] ?_|refine gD 9 [(1, 2), (2, 4), (2, 7), (1, 8), (1, 9)] ?_)) <;> (try (conv => whnf)))
 refine loop_rule (ι := CS (List Item)) (fun z => [(1, .pt 1 1 0 [] 0 0), (2, .pt 2 1 0 [] 0 0), (3, .pt 3 1 0 [] 0 0), (5, i64 (z.j : Nat))])
  (fun z => [(1000000, ⟨0, 0, false, tInsSS P⟩), (1000001, ⟨0, 0, false, tStateS S⟩), (1000002, ⟨0, 0, false, tItemSS W⟩), (1000003, ⟨0, 0, false, tEventSS H⟩), (1, ⟨1, 0, false, .box [.h 1000000 0 0 [] 1 0 P.length, .h 1000001 0 0 [] 4 0 S.length, .h 1000002 0 0 [] 1 0 W.length, .h 1000003 0 0 [] 1 0 H.length]⟩), (2, ⟨1, 0, false, .box [.nl 1, .nl 4, .nl 1, .nl 1]⟩), (3, ⟨1, 0, z.dd, .box [.h 10008 1 0 [] 1 0 P.length, .h 29 b0 0 [] 4 0 S.length, z.v, .h 10011 1 0 [] 1 0 H.length]⟩), (10008, ⟨1, 0, false, tInsSS9 P⟩), (10011, ⟨1, 0, false, tEventSS9 H⟩), (29, ⟨b0, g0, d0, tStateS9 S⟩), (48, ⟨z.b, z.g, z.d, z.c⟩)])
  (fun z => W.length - z.j) (fun z => z.j ≤ W.length ∧ Grown 48 1 tItemSS9 W z) ⟨0, [], .nl 1, 0, 0, false, .dead, _⟩ fitOk ⟨Nat.zero_le _, grown_nil⟩ (by simp [C]; omega) ?_
 clear sl ob
 rintro ⟨j, l, v, b1, g1, d1, c, dd⟩ sl ob ⟨hj, hl, hg⟩
 dsimp only at hj hl hg
 by_cases hjl : j < W.length
 ·have hx := hb.ww j hjl
  rcases hg with ⟨e1, e2, e3, e4, e5, e6⟩ | ⟨h0, e2, e3⟩
  all_goals dsimp only at *
  ·subst e1 e2 e3 e4 e5 e6 hl
   (try dsimp only [cond_true, cond_false])
   (conv => whnf)
   repeat' ((with_reducible (first | refine st15 ?_|refine gA ?_ ?_<;>intro _|refine gE ?_ ?_<;>intro _|refine gD 1 [(2, 4), (1, 7), (2, 7), (4, 7), (5, 7)] ?_|refine gD 5 [(1, 7), (1, 8)] ?_|refine gD 9 [(1, 2), (2, 4), (2, 7), (1, 8), (1, 9)] ?_)) <;> (try (conv => whnf)))
   refine ⟨⟨⟨0 + 1, [rd W 0], _, _, _, _, _, _⟩, fitOk, ?_, ?_⟩⟩
   ·exact ⟨by show 0 + 1 ≤ _; omega, grown_one hjl⟩
   ·show W.length - (0 + 1) < W.length - 0; omega
  ·subst e2 e3
   have hle : l.length = j := by rw [hl]; simp; omega
   (try dsimp only [cond_true, cond_false])
   (conv => whnf)
   repeat' ((with_reducible (first | refine st15 ?_|refine gA ?_ ?_<;>intro _|refine gE ?_ ?_<;>intro _|refine gD 1 [(2, 4), (1, 7), (2, 7), (4, 7), (5, 7)] ?_|refine gD 5 [(1, 7), (1, 8)] ?_|refine gD 9 [(1, 2), (2, 4), (2, 7), (1, 8), (1, 9)] ?_)) <;> (try (conv => whnf)))
   refine ⟨⟨⟨j + 1, l ++ [rd W j], _, _, _, _, _, _⟩, fitOk, ?_, ?_⟩⟩
   ·exact ⟨by show j + 1 ≤ _; omega, grown_more hjl hl⟩
   ·show W.length - (j + 1) < W.length - j; omega
 rcases hg with ⟨e1, e2, e3, e4, e5, e6⟩ | ⟨h0, e2, e3⟩
 all_goals dsimp only at *
 ·exfalso; omega
 rw [List.take_of_length_le (by omega)] at hl
 rw [hl] at e2 e3
 subst e2 e3
 (try dsimp only [cond_true, cond_false])
 (conv => whnf)
 repeat' ((with_reducible (first | refine st15 ?_|refine gA ?_ ?_<;>intro _|refine gE ?_ ?_<;>intro _|refine gD 1 [(2, 4), (1, 7), (2, 7), (4, 7), (5, 7)] ?_|refine gD 5 [(1, 7), (1, 8)] ?_|refine gD 9 [(1, 2), (2, 4), (2, 7), (1, 8), (1, 9)] ?_)) <;> (try (conv => whnf)))

end Go.Proofs.YtipfcgbhaalcdaaGreat.Abs
namespace Go.Proofs.YtipfcgbhaalcdaaGreat.Abs
open Go Go.Proofs
set_option linter.unusedVariables false
set_option linter.unusedSimpArgs false
attribute [local irreducible] callE
theorem drop_min (l : List Int) (t : Nat) : l.drop t = l.drop (min t l.length) := by
 rcases Nat.le_total t l.length with h | h
 ·rw [Nat.min_eq_left h]
 ·rw [Nat.min_eq_right h, List.drop_eq_nil_of_le h, List.drop_eq_nil_of_le (Nat.le_refl _)]
theorem rd_drop (l : List Int) (t j : Nat) : rd (l.drop t) j = rd l (t + j) := by simp [rd]
theorem gHole {α : Type} {l : List α} {n : Nat} {x : α} {F : α → Prop} (h : F x) (e : n < l.length := by first | omega | (simp only [List.length_map]; omega)) : fO (l.set n x)[n]? F := fO.of (by simp [e]) h
theorem snoc_rItem (l : List Item) (b : Bool) (x : Int) : l.map rItem ++ [[.v (.bool b), .v (.int .i64 x)]] = (l ++ [(⟨b, x⟩ : Item)]).map rItem := by simp [rItem]
theorem fill_self {α : Type} [Inhabited α] (l : List α) (j : Nat) (h : j < l.length) : (fill l j).set j default = fill l j := by
 apply List.ext_getElem?
 intro i
 simp only [fill, List.getElem?_set, List.getElem?_append, List.length_take, List.getElem?_take, List.getElem?_replicate, List.length_append, List.length_replicate]
 by_cases e : j = i
 ·subst e
  simp [h, Nat.min_eq_left (Nat.le_of_lt h)]
 ·simp [e]
theorem gI16 {p A : Prop} (h : A) (e : p := by first | with_reducible assumption | omega | (simp only [Nat.zero_add, Nat.add_zero, Nat.sub_zero, Int.toNat_natCast, Int.toNat_zero, Int.toNat_one, List.length_map, List.length_nil, Int.reduceToNat, Nat.reduceAdd, Nat.reduceSub, Int.sub_zero, Int.reduceAdd, Int.reduceSub, Nat.sub_self, Int.toNat_natCast_add_one, marks_len, bs_len, List.length_append, List.length_cons, List.length_set, List.length_replicate, List.length_range]; first | done | omega)) : sI p A := sI.mk e h
theorem gNum16 {r r' : Nat} {F : Nat → Prop} (h : F r') (e : r = r' := by first | (simp only [Nat.zero_add, Nat.add_zero, Nat.sub_zero, Int.toNat_natCast, Int.toNat_zero, Int.toNat_one, List.length_map, List.length_nil, Int.reduceToNat, Nat.reduceAdd, Nat.reduceSub, Int.sub_zero, Int.reduceAdd, Int.reduceSub, Nat.sub_self, Int.toNat_natCast_add_one, marks_len, bs_len]; rfl) | rfl) : sN r F := sN.eq e h
theorem gRow16 {r r' : List (List T)} {F : List (List T) → Prop} (h : F r') (e : r = r' := by first | (simp only [Nat.add_zero, Nat.zero_add, Nat.reduceAdd, List.drop_zero, List.take_succ_cons, List.take_nil, List.drop_succ_cons, List.drop_nil, List.take_zero, List.nil_append, List.append_nil, List.map_nil, drop_suf, take_pre, drop_map, List.take_length, take_len_set, take_len_app, List.set_set, List.length_map, snoc_rItem, snoc_rInsL, snoc_rItemL, snoc_rEventL, snoc_rState, set_rWho, rep_rWho, snoc_rWho, set_rState, rep_rState, set_rInsL, rep_rInsL, set_rItemL, rep_rItemL, set_rEventL, rep_rEventL, set_rItem, rep_rItem, rep_rKept, marks_take, set_rKept, set_rIns, rep_rIns, set_rEvent, rep_rEvent, snoc_rKept, snoc_rEvent, snoc_rIns, bytesT_bs, snoc_rI, snoc_rB, snoc_rBool, set_rI, set_rBool, rep_rI, rep_rBool, map_app]; rfl) | rfl) : sR r F := sR.eq e h
theorem st16 {P Q : Prop} (h : Q) (e : Q → P := by with_reducible first | exact fun h => gP h | exact fun h => gN h | exact fun h => fG.not h | exact fun h => gY h | exact fun h => gF h | exact fun h => fG.yes (flat_map (fun _ => rfl) _) h | exact fun h => gS64 h | exact fun h => gU8 h | exact fun h => gI16 h | exact fun h => fE.of rfl h | exact fun h => gNum16 h | exact fun h => gSet h | exact fun h => gRd h | exact fun h => gLk h | exact fun h => gRow16 h | exact fun h => gRf4 h) : P := e h
def procsOk (P : List (List Ins)) (H : List (List Event)) : Bool := allBelow P.length fun p => (replayAll (rd P p) (rd H p)).isSome && peersOk (rd H p) P.length
def ofOk (P : List (List Ins)) (H : List (List Event)) : Bool := procsOk P H && sysOk P (stsOf P H) (waysOf H P.length) H
structure SB where
 j : Nat
 lp : List (List Ins)
 ls : List State
 lh : List (List Event)
 v0 : AV
 v1 : AV
 v3 : AV
 b0 : Nat
 b1 : Nat
 b3 : Nat
 c0 : Cont
 c1 : Cont
 c3 : Cont
 dd : Bool
def SB.ok (P : List (List Ins)) (H : List (List Event)) (n0 n1 n3 : Nat) (z : SB) : Prop :=
  (z.lp = P.take z.j ∧ z.ls = (stsOf P H).take z.j ∧ z.lh = H.take z.j) ∧
  ((z.j = 0 ∧ (z.v0 = .nl 1 ∧ z.v1 = .nl 4 ∧ z.v3 = .nl 1) ∧ (z.b0 = 0 ∧ z.b1 = 0 ∧ z.b3 = 0) ∧ (z.c0 = .dead ∧ z.c1 = .dead ∧ z.c3 = .dead)) ∨
   (0 < z.j ∧ (z.v0 = .h n0 z.b0 0 [] 1 0 z.lp.length ∧ z.v1 = .h n1 z.b1 0 [] 4 0 z.ls.length ∧ z.v3 = .h n3 z.b3 0 [] 1 0 z.lh.length) ∧ (z.c0 = tInsSS9 z.lp ∧ z.c1 = tStateS9 z.ls ∧ z.c3 = tEventSS9 z.lh)))
theorem stsOf_len (P : List (List Ins)) (H : List (List Event)) : (stsOf P H).length = P.length := by simp [stsOf]
theorem stsOf_rd {P : List (List Ins)} {H : List (List Event)} {p : Nat} (hp : p < P.length) : rd (stsOf P H) p = stOf (replayAll (rd P p) (rd H p)) := rd_range _ hp
theorem waysOf_len (H : List (List Event)) (n : Nat) : (waysOf H n).length = n * n := by simp [waysOf]
theorem ofB {P : List (List Ins)} {H : List (List Event)} (hn1 : 1 ≤ P.length) (hp : P.length ≤ 4) (hh : H.length = P.length) (hx : ∀ j : Nat, j < P.length → (rd P j).length ≤ 1000000000) (hy : ∀ j : Nat, j < H.length → (rd H j).length ≤ 1000000000) (h : procsOk P H = true) :
  SysB 10000000000 P (stsOf P H) (waysOf H P.length) H := by
 have hnn : P.length * P.length ≤ 4 * 4 := Nat.mul_le_mul hp hp
 refine ⟨by omega, fun j hj => by have := hx j hj; omega, by rw [stsOf_len]; omega, fun j hj => ?_, by rw [waysOf_len]; omega, fun j hj => ?_, by omega, fun j hj => by have := hy j hj; omega⟩
 ·rw [stsOf_len] at hj
  rw [stsOf_rd hj]
  have h1 := allBelow_eq.1 h j hj
  rw [Bool.and_eq_true] at h1
  have h2 := replay_take h1.1 (rd H j).length
  rw [List.take_length] at h2
  have h3 := h2.2.regs
  have h4 := h2.2.out
  omega
 ·rw [waysOf_len] at hj
  have hm : j / P.length < H.length := by rw [hh]; exact Nat.div_lt_of_lt_mul (by omega)
  have h1 := hy (j / P.length) hm
  have h2 := vals_le (rd H (j / P.length)) 2 (j % P.length : Nat)
  show (rd (waysOf H P.length) j).length ≤ _
  unfold waysOf
  rw [rd_range _ hj]
  simp only [wayOf, leftOf, List.length_map, List.length_drop]
  omega
structure WB where
 a : Nat
 w : List (List Item)
 g : Nat
 d : Bool
structure WI where
 j : Nat
 w : List (List Item)
 g : Nat
 d : Bool
 bb : Nat
theorem i_systemOf (k : Nat) (P : List (List Ins)) (H : List (List Event)) (hn1 : 1 ≤ P.length) (hp : P.length ≤ 4) (hh : H.length = P.length) (hx : ∀ j : Nat, j < P.length → (rd P j).length ≤ 1000000000) (hy : ∀ j : Nat, j < H.length → (rd H j).length ≤ 1000000000) :
  callE PR C (k + 12) 157 [.h 1000000 0 0 [] 1 0 P.length, .h 1000001 0 0 [] 1 0 H.length] [tInsSS P, tEventSS H] =
   some (if ofOk P H = true then ⟨.tu [nSys 0 P (stsOf P H) (waysOf H P.length) H, bl true], [tInsSS9 P, tStateS9 (stsOf P H), tItemSS9 (waysOf H P.length), tEventSS9 H], [none, none]⟩ else ⟨.tu [nSys 0 [] [] [] [], bl false], [tInsSS9 [], tStateS9 [], tItemSS9 [], tEventSS9 []], [none, none]⟩) := by
 have hnn : P.length * P.length ≤ 4 * 4 := Nat.mul_le_mul hp hp
 have w1 : IntKind.i64.wrap ((P.length : Int) * (P.length : Int)) = ((P.length * P.length : Nat) : Int) := by
  rw [show (P.length : Int) * (P.length : Int) = ((P.length * P.length : Nat) : Int) by simp]; exact wrap_i64 _ (by omega) (by omega)
 have hTl := waysOf_len H P.length
 have hsl := stsOf_len P H
 (refine fnI [ResultVar.cell 4 29, ResultVar.tmp 5] Tryz.func157 ?_; conv => whnf)
 repeat' ((with_reducible (first | refine sW.eq (w1) ?_|refine st16 ?_|refine gA ?_ ?_<;>intro _|refine gE ?_ ?_<;>intro _|refine gD 9 [(1, 3), (1, 4)] ?_|refine gD 11 [(1, 6), (1, 7)] ?_|refine gD 24 [(1, 18), (8, 18), (15, 18), (1, 19)] ?_)) <;> (try (conv => whnf)))
 refine loop_rule (ι := SB) (fun z => [(1, .h 1000001 0 0 [] 1 0 H.length), (4, .pt 4 1 0 [] 0 0), (6, i64 P.length), (7, .pt 7 1 0 [] 0 0), (25, .h 1000000 0 0 [] 1 0 P.length), (26, i64 P.length), (27, i64 (z.j : Nat))])
  (fun z => [(1000000, ⟨0, 0, false, tInsSS P⟩), (1000001, ⟨0, 0, false, tEventSS H⟩), (4, ⟨1, 0, false, .box [.nl 1, .nl 4, .nl 1, .nl 1]⟩), (7, ⟨1, 0, z.dd, .box [z.v0, z.v1, .h 23 1 0 [] 1 0 (P.length * P.length), z.v3]⟩), (23, ⟨1, 0, false, tItemSS9 (List.replicate (P.length * P.length) default)⟩), (58, ⟨z.b0, 0, false, z.c0⟩), (64, ⟨z.b1, 0, false, z.c1⟩), (74, ⟨z.b3, 0, false, z.c3⟩)])
  (fun z => P.length - z.j) (fun z => z.j ≤ P.length ∧ (∀ q, q < z.j → ((replayAll (rd P q) (rd H q)).isSome && peersOk (rd H q) P.length) = true) ∧ SB.ok P H 58 64 74 z)
  ⟨0, [], [], [], .nl 1, .nl 4, .nl 1, 0, 0, 0, .dead, .dead, .dead, _⟩ fitOk ⟨Nat.zero_le _, fun q h => absurd h (Nat.not_lt_zero q), ⟨rfl, rfl, rfl⟩, .inl ⟨rfl, ⟨rfl, rfl, rfl⟩, ⟨rfl, rfl, rfl⟩, ⟨rfl, rfl, rfl⟩⟩⟩ (by simp [C]; omega) ?_
 rintro ⟨j, lp, ls, lh, v0, v1, v3, b0, b1, b3, c0, c1, c3, dd⟩ sl ob ⟨hj, hok, ⟨hlp, hls, hlh⟩, hg⟩
 dsimp only at hj hok hlp hls hlh hg
 by_cases hjl : j < P.length
 ·have hxj := hx j hjl
  have hyj := hy j (by omega)
  have q1 := fun k => i_Replay' k (rd P j) (rd H j) (by omega) (by omega)
  have q2 := fun k => i_peersOk k (rd H j) P.length (by omega) (by omega) (by omega)
  have q3 := fun k => ok_Clone_Ins k (rd P j) (by omega)
  have q4 := fun k => ok_Clone_Event k (rd H j) (by omega)
  have er : rd (stsOf P H) j = stOf (replayAll (rd P j) (rd H j)) := stsOf_rd hjl
  cases hb : ((replayAll (rd P j) (rd H j)).isSome && peersOk (rd H j) P.length) with
  | false =>
   have e0 : ofOk P H = false := by
    unfold ofOk procsOk
    rw [allBelow_no (f := fun p => (replayAll (rd P p) (rd H p)).isSome && peersOk (rd H p) P.length) hjl hb, Bool.false_and]
   rw [e0]
   cases hb1 : (replayAll (rd P j) (rd H j)).isSome with
   | false =>
    simp only [hb1] at q1
    rcases hg with ⟨e1, ⟨f1, f2, f3⟩, ⟨f4, f5, f6⟩, ⟨f7, f8, f9⟩⟩ | ⟨h0, ⟨f1, f2, f3⟩, ⟨f7, f8, f9⟩⟩
    all_goals subst f1 f2 f3 f7 f8 f9
    all_goals (try dsimp only [cond_true, cond_false])
    all_goals (conv => whnf)
    all_goals repeat' ((with_reducible (first | refine sCall.of (q1 _) ?_|refine st16 ?_|refine gA ?_ ?_<;>intro _|refine gE ?_ ?_<;>intro _|refine gD 9 [(1, 3), (1, 4)] ?_|refine gD 11 [(1, 6), (1, 7)] ?_|refine gD 24 [(1, 18), (8, 18), (15, 18), (1, 19)] ?_)) <;> (try (conv => whnf)))
    all_goals rfl
   | true =>
    rw [hb1, Bool.true_and] at hb
    simp only [hb1] at q1
    simp only [hb] at q2
    rcases hg with ⟨e1, ⟨f1, f2, f3⟩, ⟨f4, f5, f6⟩, ⟨f7, f8, f9⟩⟩ | ⟨h0, ⟨f1, f2, f3⟩, ⟨f7, f8, f9⟩⟩
    all_goals subst f1 f2 f3 f7 f8 f9
    all_goals (try dsimp only [cond_true, cond_false])
    all_goals (conv => whnf)
    all_goals repeat' ((with_reducible (first | refine sCall.of (q1 _) ?_|refine sCall.of (q2 _) ?_|refine st16 ?_|refine gA ?_ ?_<;>intro _|refine gE ?_ ?_<;>intro _|refine gD 9 [(1, 3), (1, 4)] ?_|refine gD 11 [(1, 6), (1, 7)] ?_|refine gD 24 [(1, 18), (8, 18), (15, 18), (1, 19)] ?_)) <;> (try (conv => whnf)))
    all_goals rfl
  | true =>
   rw [Bool.and_eq_true] at hb
   simp only [hb.1] at q1
   simp only [hb.2] at q2
   rw [← er] at q1
   have hok' : ∀ q, q < j + 1 → ((replayAll (rd P q) (rd H q)).isSome && peersOk (rd H q) P.length) = true := fun q hq => by
    rcases Nat.lt_succ_iff_lt_or_eq.1 hq with h | h
    ·exact hok q h
    ·rw [h, hb.1, hb.2]; rfl
   have hst := (hb.1)
   rcases hg with ⟨e1, ⟨f1, f2, f3⟩, ⟨f4, f5, f6⟩, ⟨f7, f8, f9⟩⟩ | ⟨h0, ⟨f1, f2, f3⟩, ⟨f7, f8, f9⟩⟩
   ·subst e1 f1 f2 f3 f4 f5 f6 f7 f8 f9 hlp hls hlh
    (try dsimp only [cond_true, cond_false])
    (conv => whnf)
    repeat' ((with_reducible (first | refine sCall.of (q1 _) ?_|refine sCall.of (q2 _) ?_|refine sCall.of (q3 _) ?_|refine sCall.of (q4 _) ?_|refine st16 ?_|refine gA ?_ ?_<;>intro _|refine gE ?_ ?_<;>intro _|refine gD 9 [(1, 3), (1, 4)] ?_|refine gD 11 [(1, 6), (1, 7)] ?_|refine gD 24 [(1, 18), (8, 18), (15, 18), (1, 19)] ?_)) <;> (try (conv => whnf)))
    refine ⟨⟨⟨0 + 1, [rd P 0], [rd (stsOf P H) 0], [rd H 0], _, _, _, _, _, _, _, _, _, _⟩, fitOk, ?_, ?_⟩⟩
    ·exact ⟨by show 0 + 1 ≤ _; omega, hok', ⟨by show _ = P.take (0 + 1); rw [take_rd hjl]; rfl, by show _ = (stsOf P H).take (0 + 1); rw [take_rd (by omega)]; rfl, by show _ = H.take (0 + 1); rw [take_rd (by omega)]; rfl⟩, .inr ⟨Nat.one_pos, ⟨rfl, rfl, rfl⟩, ⟨rfl, rfl, rfl⟩⟩⟩
    ·show P.length - (0 + 1) < P.length - 0; omega
   ·have l0 : lp.length = j := by rw [hlp]; simp; omega
    have l1 : ls.length = j := by rw [hls]; simp; omega
    have l3 : lh.length = j := by rw [hlh]; simp; omega
    subst f1 f2 f3 f7 f8 f9
    (try dsimp only [cond_true, cond_false])
    (conv => whnf)
    repeat' ((with_reducible (first | refine sCall.of (q1 _) ?_|refine sCall.of (q2 _) ?_|refine sCall.of (q3 _) ?_|refine sCall.of (q4 _) ?_|refine st16 ?_|refine gA ?_ ?_<;>intro _|refine gE ?_ ?_<;>intro _|refine gD 9 [(1, 3), (1, 4)] ?_|refine gD 11 [(1, 6), (1, 7)] ?_|refine gD 24 [(1, 18), (8, 18), (15, 18), (1, 19)] ?_)) <;> (try (conv => whnf)))
    refine ⟨⟨⟨j + 1, lp ++ [rd P j], ls ++ [rd (stsOf P H) j], lh ++ [rd H j], _, _, _, _, _, _, _, _, _, _⟩, fitOk, ?_, ?_⟩⟩
    ·exact ⟨by show j + 1 ≤ _; omega, hok', ⟨by show _ = P.take (j + 1); rw [take_rd hjl, hlp], by show _ = (stsOf P H).take (j + 1); rw [take_rd (by omega), hls], by show _ = H.take (j + 1); rw [take_rd (by omega), hlh]⟩, .inr ⟨Nat.succ_pos j, ⟨rfl, rfl, rfl⟩, ⟨rfl, rfl, rfl⟩⟩⟩
    ·show P.length - (j + 1) < P.length - j; omega
 ·have hpo : procsOk P H = true := allBelow_yes fun q hq => hok q (by omega)
  rw [List.take_of_length_le (by omega)] at hlp hls hlh
  rcases hg with ⟨e1, ⟨f1, f2, f3⟩, ⟨f4, f5, f6⟩, ⟨f7, f8, f9⟩⟩ | ⟨h0, ⟨f1, f2, f3⟩, ⟨f7, f8, f9⟩⟩
  ·exfalso; omega
  ·rw [hlp] at f1 f7
   rw [hls] at f2 f8
   rw [hlh] at f3 f9
   subst f1 f2 f3 f7 f8 f9
   clear hlp hls hlh hok
   (try dsimp only [cond_true, cond_false])
   (conv => whnf)
   repeat' ((with_reducible (first | refine st16 ?_|refine gA ?_ ?_<;>intro _|refine gE ?_ ?_<;>intro _|refine gD 9 [(1, 3), (1, 4)] ?_|refine gD 11 [(1, 6), (1, 7)] ?_|refine gD 24 [(1, 18), (8, 18), (15, 18), (1, 19)] ?_)) <;> (try (conv => whnf)))
   refine loop_rule (ι := WB) (fun z => [(4, .pt 4 1 0 [] 0 0), (6, i64 P.length), (7, .pt 7 1 0 [] 0 0), (77, i64 P.length), (78, i64 (z.a : Nat))])
    (fun z => [(1000000, ⟨0, 0, false, tInsSS P⟩), (1000001, ⟨0, 0, false, tEventSS H⟩), (4, ⟨1, 0, false, .box [.nl 1, .nl 4, .nl 1, .nl 1]⟩), (7, ⟨1, 0, dd, .box [.h 58 b0 0 [] 1 0 P.length, .h 64 b1 0 [] 4 0 (stsOf P H).length, .h 23 1 0 [] 1 0 (P.length * P.length), .h 74 b3 0 [] 1 0 H.length]⟩), (23, ⟨1, z.g, z.d, tItemSS9 z.w⟩), (58, ⟨b0, 0, false, tInsSS9 P⟩), (64, ⟨b1, 0, false, tStateS9 (stsOf P H)⟩), (74, ⟨b3, 0, false, tEventSS9 H⟩)])
    (fun z => P.length - z.a) (fun z => z.a ≤ P.length ∧ z.w = fill (waysOf H P.length) (z.a * P.length)) ⟨0, List.replicate (P.length * P.length) default, _, _⟩ fitOk ⟨Nat.zero_le _, by show _ = fill _ (0 * P.length); rw [Nat.zero_mul, fill_zero, hTl]⟩ (by simp [C]; omega) ?_
   clear sl ob
   rintro ⟨a, w, g, d⟩ sl ob ⟨ha, hw⟩
   dsimp only at ha hw
   (try dsimp only [cond_true, cond_false])
   (conv => whnf)
   by_cases hal : a < P.length
   ·repeat' ((with_reducible (first | refine st16 ?_|refine gA ?_ ?_<;>intro _|refine gE ?_ ?_<;>intro _|refine gD 9 [(1, 3), (1, 4)] ?_|refine gD 11 [(1, 6), (1, 7)] ?_|refine gD 24 [(1, 18), (8, 18), (15, 18), (1, 19)] ?_)) <;> (try (conv => whnf)))
    refine loop_rule (ι := WB) (fun z => [(4, .pt 4 1 0 [] 0 0), (6, i64 P.length), (7, .pt 7 1 0 [] 0 0), (12, i64 (a : Nat)), (77, i64 P.length), (78, i64 (a : Nat)), (81, i64 P.length), (82, i64 (z.a : Nat))])
     (fun z => [(1000000, ⟨0, 0, false, tInsSS P⟩), (1000001, ⟨0, 0, false, tEventSS H⟩), (4, ⟨1, 0, false, .box [.nl 1, .nl 4, .nl 1, .nl 1]⟩), (7, ⟨1, 0, dd, .box [.h 58 b0 0 [] 1 0 P.length, .h 64 b1 0 [] 4 0 (stsOf P H).length, .h 23 1 0 [] 1 0 (P.length * P.length), .h 74 b3 0 [] 1 0 H.length]⟩), (23, ⟨1, z.g, z.d, tItemSS9 z.w⟩), (58, ⟨b0, 0, false, tInsSS9 P⟩), (64, ⟨b1, 0, false, tStateS9 (stsOf P H)⟩), (74, ⟨b3, 0, false, tEventSS9 H⟩)])
     (fun z => P.length - z.a) (fun z => z.a ≤ P.length ∧ z.w = fill (waysOf H P.length) (a * P.length + z.a)) ⟨0, w, _, _⟩ fitOk ⟨Nat.zero_le _, hw⟩ (by simp [C]; omega) ?_
    clear sl ob hw w g d
    rintro ⟨b, w, g, d⟩ sl ob ⟨hb, hw⟩
    dsimp only at hb hw
    (try dsimp only [cond_true, cond_false])
    (conv => whnf)
    by_cases hbl : b < P.length
    ·have hya := hy a (by omega)
     have hyb := hy b (by omega)
     have hva := vals_le (rd H a) 2 b
     have hcb := vals_le (rd H b) 3 a
     have q5 := fun k => i_Values k (rd H a) 2 b (by omega)
     have q6 := fun k => i_Count k (rd H b) 3 a (by omega)
     have hL : leftOf H a b = (vals (rd H a) 2 b).drop (min (cnt (rd H b) 3 a) (vals (rd H a) 2 b).length) := drop_min _ _
     have hcnt : cnt (rd H b) 3 a = (vals (rd H b) 3 a).length := rfl
     have hmin : (if ((vals (rd H a) 2 b).length : Int) < (cnt (rd H b) 3 a : Int) then ((vals (rd H a) 2 b).length : Int) else (cnt (rd H b) 3 a : Int)) = ((min (cnt (rd H b) 3 a) (vals (rd H a) 2 b).length : Nat) : Int) := by
      split <;> omega
     have htl : min (cnt (rd H b) 3 a) (vals (rd H a) 2 b).length ≤ (vals (rd H a) 2 b).length := Nat.min_le_right _ _
     generalize vals (rd H a) 2 b = sent at *
     generalize cnt (rd H b) 3 a = took at *
     generalize min took sent.length = tk at *
     have hpl := place_lt hal hbl
     have hT : rd (waysOf H P.length) (a * P.length + b) = wayOf (leftOf H a b) := rd_waysOf hal hbl
     have wm : IntKind.i64.wrap ((a : Int) * (P.length : Int)) = ((a * P.length : Nat) : Int) := by
      rw [show (a : Int) * (P.length : Int) = ((a * P.length : Nat) : Int) by simp]; exact wrap_i64 _ (by omega) (by omega)
     have wa : IntKind.i64.wrap (((a * P.length : Nat) : Int) + (b : Int)) = ((a * P.length + b : Nat) : Int) := by rw [wrap_i64 _ (by omega) (by omega)]; simp
     generalize ham : a * P.length = am at *
     generalize hix : am + b = ix at *
     repeat' ((with_reducible (first | refine sCall.of (q5 _) ?_|refine sCall.of (q6 _) ?_|refine sZ.eq (hmin) ?_|refine st16 ?_|refine gA ?_ ?_<;>intro _|refine gE ?_ ?_<;>intro _|refine gD 9 [(1, 3), (1, 4)] ?_|refine gD 11 [(1, 6), (1, 7)] ?_|refine gD 24 [(1, 18), (8, 18), (15, 18), (1, 19)] ?_)) <;> (try (conv => whnf)))
     refine loop_rule (ι := WI) (fun z => [(4, .pt 4 1 0 [] 0 0), (6, i64 P.length), (7, .pt 7 1 0 [] 0 0), (12, i64 (a : Nat)), (13, i64 (b : Nat)), (77, i64 P.length), (78, i64 (a : Nat)), (81, i64 P.length), (82, i64 (b : Nat)), (104, .h 10091 z.bb 0 [] 1 tk (sent.length - tk)), (105, i64 (sent.length - tk : Nat)), (106, i64 (z.j : Nat))])
      (fun z => [(1000000, ⟨0, 0, false, tInsSS P⟩), (1000001, ⟨0, 0, false, tEventSS H⟩), (4, ⟨1, 0, false, .box [.nl 1, .nl 4, .nl 1, .nl 1]⟩), (7, ⟨1, 0, dd, .box [.h 58 b0 0 [] 1 0 P.length, .h 64 b1 0 [] 4 0 (stsOf P H).length, .h 23 1 0 [] 1 0 (P.length * P.length), .h 74 b3 0 [] 1 0 H.length]⟩), (23, ⟨1, z.g, z.d, tItemSS9 z.w⟩), (58, ⟨b0, 0, false, tInsSS9 P⟩), (64, ⟨b1, 0, false, tStateS9 (stsOf P H)⟩), (74, ⟨b3, 0, false, tEventSS9 H⟩), (10091, ⟨z.bb, 0, false, tI9 sent⟩)])
      (fun z => sent.length - tk - z.j) (fun z => z.j ≤ sent.length - tk ∧ z.w = (fill (waysOf H P.length) ix).set ix (wayOf ((leftOf H a b).take z.j))) ⟨0, w, _, _, _⟩ fitOk ⟨Nat.zero_le _, by show w = (fill _ ix).set ix default; rw [fill_self _ _ (by omega)]; exact hw⟩ (by simp [C]; omega) ?_
     clear sl ob hw w g d
     rintro ⟨j, w, g, d, bb⟩ sl ob ⟨hj, hw⟩
     dsimp only at hj hw
     have hwl : w.length = P.length * P.length := by rw [hw, List.length_set, fill_len, hTl]
     have hll : (leftOf H a b).length = sent.length - tk := by rw [hL, List.length_drop]
     (try dsimp only [cond_true, cond_false])
     (conv => whnf)
     by_cases hjl : j < sent.length - tk
     ·have hwx : rd w ix = wayOf ((leftOf H a b).take j) := by rw [hw]; simp [rd, fill_len, hTl, hpl]
      have hwxl : (rd w ix).length = j := by rw [hwx]; simp [wayOf]; omega
      have hnx : rd (leftOf H a b) j = rd sent (tk + j) := by rw [hL, rd_drop]
      repeat' ((with_reducible (first | refine sW.eq (wm) ?_|refine sW.eq (wa) ?_|refine gHole ?_|refine st16 ?_|refine gA ?_ ?_<;>intro _|refine gE ?_ ?_<;>intro _|refine gD 9 [(1, 3), (1, 4)] ?_|refine gD 11 [(1, 6), (1, 7)] ?_|refine gD 24 [(1, 18), (8, 18), (15, 18), (1, 19)] ?_)) <;> (try (conv => whnf)))
      refine ⟨⟨⟨j + 1, w.set ix (rd w ix ++ [⟨false, rd sent (tk + j)⟩]), _, _, _⟩, fitOk, ?_, ?_⟩⟩
      ·exact ⟨by show j + 1 ≤ _; omega, by show w.set ix _ = _; rw [hwx, hw, List.set_set, take_rd (by omega), hnx]; simp [wayOf]⟩
      ·show sent.length - tk - (j + 1) < sent.length - tk - j; omega
     ·repeat' ((with_reducible (first | refine st16 ?_|refine gA ?_ ?_<;>intro _|refine gE ?_ ?_<;>intro _|refine gD 9 [(1, 3), (1, 4)] ?_|refine gD 11 [(1, 6), (1, 7)] ?_|refine gD 24 [(1, 18), (8, 18), (15, 18), (1, 19)] ?_)) <;> (try (conv => whnf)))
      refine ⟨⟨⟨b + 1, w, _, _⟩, fitOk, ?_, ?_⟩⟩
      ·refine ⟨by show b + 1 ≤ _; omega, ?_⟩
       show w = fill _ (am + (b + 1))
       rw [hw, List.take_of_length_le (by omega), ← hT, fill_set _ _ (by omega), ← Nat.add_assoc, hix]
      ·show P.length - (b + 1) < P.length - b; omega
    ·repeat' ((with_reducible (first | refine st16 ?_|refine gA ?_ ?_<;>intro _|refine gE ?_ ?_<;>intro _|refine gD 9 [(1, 3), (1, 4)] ?_|refine gD 11 [(1, 6), (1, 7)] ?_|refine gD 24 [(1, 18), (8, 18), (15, 18), (1, 19)] ?_)) <;> (try (conv => whnf)))
     refine ⟨⟨⟨a + 1, w, _, _⟩, fitOk, ?_, ?_⟩⟩
     ·exact ⟨by show a + 1 ≤ _; omega, by show w = fill _ ((a + 1) * P.length); rw [hw, Nat.add_mul, Nat.one_mul, show b = P.length by omega]⟩
     ·show P.length - (a + 1) < P.length - a; omega
   ·have hwT : w = waysOf H P.length := by rw [hw, show a = P.length by omega, ← hTl, fill_all]
    subst hwT
    have et : List.take (P.length * P.length) (waysOf H P.length) = waysOf H P.length := List.take_of_length_le (by omega)
    have q7 : ∀ k, callE PR C (k + 11) 20 [.ag [.h 1000000 0 0 [] 1 0 P.length, .h 1000001 0 0 [] 4 0 (stsOf P H).length, .h 1000002 0 0 [] 1 0 (List.take (P.length * P.length) (waysOf H P.length)).length, .h 1000003 0 0 [] 1 0 H.length]] [tInsSS P, tStateS (stsOf P H), tItemSS (List.take (P.length * P.length) (waysOf H P.length)), tEventSS H] = some ⟨bl (sysOk P (stsOf P H) (waysOf H P.length) H), [], [none, none, none, none]⟩ := by
     intro k
     rw [et]
     exact i_SysOk k P (stsOf P H) (waysOf H P.length) H (ofB hn1 hp hh hx hy hpo)
    have e0 : ofOk P H = sysOk P (stsOf P H) (waysOf H P.length) H := by unfold ofOk; rw [hpo, Bool.true_and]
    rw [e0]
    cases e : sysOk P (stsOf P H) (waysOf H P.length) H with
    | false =>
     simp only [e] at q7
     repeat' ((with_reducible (first | refine sCall.of (q7 _) ?_|refine st16 ?_|refine gA ?_ ?_<;>intro _|refine gE ?_ ?_<;>intro _|refine gD 9 [(1, 3), (1, 4)] ?_|refine gD 11 [(1, 6), (1, 7)] ?_|refine gD 24 [(1, 18), (8, 18), (15, 18), (1, 19)] ?_)) <;> (try (conv => whnf)))
     all_goals rfl
    | true =>
     simp only [e] at q7
     repeat' ((with_reducible (first | refine sCall.of (q7 _) ?_|refine st16 ?_|refine gA ?_ ?_<;>intro _|refine gE ?_ ?_<;>intro _|refine gD 9 [(1, 3), (1, 4)] ?_|refine gD 11 [(1, 6), (1, 7)] ?_|refine gD 24 [(1, 18), (8, 18), (15, 18), (1, 19)] ?_)) <;> (try (conv => whnf)))
     simp only [et, if_true, nSys, hTl] <;> rfl

end Go.Proofs.YtipfcgbhaalcdaaGreat.Abs
namespace Go.Proofs.YtipfcgbhaalcdaaGreat.Abs
open Go Go.Proofs
set_option linter.unusedVariables false
set_option linter.unusedSimpArgs false
attribute [local irreducible] callE
theorem cut_ofOk {P : List (List Ins)} {S : List State} {W : List (List Item)} {H : List (List Event)} {c : List Int} (h : sysOk P S W H = true) (hc : FOk H c) (hw : wholeB H c = true) : ofOk P (cutH H c) = waysFit (cutH H c) P.length := by
 unfold ofOk
 rw [cut_sysOk h hc hw]
 simp only [sysOk, sizesOk, inB, Bool.and_eq_true, decide_eq_true_eq, allBelow_eq] at h
 obtain ⟨⟨a1, a2, a3, a4⟩, b1, b2, b3, b4⟩ := h
 have : procsOk P (cutH H c) = true := by
  unfold procsOk
  rw [allBelow_eq]
  intro p hp
  have h1 := b2 p hp
  simp only [procOk, Bool.and_eq_true, stoodAs] at h1 ⊢
  rw [rd_cutH (by omega)]
  refine ⟨replayAll_cut h1.2.2.1 _, ?_⟩
  have h2 := h1.2.1
  simp only [peersOk, List.all_eq_true] at h2 ⊢
  intro e he
  exact h2 e (List.mem_of_mem_take he)
 rw [this, Bool.true_and]
def zeroRes (b : List (Option Cont)) : Res := ⟨.tu [nSys 0 [] [] [] [], bl false], [tInsSS9 [], tStateS9 [], tItemSS9 [], tEventSS9 []], b⟩
def atRes (P : List (List Ins)) (H : List (List Event)) (b : List (Option Cont)) : Res := ⟨.tu [nSys 0 P (stsOf P H) (waysOf H P.length) H, bl true], [tInsSS9 P, tStateS9 (stsOf P H), tItemSS9 (waysOf H P.length), tEventSS9 H], b⟩
structure AT where
 j : Nat
 l : List (List Event)
 o : Nat
 b : Nat
 lv : Nat
theorem i_At (k : Nat) (P : List (List Ins)) (S : List State) (W : List (List Item)) (H : List (List Event)) (c : List Int) (hb : SysB 1000000000 P S W H) (e : sysOk P S W H = true) (hc : FOk H c) :
  callE PR C (k + 14) 80 [aSys 0 P S W H, .h 1000004 0 0 [] 1 0 c.length] [tInsSS P, tStateS S, tItemSS W, tEventSS H, tI c] =
   some (if wholeB H c = true ∧ waysFit (cutH H c) P.length = true then atRes P (cutH H c) [none, none, none, none, none] else zeroRes [none, none, none, none, none]) := by
 have q1 := fun k => i_Whole k P S W H c (hb.mono (by decide)) e hc
 cases hw : wholeB H c with
 | false =>
  simp only [hw] at q1
  rw [if_neg (by simp)]
  (refine fnI [ResultVar.cell 4 29, ResultVar.tmp 5] Tryz.func80 ?_; conv => whnf)
  repeat' ((with_reducible (first | refine sCall.of (q1 _) ?_|refine st16 ?_|refine gA ?_ ?_<;>intro _|refine gE ?_ ?_<;>intro _)) <;> (try (conv => whnf)))
  all_goals rfl
 | true =>
  simp only [hw] at q1
  obtain ⟨hI, hP, hS, h200⟩ := sysOk_facts e
  have hN := hI.n
  have hHl := hI.h
  have hcl := hc.len
  have hcut := cutH_len H c
  have q2 := fun k => i_systemOf k P (cutH H c) hN.1 hN.2 (by omega) (fun j hj => hb.pp j hj) (fun j hj => by
   rw [cutH_len] at hj
   rw [rd_cutH hj, List.length_take]
   have := h200 j hj
   omega)
  rw [cut_ofOk e hc hw] at q2
  (refine fnI [ResultVar.cell 4 29, ResultVar.tmp 5] Tryz.func80 ?_; conv => whnf)
  repeat' ((with_reducible (first | refine sCall.of (q1 _) ?_|refine st16 ?_|refine gA ?_ ?_<;>intro _|refine gE ?_ ?_<;>intro _)) <;> (try (conv => whnf)))
  refine loop_rule (ι := AT) (fun z => [(2, .pt 2 1 0 [] 0 0), (4, .pt 4 1 0 [] 0 0), (6, .h z.o z.b 0 [] 1 0 z.l.length), (15, .h 1000004 0 0 [] 1 0 c.length), (16, i64 c.length), (17, i64 (z.j : Nat))])
   (fun z => [(1000000, ⟨0, 0, false, tInsSS P⟩), (1000001, ⟨0, 0, false, tStateS S⟩), (1000002, ⟨0, 0, false, tItemSS W⟩), (1000003, ⟨0, 0, false, tEventSS H⟩), (1000004, ⟨0, 0, false, tI c⟩), (2, ⟨1, 0, false, bSys P S W H⟩), (4, ⟨1, 0, false, .box [.nl 1, .nl 4, .nl 1, .nl 1]⟩), (z.o, ⟨z.b, 0, false, .tree z.lv (.sl 1 (z.l.map rEventL))⟩)])
   (fun z => c.length - z.j) (fun z => z.j ≤ c.length ∧ z.l = (cutH H c).take z.j ∧ (z.o = 14 ∧ z.lv = 9 ∨ z.o = 31 ∧ z.lv = 1)) ⟨0, [], 14, _, 9⟩ fitOk ⟨Nat.zero_le _, rfl, .inl ⟨rfl, rfl⟩⟩ (by simp [C]; omega) ?_
  clear q1
  rintro ⟨j, out, o, b, lv⟩ sl ob ⟨hj, hout, ho⟩
  dsimp only at hj hout ho
  have hle : out.length ≤ H.length := by rw [hout]; simp; omega
  by_cases hjl : j < c.length
  ·have hr := hc.rng j (by omega)
   have hlj := h200 j (by omega)
   have e4 : (List.map rEvent (rd H j)).length = (rd H j).length := by simp
   rcases ho with ⟨rfl, rfl⟩ | ⟨rfl, rfl⟩
   all_goals (try dsimp only [cond_true, cond_false])
   all_goals (conv => whnf)
   all_goals repeat' ((with_reducible (first | refine st16 ?_|refine gA ?_ ?_<;>intro _|refine gE ?_ ?_<;>intro _)) <;> (try (conv => whnf)))
   all_goals
    refine ⟨⟨⟨j + 1, out ++ [(rd H j).take (rd c j).toNat], 31, _, 1⟩, fitOk, ?_, ?_⟩⟩
    ·exact ⟨by show j + 1 ≤ _; omega, by show _ = (cutH H c).take (j + 1); rw [take_rd (by omega), hout, rd_cutH (by omega)], .inr ⟨rfl, rfl⟩⟩
    ·show c.length - (j + 1) < c.length - j; omega
  ·rw [List.take_of_length_le (by omega)] at hout
   subst hout
   cases hf : waysFit (cutH H c) P.length
   all_goals simp only [hf, if_true, Bool.false_eq_true, if_false, and_false, and_self] at q2 ⊢
   all_goals rcases ho with ⟨rfl, rfl⟩ | ⟨rfl, rfl⟩
   all_goals (try dsimp only [cond_true, cond_false])
   all_goals (conv => whnf)
   all_goals repeat' ((with_reducible (first | refine sCall.of (q2 _) ?_|refine st16 ?_|refine gA ?_ ?_<;>intro _|refine gE ?_ ?_<;>intro _)) <;> (try (conv => whnf)))
   all_goals rfl

end Go.Proofs.YtipfcgbhaalcdaaGreat.Abs
namespace Go.Proofs.YtipfcgbhaalcdaaGreat.Abs
open Go Go.Proofs
set_option linter.unusedVariables false
set_option linter.unusedSimpArgs false
attribute [local irreducible] callE
def hasCut (H : List (List Event)) (p i : Int) : Bool := decide (0 ≤ p ∧ p ≤ (H.length : Int) - 1) && decide (0 ≤ i ∧ i ≤ ((rd H p.toNat).length : Int))
noncomputable def backCutOf (H : List (List Event)) (p i : Int) : List Int := closeOf H ((lensOf H).set p.toNat i)
def atSys (P : List (List Ins)) (H : List (List Event)) : Sys := ⟨P, stsOf P H, waysOf H P.length, H⟩
noncomputable def backIs (P : List (List Ins)) (S : List State) (W : List (List Item)) (H : List (List Event)) (p i : Int) : Sys × Int :=
 if sysOk P S W H = true then (if hasCut H p i = true then (if waysFit (cutH H (backCutOf H p i)) P.length = true then (atSys P (cutH H (backCutOf H p i)), 0) else (⟨P, S, W, H⟩, 3)) else (⟨P, S, W, H⟩, 2)) else (⟨[], [], [], []⟩, 1)
def sysRes (X : Sys) (n : Int) (b : List (Option Cont)) : Res := ⟨.tu [nSys 0 X.progs X.states X.ways X.hist, i64 n], [tInsSS9 X.progs, tStateS9 X.states, tItemSS9 X.ways, tEventSS9 X.hist], b⟩
noncomputable def undoneIs (P : List (List Ins)) (S : List State) (W : List (List Item)) (H : List (List Event)) (p i : Int) : List Int := if (backIs P S W H p i).2 = 0 then (List.range H.length).map fun q => ((rd H q).length : Int) - ((rd (backIs P S W H p i).1.hist q).length : Int) else []
def lastOf (H : List (List Event)) (p : Int) : Int := if 0 ≤ p ∧ p ≤ (H.length : Int) - 1 then ((rd H p.toNat).length : Int) - 1 else -1
end Go.Proofs.YtipfcgbhaalcdaaGreat.Abs
namespace Go.Proofs.YtipfcgbhaalcdaaGreat.Abs
open Go Go.Proofs
set_option linter.unusedVariables false
set_option linter.unusedSimpArgs false
attribute [local irreducible] callE
def mItem (m : Int) (x : Item) : Item := ⟨decide (m.tmod 3 = 0), m + 1⟩
def wItem (x : Item) : Nat := 2
def mWho (m : Int) (x : Who) : Who := ⟨m, m + 1⟩
def wWho (x : Who) : Nat := 2
def mInsL (m : Int) (x : List Ins) : List Ins := marks mIns wIns m x
def wInsL (x : List Ins) : Nat := 5 * x.length
def mItemL (m : Int) (x : List Item) : List Item := marks mItem wItem m x
def wItemL (x : List Item) : Nat := 2 * x.length
def mEventL (m : Int) (x : List Event) : List Event := marks mEvent wEvent m x
def wEventL (x : List Event) : Nat := 3 * x.length
def mState (m : Int) (x : State) : State := ⟨m, marksI (m + 1) x.regs, marksI (m + 1 + x.regs.length) x.out, m + 1 + x.regs.length + x.out.length⟩
def wState (x : State) : Nat := 2 + x.regs.length + x.out.length
def sysW (P : List (List Ins)) (S : List State) (W : List (List Item)) (H : List (List Event)) : Nat := wts wInsL P + (wts wState S + (wts wItemL W + wts wEventL H))
def mkP (m : Int) (P : List (List Ins)) : List (List Ins) := marks mInsL wInsL m P
def mkS (m : Int) (P : List (List Ins)) (S : List State) : List State := marks mState wState (m + wts wInsL P) S
def mkW (m : Int) (P : List (List Ins)) (S : List State) (W : List (List Item)) : List (List Item) := marks mItemL wItemL (m + wts wInsL P + wts wState S) W
def mkH (m : Int) (P : List (List Ins)) (S : List State) (W : List (List Item)) (H : List (List Event)) : List (List Event) := marks mEventL wEventL (m + wts wInsL P + wts wState S + wts wItemL W) H
end Go.Proofs.YtipfcgbhaalcdaaGreat.Abs
namespace Go.Proofs.YtipfcgbhaalcdaaGreat.Abs
open Go Go.Proofs
set_option linter.unusedVariables false
set_option linter.unusedSimpArgs false
attribute [local irreducible] callE
structure SysG (X : Sys) : Prop where
 b : SysB 1048576 X.progs X.states X.ways X.hist
 w : sysW X.progs X.states X.ways X.hist ≤ 500000000
theorem sysG_of {X : Sys} (hB : SysB 1048576 X.progs X.states X.ways X.hist) (n1 : X.progs.length ≤ 4) (n2 : X.states.length ≤ 4) (n3 : X.ways.length ≤ 16) (n4 : X.hist.length ≤ 4) : SysG X := by
 refine ⟨hB, ?_⟩
 have h1 := wts_bound wInsL 5242880 X.progs fun j hj => by have := hB.pp j hj; unfold wInsL; omega
 have h2 := wts_bound wState 2097154 X.states fun j hj => by have := hB.ss j hj; unfold wState; omega
 have h3 := wts_bound wItemL 2097152 X.ways fun j hj => by have := hB.ww j hj; unfold wItemL; omega
 have h4 := wts_bound wEventL 3145728 X.hist fun j hj => by have := hB.hh j hj; unfold wEventL; omega
 unfold sysW
 omega
end Go.Proofs.YtipfcgbhaalcdaaGreat.Abs
namespace Go.Proofs.YtipfcgbhaalcdaaGreat.Abs
open Go Go.Proofs
set_option linter.unusedVariables false
set_option linter.unusedSimpArgs false
attribute [local irreducible] callE
def askedOf (x : Ins) (peer : Int) : Int := if x.n = 9 then peer else x.n
def srcIs (n : Nat) (W : List (List Item)) (p : Nat) (q : Int) : Int × Int :=
 if 0 ≤ q ∧ q ≤ (n : Int) - 1 then (if (rd W (q.toNat * n + p)).length = 0 then (0, 3) else if (rd (rd W (q.toNat * n + p)) 0).mark = true then (0, 5) else (q, 0)) else (0, 2)
def wantsOf (P : List (List Ins)) (S : List State) (p : Nat) : Event := next (rd P p) (rd S p)
def insAt (P : List (List Ins)) (S : List State) (p : Nat) : Ins := rd (rd P p) (rd S p).at_.toNat
def comingIs (P : List (List Ins)) (S : List State) (W : List (List Item)) (H : List (List Event)) (p peer : Int) : Event × Int :=
 if 0 ≤ p ∧ p ≤ (P.length : Int) - 1 then
  (if (rd S p.toNat).code = 0 then
   (if (200 : Int) ≤ ((rd H p.toNat).length : Int) then (⟨0, 0, 0⟩, 4) else
    if (wantsOf P S p.toNat).kind = 2 then (if (12 : Int) ≤ ((rd W (p.toNat * P.length + (wantsOf P S p.toNat).peer.toNat)).length : Int) then (⟨0, 0, 0⟩, 4) else (wantsOf P S p.toNat, 0))
    else if (wantsOf P S p.toNat).kind = 3 then
     (if (srcIs P.length W p.toNat (askedOf (insAt P S p.toNat) peer)).2 = 0 then (⟨3, askedOf (insAt P S p.toNat) peer, (rd (rd W ((askedOf (insAt P S p.toNat) peer).toNat * P.length + p.toNat)) 0).v⟩, 0) else (⟨0, 0, 0⟩, (srcIs P.length W p.toNat (askedOf (insAt P S p.toNat) peer)).2))
    else (wantsOf P S p.toNat, 0))
  else (⟨0, 0, 0⟩, 6))
 else (⟨0, 0, 0⟩, 2)
def stepW (n : Nat) (W : List (List Item)) (p : Nat) (e : Event) : List (List Item) :=
 if e.kind = 2 then W.set (p * n + e.peer.toNat) (rd W (p * n + e.peer.toNat) ++ [⟨false, e.v⟩]) else if e.kind = 3 then W.set (e.peer.toNat * n + p) ((rd W (e.peer.toNat * n + p)).drop 1) else W
def stepS (P : List (List Ins)) (S : List State) (W : List (List Item)) (H : List (List Event)) (p : Nat) (e : Event) : Sys :=
 ⟨P, S.set p (did (rd P p) (rd S p) e), stepW P.length W p e, H.set p (rd H p ++ [e])⟩
def stepIs (P : List (List Ins)) (S : List State) (W : List (List Item)) (H : List (List Event)) (p peer : Int) : Sys × Int :=
 if (comingIs P S W H p peer).2 = 0 then (stepS P S W H p.toNat (comingIs P S W H p peer).1, 0) else (⟨P, S, W, H⟩, (comingIs P S W H p peer).2)
structure ComesAt (P : List (List Ins)) (S : List State) (W : List (List Item)) (H : List (List Event)) (p : Nat) (e : Event) : Prop where
 lt : p < P.length
 code : (rd S p).code = 0
 few : (rd H p).length < 200
 comes : comes e (next (rd P p) (rd S p)) = true
 send : e.kind = 2 → (0 ≤ e.peer ∧ e.peer.toNat < P.length) ∧ (rd W (p * P.length + e.peer.toNat)).length < 12
 take : e.kind = 3 → (0 ≤ e.peer ∧ e.peer.toNat < P.length) ∧ 0 < (rd W (e.peer.toNat * P.length + p)).length ∧ (rd (rd W (e.peer.toNat * P.length + p)) 0).mark = false ∧ e.v = (rd (rd W (e.peer.toNat * P.length + p)) 0).v
theorem next_kind {l : List Ins} {s : State} : (next l s).kind = 2 ∧ (rd l s.at_.toNat).op = 6 ∧ (next l s).peer = (rd l s.at_.toNat).n ∨ (next l s).kind = 3 ∧ (rd l s.at_.toNat).op = 7 ∧ next l s = ⟨3, (rd l s.at_.toNat).n, 0⟩ ∨ (next l s).kind ≠ 2 ∧ (next l s).kind ≠ 3 := by
 unfold next
 by_cases h6 : (rd l s.at_.toNat).op = 6
 ·left; simp [h6]
 ·by_cases h7 : (rd l s.at_.toNat).op = 7
  ·right; left; simp [h7]
  ·right; right
   by_cases h8 : (rd l s.at_.toNat).op = 8 <;> simp [h6, h7, h8]
theorem insOk_peer {x : Ins} {m n : Int} (h : insOk x m n = true) (h6 : x.op = 6) : 0 ≤ x.n ∧ x.n ≤ n - 1 := by
 simp only [insOk, h6, inB, Bool.and_eq_true, decide_eq_true_eq] at h
 simp at h
 omega
theorem comes_self {w : Event} (h : w.kind ≠ 3) : comes w w = true := by rw [comes_other h]; simp
theorem coming_comes {P : List (List Ins)} {S : List State} {W : List (List Item)} {H : List (List Event)} {p peer : Int} (hs : sysOk P S W H = true) (h : (comingIs P S W H p peer).2 = 0) : 0 ≤ p ∧ ComesAt P S W H p.toNat (comingIs P S W H p peer).1 := by
 simp only [sysOk, sizesOk, inB, Bool.and_eq_true, decide_eq_true_eq, allBelow_eq, List.all_eq_true] at hs
 obtain ⟨⟨a1, a2, a3, a4⟩, b1, b2, b3, b4⟩ := hs
 unfold comingIs at h ⊢
 by_cases c1 : 0 ≤ p ∧ p ≤ (P.length : Int) - 1
 ·rw [if_pos c1] at h ⊢
  refine ⟨c1.1, ?_⟩
  have hp : p.toNat < P.length := by omega
  have hpr := b2 p.toNat hp
  simp only [procOk, Bool.and_eq_true] at hpr
  obtain ⟨e1, e2, e3, e4, e5⟩ := stood_evOk hpr.2.2
  have hat0 := e2.at0
  have hat1 := e2.at1
  have hio := progOk_iok e3 (i := (rd S p.toNat).at_.toNat) (by omega)
  by_cases c2 : (rd S p.toNat).code = 0
  ·rw [if_pos c2] at h ⊢
   by_cases c3 : (200 : Int) ≤ ((rd H p.toNat).length : Int)
   ·rw [if_pos c3] at h; exact absurd h (by show ¬ (4 : Int) = 0; decide)
   ·rw [if_neg c3] at h ⊢
    by_cases c4 : (wantsOf P S p.toNat).kind = 2
    ·rw [if_pos c4] at h ⊢
     by_cases c5 : (12 : Int) ≤ ((rd W (p.toNat * P.length + (wantsOf P S p.toNat).peer.toNat)).length : Int)
     ·rw [if_pos c5] at h; exact absurd h (by show ¬ (4 : Int) = 0; decide)
     ·rw [if_neg c5] at h ⊢
      have hk := @next_kind (rd P p.toNat) (rd S p.toNat)
      have hpe : 0 ≤ (wantsOf P S p.toNat).peer ∧ (wantsOf P S p.toNat).peer ≤ (P.length : Int) - 1 := by
       rcases hk with hk | hk | hk
       ·have h6 := hk.2.1
        have hx : insOk (rd (rd P p.toNat) (rd S p.toNat).at_.toNat) (rd P p.toNat).length P.length = true := by
         have h1 := hpr.1
         simp only [progOk, Bool.and_eq_true, List.all_eq_true] at h1
         exact h1.2 _ (rd_mem (by omega))
        show 0 ≤ (next _ _).peer ∧ (next _ _).peer ≤ _
        rw [hk.2.2]
        exact insOk_peer hx h6
       ·exact absurd hk.1 (by show ¬ (wantsOf P S p.toNat).kind = 3; omega)
       ·exact absurd c4 hk.1
      exact ⟨hp, c2, by omega, comes_self (by show (wantsOf P S p.toNat).kind ≠ 3; omega), fun _ => ⟨⟨hpe.1, by show (wantsOf P S p.toNat).peer.toNat < _; omega⟩, by show (rd W (p.toNat * P.length + (wantsOf P S p.toNat).peer.toNat)).length < 12; omega⟩, fun h3 => absurd h3 (by show ¬ (wantsOf P S p.toNat).kind = 3; omega)⟩
    ·rw [if_neg c4] at h ⊢
     by_cases c6 : (wantsOf P S p.toNat).kind = 3
     ·rw [if_pos c6] at h ⊢
      generalize hq : askedOf (insAt P S p.toNat) peer = q at h ⊢
      by_cases c7 : (srcIs P.length W p.toNat q).2 = 0
      ·rw [if_pos c7] at h ⊢
       unfold srcIs at c7
       by_cases d1 : 0 ≤ q ∧ q ≤ (P.length : Int) - 1
       ·rw [if_pos d1] at c7
        by_cases d2 : (rd W (q.toNat * P.length + p.toNat)).length = 0
        ·rw [if_pos d2] at c7; exact absurd c7 (by show ¬ (3 : Int) = 0; decide)
        ·rw [if_neg d2] at c7
         by_cases d3 : (rd (rd W (q.toNat * P.length + p.toNat)) 0).mark = true
         ·rw [if_pos d3] at c7; exact absurd c7 (by show ¬ (5 : Int) = 0; decide)
         ·have hpl := place_lt (n := P.length) (a := q.toNat) (b := p.toNat) (by omega) hp
          have hw := b1 (rd W (q.toNat * P.length + p.toNat)) (rd_mem (by omega))
          simp only [wayOk, Bool.and_eq_true, List.all_eq_true] at hw
          have hit := hw.2 (rd (rd W (q.toNat * P.length + p.toNat)) 0) (rd_mem (by omega))
          simp only [itemOk, numOk, Bool.and_eq_true, decide_eq_true_eq] at hit
          have hk := @next_kind (rd P p.toNat) (rd S p.toNat)
          have h7 : (rd (rd P p.toNat) (rd S p.toNat).at_.toNat).op = 7 ∧ next (rd P p.toNat) (rd S p.toNat) = ⟨3, (rd (rd P p.toNat) (rd S p.toNat).at_.toNat).n, 0⟩ := by
           rcases hk with hk | hk | hk
           ·exact absurd hk.1 c4
           ·exact hk.2
           ·exact absurd c6 hk.2
          have htk := hio.take h7.1
          refine ⟨hp, c2, by omega, ?_, fun h3 => absurd h3 (by show ¬ (3 : Int) = 2; decide), fun _ => ⟨⟨d1.1, by show q.toNat < _; omega⟩, by show 0 < (rd W (q.toNat * P.length + p.toNat)).length; omega, by simpa using d3, rfl⟩⟩
          rw [h7.2, comes_take]
          refine ⟨rfl, hit.1, ?_⟩
          show q = _ ∧ _ ∨ _ ∧ 0 ≤ q ∧ q ≤ 3
          rw [← hq]
          unfold askedOf insAt
          by_cases h9 : (rd (rd P p.toNat) (rd S p.toNat).at_.toNat).n = 9
          ·right
           rw [if_pos h9]
           refine ⟨h9, ?_⟩
           have : q = peer := by rw [← hq, askedOf, insAt, if_pos h9]
           omega
          ·left
           rw [if_neg h9]
           exact ⟨rfl, h9⟩
       ·rw [if_neg d1] at c7; exact absurd c7 (by show ¬ (2 : Int) = 0; decide)
      ·rw [if_neg c7] at h; exact absurd h c7
     ·rw [if_neg c6] at h ⊢
      exact ⟨hp, c2, by omega, comes_self c6, fun h3 => absurd h3 c4, fun h3 => absurd h3 c6⟩
  ·rw [if_neg c2] at h; exact absurd h (by show ¬ (6 : Int) = 0; decide)
 ·rw [if_neg c1] at h; exact absurd h (by show ¬ (2 : Int) = 0; decide)
theorem rd_put {α : Type} [Inhabited α] {l : List α} {b q : Nat} (x : α) (hb : b < l.length) : rd (l.set b x) q = if q = b then x else rd l q := by
 simp only [rd, List.getD_eq_getElem?_getD, List.getElem?_set]
 by_cases h : b = q
 ·subst h; simp [hb]
 ·rw [if_neg h, if_neg (fun e => h e.symm)]
theorem vals_end (es : List Event) (e : Event) (x y : Int) : vals (es ++ [e]) x y = vals es x y ++ (if isEv x y e = true then [e.v] else []) := by
 simp only [vals, List.filter_append, List.map_append]
 by_cases h : isEv x y e = true
 ·rw [if_pos h]; simp [h]
 ·rw [if_neg h]; simp [h]
theorem numbers_end (w : List Item) (v : Int) : numbersOf (w ++ [⟨false, v⟩]) = numbersOf w ++ [v] := by simp [numbersOf]
theorem numbers_drop {w : List Item} (h : 0 < w.length) (hm : (rd w 0).mark = false) : numbersOf w = (rd w 0).v :: numbersOf (w.drop 1) := by
 cases w with
 | nil => simp at h
 | cons x w =>
  have e : rd (x :: w) 0 = x := rfl
  rw [e] at hm ⊢
  simp [numbersOf, hm]
theorem reach_more {H : List (List Event)} {p : Nat} {e : Event} (hP : PeersIn H) (hp : p < H.length) {f : List Int} {n : Nat} (h : Reach H f n) : Reach (H.set p (rd H p ++ [e])) f n := by
 have hr : ∀ q, rd (H.set p (rd H p ++ [e])) q = if q = p then rd H p ++ [e] else rd H q := fun q => rd_put _ hp
 have hpre : ∀ q (k : Nat), k ≤ (rd H q).length → (rd (H.set p (rd H p ++ [e])) q).take k = (rd H q).take k := fun q k hk => by
  rw [hr]
  split
  ·rename_i hq; subst hq; rw [List.take_append_of_le_length hk]
  ·rfl
 have hel : ∀ q (k : Nat), k < (rd H q).length → rd (rd (H.set p (rd H p ++ [e])) q) k = rd (rd H q) k := fun q k hk => by
  rw [hr]
  split
  ·rename_i hq; subst hq; simp only [rd, List.getD_eq_getElem?_getD] at hk ⊢; rw [List.getElem?_append_left hk]
  ·rfl
 induction h with
 | zero =>
  have := @Reach.zero (H.set p (rd H p ++ [e]))
  rwa [List.length_set] at this
 | @step f n q h hq hc ih =>
  have hf := h.fok
  have hlt := can_lt hf hq hc
  have h0 := (hf.rng q hq).1
  refine ih.step (by rw [List.length_set]; exact hq) ?_
  unfold canCome at hc ⊢
  rw [hel q _ (by omega), hpre q _ (by omega)]
  simp only [Bool.and_eq_true, Bool.not_eq_true', Bool.and_eq_false_iff, decide_eq_true_eq, decide_eq_false_iff_not] at hc ⊢
  refine ⟨?_, ?_⟩
  ·rw [hr]
   split
   ·rename_i hq'; subst hq'; simp; omega
   ·exact hc.1
  ·rcases hc.2 with h1 | h1
   ·exact .inl h1
   ·by_cases hk : (rd (rd H q) (rd f q).toNat).kind = 3
    ·right
     have hpe := hP q hq (rd f q).toNat (by omega) hk
     have hfr := hf.rng (rd (rd H q) (rd f q).toNat).peer.toNat (by omega)
     rw [hpre _ _ (by omega)]
     exact h1
    ·exact .inl hk
theorem allEv_set : ∀ {H : List (List Event)} {p : Nat} {e : Event}, p < H.length → allEv (H.set p (rd H p ++ [e])) = allEv H + 1
 | h :: H, 0, e, _ => by simp [allEv, rd]; omega
 | h :: H, p + 1, e, hp => by
  have := allEv_set (H := H) (p := p) (e := e) (by simpa using hp)
  simp only [allEv, List.set_cons_succ, List.map_cons, List.sum_cons] at this ⊢
  rw [show rd (h :: H) (p + 1) = rd H p from rfl, this]
  omega

theorem step_fits {P : List (List Ins)} {S : List State} {W : List (List Item)} {H : List (List Event)} {p : Nat} {e : Event} (hh : H.length = P.length) (hwl : W.length = P.length * P.length) (hc : ComesAt P S W H p e) {a b : Nat} (ha : a < P.length) (hb : b < P.length) (h : fits P.length W H a b = true) : fits P.length (stepW P.length W p e) (H.set p (rd H p ++ [e])) a b = true := by
 have hp := hc.lt
 have hr : ∀ q, rd (H.set p (rd H p ++ [e])) q = if q = p then rd H p ++ [e] else rd H q := fun q => rd_put _ (by omega)
 have hv : ∀ q (x y : Int), vals (rd (H.set p (rd H p ++ [e])) q) x y = vals (rd H q) x y ++ (if q = p ∧ isEv x y e = true then [e.v] else []) := fun q x y => by
  rw [hr]
  by_cases hq : q = p
  ·subst hq
   rw [if_pos rfl, vals_end]
   by_cases hi : isEv x y e = true
   ·rw [if_pos hi, if_pos ⟨rfl, hi⟩]
   ·rw [if_neg hi, if_neg (fun h => hi h.2)]
  ·rw [if_neg hq, if_neg (fun h => hq h.1), List.append_nil]
 simp only [fits, decide_eq_true_eq] at h ⊢
 rw [hv, hv]
 unfold stepW
 by_cases k2 : e.kind = 2
 ·have hs := hc.send k2
  rw [if_pos k2, if_neg (show ¬ (b = p ∧ isEv 3 a e = true) by simp [isEv, k2]), List.append_nil]
  have hpl := place_lt hp hs.1.2
  rw [rd_put _ (by omega)]
  by_cases hab : a = p ∧ b = e.peer.toNat
  ·obtain ⟨rfl, rfl⟩ := hab
   rw [if_pos rfl, if_pos ⟨rfl, by simp [isEv, k2]; omega⟩, numbers_end, ← List.append_assoc, h]
  ·have hne : ¬ a * P.length + b = p * P.length + e.peer.toNat := fun he => by
    have h1 := place_div (n := P.length) (a := a) hb
    have h2 := place_div (n := P.length) (a := p) hs.1.2
    rw [he] at h1
    exact hab ⟨by rw [← h1.1, h2.1], by rw [← h1.2, h2.2]⟩
   rw [if_neg hne, if_neg (fun h3 => hab ⟨h3.1, by have := h3.2; simp [isEv, k2] at this; omega⟩), List.append_nil, h]
 ·rw [if_neg k2, if_neg (show ¬ (a = p ∧ isEv 2 b e = true) by simp [isEv, k2]), List.append_nil]
  by_cases k3 : e.kind = 3
  ·have ht := hc.take k3
   rw [if_pos k3]
   have hpl := place_lt ht.1.2 hp
   rw [rd_put _ (by omega)]
   by_cases hab : a = e.peer.toNat ∧ b = p
   ·obtain ⟨rfl, rfl⟩ := hab
    rw [if_pos rfl, if_pos ⟨rfl, by simp [isEv, k3]; omega⟩, ht.2.2.2, ← h, numbers_drop ht.2.1 ht.2.2.1]
    simp
   ·have hne : ¬ a * P.length + b = e.peer.toNat * P.length + p := fun he => by
     have h1 := place_div (n := P.length) (a := a) hb
     have h2 := place_div (n := P.length) (a := e.peer.toNat) hp
     rw [he] at h1
     exact hab ⟨by rw [← h1.1, h2.1], by rw [← h1.2, h2.2]⟩
    rw [if_neg hne, if_neg (fun h3 => hab ⟨by have := h3.2; simp [isEv, k3] at this; omega, h3.1⟩), List.append_nil, h]
  ·rw [if_neg k3, if_neg (show ¬ (b = p ∧ isEv 3 a e = true) by simp [isEv, k3]), List.append_nil, h]
theorem step_row {P : List (List Ins)} {S : List State} {W : List (List Item)} {H : List (List Event)} {p : Nat} {e : Event} (hs : sysOk P S W H = true) (hc : ComesAt P S W H p e) : inRow (H.set p (rd H p ++ [e])) = true := by
 obtain ⟨hI, hP, hS, h200⟩ := sysOk_facts hs
 simp only [sysOk, Bool.and_eq_true, allBelow_eq] at hs
 obtain ⟨_, _, _, b3, b4⟩ := hs
 have hHl := hI.h
 have hp := hc.lt
 have hpH : p < H.length := by omega
 simp only [inRow, decide_eq_true_eq] at b4 ⊢
 obtain ⟨g, k, h1, h2, h3⟩ := greedy_reach (H := H) (allEv H) .zero (by omega)
 have e1 : k = allEv H := by unfold rowOf at b4; omega
 have hg := (sum_le H g h1.fok.len fun q hq => (h1.fok.rng q hq).2).2 (by rw [h1.sum, e1])
 have hr : ∀ q, rd (H.set p (rd H p ++ [e])) q = if q = p then rd H p ++ [e] else rd H q := fun q => rd_put _ hpH
 have h4 := reach_more (e := e) hP hpH h1
 have hPI : PeersIn (H.set p (rd H p ++ [e])) := by
  intro q hq i hi hk
  rw [List.length_set] at hq ⊢
  rw [hr] at hi hk ⊢
  split at hi
  ·rename_i hqp; subst hqp
   rw [if_pos rfl] at hk ⊢
   rw [List.length_append, List.length_singleton] at hi
   by_cases hil : i < (rd H q).length
   ·have e0 : rd (rd H q ++ [e]) i = rd (rd H q) i := by simp only [rd, List.getD_eq_getElem?_getD] at hil ⊢; rw [List.getElem?_append_left hil]
    rw [e0] at hk ⊢
    exact hP q hq i hil hk
   ·have e0 : rd (rd H q ++ [e]) i = e := by
     have : i = (rd H q).length := by omega
     rw [this]; simp [rd]
    rw [e0] at hk ⊢
    have := (hc.take hk).1
    omega
  ·rename_i hqp
   rw [if_neg hqp] at hk ⊢
   exact hP q hq i hi hk
 have hcan : canCome (H.set p (rd H p ++ [e])) g p = true := by
  unfold canCome
  have hgp := hg p hpH
  rw [hr, if_pos rfl, hgp]
  have e0 : rd (rd H p ++ [e]) (((rd H p).length : Int).toNat) = e := by simp [rd]
  rw [e0]
  simp only [Bool.and_eq_true, Bool.not_eq_true', Bool.and_eq_false_iff, decide_eq_true_eq, decide_eq_false_iff_not]
  refine ⟨by rw [List.length_append, List.length_singleton]; omega, ?_⟩
  by_cases k3 : e.kind = 3
  ·right
   have ht := hc.take k3
   have hz : e.peer.toNat < H.length := by omega
   have hgz := hg _ hz
   have e5 : (rd (H.set p (rd H p ++ [e])) e.peer.toNat).take (rd g e.peer.toNat).toNat = rd H e.peer.toNat := by
    rw [hr, hgz]
    split
    ·rename_i hq; rw [hq]; simp
    ·simp
   have e6 : (rd H p ++ [e]).take (((rd H p).length : Int).toNat) = rd H p := by simp
   rw [e5, e6]
   have hf := b3 e.peer.toNat (by omega) p hp
   simp only [fits, decide_eq_true_eq] at hf
   have h5 := congrArg List.length hf
   rw [List.length_append, numbers_drop ht.2.1 ht.2.2.1, List.length_cons] at h5
   rw [show ((e.peer.toNat : Nat) : Int) = e.peer by omega] at h5
   simp only [cnt]
   omega
  ·exact .inl k3
 have h6 := h4.step (by rw [List.length_set]; exact hpH) hcan
 have ha := allEv_set (e := e) hpH
 rw [ha]
 have hfull := h6.full (by omega)
 rw [row_len hPI h6 hfull, e1]
theorem replay_more {l : List Ins} {es : List Event} {s : State} {e : Event} (h : stoodAs l es s = true) (hc : s.code = 0) (hn : es.length < 200) (hk : comes e (next l s) = true) : stoodAs l (es ++ [e]) (did l s e) = true := by
 obtain ⟨_, _, h3, h4, h5⟩ := stood_evOk h
 have e1 : replayAll l (es ++ [e]) = some (did l s e) := by
  unfold replayAll
  rw [if_pos ⟨h3, by rw [List.length_append, List.length_singleton]; omega⟩, replay_append, h5]
  show replay l s [e] = _
  rw [replay, if_pos ⟨hc, hk⟩, replay]
 simp only [stoodAs, e1, Option.isSome_some, Bool.true_and, decide_eq_true_eq]
 rfl
theorem step_sysOk {P : List (List Ins)} {S : List State} {W : List (List Item)} {H : List (List Event)} {p : Nat} {e : Event} (hs : sysOk P S W H = true) (hc : ComesAt P S W H p e) :
  sysOk P (S.set p (did (rd P p) (rd S p) e)) (stepW P.length W p e) (H.set p (rd H p ++ [e])) = true := by
 have hrow := step_row hs hc
 simp only [sysOk, sizesOk, inB, Bool.and_eq_true, decide_eq_true_eq, allBelow_eq, List.all_eq_true] at hs ⊢
 obtain ⟨⟨a1, a2, a3, a4⟩, b1, b2, b3, b4⟩ := hs
 have hp := hc.lt
 have hpr := b2 p hp
 simp only [procOk, Bool.and_eq_true] at hpr
 obtain ⟨e1, e2, e3, e4, e5⟩ := stood_evOk hpr.2.2
 have hat0 := e2.at0
 have hat1 := e2.at1
 have hio := progOk_iok e3 (i := (rd S p).at_.toNat) (by omega)
 have hev := comes_evOk e2 hio hc.comes
 have hwl : (stepW P.length W p e).length = W.length := by
  unfold stepW
  split
  ·rw [List.length_set]
  ·split
   ·rw [List.length_set]
   ·rfl
 refine ⟨⟨a1, by rw [List.length_set]; exact a2, by rw [List.length_set]; exact a3, by rw [hwl]; exact a4⟩, ?_, ?_, fun a ha b hb => step_fits a3 a4 hc ha hb (b3 a ha b hb), hrow⟩
 ·intro w hw
  unfold stepW at hw
  split at hw
  ·rename_i k2
   have hsd := hc.send k2
   have hpl := place_lt hp hsd.1.2
   rcases List.mem_or_eq_of_mem_set hw with h | h
   ·exact b1 w h
   ·have h1 := b1 _ (rd_mem (l := W) (n := p * P.length + e.peer.toNat) (by omega))
    have hnum := comes_num e2 hio hc.comes k2
    rw [h]
    simp only [wayOk, Bool.and_eq_true, decide_eq_true_eq, List.all_append] at h1 ⊢
    refine ⟨by rw [List.length_append, List.length_singleton]; omega, h1.2, ?_⟩
    simp [itemOk, numOk, hnum]
  ·split at hw
   ·rename_i k3
    have ht := hc.take k3
    have hpl := place_lt ht.1.2 hp
    rcases List.mem_or_eq_of_mem_set hw with h | h
    ·exact b1 w h
    ·have h1 := b1 _ (rd_mem (l := W) (n := e.peer.toNat * P.length + p) (by omega))
     rw [h]
     simp only [wayOk, Bool.and_eq_true, decide_eq_true_eq, List.all_eq_true] at h1 ⊢
     exact ⟨by rw [List.length_drop]; omega, fun x hx => h1.2 x (List.mem_of_mem_drop hx)⟩
   ·exact b1 w hw
 ·intro q hq
  have h1 := b2 q hq
  simp only [procOk, Bool.and_eq_true] at h1 ⊢
  rw [rd_put _ (show p < H.length by omega), rd_put _ (show p < S.length by omega)]
  by_cases hqp : q = p
  ·subst hqp
   rw [if_pos rfl, if_pos rfl]
   refine ⟨h1.1, ?_, replay_more h1.2.2 hc.code hc.few hc.comes⟩
   simp only [peersOk, List.all_append, Bool.and_eq_true] at h1 ⊢
   refine ⟨h1.2.1, ?_⟩
   simp only [List.all_cons, List.all_nil, Bool.and_true, peerOk, Bool.not_eq_true', Bool.and_eq_false_iff, Bool.or_eq_false_iff, decide_eq_false_iff_not, inB, Bool.not_eq_false', decide_eq_true_eq]
   by_cases k2 : e.kind = 2
   ·right; have := (hc.send k2).1; omega
   ·by_cases k3 : e.kind = 3
    ·right; have := (hc.take k3).1; omega
    ·left; exact ⟨k2, k3⟩
  ·rw [if_neg hqp, if_neg hqp]
   exact h1
theorem i_wayAt_no (k : Nat) (P : List (List Ins)) (S : List State) (W : List (List Item)) (H : List (List Event)) (a b : Int) (hp : P.length ≤ 100000000000) (h : ¬ (0 ≤ a ∧ a ≤ (P.length : Int) - 1)) :
  callE PR C (k + 2) 146 [aSys 0 P S W H, i64 a, i64 b] [tInsSS P, tStateS S, tItemSS W, tEventSS H] = some ⟨i64 (-1), [], [none, none, none, none]⟩ := by
 have q1 := fun k => i_in k a 0 ((P.length : Int) - 1)
 rw [decide_eq_false h] at q1
 (refine fnI [ResultVar.tmp 6] Tryz.func146 ?_; conv => whnf)
 repeat' ((with_reducible (first | refine sCall.of (q1 _) ?_|refine st16 ?_|refine gA ?_ ?_<;>intro _|refine gE ?_ ?_<;>intro _)) <;> (try (conv => whnf)))
 all_goals rfl
theorem i_source (k : Nat) (P : List (List Ins)) (S : List State) (W : List (List Item)) (H : List (List Event)) (p : Nat) (peer : Int) (x : Ins) (hb : SysB 100000000000 P S W H) (hI : SysIs P S W H) (hp : p < P.length) :
  callE PR C (k + 3) 239 [aSys 0 P S W H, i64 (p : Nat), i64 peer, aIns x] [tInsSS P, tStateS S, tItemSS W, tEventSS H] = some ⟨.tu [i64 (srcIs P.length W p (askedOf x peer)).1, i64 (srcIs P.length W p (askedOf x peer)).2], [], [none, none, none, none]⟩ := by
 have hN := hI.n
 have hw := hI.w
 generalize hq : askedOf x peer = q
 by_cases d1 : 0 ≤ q ∧ q ≤ (P.length : Int) - 1
 ·obtain ⟨q, rfl⟩ : ∃ n : Nat, q = (n : Int) := ⟨q.toNat, by omega⟩
  have q1 := fun k => i_wayAt k P S W H q p hb (by omega) hp hN.2 hw
  have hpl := place_lt (n := P.length) (a := q) (b := p) (by omega) hp
  have hwb := hb.ww (q * P.length + p) (by omega)
  obtain ⟨ix, hix⟩ : ∃ ix, ix = q * P.length + p := ⟨_, rfl⟩
  have hsrc : srcIs P.length W p q = (if (rd W ix).length = 0 then (0, 3) else if (rd (rd W ix) 0).mark = true then (0, 5) else ((q : Int), 0)) := by
   unfold srcIs
   rw [if_pos d1, hix]
   rfl
  rw [← hix] at q1 hpl hwb
  rw [hsrc]
  clear hsrc hix
  have e4 : (List.map rItem (rd W ix)).length = (rd W ix).length := by simp
  by_cases c9 : x.n = 9
  ·rw [askedOf, if_pos c9] at hq
   subst hq
   by_cases d2 : (rd W ix).length = 0
   ·rw [if_pos d2]
    (refine fnI [ResultVar.tmp 8, ResultVar.tmp 9] Tryz.func239 ?_; conv => whnf)
    repeat' ((with_reducible (first | refine sCall.of (q1 _) ?_|refine st16 ?_|refine gA ?_ ?_<;>intro _|refine gE ?_ ?_<;>intro _)) <;> (try (conv => whnf)))
   ·rw [if_neg d2]
    cases d3 : (rd (rd W ix) 0).mark
    all_goals
     (refine fnI [ResultVar.tmp 8, ResultVar.tmp 9] Tryz.func239 ?_; conv => whnf)
     repeat' ((with_reducible (first | refine sCall.of (q1 _) ?_|refine st16 ?_|refine gA ?_ ?_<;>intro _|refine gE ?_ ?_<;>intro _)) <;> (try (conv => whnf)))
    all_goals rfl
  ·rw [askedOf, if_neg c9] at hq
   by_cases d2 : (rd W ix).length = 0
   ·rw [if_pos d2]
    rw [← hq] at q1
    (refine fnI [ResultVar.tmp 8, ResultVar.tmp 9] Tryz.func239 ?_; conv => whnf)
    repeat' ((with_reducible (first | refine sCall.of (q1 _) ?_|refine st16 ?_|refine gA ?_ ?_<;>intro _|refine gE ?_ ?_<;>intro _)) <;> (try (conv => whnf)))
   ·rw [if_neg d2]
    cases d3 : (rd (rd W ix) 0).mark
    all_goals
     rw [← hq] at q1 ⊢
     (refine fnI [ResultVar.tmp 8, ResultVar.tmp 9] Tryz.func239 ?_; conv => whnf)
     repeat' ((with_reducible (first | refine sCall.of (q1 _) ?_|refine st16 ?_|refine gA ?_ ?_<;>intro _|refine gE ?_ ?_<;>intro _)) <;> (try (conv => whnf)))
    all_goals rfl
 ·have q1 := fun k => i_wayAt_no k P S W H q p (by omega) d1
  rw [show srcIs P.length W p q = (0, 2) by unfold srcIs; rw [if_neg d1]]
  by_cases c9 : x.n = 9
  ·rw [askedOf, if_pos c9] at hq
   subst hq
   (refine fnI [ResultVar.tmp 8, ResultVar.tmp 9] Tryz.func239 ?_; conv => whnf)
   repeat' ((with_reducible (first | refine sCall.of (q1 _) ?_|refine st16 ?_|refine gA ?_ ?_<;>intro _|refine gE ?_ ?_<;>intro _)) <;> (try (conv => whnf)))
  ·rw [askedOf, if_neg c9] at hq
   rw [← hq] at q1
   (refine fnI [ResultVar.tmp 8, ResultVar.tmp 9] Tryz.func239 ?_; conv => whnf)
   repeat' ((with_reducible (first | refine sCall.of (q1 _) ?_|refine st16 ?_|refine gA ?_ ?_<;>intro _|refine gE ?_ ?_<;>intro _)) <;> (try (conv => whnf)))

theorem srcIs_ok {n : Nat} {W : List (List Item)} {p : Nat} {q : Int} (h : (srcIs n W p q).2 = 0) : (0 ≤ q ∧ q ≤ (n : Int) - 1) ∧ 0 < (rd W (q.toNat * n + p)).length ∧ (rd (rd W (q.toNat * n + p)) 0).mark = false ∧ srcIs n W p q = (q, 0) := by
 unfold srcIs at h ⊢
 by_cases d1 : 0 ≤ q ∧ q ≤ (n : Int) - 1
 ·rw [if_pos d1] at h ⊢
  by_cases d2 : (rd W (q.toNat * n + p)).length = 0
  ·rw [if_pos d2] at h; exact absurd h (by show ¬ (3 : Int) = 0; decide)
  ·rw [if_neg d2] at h ⊢
   by_cases d3 : (rd (rd W (q.toNat * n + p)) 0).mark = true
   ·rw [if_pos d3] at h; exact absurd h (by show ¬ (5 : Int) = 0; decide)
   ·rw [if_neg d3]; exact ⟨d1, by omega, by simpa using d3, rfl⟩
 ·rw [if_neg d1] at h; exact absurd h (by show ¬ (2 : Int) = 0; decide)
structure ProcF (P : List (List Ins)) (S : List State) (H : List (List Event)) (p : Nat) : Prop where
 ok : SOk (rd P p).length (rd S p)
 io : IOk (rd P p).length (rd (rd P p) (rd S p).at_.toNat)
 pl : (rd P p).length ≤ 30
 peer : (next (rd P p) (rd S p)).kind = 2 → 0 ≤ (next (rd P p) (rd S p)).peer ∧ (next (rd P p) (rd S p)).peer ≤ (P.length : Int) - 1
theorem procF_of {P : List (List Ins)} {S : List State} {W : List (List Item)} {H : List (List Event)} {p : Nat} (hs : sysOk P S W H = true) (hp : p < P.length) : ProcF P S H p := by
 simp only [sysOk, Bool.and_eq_true, allBelow_eq] at hs
 have hpr := hs.2.2.1 p hp
 simp only [procOk, Bool.and_eq_true] at hpr
 obtain ⟨e1, e2, e3, e4, e5⟩ := stood_evOk hpr.2.2
 have hat0 := e2.at0
 have hat1 := e2.at1
 refine ⟨e2, progOk_iok e3 (by omega), (progOk_len e3).2, fun h => ?_⟩
 rcases @next_kind (rd P p) (rd S p) with hk | hk | hk
 ·rw [hk.2.2]
  have h1 := hpr.1
  simp only [progOk, Bool.and_eq_true, List.all_eq_true] at h1
  exact insOk_peer (h1.2 _ (rd_mem (by omega))) hk.2.1
 ·omega
 ·exact absurd h hk.1
theorem i_coming (k : Nat) (P : List (List Ins)) (S : List State) (W : List (List Item)) (H : List (List Event)) (p peer : Int) (hb : SysB 10000000000 P S W H) (hs : sysOk P S W H = true) :
  callE PR C (k + 4) 151 [aSys 0 P S W H, i64 p, i64 peer] [tInsSS P, tStateS S, tItemSS W, tEventSS H] = some ⟨.tu [aEvent (comingIs P S W H p peer).1, i64 (comingIs P S W H p peer).2], [], [none, none, none, none]⟩ := by
 obtain ⟨hI, hP, hS', h200⟩ := sysOk_facts hs
 have hN := hI.n
 have hsl := hI.s
 have hwl := hI.w
 have hHl := hI.h
 have q1 := fun k => i_in k p 0 ((P.length : Int) - 1)
 by_cases c1 : 0 ≤ p ∧ p ≤ (P.length : Int) - 1
 ·rw [decide_eq_true c1] at q1
  obtain ⟨p, rfl⟩ : ∃ n : Nat, p = (n : Int) := ⟨p.toNat, by omega⟩
  have hp : p < P.length := by omega
  obtain ⟨f1, f2, f3, f4⟩ := procF_of hs hp
  have hh := h200 p (by omega)
  have e4 : (List.map rEvent (rd H p)).length = (rd H p).length := by simp
  have hat0 := f1.at0
  have hat1 := f1.at1
  by_cases c2 : (rd S p).code = 0
  ·by_cases c3 : (200 : Int) ≤ ((rd H p).length : Int)
   ·have hc : comingIs P S W H p peer = (⟨0, 0, 0⟩, 4) := by unfold comingIs; rw [if_pos c1, Int.toNat_natCast, if_pos c2, if_pos c3]
    rw [hc]
    (refine fnI [ResultVar.cell 6 85, ResultVar.tmp 7] Tryz.func151 ?_; conv => whnf)
    repeat' ((with_reducible (first | refine sCall.of (q1 _) ?_|refine st16 ?_|refine gA ?_ ?_<;>intro _|refine gE ?_ ?_<;>intro _|refine gD 7 [(1, 11), (4, 11), (6, 11), (9, 11), (10, 11)] ?_|refine gD 10 [(1, 6)] ?_|refine gDn 13 ?_|refine gD 17 [(1, 5)] ?_)) <;> (try (conv => whnf)))
    all_goals rfl
   ·have q2 := fun k => i_next k (rd P p) (rd S p).at_ (rd S p).regs (rd S p).out (rd S p).code (by omega) f1 f2
    rcases @next_kind (rd P p) (rd S p) with hk | hk | hk
    ·have hpe := f4 hk.1
     obtain ⟨b, hbq⟩ : ∃ b : Nat, (next (rd P p) (rd S p)).peer = (b : Int) := ⟨_, (Int.toNat_of_nonneg hpe.1).symm⟩
     have q3 := fun k => i_wayAt k P S W H p b (hb.mono (by decide)) hp (by omega) hN.2 hwl
     have hpl := place_lt hp (show b < P.length by omega)
     have hk2 := hk.1
     have hc : comingIs P S W H p peer = (if (12 : Int) ≤ ((rd W (p * P.length + b)).length : Int) then (⟨0, 0, 0⟩, 4) else (next (rd P p) (rd S p), 0)) := by
      unfold comingIs
      rw [if_pos c1, Int.toNat_natCast, if_pos c2, if_neg c3, if_pos (show (wantsOf P S p).kind = 2 from hk2), show (wantsOf P S p).peer = (b : Int) from hbq, Int.toNat_natCast]
      rfl
     rw [hc]
     clear hc hk f4 hpe
     have q2 : ∀ k, callE PR C (k + 1) 238 [hIns 0 (rd P p), aState 1 (rd S p).at_ (rd S p).regs (rd S p).out (rd S p).code] [tIns (rd P p), tI (rd S p).regs, tI (rd S p).out] = some ⟨aEvent (next (rd P p) (rd S p)), [], [none, none, none]⟩ := q2
     generalize next (rd P p) (rd S p) = w at *
     rw [← hbq] at q3
     obtain ⟨ix, hix⟩ : ∃ ix, ix = p * P.length + b := ⟨_, rfl⟩
     rw [← hix] at q3 hpl ⊢
     have e5 : (List.map rItem (rd W ix)).length = (rd W ix).length := by simp
     by_cases c5 : (12 : Int) ≤ ((rd W ix).length : Int)
     ·rw [if_pos c5]
      (refine fnI [ResultVar.cell 6 85, ResultVar.tmp 7] Tryz.func151 ?_; conv => whnf)
      repeat' ((with_reducible (first | refine sCall.of (q1 _) ?_|refine sCall.of (q2 _) ?_|refine sCall.of (q3 _) ?_|refine st16 ?_|refine gA ?_ ?_<;>intro _|refine gE ?_ ?_<;>intro _|refine gD 7 [(1, 11), (4, 11), (6, 11), (9, 11), (10, 11)] ?_|refine gD 10 [(1, 6)] ?_|refine gDn 13 ?_|refine gD 17 [(1, 5)] ?_)) <;> (try (conv => whnf)))
      all_goals rfl
     ·rw [if_neg c5]
      (refine fnI [ResultVar.cell 6 85, ResultVar.tmp 7] Tryz.func151 ?_; conv => whnf)
      repeat' ((with_reducible (first | refine sCall.of (q1 _) ?_|refine sCall.of (q2 _) ?_|refine sCall.of (q3 _) ?_|refine st16 ?_|refine gA ?_ ?_<;>intro _|refine gE ?_ ?_<;>intro _|refine gD 7 [(1, 11), (4, 11), (6, 11), (9, 11), (10, 11)] ?_|refine gD 10 [(1, 6)] ?_|refine gDn 13 ?_|refine gD 17 [(1, 5)] ?_)) <;> (try (conv => whnf)))
      all_goals rfl
    ·have q2 : ∀ k, callE PR C (k + 1) 238 [hIns 0 (rd P p), aState 1 (rd S p).at_ (rd S p).regs (rd S p).out (rd S p).code] [tIns (rd P p), tI (rd S p).regs, tI (rd S p).out] = some ⟨aEvent ⟨3, (rd (rd P p) (rd S p).at_.toNat).n, 0⟩, [], [none, none, none]⟩ := fun k => by rw [← hk.2.2]; exact q2 k
     have q3 := fun k => i_source k P S W H p peer (rd (rd P p) (rd S p).at_.toNat) (hb.mono (by decide)) hI hp
     have hw3 : (wantsOf P S p).kind = 3 := hk.1
     by_cases c7 : (srcIs P.length W p (askedOf (insAt P S p) peer)).2 = 0
     ·obtain ⟨d1, d2, d3, d4⟩ := srcIs_ok c7
      have d4' : srcIs P.length W p (askedOf (rd (rd P p) (rd S p).at_.toNat) peer) = (askedOf (insAt P S p) peer, 0) := d4
      simp only [d4'] at q3
      have hc : comingIs P S W H p peer = (⟨3, askedOf (insAt P S p) peer, (rd (rd W ((askedOf (insAt P S p) peer).toNat * P.length + p)) 0).v⟩, 0) := by
       unfold comingIs
       rw [if_pos c1, Int.toNat_natCast, if_pos c2, if_neg c3, if_neg (by omega), if_pos hw3, if_pos c7]
      rw [hc]
      clear hc c7 d4 d4'
      generalize askedOf (insAt P S p) peer = q at *
      obtain ⟨q, rfl⟩ : ∃ n : Nat, q = (n : Int) := ⟨q.toNat, by omega⟩
      rw [Int.toNat_natCast] at d2 d3 ⊢
      have q4 := fun k => i_wayAt k P S W H q p (hb.mono (by decide)) (by omega) hp hN.2 hwl
      have hpl := place_lt (show q < P.length by omega) hp
      obtain ⟨ix, hix⟩ : ∃ ix, ix = q * P.length + p := ⟨_, rfl⟩
      rw [← hix] at q4 hpl d2 d3 ⊢
      have e5 : (List.map rItem (rd W ix)).length = (rd W ix).length := by simp
      (refine fnI [ResultVar.cell 6 85, ResultVar.tmp 7] Tryz.func151 ?_; conv => whnf)
      repeat' ((with_reducible (first | refine sCall.of (q1 _) ?_|refine sCall.of (q2 _) ?_|refine sCall.of (q3 _) ?_|refine sCall.of (q4 _) ?_|refine st16 ?_|refine gA ?_ ?_<;>intro _|refine gE ?_ ?_<;>intro _|refine gD 7 [(1, 11), (4, 11), (6, 11), (9, 11), (10, 11)] ?_|refine gD 10 [(1, 6)] ?_|refine gDn 13 ?_|refine gD 17 [(1, 5)] ?_)) <;> (try (conv => whnf)))
      all_goals rfl
     ·have hc : comingIs P S W H p peer = (⟨0, 0, 0⟩, (srcIs P.length W p (askedOf (insAt P S p) peer)).2) := by
       unfold comingIs
       rw [if_pos c1, Int.toNat_natCast, if_pos c2, if_neg c3, if_neg (by omega), if_pos hw3, if_neg c7]
      rw [hc]
      have q3 : ∀ k, callE PR C (k + 3) 239 [aSys 0 P S W H, i64 (p : Nat), i64 peer, aIns (rd (rd P p) (rd S p).at_.toNat)] [tInsSS P, tStateS S, tItemSS W, tEventSS H] = some ⟨.tu [i64 (srcIs P.length W p (askedOf (insAt P S p) peer)).1, i64 (srcIs P.length W p (askedOf (insAt P S p) peer)).2], [], [none, none, none, none]⟩ := q3
      generalize srcIs P.length W p (askedOf (insAt P S p) peer) = r at *
      (refine fnI [ResultVar.cell 6 85, ResultVar.tmp 7] Tryz.func151 ?_; conv => whnf)
      repeat' ((with_reducible (first | refine sCall.of (q1 _) ?_|refine sCall.of (q2 _) ?_|refine sCall.of (q3 _) ?_|refine st16 ?_|refine gA ?_ ?_<;>intro _|refine gE ?_ ?_<;>intro _|refine gD 7 [(1, 11), (4, 11), (6, 11), (9, 11), (10, 11)] ?_|refine gD 10 [(1, 6)] ?_|refine gDn 13 ?_|refine gD 17 [(1, 5)] ?_)) <;> (try (conv => whnf)))
      all_goals rfl
    ·have hc : comingIs P S W H p peer = (next (rd P p) (rd S p), 0) := by
      unfold comingIs
      rw [if_pos c1, Int.toNat_natCast, if_pos c2, if_neg c3, if_neg (show ¬ (wantsOf P S p).kind = 2 from hk.1), if_neg (show ¬ (wantsOf P S p).kind = 3 from hk.2)]
      rfl
     rw [hc]
     have hk2 := hk.1
     have hk3 := hk.2
     clear hc hk f4
     have q2 : ∀ k, callE PR C (k + 1) 238 [hIns 0 (rd P p), aState 1 (rd S p).at_ (rd S p).regs (rd S p).out (rd S p).code] [tIns (rd P p), tI (rd S p).regs, tI (rd S p).out] = some ⟨aEvent (next (rd P p) (rd S p)), [], [none, none, none]⟩ := q2
     generalize next (rd P p) (rd S p) = w at *
     (refine fnI [ResultVar.cell 6 85, ResultVar.tmp 7] Tryz.func151 ?_; conv => whnf)
     repeat' ((with_reducible (first | refine sCall.of (q1 _) ?_|refine sCall.of (q2 _) ?_|refine st16 ?_|refine gA ?_ ?_<;>intro _|refine gE ?_ ?_<;>intro _|refine gD 7 [(1, 11), (4, 11), (6, 11), (9, 11), (10, 11)] ?_|refine gD 10 [(1, 6)] ?_|refine gDn 13 ?_|refine gD 17 [(1, 5)] ?_)) <;> (try (conv => whnf)))
     all_goals rfl
  ·have hc : comingIs P S W H p peer = (⟨0, 0, 0⟩, 6) := by unfold comingIs; rw [if_pos c1, Int.toNat_natCast, if_neg c2]
   rw [hc]
   (refine fnI [ResultVar.cell 6 85, ResultVar.tmp 7] Tryz.func151 ?_; conv => whnf)
   repeat' ((with_reducible (first | refine sCall.of (q1 _) ?_|refine st16 ?_|refine gA ?_ ?_<;>intro _|refine gE ?_ ?_<;>intro _|refine gD 7 [(1, 11), (4, 11), (6, 11), (9, 11), (10, 11)] ?_|refine gD 10 [(1, 6)] ?_|refine gDn 13 ?_|refine gD 17 [(1, 5)] ?_)) <;> (try (conv => whnf)))
   all_goals rfl
 ·rw [decide_eq_false c1] at q1
  have hc : comingIs P S W H p peer = (⟨0, 0, 0⟩, 2) := by unfold comingIs; rw [if_neg c1]
  rw [hc]
  (refine fnI [ResultVar.cell 6 85, ResultVar.tmp 7] Tryz.func151 ?_; conv => whnf)
  repeat' ((with_reducible (first | refine sCall.of (q1 _) ?_|refine st16 ?_|refine gA ?_ ?_<;>intro _|refine gE ?_ ?_<;>intro _|refine gD 7 [(1, 11), (4, 11), (6, 11), (9, 11), (10, 11)] ?_|refine gD 10 [(1, 6)] ?_|refine gDn 13 ?_|refine gD 17 [(1, 5)] ?_)) <;> (try (conv => whnf)))
  all_goals rfl

theorem sysOk_G {P : List (List Ins)} {S : List State} {W : List (List Item)} {H : List (List Event)} (h : sysOk P S W H = true) : SysG ⟨P, S, W, H⟩ := by
 obtain ⟨hI, hP, hS, h200⟩ := sysOk_facts h
 have hN := hI.n
 have hsl := hI.s
 have hwl := hI.w
 have hHl := hI.h
 have hnn : P.length * P.length ≤ 4 * 4 := Nat.mul_le_mul hN.2 hN.2
 have h' := h
 simp only [sysOk, Bool.and_eq_true, List.all_eq_true] at h'
 refine sysG_of ⟨by show P.length ≤ _; omega, fun j hj => ?_, by show S.length ≤ _; omega, fun j hj => ?_, by show W.length ≤ _; omega, fun j hj => ?_, by show H.length ≤ _; omega, fun j hj => ?_⟩ hN.2 (by show S.length ≤ _; omega) (by show W.length ≤ _; omega) (by show H.length ≤ _; omega)
 ·have hj : j < P.length := hj
  have := (procF_of h hj).pl
  show (rd P j).length ≤ _
  omega
 ·have hj : j < S.length := hj
  have h1 := (procF_of (p := j) h (by omega)).ok
  have h2 := h1.regs
  have h3 := h1.out
  show (rd S j).regs.length ≤ _ ∧ (rd S j).out.length ≤ _
  omega
 ·have hj : j < W.length := hj
  have h1 := h'.2.1 _ (rd_mem hj)
  simp only [wayOk, Bool.and_eq_true, decide_eq_true_eq] at h1
  show (rd W j).length ≤ _
  omega
 ·have hj : j < H.length := hj
  have := h200 j hj
  show (rd H j).length ≤ _
  omega

end Go.Proofs.YtipfcgbhaalcdaaGreat.Abs
namespace Go.Proofs.YtipfcgbhaalcdaaGreat.Abs
open Go Go.Proofs
set_option linter.unusedVariables false
set_option linter.unusedSimpArgs false
attribute [local irreducible] callE
theorem gRec {a v : AV} {F : Bool → Prop} (h : F true) (e : isRecut a v = true := by simp [isRecut]) : sBool (isRecut a v) F := sBool.eq e h
theorem i_step (k : Nat) (P : List (List Ins)) (S : List State) (W : List (List Item)) (H : List (List Event)) (p peer : Int) (hb : SysB 10000000000 P S W H) (hs : sysOk P S W H = true) :
  callE PR C (k + 5) 152 [aSys 0 P S W H, i64 p, i64 peer] [tInsSS P, tStateS S, tItemSS W, tEventSS H] = some (sysRes (stepIs P S W H p peer).1 (stepIs P S W H p peer).2 [none, none, none, none]) := by
 obtain ⟨hI, hP, hS', h200⟩ := sysOk_facts hs
 have hN := hI.n
 have hsl := hI.s
 have hwl := hI.w
 have hHl := hI.h
 have q1 := fun k => i_cloneSys k P S W H (hb.mono (by decide)) hI.some
 have q2 := fun k => i_coming k P S W H p peer hb hs
 unfold stepIs
 by_cases c0 : (comingIs P S W H p peer).2 = 0
 ·rw [if_pos c0]
  obtain ⟨hp0, hc⟩ := coming_comes hs c0
  generalize comingIs P S W H p peer = ec at *
  obtain ⟨e, n⟩ := ec
  dsimp only at c0 hc ⊢
  subst c0
  obtain ⟨p, rfl⟩ : ∃ n : Nat, p = (n : Int) := ⟨p.toNat, by omega⟩
  rw [Int.toNat_natCast] at hc ⊢
  have hp := hc.lt
  obtain ⟨f1, f2, f3, f4⟩ := procF_of hs hp
  have hh := h200 p (by omega)
  have e4 : (List.map rEvent (rd H p)).length = (rd H p).length := by simp
  have hat0 := f1.at0
  have hat1 := f1.at1
  have q3 : ∀ k, callE PR C (k + 4) 240 [hIns 0 (rd P p), aState 1 (rd S p).at_ (rd S p).regs (rd S p).out (rd S p).code, aEvent e] [tIns (rd P p), tI (rd S p).regs, tI (rd S p).out] = some ⟨nSt 0 (did (rd P p) (rd S p) e), [tI9 (did (rd P p) (rd S p) e).regs, tI9 (did (rd P p) (rd S p) e).out], [none, none, none]⟩ := fun k => i_did k (rd P p) (rd S p).at_ (rd S p).regs (rd S p).out (rd S p).code e (by omega) f1 f2
  by_cases k2 : e.kind = 2
  ·have hsd := hc.send k2
   obtain ⟨b, hbq⟩ : ∃ b : Nat, e.peer = (b : Int) := ⟨_, (Int.toNat_of_nonneg hsd.1.1).symm⟩
   have hbl : b < P.length := by have := hsd.1.2; omega
   have hfew : (rd W (p * P.length + b)).length < 12 := by have := hsd.2; rw [hbq] at this; exact this
   have q4 := fun k => i_wayAt k P S W H p b (hb.mono (by decide)) hp hbl hN.2 hwl
   have hpl := place_lt hp hbl
   have hW : stepW P.length W p e = W.set (p * P.length + b) (rd W (p * P.length + b) ++ [⟨false, e.v⟩]) := by
    unfold stepW
    rw [if_pos k2, hbq]
    rfl
   simp only [sysRes, stepS, hW, nSys, List.length_set]
   rw [← hbq] at q4
   obtain ⟨ix, hix⟩ : ∃ ix, ix = p * P.length + b := ⟨_, rfl⟩
   rw [← hix] at q4 hpl hfew ⊢
   clear hW hix hsd f4
   (refine fnI [ResultVar.cell 6 29, ResultVar.tmp 7] Tryz.func152 ?_; conv => whnf)
   repeat' ((with_reducible (first | refine sCall.of (q1 _) ?_|refine sCall.of (q2 _) ?_|refine sCall.of (q3 _) ?_|refine sCall.of (q4 _) ?_|refine gHole ?_|refine gRec ?_|refine st16 ?_|refine gA ?_ ?_<;>intro _|refine gE ?_ ?_<;>intro _|refine gD 5 [(1, 14)] ?_|refine gD 6 [(1, 9), (4, 9), (7, 9), (1, 10)] ?_|refine gD 10 [(1, 11), (4, 11), (7, 11), (1, 12)] ?_|refine gDn 13 ?_)) <;> (try (conv => whnf)))
   all_goals rfl
  ·by_cases k3 : e.kind = 3
   ·have htk := hc.take k3
    obtain ⟨b, hbq⟩ : ∃ b : Nat, e.peer = (b : Int) := ⟨_, (Int.toNat_of_nonneg htk.1.1).symm⟩
    have hbl : b < P.length := by have := htk.1.2; omega
    have hsome : 0 < (rd W (b * P.length + p)).length := by have := htk.2.1; rw [hbq] at this; exact this
    have q4 := fun k => i_wayAt k P S W H b p (hb.mono (by decide)) hbl hp hN.2 hwl
    have hpl := place_lt hbl hp
    have hwx := hb.ww (b * P.length + p) (by omega)
    have hW : stepW P.length W p e = W.set (b * P.length + p) ((rd W (b * P.length + p)).drop 1) := by
     unfold stepW
     rw [if_neg k2, if_pos k3, hbq]
     rfl
    simp only [sysRes, stepS, hW, nSys, List.length_set]
    rw [← hbq] at q4
    obtain ⟨ix, hix⟩ : ∃ ix, ix = b * P.length + p := ⟨_, rfl⟩
    rw [← hix] at q4 hpl hsome hwx ⊢
    have e5 : (List.map rItem (rd W ix)).length = (rd W ix).length := by simp
    have et : List.take ((rd W ix).length - 1) (List.drop 1 (rd W ix)) = List.drop 1 (rd W ix) := List.take_of_length_le (by simp)
    clear hW hix htk f4
    (refine fnI [ResultVar.cell 6 29, ResultVar.tmp 7] Tryz.func152 ?_; conv => whnf)
    repeat' ((with_reducible (first | refine sCall.of (q1 _) ?_|refine sCall.of (q2 _) ?_|refine sCall.of (q3 _) ?_|refine sCall.of (q4 _) ?_|refine gHole ?_|refine gRec ?_|refine st16 ?_|refine gA ?_ ?_<;>intro _|refine gE ?_ ?_<;>intro _|refine gD 5 [(1, 14)] ?_|refine gD 6 [(1, 9), (4, 9), (7, 9), (1, 10)] ?_|refine gD 10 [(1, 11), (4, 11), (7, 11), (1, 12)] ?_|refine gDn 13 ?_)) <;> (try (conv => whnf)))
    all_goals (try rw [et])
    all_goals rfl
   ·have hW : stepW P.length W p e = W := by
     unfold stepW
     rw [if_neg k2, if_neg k3]
    simp only [sysRes, stepS, hW, nSys, List.length_set]
    clear hW f4
    (refine fnI [ResultVar.cell 6 29, ResultVar.tmp 7] Tryz.func152 ?_; conv => whnf)
    repeat' ((with_reducible (first | refine sCall.of (q1 _) ?_|refine sCall.of (q2 _) ?_|refine sCall.of (q3 _) ?_|refine gHole ?_|refine gRec ?_|refine st16 ?_|refine gA ?_ ?_<;>intro _|refine gE ?_ ?_<;>intro _|refine gD 5 [(1, 14)] ?_|refine gD 6 [(1, 9), (4, 9), (7, 9), (1, 10)] ?_|refine gD 10 [(1, 11), (4, 11), (7, 11), (1, 12)] ?_|refine gDn 13 ?_)) <;> (try (conv => whnf)))
    all_goals rfl
 ·rw [if_neg c0]
  generalize comingIs P S W H p peer = ec at *
  obtain ⟨e, n⟩ := ec
  dsimp only at c0 q2 ⊢
  simp only [sysRes]
  (refine fnI [ResultVar.cell 6 29, ResultVar.tmp 7] Tryz.func152 ?_; conv => whnf)
  repeat' ((with_reducible (first | refine sCall.of (q1 _) ?_|refine sCall.of (q2 _) ?_|refine st16 ?_|refine gA ?_ ?_<;>intro _|refine gE ?_ ?_<;>intro _|refine gD 5 [(1, 14)] ?_|refine gD 6 [(1, 9), (4, 9), (7, 9), (1, 10)] ?_|refine gD 10 [(1, 11), (4, 11), (7, 11), (1, 12)] ?_|refine gDn 13 ?_)) <;> (try (conv => whnf)))
  all_goals rfl

theorem dropLim {l : List Item} {t n m : Nat} (h : l.length ≤ 10000000000) (hm : m ≤ 16) : (0 + (List.map rItem (List.take t (List.drop n l))).length) * m ≤ 140737488355328 ∧ 0 + (List.map rItem (List.take t (List.drop n l))).length ≤ 140737488355328 := by
 have h1 : 0 + (List.map rItem (List.take t (List.drop n l))).length ≤ 10000000000 := by simp; omega
 have h2 := Nat.mul_le_mul h1 hm
 exact ⟨by omega, by omega⟩
theorem step_no {P : List (List Ins)} {S : List State} {W : List (List Item)} {H : List (List Event)} {p peer n : Int} {e : Event} (h : comingIs P S W H p peer = (e, n)) (hn : ¬ n = 0) : stepIs P S W H p peer = (⟨P, S, W, H⟩, n) := by
 unfold stepIs; rw [h, if_neg hn]
theorem step_yes {P : List (List Ins)} {S : List State} {W : List (List Item)} {H : List (List Event)} {p : Nat} {peer : Int} {e : Event} (h : comingIs P S W H p peer = (e, 0)) : stepIs P S W H p peer = (stepS P S W H p e, 0) := by
 unfold stepIs; rw [h, if_pos rfl]; rfl
theorem coming_peer {P : List (List Ins)} {S : List State} {W : List (List Item)} {H : List (List Event)} {p : Nat} {peer : Int} (c1 : 0 ≤ (p : Int) ∧ (p : Int) ≤ (P.length : Int) - 1) (c2 : (rd S p).code = 0) (c3 : ¬ (200 : Int) ≤ ((rd H p).length : Int)) (hk : (next (rd P p) (rd S p)).kind = 3) :
  comingIs P S W H p peer = (if (srcIs P.length W p (askedOf (insAt P S p) peer)).2 = 0 then (⟨3, askedOf (insAt P S p) peer, (rd (rd W ((askedOf (insAt P S p) peer).toNat * P.length + p)) 0).v⟩, 0) else (⟨0, 0, 0⟩, (srcIs P.length W p (askedOf (insAt P S p) peer)).2)) := by
 have hw3 : (wantsOf P S p).kind = 3 := hk
 unfold comingIs
 rw [if_pos c1, Int.toNat_natCast, if_pos c2, if_neg c3, if_neg (by omega), if_pos hw3]
theorem coming_send {P : List (List Ins)} {S : List State} {W : List (List Item)} {H : List (List Event)} {p b : Nat} {peer : Int} (c1 : 0 ≤ (p : Int) ∧ (p : Int) ≤ (P.length : Int) - 1) (c2 : (rd S p).code = 0) (c3 : ¬ (200 : Int) ≤ ((rd H p).length : Int)) (hk : (next (rd P p) (rd S p)).kind = 2) (hbq : (next (rd P p) (rd S p)).peer = (b : Int)) :
  comingIs P S W H p peer = (if (12 : Int) ≤ ((rd W (p * P.length + b)).length : Int) then (⟨0, 0, 0⟩, 4) else (next (rd P p) (rd S p), 0)) := by
 unfold comingIs
 rw [if_pos c1, Int.toNat_natCast, if_pos c2, if_neg c3, if_pos (show (wantsOf P S p).kind = 2 from hk), show (wantsOf P S p).peer = (b : Int) from hbq, Int.toNat_natCast]
 rfl
theorem coming_else {P : List (List Ins)} {S : List State} {W : List (List Item)} {H : List (List Event)} {p : Nat} {peer : Int} (c1 : 0 ≤ (p : Int) ∧ (p : Int) ≤ (P.length : Int) - 1) (c2 : (rd S p).code = 0) (c3 : ¬ (200 : Int) ≤ ((rd H p).length : Int)) (hk2 : (next (rd P p) (rd S p)).kind ≠ 2) (hk3 : (next (rd P p) (rd S p)).kind ≠ 3) :
  comingIs P S W H p peer = (next (rd P p) (rd S p), 0) := by
 unfold comingIs
 rw [if_pos c1, Int.toNat_natCast, if_pos c2, if_neg c3, if_neg (show ¬ (wantsOf P S p).kind = 2 from hk2), if_neg (show ¬ (wantsOf P S p).kind = 3 from hk3)]
 rfl
theorem s_l5Step (k : Nat) (P : List (List Ins)) (S : List State) (W : List (List Item)) (H : List (List Event)) (p peer : Int) (hb : SysB 10000000000 P S W H) (hs : sysOk P S W H = true) :
  callE PR C (k + 6) 153 [aSys 0 P S W H, i64 p, i64 peer] [tInsSS9 P, tStateS9 S, tItemSS9 W, tEventSS9 H] = some (sysRes (stepIs P S W H p peer).1 (stepIs P S W H p peer).2 [some .dead, some .dead, some .dead, some .dead]) := by
 obtain ⟨hI, hP, hS', h200⟩ := sysOk_facts hs
 have hN := hI.n
 have hsl := hI.s
 have hwl := hI.w
 have hHl := hI.h
 have q1 := fun k => s_l1In k p 0 ((P.length : Int) - 1)
 by_cases c1 : 0 ≤ p ∧ p ≤ (P.length : Int) - 1
 ·rw [decide_eq_true c1] at q1
  obtain ⟨p, rfl⟩ : ∃ n : Nat, p = (n : Int) := ⟨p.toNat, by omega⟩
  have hp : p < P.length := by omega
  obtain ⟨f1, f2, f3, f4⟩ := procF_of hs hp
  have hh := h200 p (by omega)
  have e4 : (List.map rEvent (rd H p)).length = (rd H p).length := by simp
  have hat0 := f1.at0
  have hat1 := f1.at1
  by_cases c2 : (rd S p).code = 0
  ·by_cases c3 : (200 : Int) ≤ ((rd H p).length : Int)
   ·have hc : comingIs P S W H p peer = (⟨0, 0, 0⟩, 4) := by unfold comingIs; rw [if_pos c1, Int.toNat_natCast, if_pos c2, if_pos c3]
    rw [step_no hc (by decide)]
    (refine fnI [ResultVar.cell 6 29, ResultVar.tmp 7] Tryz.func153 ?_; conv => whnf)
    repeat' ((with_reducible (first | refine sCall.of (q1 _) ?_|refine st16 ?_|refine gA ?_ ?_<;>intro _|refine gE ?_ ?_<;>intro _|refine gD 8 [(1, 11), (4, 11), (6, 11), (9, 11), (10, 11)] ?_|refine gD 14 [(1, 11), (4, 11), (7, 11), (1, 12)] ?_|refine gD 26 [(1, 8), (3, 8), (1, 11), (3, 11)] ?_|refine gD 27 [(1, 14)] ?_|refine gD 28 [(1, 9), (4, 9), (7, 9), (1, 10)] ?_)) <;> (try (conv => whnf)))
    all_goals rfl
   ·have q2 : ∀ k, callE PR C (k + 1) 241 [hIns 0 (rd P p), aState 1 (rd S p).at_ (rd S p).regs (rd S p).out (rd S p).code] [tIns (rd P p), tI (rd S p).regs, tI (rd S p).out] = some ⟨aEvent (next (rd P p) (rd S p)), [], [none, none, none]⟩ := fun k => s_l2Next k (rd P p) (rd S p).at_ (rd S p).regs (rd S p).out (rd S p).code (by omega) f1 f2
    have q3 : ∀ e : Event, comes e (next (rd P p) (rd S p)) = true → ∀ k, callE PR C (k + 4) 242 [hIns 0 (rd P p), aState 1 (rd S p).at_ (rd S p).regs (rd S p).out (rd S p).code, aEvent e] [tIns (rd P p), tI (rd S p).regs, tI (rd S p).out] = some ⟨.tu [nSt 0 (did (rd P p) (rd S p) e), bl true], [tI9 (did (rd P p) (rd S p) e).regs, tI9 (did (rd P p) (rd S p) e).out], [none, none, none]⟩ := fun e he k => by
     rw [s_l2Do k (rd P p) (rd S p).at_ (rd S p).regs (rd S p).out (rd S p).code e (by omega) f1 f2]
     exact congrArg some (doRes_true (l := rd P p) (a := (rd S p).at_) (r := (rd S p).regs) (o := (rd S p).out) (c := (rd S p).code) he)
    rcases @next_kind (rd P p) (rd S p) with hk | hk | hk
    ·have hpe := f4 hk.1
     obtain ⟨b, hbq⟩ : ∃ b : Nat, (next (rd P p) (rd S p)).peer = (b : Int) := ⟨_, (Int.toNat_of_nonneg hpe.1).symm⟩
     have hbl : b < P.length := by omega
     have hpl := place_lt hp hbl
     have hk2 := hk.1
     have hc := coming_send (W := W) (peer := peer) c1 c2 c3 hk2 hbq
     have q4 := q3 _ (comes_self (w := next (rd P p) (rd S p)) (by omega))
     have hwok : (rd W (p * P.length + b)).length ≤ 12 := by
      simp only [sysOk, Bool.and_eq_true, List.all_eq_true] at hs
      have h1 := hs.2.1 _ (rd_mem (l := W) (n := p * P.length + b) (by omega))
      simp only [wayOk, Bool.and_eq_true, decide_eq_true_eq] at h1
      exact h1.1
     have wm : IntKind.i64.wrap ((p : Int) * (P.length : Int)) = ((p * P.length : Nat) : Int) := by
      have := Nat.mul_le_mul (show p ≤ 4 by omega) hN.2
      rw [show (p : Int) * (P.length : Int) = ((p * P.length : Nat) : Int) by simp]; exact wrap_i64 _ (by omega) (by omega)
     have wa : IntKind.i64.wrap (((p * P.length : Nat) : Int) + (next (rd P p) (rd S p)).peer) = ((p * P.length + b : Nat) : Int) := by
      have := Nat.mul_le_mul (show p ≤ 4 by omega) hN.2
      rw [hbq, wrap_i64 _ (by omega) (by omega)]; simp
     by_cases c5 : (12 : Int) ≤ ((rd W (p * P.length + b)).length : Int)
     ·rw [if_pos c5] at hc
      rw [step_no hc (by decide)]
      clear hc hk f4 hpe q3 q4
      generalize next (rd P p) (rd S p) = w at *
      obtain ⟨ix, hix⟩ : ∃ ix, ix = p * P.length + b := ⟨_, rfl⟩
      rw [← hix] at hpl hwok c5 wa
      clear hix
      generalize p * P.length = pm at *
      have e5 : (List.map rItem (rd W ix)).length = (rd W ix).length := by simp
      (refine fnI [ResultVar.cell 6 29, ResultVar.tmp 7] Tryz.func153 ?_; conv => whnf)
      repeat' ((with_reducible (first | refine sCall.of (q1 _) ?_|refine sCall.of (q2 _) ?_|refine sW.eq (wm) ?_|refine sW.eq (wa) ?_|refine st16 ?_|refine gA ?_ ?_<;>intro _|refine gE ?_ ?_<;>intro _|refine gD 8 [(1, 11), (4, 11), (6, 11), (9, 11), (10, 11)] ?_|refine gD 14 [(1, 11), (4, 11), (7, 11), (1, 12)] ?_|refine gD 26 [(1, 8), (3, 8), (1, 11), (3, 11)] ?_|refine gD 27 [(1, 14)] ?_|refine gD 28 [(1, 9), (4, 9), (7, 9), (1, 10)] ?_)) <;> (try (conv => whnf)))
      all_goals rfl
     ·rw [if_neg c5] at hc
      rw [step_yes hc]
      have hW : stepW P.length W p (next (rd P p) (rd S p)) = W.set (p * P.length + b) (rd W (p * P.length + b) ++ [⟨false, (next (rd P p) (rd S p)).v⟩]) := by
       unfold stepW
       rw [if_pos hk2, hbq]
       rfl
      simp only [sysRes, stepS, hW, nSys, List.length_set]
      clear hW hc hk f4 hpe q3
      generalize next (rd P p) (rd S p) = w at *
      obtain ⟨ix, hix⟩ : ∃ ix, ix = p * P.length + b := ⟨_, rfl⟩
      rw [← hix] at hpl hwok c5 wa ⊢
      clear hix
      generalize p * P.length = pm at *
      have e5 : (List.map rItem (rd W ix)).length = (rd W ix).length := by simp
      (refine fnI [ResultVar.cell 6 29, ResultVar.tmp 7] Tryz.func153 ?_; conv => whnf)
      repeat' ((with_reducible (first | refine sCall.of (q1 _) ?_|refine sCall.of (q2 _) ?_|refine sCall.of (q4 _) ?_|refine sW.eq (wm) ?_|refine sW.eq (wa) ?_|refine gHole ?_|refine st16 ?_|refine gA ?_ ?_<;>intro _|refine gE ?_ ?_<;>intro _|refine gD 8 [(1, 11), (4, 11), (6, 11), (9, 11), (10, 11)] ?_|refine gD 14 [(1, 11), (4, 11), (7, 11), (1, 12)] ?_|refine gD 26 [(1, 8), (3, 8), (1, 11), (3, 11)] ?_|refine gD 27 [(1, 14)] ?_|refine gD 28 [(1, 9), (4, 9), (7, 9), (1, 10)] ?_)) <;> (try (conv => whnf)))
      all_goals rfl
    ·have hc := coming_peer (W := W) (peer := peer) c1 c2 c3 hk.1
     have hcs : sysOk P S W H = true := hs
     have q2 : ∀ k, callE PR C (k + 1) 241 [hIns 0 (rd P p), aState 1 (rd S p).at_ (rd S p).regs (rd S p).out (rd S p).code] [tIns (rd P p), tI (rd S p).regs, tI (rd S p).out] = some ⟨aEvent ⟨3, (insAt P S p).n, 0⟩, [], [none, none, none]⟩ := fun k => by rw [show (⟨3, (insAt P S p).n, 0⟩ : Event) = next (rd P p) (rd S p) from hk.2.2.symm]; exact q2 k
     generalize hq : askedOf (insAt P S p) peer = q at hc
     have qI := fun k => s_l1In k q 0 ((P.length : Int) - 1)
     have hq9 : (insAt P S p).n = 9 ∧ q = peer ∨ ¬ (insAt P S p).n = 9 ∧ (insAt P S p).n = q := by
      unfold askedOf at hq
      by_cases h9 : (insAt P S p).n = 9
      ·rw [if_pos h9] at hq; exact .inl ⟨h9, hq.symm⟩
      ·rw [if_neg h9] at hq; exact .inr ⟨h9, hq⟩
     generalize (insAt P S p).n = xn at *
     by_cases d1 : 0 ≤ q ∧ q ≤ (P.length : Int) - 1
     ·rw [decide_eq_true d1] at qI
      obtain ⟨b, rfl⟩ : ∃ n : Nat, q = (n : Int) := ⟨q.toNat, by omega⟩
      have hbl : b < P.length := by omega
      have hpl := place_lt hbl hp
      have hwx := hb.ww (b * P.length + p) (by omega)
      have wm : IntKind.i64.wrap ((b : Int) * (P.length : Int)) = ((b * P.length : Nat) : Int) := by
       have := Nat.mul_le_mul (show b ≤ 4 by omega) hN.2
       rw [show (b : Int) * (P.length : Int) = ((b * P.length : Nat) : Int) by simp]; exact wrap_i64 _ (by omega) (by omega)
      have wa : IntKind.i64.wrap (((b * P.length : Nat) : Int) + (p : Int)) = ((b * P.length + p : Nat) : Int) := by
       have := Nat.mul_le_mul (show b ≤ 4 by omega) hN.2
       rw [wrap_i64 _ (by omega) (by omega)]; simp
      have hsrc : srcIs P.length W p (b : Int) = (if (rd W (b * P.length + p)).length = 0 then (0, 3) else if (rd (rd W (b * P.length + p)) 0).mark = true then (0, 5) else ((b : Int), 0)) := by
       unfold srcIs
       rw [if_pos d1]
       rfl
      rw [hsrc, Int.toNat_natCast] at hc
      by_cases d2 : (rd W (b * P.length + p)).length = 0
      ·rw [if_pos d2, if_neg (by decide)] at hc
       rw [step_no hc (by decide)]
       obtain ⟨ix, hix⟩ : ∃ ix, ix = b * P.length + p := ⟨_, rfl⟩
       rw [← hix] at hpl hwx d2 wa
       clear hc hsrc hix
       generalize b * P.length = pm at *
       have e5 : (List.map rItem (rd W ix)).length = (rd W ix).length := by simp
       rcases hq9 with ⟨h9, h9'⟩ | ⟨h9, h9'⟩
       ·rw [← h9'] at *
        (refine fnI [ResultVar.cell 6 29, ResultVar.tmp 7] Tryz.func153 ?_; conv => whnf)
        repeat' ((with_reducible (first | refine sCall.of (q1 _) ?_|refine sCall.of (q2 _) ?_|refine sCall.of (qI _) ?_|refine sW.eq (wm) ?_|refine sW.eq (wa) ?_|refine st16 ?_|refine gA ?_ ?_<;>intro _|refine gE ?_ ?_<;>intro _|refine gD 8 [(1, 11), (4, 11), (6, 11), (9, 11), (10, 11)] ?_|refine gD 14 [(1, 11), (4, 11), (7, 11), (1, 12)] ?_|refine gD 26 [(1, 8), (3, 8), (1, 11), (3, 11)] ?_|refine gD 27 [(1, 14)] ?_|refine gD 28 [(1, 9), (4, 9), (7, 9), (1, 10)] ?_)) <;> (try (conv => whnf)))
        all_goals rfl
       ·rw [h9'] at q2 h9
        (refine fnI [ResultVar.cell 6 29, ResultVar.tmp 7] Tryz.func153 ?_; conv => whnf)
        repeat' ((with_reducible (first | refine sCall.of (q1 _) ?_|refine sCall.of (q2 _) ?_|refine sCall.of (qI _) ?_|refine sW.eq (wm) ?_|refine sW.eq (wa) ?_|refine st16 ?_|refine gA ?_ ?_<;>intro _|refine gE ?_ ?_<;>intro _|refine gD 8 [(1, 11), (4, 11), (6, 11), (9, 11), (10, 11)] ?_|refine gD 14 [(1, 11), (4, 11), (7, 11), (1, 12)] ?_|refine gD 26 [(1, 8), (3, 8), (1, 11), (3, 11)] ?_|refine gD 27 [(1, 14)] ?_|refine gD 28 [(1, 9), (4, 9), (7, 9), (1, 10)] ?_)) <;> (try (conv => whnf)))
        all_goals rfl
      ·rw [if_neg d2] at hc
       cases d3 : (rd (rd W (b * P.length + p)) 0).mark with
       | true =>
        rw [if_pos d3, if_neg (by decide)] at hc
        rw [step_no hc (by decide)]
        obtain ⟨ix, hix⟩ : ∃ ix, ix = b * P.length + p := ⟨_, rfl⟩
        rw [← hix] at hpl hwx d2 d3 wa
        clear hc hsrc hix
        generalize b * P.length = pm at *
        have e5 : (List.map rItem (rd W ix)).length = (rd W ix).length := by simp
        rcases hq9 with ⟨h9, h9'⟩ | ⟨h9, h9'⟩
        ·rw [← h9'] at *
         (refine fnI [ResultVar.cell 6 29, ResultVar.tmp 7] Tryz.func153 ?_; conv => whnf)
         repeat' ((with_reducible (first | refine sCall.of (q1 _) ?_|refine sCall.of (q2 _) ?_|refine sCall.of (qI _) ?_|refine sW.eq (wm) ?_|refine sW.eq (wa) ?_|refine st16 ?_|refine gA ?_ ?_<;>intro _|refine gE ?_ ?_<;>intro _|refine gD 8 [(1, 11), (4, 11), (6, 11), (9, 11), (10, 11)] ?_|refine gD 14 [(1, 11), (4, 11), (7, 11), (1, 12)] ?_|refine gD 26 [(1, 8), (3, 8), (1, 11), (3, 11)] ?_|refine gD 27 [(1, 14)] ?_|refine gD 28 [(1, 9), (4, 9), (7, 9), (1, 10)] ?_)) <;> (try (conv => whnf)))
         all_goals rfl
        ·rw [h9'] at q2 h9
         (refine fnI [ResultVar.cell 6 29, ResultVar.tmp 7] Tryz.func153 ?_; conv => whnf)
         repeat' ((with_reducible (first | refine sCall.of (q1 _) ?_|refine sCall.of (q2 _) ?_|refine sCall.of (qI _) ?_|refine sW.eq (wm) ?_|refine sW.eq (wa) ?_|refine st16 ?_|refine gA ?_ ?_<;>intro _|refine gE ?_ ?_<;>intro _|refine gD 8 [(1, 11), (4, 11), (6, 11), (9, 11), (10, 11)] ?_|refine gD 14 [(1, 11), (4, 11), (7, 11), (1, 12)] ?_|refine gD 26 [(1, 8), (3, 8), (1, 11), (3, 11)] ?_|refine gD 27 [(1, 14)] ?_|refine gD 28 [(1, 9), (4, 9), (7, 9), (1, 10)] ?_)) <;> (try (conv => whnf)))
         all_goals rfl
       | false =>
        rw [if_neg (show ¬ (rd (rd W (b * P.length + p)) 0).mark = true by rw [d3]; decide), if_pos rfl] at hc
        have hcc := (coming_comes (peer := peer) hs (by rw [hc])).2
        rw [hc, Int.toNat_natCast] at hcc
        dsimp only at hcc
        have q4 := q3 _ hcc.comes
        rw [step_yes hc]
        have hW : stepW P.length W p ⟨3, (b : Int), (rd (rd W (b * P.length + p)) 0).v⟩ = W.set (b * P.length + p) ((rd W (b * P.length + p)).drop 1) := by
         unfold stepW
         rw [if_neg (show ¬ (3 : Int) = 2 by decide), if_pos rfl]
         rfl
        simp only [sysRes, stepS, hW, nSys, List.length_set]
        obtain ⟨ix, hix⟩ : ∃ ix, ix = b * P.length + p := ⟨_, rfl⟩
        rw [← hix] at hpl hwx d2 d3 wa q4 ⊢
        clear hc hsrc hix hcc hW q3
        generalize b * P.length = pm at *
        have e5 : (List.map rItem (rd W ix)).length = (rd W ix).length := by simp
        have hdl := dropLim (t := (rd W ix).length - 1) (n := 1) (m := 15 + 1) hwx (by decide)
        have et : List.take ((rd W ix).length - 1) (List.drop 1 (rd W ix)) = List.drop 1 (rd W ix) := List.take_of_length_le (by simp)
        rcases hq9 with ⟨h9, h9'⟩ | ⟨h9, h9'⟩
        ·rw [← h9'] at *
         (refine fnI [ResultVar.cell 6 29, ResultVar.tmp 7] Tryz.func153 ?_; conv => whnf)
         repeat' ((with_reducible (first | refine sCall.of (q1 _) ?_|refine sCall.of (q2 _) ?_|refine sCall.of (qI _) ?_|refine sCall.of (q4 _) ?_|refine sW.eq (wm) ?_|refine sW.eq (wa) ?_|refine gHole ?_|refine sI.mk hdl ?_|refine st16 ?_|refine gA ?_ ?_<;>intro _|refine gE ?_ ?_<;>intro _|refine gD 8 [(1, 11), (4, 11), (6, 11), (9, 11), (10, 11)] ?_|refine gD 14 [(1, 11), (4, 11), (7, 11), (1, 12)] ?_|refine gD 26 [(1, 8), (3, 8), (1, 11), (3, 11)] ?_|refine gD 27 [(1, 14)] ?_|refine gD 28 [(1, 9), (4, 9), (7, 9), (1, 10)] ?_)) <;> (try (conv => whnf)))
         all_goals (try rw [et])
         all_goals rfl
        ·rw [h9'] at q2 h9
         (refine fnI [ResultVar.cell 6 29, ResultVar.tmp 7] Tryz.func153 ?_; conv => whnf)
         repeat' ((with_reducible (first | refine sCall.of (q1 _) ?_|refine sCall.of (q2 _) ?_|refine sCall.of (qI _) ?_|refine sCall.of (q4 _) ?_|refine sW.eq (wm) ?_|refine sW.eq (wa) ?_|refine gHole ?_|refine sI.mk hdl ?_|refine st16 ?_|refine gA ?_ ?_<;>intro _|refine gE ?_ ?_<;>intro _|refine gD 8 [(1, 11), (4, 11), (6, 11), (9, 11), (10, 11)] ?_|refine gD 14 [(1, 11), (4, 11), (7, 11), (1, 12)] ?_|refine gD 26 [(1, 8), (3, 8), (1, 11), (3, 11)] ?_|refine gD 27 [(1, 14)] ?_|refine gD 28 [(1, 9), (4, 9), (7, 9), (1, 10)] ?_)) <;> (try (conv => whnf)))
         all_goals (try rw [et])
         all_goals rfl
     ·rw [decide_eq_false d1] at qI
      rw [show srcIs P.length W p q = (0, 2) by unfold srcIs; rw [if_neg d1], if_neg (by decide)] at hc
      rw [step_no hc (by decide)]
      clear hc
      rcases hq9 with ⟨h9, h9'⟩ | ⟨h9, h9'⟩
      ·rw [← h9'] at *
       (refine fnI [ResultVar.cell 6 29, ResultVar.tmp 7] Tryz.func153 ?_; conv => whnf)
       repeat' ((with_reducible (first | refine sCall.of (q1 _) ?_|refine sCall.of (q2 _) ?_|refine sCall.of (qI _) ?_|refine st16 ?_|refine gA ?_ ?_<;>intro _|refine gE ?_ ?_<;>intro _|refine gD 8 [(1, 11), (4, 11), (6, 11), (9, 11), (10, 11)] ?_|refine gD 14 [(1, 11), (4, 11), (7, 11), (1, 12)] ?_|refine gD 26 [(1, 8), (3, 8), (1, 11), (3, 11)] ?_|refine gD 27 [(1, 14)] ?_|refine gD 28 [(1, 9), (4, 9), (7, 9), (1, 10)] ?_)) <;> (try (conv => whnf)))
       all_goals rfl
      ·rw [h9'] at q2 h9
       (refine fnI [ResultVar.cell 6 29, ResultVar.tmp 7] Tryz.func153 ?_; conv => whnf)
       repeat' ((with_reducible (first | refine sCall.of (q1 _) ?_|refine sCall.of (q2 _) ?_|refine sCall.of (qI _) ?_|refine st16 ?_|refine gA ?_ ?_<;>intro _|refine gE ?_ ?_<;>intro _|refine gD 8 [(1, 11), (4, 11), (6, 11), (9, 11), (10, 11)] ?_|refine gD 14 [(1, 11), (4, 11), (7, 11), (1, 12)] ?_|refine gD 26 [(1, 8), (3, 8), (1, 11), (3, 11)] ?_|refine gD 27 [(1, 14)] ?_|refine gD 28 [(1, 9), (4, 9), (7, 9), (1, 10)] ?_)) <;> (try (conv => whnf)))
       all_goals rfl
    ·have hk2 := hk.1
     have hk3 := hk.2
     have hc := coming_else (W := W) (peer := peer) c1 c2 c3 hk2 hk3
     have q4 := q3 _ (comes_self (w := next (rd P p) (rd S p)) hk3)
     rw [step_yes hc]
     have hW : stepW P.length W p (next (rd P p) (rd S p)) = W := by
      unfold stepW
      rw [if_neg hk2, if_neg hk3]
     simp only [sysRes, stepS, hW, nSys, List.length_set]
     clear hW hc hk f4 q3
     generalize next (rd P p) (rd S p) = w at *
     (refine fnI [ResultVar.cell 6 29, ResultVar.tmp 7] Tryz.func153 ?_; conv => whnf)
     repeat' ((with_reducible (first | refine sCall.of (q1 _) ?_|refine sCall.of (q2 _) ?_|refine sCall.of (q4 _) ?_|refine gHole ?_|refine st16 ?_|refine gA ?_ ?_<;>intro _|refine gE ?_ ?_<;>intro _|refine gD 8 [(1, 11), (4, 11), (6, 11), (9, 11), (10, 11)] ?_|refine gD 14 [(1, 11), (4, 11), (7, 11), (1, 12)] ?_|refine gD 26 [(1, 8), (3, 8), (1, 11), (3, 11)] ?_|refine gD 27 [(1, 14)] ?_|refine gD 28 [(1, 9), (4, 9), (7, 9), (1, 10)] ?_)) <;> (try (conv => whnf)))
     all_goals rfl
  ·have hc : comingIs P S W H p peer = (⟨0, 0, 0⟩, 6) := by unfold comingIs; rw [if_pos c1, Int.toNat_natCast, if_neg c2]
   rw [step_no hc (by decide)]
   (refine fnI [ResultVar.cell 6 29, ResultVar.tmp 7] Tryz.func153 ?_; conv => whnf)
   repeat' ((with_reducible (first | refine sCall.of (q1 _) ?_|refine st16 ?_|refine gA ?_ ?_<;>intro _|refine gE ?_ ?_<;>intro _|refine gD 8 [(1, 11), (4, 11), (6, 11), (9, 11), (10, 11)] ?_|refine gD 14 [(1, 11), (4, 11), (7, 11), (1, 12)] ?_|refine gD 26 [(1, 8), (3, 8), (1, 11), (3, 11)] ?_|refine gD 27 [(1, 14)] ?_|refine gD 28 [(1, 9), (4, 9), (7, 9), (1, 10)] ?_)) <;> (try (conv => whnf)))
   all_goals rfl
 ·rw [decide_eq_false c1] at q1
  have hc : comingIs P S W H p peer = (⟨0, 0, 0⟩, 2) := by unfold comingIs; rw [if_neg c1]
  rw [step_no hc (by decide)]
  (refine fnI [ResultVar.cell 6 29, ResultVar.tmp 7] Tryz.func153 ?_; conv => whnf)
  repeat' ((with_reducible (first | refine sCall.of (q1 _) ?_|refine st16 ?_|refine gA ?_ ?_<;>intro _|refine gE ?_ ?_<;>intro _|refine gD 8 [(1, 11), (4, 11), (6, 11), (9, 11), (10, 11)] ?_|refine gD 14 [(1, 11), (4, 11), (7, 11), (1, 12)] ?_|refine gD 26 [(1, 8), (3, 8), (1, 11), (3, 11)] ?_|refine gD 27 [(1, 14)] ?_|refine gD 28 [(1, 9), (4, 9), (7, 9), (1, 10)] ?_)) <;> (try (conv => whnf)))
  all_goals rfl

end Go.Proofs.YtipfcgbhaalcdaaGreat.Abs
namespace Go.Proofs.YtipfcgbhaalcdaaGreat.Abs
open Go Go.Proofs
set_option linter.unusedVariables false
set_option linter.unusedSimpArgs false
attribute [local irreducible] callE
def stopOk (P : List (List Ins)) (S : List State) (W : List (List Item)) (H : List (List Event)) (p kind : Int) : Bool := sysOk P S W H && (inB p 0 ((P.length : Int) - 1) && inB kind 1 3)
abbrev aStop (p kind v : Int) : AV := .ag [i64 p, i64 kind, i64 v]
def holdsB (kind v a : Int) (o : List Int) (es : List Event) : Bool :=
 if kind = 1 then decide (a = v) else if kind = 2 then decide (0 < (o.length : Int)) && decide (rd o ((o.length : Int) - 1).toNat = v)
 else !decide ((es.length : Int) = 0) && (decide ((rd es ((es.length : Int) - 1).toNat).kind = 3) && decide ((rd es ((es.length : Int) - 1).toNat).v = v))
def stopHolds (P : List (List Ins)) (S : List State) (W : List (List Item)) (H : List (List Event)) (p kind v : Int) : Bool := stopOk P S W H p kind && holdsB kind v (rd S p.toNat).at_ (rd S p.toNat).out (rd H p.toNat)
def lastIs (f : Nat → Bool) : Nat → Int
 | 0 => if f 0 = true then 0 else -1
 | n + 1 => if f (n + 1) = true then ((n + 1 : Nat) : Int) else lastIs f n
def heldAt (l : List Ins) (es : List Event) (kind v : Int) (n : Nat) : Bool := holdsB kind v (stOf (replayAll l (es.take n))).at_ (stOf (replayAll l (es.take n))).out (es.take n)
def lastMo (P : List (List Ins)) (S : List State) (W : List (List Item)) (H : List (List Event)) (p kind v : Int) : Int := if stopOk P S W H p kind = true then lastIs (heldAt (rd P p.toNat) (rd H p.toNat) kind v) (rd H p.toNat).length else -1
structure LA where
 n : Int
 d : Nat
end Go.Proofs.YtipfcgbhaalcdaaGreat.Abs
namespace Go.Proofs.YtipfcgbhaalcdaaGreat.Abs
open Go Go.Proofs
set_option linter.unusedVariables false
set_option linter.unusedSimpArgs false
attribute [local irreducible] callE
def heldIn (X : Sys) (q : Nat) (kind v : Int) : Bool := holdsB kind v (rd X.states q).at_ (rd X.states q).out (rd X.hist q)
def stepX (X : Sys) (w : Who) : Sys × Int := stepIs X.progs X.states X.ways X.hist w.p w.i
def untilGo (q : Nat) (kind v : Int) : Nat → List Who → Sys → Sys × Int
 | i, [], X => (X, (i : Int))
 | i, w :: r, X => if (stepX X w).2 = 0 ∧ heldIn (stepX X w).1 q kind v = true then ((stepX X w).1, ((i + 1 : Nat) : Int)) else untilGo q kind v (i + 1) r (stepX X w).1
def untilIs (P : List (List Ins)) (S : List State) (W : List (List Item)) (H : List (List Event)) (l : List Who) (p kind v : Int) : Sys × Int :=
 if stopOk P S W H p kind = true ∧ (l.length : Int) ≤ 200 then untilGo p.toNat kind v 0 l ⟨P, S, W, H⟩ else (⟨[], [], [], []⟩, -1)
structure Along (n : Nat) (X : Sys) : Prop where
 ok : sysOk X.progs X.states X.ways X.hist = true
 n : X.progs.length = n
structure US where
 j : Nat
 X : Sys
 o : Nat
 b0 : Nat
 b1 : Nat
 b2 : Nat
 b3 : Nat
 dd : Bool
def whoOk (H : List (List Event)) (f : List Int) (w : Who) : Bool := inB w.p 0 ((H.length : Int) - 1) && (decide (w.i = rd f w.p.toNat) && canCome H f w.p.toNat)
def rowGo (H : List (List Event)) : List Who → List Int → Bool
 | [], _ => true
 | w :: r, f => whoOk H f w && rowGo H r (goOn f w.p.toNat)
def rowOkB (P : List (List Ins)) (S : List State) (W : List (List Item)) (H : List (List Event)) (row : List Who) : Bool := sysOk P S W H && (decide (row.length = allEv H) && rowGo H row (List.replicate H.length 0))
structure RO where
 j : Nat
 f : List Int
 g : Nat
 d : Bool
theorem snoc_new (l : List State) : l.map rState ++ [[.v (.int .i64 0), .sl 1 ((List.replicate 4 0).map rI), .sl 1 [], .v (.int .i64 0)]] = (l ++ [newState]).map rState := by simp [rState, newState]
theorem gI17 {p A : Prop} (h : A) (e : p := by first | with_reducible assumption | omega | (simp only [Nat.zero_add, Nat.add_zero, Nat.sub_zero, Int.toNat_natCast, Int.toNat_zero, Int.toNat_one, List.length_map, List.length_nil, Int.reduceToNat, Nat.reduceAdd, Nat.reduceSub, Int.sub_zero, Int.reduceAdd, Int.reduceSub, Nat.sub_self, Int.toNat_natCast_add_one, marks_len, bs_len, List.length_append, List.length_cons, List.length_set, List.length_replicate, List.length_range]; first | done | omega)) : sI p A := sI.mk e h
theorem gNum17 {r r' : Nat} {F : Nat → Prop} (h : F r') (e : r = r' := by first | (simp only [Nat.zero_add, Nat.add_zero, Nat.sub_zero, Int.toNat_natCast, Int.toNat_zero, Int.toNat_one, List.length_map, List.length_nil, Int.reduceToNat, Nat.reduceAdd, Nat.reduceSub, Int.sub_zero, Int.reduceAdd, Int.reduceSub, Nat.sub_self, Int.toNat_natCast_add_one, marks_len, bs_len]; rfl) | rfl) : sN r F := sN.eq e h
theorem gRow17 {r r' : List (List T)} {F : List (List T) → Prop} (h : F r') (e : r = r' := by first | (simp only [Nat.add_zero, Nat.zero_add, Nat.reduceAdd, List.drop_zero, List.take_succ_cons, List.take_nil, List.drop_succ_cons, List.drop_nil, List.take_zero, List.nil_append, List.append_nil, List.map_nil, drop_suf, take_pre, drop_map, List.take_length, take_len_set, take_len_app, List.set_set, List.length_map, snoc_new, snoc_rItem, snoc_rInsL, snoc_rItemL, snoc_rEventL, snoc_rState, set_rWho, rep_rWho, snoc_rWho, set_rState, rep_rState, set_rInsL, rep_rInsL, set_rItemL, rep_rItemL, set_rEventL, rep_rEventL, set_rItem, rep_rItem, rep_rKept, marks_take, set_rKept, set_rIns, rep_rIns, set_rEvent, rep_rEvent, snoc_rKept, snoc_rEvent, snoc_rIns, bytesT_bs, snoc_rI, snoc_rB, snoc_rBool, set_rI, set_rBool, rep_rI, rep_rBool, map_app]; rfl) | rfl) : sR r F := sR.eq e h
theorem st17 {P Q : Prop} (h : Q) (e : Q → P := by with_reducible first | exact fun h => gP h | exact fun h => gN h | exact fun h => fG.not h | exact fun h => gY h | exact fun h => gF h | exact fun h => fG.yes (flat_map (fun _ => rfl) _) h | exact fun h => gS64 h | exact fun h => gU8 h | exact fun h => gI17 h | exact fun h => fE.of rfl h | exact fun h => gNum17 h | exact fun h => gSet h | exact fun h => gRd h | exact fun h => gLk h | exact fun h => gRow17 h | exact fun h => gRf4 h) : P := e h
def newSys (P : List (List Ins)) : Sys := ⟨P, List.replicate P.length newState, List.replicate (P.length * P.length) default, List.replicate P.length default⟩
theorem rd_rep {α : Type} [Inhabited α] {n i : Nat} (x : α) (h : i < n) : rd (List.replicate n x) i = x := by simp [rd, h]
structure NS where
 j : Nat
 lp : List (List Ins)
 ls : List State
 v0 : AV
 v1 : AV
 b0 : Nat
 b1 : Nat
 c0 : Cont
 c1 : Cont
 dd : Bool
def NS.ok (P : List (List Ins)) (n0 n1 : Nat) (z : NS) : Prop :=
  (z.lp = P.take z.j ∧ z.ls = (List.replicate P.length newState).take z.j) ∧
  ((z.j = 0 ∧ (z.v0 = .nl 1 ∧ z.v1 = .nl 4) ∧ (z.b0 = 0 ∧ z.b1 = 0) ∧ (z.c0 = .dead ∧ z.c1 = .dead)) ∨
   (0 < z.j ∧ (z.v0 = .h n0 z.b0 0 [] 1 0 z.lp.length ∧ z.v1 = .h n1 z.b1 0 [] 4 0 z.ls.length) ∧ (z.c0 = tInsSS9 z.lp ∧ z.c1 = tStateS9 z.ls)))
def newRes (P : List (List Ins)) : Res := ⟨.tu [nSys 0 P (List.replicate P.length newState) (List.replicate (P.length * P.length) default) (List.replicate P.length default), bl true], [tInsSS9 P, tStateS9 (List.replicate P.length newState), tItemSS9 (List.replicate (P.length * P.length) default), tEventSS9 (List.replicate P.length default)], [none]⟩
theorem new_B {P : List (List Ins)} (hN : P.length ≤ 4) (hB : ∀ j : Nat, j < P.length → (rd P j).length ≤ 1048576) : SysB 1048576 P (List.replicate P.length newState) (List.replicate (P.length * P.length) default) (List.replicate P.length default) := by
 have hnn : P.length * P.length ≤ 4 * 4 := Nat.mul_le_mul hN hN
 refine ⟨by omega, hB, by simp; omega, fun j hj => ?_, by simp; omega, fun j hj => ?_, by simp; omega, fun j hj => ?_⟩
 ·rw [List.length_replicate] at hj; rw [rd_rep _ hj]; simp [newState]
 ·rw [List.length_replicate] at hj; rw [rd_rep _ hj]; exact Nat.zero_le _
 ·rw [List.length_replicate] at hj; rw [rd_rep _ hj]; exact Nat.zero_le _
theorem s_SysNew' (k : Nat) (P : List (List Ins)) (hN : 1 ≤ P.length ∧ P.length ≤ 4) (hBp : ∀ j : Nat, j < P.length → (rd P j).length ≤ 1048576) :
  callE PR C (k + 8) 160 [.h 1000000 0 0 [] 1 0 P.length] [tInsSS P] = some (if sysOk P (List.replicate P.length newState) (List.replicate (P.length * P.length) default) (List.replicate P.length default) = true then newRes P else zeroRes [none]) := by
 have hB := new_B hN.2 hBp
 generalize ht : sysOk P (List.replicate P.length newState) (List.replicate (P.length * P.length) default) (List.replicate P.length default) = t
 have hnn : P.length * P.length ≤ 4 * 4 := Nat.mul_le_mul hN.2 hN.2
 have w1 : IntKind.i64.wrap ((P.length : Int) * (P.length : Int)) = ((P.length * P.length : Nat) : Int) := by
  rw [show (P.length : Int) * (P.length : Int) = ((P.length * P.length : Nat) : Int) by simp]; exact wrap_i64 _ (by omega) (by omega)
 have q0 := fun k => s_l4Ins k P (by omega) (fun j hj => by have := hBp j hj; omega)
 have q1 : ∀ k, callE PR C (k + 7) 76 [aSys 0 P (List.replicate P.length newState) (List.replicate (P.length * P.length) default) (List.replicate P.length default)] [tInsSS P, tStateS (List.replicate P.length newState), tItemSS (List.replicate (P.length * P.length) default), tEventSS (List.replicate P.length default)] = some ⟨bl t, [], [none, none, none, none]⟩ := fun k => by
  rw [s_SysOk k P _ _ _ (hB.mono (by decide)), ht]
 have r1 : (List.replicate (P.length * P.length) (default : List Item)).length = P.length * P.length := List.length_replicate
 have r2 : (List.replicate P.length (default : List Event)).length = P.length := List.length_replicate
 have r3 : (List.replicate P.length newState).length = P.length := List.length_replicate
 have et1 : List.take (P.length * P.length) (List.replicate (P.length * P.length) (default : List Item)) = List.replicate (P.length * P.length) default := List.take_of_length_le (by rw [r1]; exact Nat.le_refl _)
 have et2 : List.take P.length (List.replicate P.length (default : List Event)) = List.replicate P.length default := List.take_of_length_le (by rw [r2]; exact Nat.le_refl _)
 simp only [newRes, nSys, r1, r2]
 simp only [aSys, r1, r2] at q1
 generalize hWe : List.replicate (P.length * P.length) (default : List Item) = W0 at *
 generalize hHe : List.replicate P.length (default : List Event) = H0 at *
 (refine fnI [ResultVar.cell 2 29, ResultVar.tmp 3] Tryz.func160 ?_; conv => whnf)
 repeat' ((with_reducible (first | refine sCall.of (q0 _) ?_|refine sW.eq (w1) ?_|refine st17 ?_|refine gA ?_ ?_<;>intro _|refine gE ?_ ?_<;>intro _|refine gD 4 [(1, 5), (1, 7), (5, 7), (1, 9), (5, 9), (7, 9)] ?_|refine gD 8 [(1, 2), (1, 3)] ?_)) <;> (try (conv => whnf)))
 refine loop_rule (ι := NS) (fun z => [(2, .pt 2 1 0 [] 0 0), (4, i64 P.length), (5, .pt 5 1 0 [] 0 0), (6, i64 (z.j : Nat))])
  (fun z => [(1000000, ⟨0, 0, false, tInsSS P⟩), (2, ⟨1, 0, false, .box [.nl 1, .nl 4, .nl 1, .nl 1]⟩), (5, ⟨1, 0, z.dd, .box [.h 10013 1 0 [] 1 0 P.length, z.v1, .h 17 1 0 [] 1 0 (P.length * P.length), .h 19 1 0 [] 1 0 P.length]⟩), (10013, ⟨1, 0, false, tInsSS9 P⟩), (17, ⟨1, 0, false, tItemSS9 W0⟩), (19, ⟨1, 0, false, tEventSS9 H0⟩), (30, ⟨z.b1, 0, false, z.c1⟩)])
  (fun z => P.length - z.j) (fun z => z.j ≤ P.length ∧ NS.ok P 32 30 z)
  ⟨0, [], [], .nl 1, .nl 4, 0, 0, .dead, .dead, _⟩ (by rw [← hWe, ← hHe]; exact fitOk) ⟨Nat.zero_le _, ⟨rfl, rfl⟩, .inl ⟨rfl, ⟨rfl, rfl⟩, ⟨rfl, rfl⟩, ⟨rfl, rfl⟩⟩⟩ (by simp [C]; omega) ?_
 rintro ⟨j, lp, ls, v0, v1, b0, b1, c0, c1, dd⟩ sl ob ⟨hj, ⟨hlp, hls⟩, hg⟩
 dsimp only at hj hlp hls hg
 by_cases hjl : j < P.length
 ·have hnew : rd (List.replicate P.length newState) j = newState := rd_rep _ hjl
  rcases hg with ⟨e1, ⟨f1, f2⟩, ⟨f4, f5⟩, ⟨f7, f8⟩⟩ | ⟨h0, ⟨f1, f2⟩, ⟨f7, f8⟩⟩
  ·subst e1 f1 f2 f4 f5 f7 f8 hlp hls
   (try dsimp only [cond_true, cond_false])
   (conv => whnf)
   repeat' ((with_reducible (first | refine sCall.of (s_StateNew _) ?_|refine st17 ?_|refine gA ?_ ?_<;>intro _|refine gE ?_ ?_<;>intro _|refine gD 4 [(1, 5), (1, 7), (5, 7), (1, 9), (5, 9), (7, 9)] ?_|refine gD 8 [(1, 2), (1, 3)] ?_)) <;> (try (conv => whnf)))
   refine ⟨⟨⟨0 + 1, [rd P 0], [newState], .h 32 0 0 [] 1 0 1, _, 0, _, tInsSS9 [rd P 0], _, _⟩, fitOk, ?_, ?_⟩⟩
   ·exact ⟨by show 0 + 1 ≤ _; omega, ⟨by show _ = P.take (0 + 1); rw [take_rd hjl]; rfl, by show _ = (List.replicate P.length newState).take (0 + 1); rw [take_rd (by omega), hnew]; rfl⟩, .inr ⟨Nat.one_pos, ⟨rfl, rfl⟩, ⟨rfl, rfl⟩⟩⟩
   ·show P.length - (0 + 1) < P.length - 0; omega
  ·have l1 : ls.length = j := by rw [hls]; simp; omega
   subst f1 f2 f7 f8
   (try dsimp only [cond_true, cond_false])
   (conv => whnf)
   repeat' ((with_reducible (first | refine sCall.of (s_StateNew _) ?_|refine st17 ?_|refine gA ?_ ?_<;>intro _|refine gE ?_ ?_<;>intro _|refine gD 4 [(1, 5), (1, 7), (5, 7), (1, 9), (5, 9), (7, 9)] ?_|refine gD 8 [(1, 2), (1, 3)] ?_)) <;> (try (conv => whnf)))
   refine ⟨⟨⟨j + 1, lp ++ [rd P j], ls ++ [newState], .h 32 0 0 [] 1 0 (lp ++ [rd P j]).length, _, 0, _, tInsSS9 (lp ++ [rd P j]), _, _⟩, fitOk, ?_, ?_⟩⟩
   ·exact ⟨by show j + 1 ≤ _; omega, ⟨by show _ = P.take (j + 1); rw [take_rd hjl, hlp], by show _ = (List.replicate P.length newState).take (j + 1); rw [take_rd (by omega), hls, hnew]⟩, .inr ⟨Nat.succ_pos j, ⟨rfl, rfl⟩, ⟨rfl, rfl⟩⟩⟩
   ·show P.length - (j + 1) < P.length - j; omega
 ·rw [List.take_of_length_le (by omega)] at hls
  rcases hg with ⟨e1, ⟨f1, f2⟩, ⟨f4, f5⟩, ⟨f7, f8⟩⟩ | ⟨h0, ⟨f1, f2⟩, ⟨f7, f8⟩⟩
  ·exfalso; omega
  ·rw [hls] at f2 f8
   subst f1 f2 f7 f8
   have q1' : ∀ k, callE PR C (k + 7) 76 [.ag [.h 1000000 0 0 [] 1 0 P.length, .h 1000001 0 0 [] 4 0 (List.replicate P.length newState).length, .h 1000002 0 0 [] 1 0 (List.take (P.length * P.length) W0).length, .h 1000003 0 0 [] 1 0 (List.take P.length H0).length]] [tInsSS P, tStateS (List.replicate P.length newState), tItemSS (List.take (P.length * P.length) W0), tEventSS (List.take P.length H0)] = some ⟨bl t, [], [none, none, none, none]⟩ := fun k => by rw [et1, et2, r1, r2]; exact q1 k
   cases t
   all_goals (try dsimp only [cond_true, cond_false])
   all_goals (conv => whnf)
   all_goals repeat' ((with_reducible (first | refine sCall.of (q1' _) ?_|refine st17 ?_|refine gA ?_ ?_<;>intro _|refine gE ?_ ?_<;>intro _|refine gD 4 [(1, 5), (1, 7), (5, 7), (1, 9), (5, 9), (7, 9)] ?_|refine gD 8 [(1, 2), (1, 3)] ?_)) <;> (try (conv => whnf)))
   all_goals first | rfl | (simp only [et1, et2] <;> rfl)
end Go.Proofs.YtipfcgbhaalcdaaGreat.Abs
