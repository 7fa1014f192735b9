/- FnNumBytes returns true for every input, and leaves its arguments as they read. Conditions: none beside the row's own. -/
import Derived.ChangeSame
import Derived.SizedLaws
import Derived.DataReads
import Derived.Carry
import Derived.WideShapes
import Derived.KernelRfl
import Derived.Test.YtfeenmfehgljgaaRows
import Derived.WalkKit
import Derived.ProofKit
import Derived.OpenShut
import Derived.ShutString
import Derived.ChangeOld
import Derived.Below
import Derived.Test.YtfeenmfehgljgaaJE5
namespace Go.Proofs.Ytfeenmfehgljgaa.Abs
open Go Go.Proofs
set_option linter.unusedVariables false
set_option linter.unusedSimpArgs false
attribute [local irreducible] callE
theorem ok_laws_sameInts (k : Nat) (r s : List Int) (hr : r.length ≤ 100000000000) (hs : s.length ≤ 100000000000) : callE PR C (k + 1) 57 [.h 1000000 0 0 [] 1 0 r.length, .h 1000001 0 0 [] 1 0 s.length] [tI r, tI s] = some ⟨bl (decide (r = s)), [], [none, none]⟩ := by
  by_cases h : r.length = s.length
  · (refine callE_is (callE_w [ResultVar.tmp 4] rfl Try.func57 rfl (by decide +kernel) rfl (by simp) ?_); (conv => whnf))
    repeat' ((with_reducible (first | refine gP ?_ | refine gN ?_ | refine fG.split (fun _ => ?_) (fun _ => ?_) | refine fG.not ?_ | refine gY ?_ | refine gF ?_ | refine fG.yes (flat_map (fun _ => rfl) _) ?_ | refine fG.bool (fun _ => ?_) (fun _ => ?_) | refine gS64 ?_ | refine gU8 ?_ | refine gI10 ?_ | refine fE.of rfl ?_ | refine gBq ?_ | refine gNum10 ?_ | refine gSet ?_ | refine gRd ?_ | refine gLk ?_ | refine gRow10 ?_ | refine fB.of (wide_map (fun _ => rfl) _) ?_ | refine fB.of (full_map (fun _ => rfl) _) ?_ | refine fB.of (full_map (fun x => full_rKept x) _) ?_ | refine gRf ?_ | refine sDraw.none (id := 6) (ty := tys) rfl (by decide +kernel) ?_)) <;> (try (conv => whnf)))
    refine loop_rule (ι := Nat) (fun j => [(0, .h 1000000 0 0 [] 1 0 r.length), (1, .h 1000001 0 0 [] 1 0 s.length), (5, i64 (j : Nat))])
      (fun x => [(1000000, ⟨0, 0, false, tI r⟩), (1000001, ⟨0, 0, false, tI s⟩)])
      (fun j => r.length - j) (fun j => j ≤ r.length ∧ r.take j = s.take j) 0 (by (try dsimp only [cond_true, cond_false]); exact ⟨⟨rfl, rfl, rfl, trivial⟩, ⟨rfl, rfl, trivial⟩⟩) ⟨Nat.zero_le _, rfl⟩ (by simp [C]; omega) ?_
    rintro j sl ob ⟨hj, ht⟩
    (try dsimp only [cond_true, cond_false])
    (conv => whnf)
    by_cases hjl : j < r.length
    · by_cases e : rd r j = rd s j
      · repeat' ((with_reducible (first | refine gP ?_ | refine gN ?_ | refine fG.split (fun _ => ?_) (fun _ => ?_) | refine fG.not ?_ | refine gY ?_ | refine gF ?_ | refine fG.yes (flat_map (fun _ => rfl) _) ?_ | refine fG.bool (fun _ => ?_) (fun _ => ?_) | refine gS64 ?_ | refine gU8 ?_ | refine gI10 ?_ | refine fE.of rfl ?_ | refine gBq ?_ | refine gNum10 ?_ | refine gSet ?_ | refine gRd ?_ | refine gLk ?_ | refine gRow10 ?_ | refine fB.of (wide_map (fun _ => rfl) _) ?_ | refine fB.of (full_map (fun _ => rfl) _) ?_ | refine fB.of (full_map (fun x => full_rKept x) _) ?_ | refine gRf ?_ | refine sDraw.none (id := 6) (ty := tys) rfl (by decide +kernel) ?_)) <;> (try (conv => whnf)))
        refine ⟨⟨j + 1, (by (try dsimp only [cond_true, cond_false]); exact ⟨⟨rfl, rfl, rfl, trivial⟩, ⟨rfl, rfl, trivial⟩⟩), ?_, ?_⟩⟩
        · exact ⟨by show j + 1 ≤ _; omega, take_next hjl (by omega) ht e⟩
        · show r.length - (j + 1) < r.length - j; omega
      · rw [decide_eq_false (fun hh : r = s => e (by rw [hh]))]
        repeat' ((with_reducible (first | refine gP ?_ | refine gN ?_ | refine fG.split (fun _ => ?_) (fun _ => ?_) | refine fG.not ?_ | refine gY ?_ | refine gF ?_ | refine fG.yes (flat_map (fun _ => rfl) _) ?_ | refine fG.bool (fun _ => ?_) (fun _ => ?_) | refine gS64 ?_ | refine gU8 ?_ | refine gI10 ?_ | refine fE.of rfl ?_ | refine gBq ?_ | refine gNum10 ?_ | refine gSet ?_ | refine gRd ?_ | refine gLk ?_ | refine gRow10 ?_ | refine fB.of (wide_map (fun _ => rfl) _) ?_ | refine fB.of (full_map (fun _ => rfl) _) ?_ | refine fB.of (full_map (fun x => full_rKept x) _) ?_ | refine gRf ?_ | refine sDraw.none (id := 6) (ty := tys) rfl (by decide +kernel) ?_)) <;> (try (conv => whnf)))
    · have hjj : j = r.length := by omega
      rw [decide_eq_true (take_all_eq h (by rw [← hjj]; exact ht))]
      repeat' ((with_reducible (first | refine gP ?_ | refine gN ?_ | refine fG.split (fun _ => ?_) (fun _ => ?_) | refine fG.not ?_ | refine gY ?_ | refine gF ?_ | refine fG.yes (flat_map (fun _ => rfl) _) ?_ | refine fG.bool (fun _ => ?_) (fun _ => ?_) | refine gS64 ?_ | refine gU8 ?_ | refine gI10 ?_ | refine fE.of rfl ?_ | refine gBq ?_ | refine gNum10 ?_ | refine gSet ?_ | refine gRd ?_ | refine gLk ?_ | refine gRow10 ?_ | refine fB.of (wide_map (fun _ => rfl) _) ?_ | refine fB.of (full_map (fun _ => rfl) _) ?_ | refine fB.of (full_map (fun x => full_rKept x) _) ?_ | refine gRf ?_ | refine sDraw.none (id := 6) (ty := tys) rfl (by decide +kernel) ?_)) <;> (try (conv => whnf)))
  · rw [decide_eq_false (fun hh : r = s => h (by rw [hh]))]
    (refine callE_is (callE_w [ResultVar.tmp 4] rfl Try.func57 rfl (by decide +kernel) rfl (by simp) ?_); (conv => whnf))
    repeat' ((with_reducible (first | refine gP ?_ | refine gN ?_ | refine fG.split (fun _ => ?_) (fun _ => ?_) | refine fG.not ?_ | refine gY ?_ | refine gF ?_ | refine fG.yes (flat_map (fun _ => rfl) _) ?_ | refine fG.bool (fun _ => ?_) (fun _ => ?_) | refine gS64 ?_ | refine gU8 ?_ | refine gI10 ?_ | refine fE.of rfl ?_ | refine gBq ?_ | refine gNum10 ?_ | refine gSet ?_ | refine gRd ?_ | refine gLk ?_ | refine gRow10 ?_ | refine fB.of (wide_map (fun _ => rfl) _) ?_ | refine fB.of (full_map (fun _ => rfl) _) ?_ | refine fB.of (full_map (fun x => full_rKept x) _) ?_ | refine gRf ?_ | refine sDraw.none (id := 6) (ty := tys) rfl (by decide +kernel) ?_)) <;> (try (conv => whnf)))
theorem ok_laws_sameState (k : Nat) (a : Int) (r o : List Int) (c a2 : Int) (r2 o2 : List Int) (c2 : Int) (h1 : r.length ≤ 100000000000) (h2 : o.length ≤ 100000000000) (h3 : r2.length ≤ 100000000000) (h4 : o2.length ≤ 100000000000) :
    callE PR C (k + 2) 23 [aState 0 a r o c, aState 2 a2 r2 o2 c2] [tI r, tI o, tI r2, tI o2] = some ⟨bl (sameS a r o c a2 r2 o2 c2), [], [none, none, none, none]⟩ := by
  rw [sameS_eq]
  (refine callE_is (callE_w [ResultVar.tmp 4] rfl Try.func23 rfl (by decide +kernel) rfl (by simp) ?_); (conv => whnf))
  repeat' ((with_reducible (first | refine sCall.of (ok_laws_sameInts _ _ _ h1 h3) ?_ | refine sCall.of (ok_laws_sameInts _ _ _ h2 h4) ?_ | refine gP ?_ | refine gN ?_ | refine fG.split (fun _ => ?_) (fun _ => ?_) | refine fG.not ?_ | refine gY ?_ | refine gF ?_ | refine fG.yes (flat_map (fun _ => rfl) _) ?_ | refine fG.bool (fun _ => ?_) (fun _ => ?_) | refine gS64 ?_ | refine gU8 ?_ | refine gI10 ?_ | refine fE.of rfl ?_ | refine gBq ?_ | refine gNum10 ?_ | refine gSet ?_ | refine gRd ?_ | refine gLk ?_ | refine gRow10 ?_ | refine fB.of (wide_map (fun _ => rfl) _) ?_ | refine fB.of (full_map (fun _ => rfl) _) ?_ | refine fB.of (full_map (fun x => full_rKept x) _) ?_ | refine gRf ?_)) <;> (try (conv => whnf)))
  all_goals (simp [*]; done)
theorem ok_laws_big (k : Nat) (b : List Int) : callE PR C (k + 1) 9 [.h 1000000 0 0 [] 1 0 b.length] [tB b] = some ⟨bl (decide (1048576 < (b.length : Int))), [], [none]⟩ := by
  (refine callE_is (callE_w [ResultVar.tmp 2] rfl Try.func9 rfl (by decide +kernel) rfl (by simp) ?_); (conv => whnf))
  repeat' ((with_reducible (first | refine gP ?_ | refine gN ?_ | refine fG.split (fun _ => ?_) (fun _ => ?_) | refine fG.not ?_ | refine gY ?_ | refine gF ?_ | refine fG.yes (flat_map (fun _ => rfl) _) ?_ | refine fG.bool (fun _ => ?_) (fun _ => ?_) | refine gS64 ?_ | refine gU8 ?_ | refine gI10 ?_ | refine fE.of rfl ?_ | refine gBq ?_ | refine gNum10 ?_ | refine gSet ?_ | refine gRd ?_ | refine gLk ?_ | refine gRow10 ?_ | refine fB.of (wide_map (fun _ => rfl) _) ?_ | refine fB.of (full_map (fun _ => rfl) _) ?_ | refine fB.of (full_map (fun x => full_rKept x) _) ?_ | refine gRf ?_)) <;> (try (conv => whnf)))
  all_goals (try simp [*]; done)

/-! ### What is kept of a replay that stands -/
theorem keepAll_len {l : List Ins} {es : List Event} (h : (replayAll l es).isSome = true) : (keepAll l es).length = es.length / 8 + 1 := by simp [keepAll, h]
theorem keepAll_rd {l : List Ins} {es : List Event} (h : (replayAll l es).isSome = true) {j : Nat} (hj : j < es.length / 8 + 1) : rd (keepAll l es) j = keptAt l es j := by
  simp only [keepAll, h, if_true]
  rw [rd_map (by simpa using hj)]
  congr 1
  simp [rd, hj]
theorem keepAll_right {l : List Ins} {es : List Event} (h : (replayAll l es).isSome = true) : keptOk l es (keepAll l es) = true := by
  refine keptOk_yes h (by rw [keepAll_len h]; omega) (by rw [keepAll_rd h (by omega)]; rfl) fun i hi => ?_
  rw [keepAll_len h] at hi
  have h1 : (rd (keepAll l es) i).n = (8 * i : Nat) := by rw [keepAll_rd h hi]; rfl
  have h3 : (rd (keepAll l es) i).s = stOf (replayAll l (es.take (8 * i))) := by rw [keepAll_rd h hi]; rfl
  have h2 : i = 0 ∨ (rd (keepAll l es) (i - 1)).n < (rd (keepAll l es) i).n := by
    by_cases c : i = 0
    · exact .inl c
    · right
      rw [h1, keepAll_rd h (by omega)]
      show ((8 * (i - 1) : Nat) : Int) < _
      omega
  simp only [keptOne, Bool.and_eq_true, decide_eq_true_eq]
  refine ⟨by rw [h1]; omega, h2, ?_⟩
  rw [h1, h3]
  rfl
theorem keepAll_fits (l : List Ins) (es : List Event) (he : es.length ≤ 100000000) : KFits (keepAll l es) := by
  cases h : (replayAll l es).isSome with
  | false => 
    have : keepAll l es = [] := by simp [keepAll, h]
    rw [this]
    exact ⟨by simp, fun j hj => by simp at hj⟩
  | true =>
    refine ⟨by rw [keepAll_len h]; omega, fun j hj => ?_⟩
    rw [keepAll_len h] at hj
    rw [keepAll_rd h hj]
    have h1 := (replay_take h (8 * j)).2
    have h2 := h1.regs
    have h3 := h1.out
    show (stOf (replayAll l (es.take (8 * j)))).regs.length ≤ _ ∧ (stOf (replayAll l (es.take (8 * j)))).out.length ≤ _
    omega
theorem lastAt_is (ks : List Kept) (n : Int) (q : Nat) (hq : (rd ks q).n ≤ n) (h : ∀ j, q < j → j < ks.length → n < (rd ks j).n) : ∀ j, q < j → j ≤ ks.length → lastAt ks n j = q := by
  intro j
  induction j with
  | zero => intro h1; omega
  | succ j ih =>
    intro h1 h2
    simp only [lastAt]
    by_cases c : j = q
    · subst c; rw [if_pos hq]
    · have := h j (by omega) (by omega)
      rw [if_neg (by omega)]
      exact ih (by omega) (by omega)
theorem keepAll_last {l : List Ins} {es : List Event} (h : (replayAll l es).isSome = true) {n : Nat} (hn : n ≤ es.length) : (lastK (keepAll l es) n).n = (8 * (n / 8) : Nat) := by
  have hd : n / 8 < es.length / 8 + 1 := by omega
  have e : lastAt (keepAll l es) n (keepAll l es).length = n / 8 := by
    refine lastAt_is _ _ (n / 8) ?_ (fun j h1 h2 => ?_) _ ?_ (by omega)
    · rw [keepAll_rd h hd]; show ((8 * (n / 8) : Nat) : Int) ≤ _; omega
    · rw [keepAll_len h] at h2
      rw [keepAll_rd h h2]; show _ < ((8 * j : Nat) : Int); omega
    · rw [keepAll_len h]; exact hd
  rw [lastK, e, keepAll_rd h hd]
  rfl
theorem keepAll_restore {l : List Ins} {es : List Event} (h : (replayAll l es).isSome = true) {n : Nat} (hn : n ≤ es.length) :
    restoreSt l es (keepAll l es) n = stOf (replayAll l (es.take n)) ∧ restoreN l es (keepAll l es) n = (n % 8 : Nat) := by
  have h1 := restore_yes (keepAll_right h) (n := (n : Int)) (by omega) (by omega)
  refine ⟨h1.1, ?_⟩
  rw [h1.2, keepAll_last h hn]
  omega

/-! ### Events that are drawn -/
theorem right_sok {l : List Ins} {s : State} (h : rightOk l s = true) : SOk l.length s ∧ IOk l.length (rd l s.at_.toNat) := by
  simp only [rightOk, Bool.and_eq_true] at h
  have h1 := stateOk_sok h.2.1
  have h0 := h1.at0
  have h2 := h1.at1
  exact ⟨h1, progOk_iok h.1 (by omega)⟩
def nextOr (l : List Ins) (s : State) : Event := if rightOk l s = true then next l s else ⟨0, 0, 0⟩
def doB (l : List Ins) (s : State) (e : Event) : Bool := rightOk l s && comes e (next l s)
def doSt (l : List Ins) (s : State) (e : Event) : State := if doB l s e = true then did l s e else s
theorem ok_spec_Next (k : Nat) (l : List Ins) (a : Int) (r o : List Int) (c : Int) (hl : l.length ≤ 100000000000) (hr : r.length ≤ 100000000000) (ho : o.length ≤ 100000000000) :
    callE PR C (k + 7) 95 [hIns 0 l, aState 1 a r o c] [tIns l, tI r, tI o] = some ⟨aEvent (nextOr l ⟨a, r, o, c⟩), [], [none, none, none]⟩ := by
  have q1 := fun k => ok_spec_l2Right k l a r o c hl hr ho
  unfold nextOr
  cases e1 : rightOk l ⟨a, r, o, c⟩ with
  | false =>
    simp only [e1] at q1
    (refine callE_is (callE_w [ResultVar.cell 4 90] rfl Try.func95 rfl (by decide +kernel) rfl (by simp) ?_); (conv => whnf))
    repeat' ((with_reducible (first | refine sCall.of (q1 _) ?_ | refine gP ?_ | refine gN ?_ | refine fG.split (fun _ => ?_) (fun _ => ?_) | refine fG.not ?_ | refine gY ?_ | refine gF ?_ | refine fG.yes (flat_map (fun _ => rfl) _) ?_ | refine fG.bool (fun _ => ?_) (fun _ => ?_) | refine gS64 ?_ | refine gU8 ?_ | refine gI10 ?_ | refine fE.of rfl ?_ | refine gBq ?_ | refine gNum10 ?_ | refine gSet ?_ | refine gRd ?_ | refine gLk ?_ | refine gRow10 ?_ | refine fB.of (wide_map (fun _ => rfl) _) ?_ | refine fB.of (full_map (fun _ => rfl) _) ?_ | refine fB.of (full_map (fun x => full_rKept x) _) ?_ | refine gRf ?_)) <;> (try (conv => whnf)))
    all_goals rfl
  | true =>
    simp only [e1] at q1
    have h := right_sok e1
    have q2 := fun k => ok_spec_l2Next k l a r o c hl h.1 h.2
    (refine callE_is (callE_w [ResultVar.cell 4 90] rfl Try.func95 rfl (by decide +kernel) rfl (by simp) ?_); (conv => whnf))
    repeat' ((with_reducible (first | refine sCall.of (q1 _) ?_ | refine sCall.of (q2 _) ?_ | refine gP ?_ | refine gN ?_ | refine fG.split (fun _ => ?_) (fun _ => ?_) | refine fG.not ?_ | refine gY ?_ | refine gF ?_ | refine fG.yes (flat_map (fun _ => rfl) _) ?_ | refine fG.bool (fun _ => ?_) (fun _ => ?_) | refine gS64 ?_ | refine gU8 ?_ | refine gI10 ?_ | refine fE.of rfl ?_ | refine gBq ?_ | refine gNum10 ?_ | refine gSet ?_ | refine gRd ?_ | refine gLk ?_ | refine gRow10 ?_ | refine fB.of (wide_map (fun _ => rfl) _) ?_ | refine fB.of (full_map (fun _ => rfl) _) ?_ | refine fB.of (full_map (fun x => full_rKept x) _) ?_ | refine gRf ?_)) <;> (try (conv => whnf)))
    all_goals rfl
theorem ok_spec_Do (k : Nat) (l : List Ins) (a : Int) (r o : List Int) (c : Int) (e : Event) (hl : l.length ≤ 100000000000) (hr : r.length ≤ 100000000000) (ho : o.length ≤ 100000000000) :
    callE PR C (k + 7) 96 [hIns 0 l, aState 1 a r o c, aEvent e] [tIns l, tI r, tI o] = some ⟨.tu [nSt 0 (doSt l ⟨a, r, o, c⟩ e), bl (doB l ⟨a, r, o, c⟩ e)], [tI9 (doSt l ⟨a, r, o, c⟩ e).regs, tI9 (doSt l ⟨a, r, o, c⟩ e).out], [none, none, none]⟩ := by
  have q1 := fun k => ok_spec_l2Right k l a r o c hl hr ho
  cases e1 : rightOk l ⟨a, r, o, c⟩ with
  | false =>
    simp only [e1] at q1
    have d1 : doB l ⟨a, r, o, c⟩ e = false := by simp [doB, e1]
    have d2 : doSt l ⟨a, r, o, c⟩ e = ⟨a, r, o, c⟩ := by simp [doSt, d1]
    rw [d1, d2]
    (refine callE_is (callE_w [ResultVar.cell 6 39, ResultVar.tmp 7] rfl Try.func96 rfl (by decide +kernel) rfl (by simp) ?_); (conv => whnf))
    repeat' ((with_reducible (first | refine sCall.of (q1 _) ?_ | refine sCall.of (ok_spec_l2Copy _ _ _ _ _ hr ho) ?_ | refine gP ?_ | refine gN ?_ | refine fG.split (fun _ => ?_) (fun _ => ?_) | refine fG.not ?_ | refine gY ?_ | refine gF ?_ | refine fG.yes (flat_map (fun _ => rfl) _) ?_ | refine fG.bool (fun _ => ?_) (fun _ => ?_) | refine gS64 ?_ | refine gU8 ?_ | refine gI10 ?_ | refine fE.of rfl ?_ | refine gBq ?_ | refine gNum10 ?_ | refine gSet ?_ | refine gRd ?_ | refine gLk ?_ | refine gRow10 ?_ | refine fB.of (wide_map (fun _ => rfl) _) ?_ | refine fB.of (full_map (fun _ => rfl) _) ?_ | refine fB.of (full_map (fun x => full_rKept x) _) ?_ | refine gRf ?_)) <;> (try (conv => whnf)))
    all_goals first | rfl | skip
  | true =>
    simp only [e1] at q1
    have h := right_sok e1
    have q2 := fun k => ok_spec_l2Do k l a r o c e hl h.1 h.2
    cases hk : comes e (next l ⟨a, r, o, c⟩) with
    | true =>
      simp only [doRes_true hk] at q2
      have d1 : doB l ⟨a, r, o, c⟩ e = true := by simp [doB, e1, hk]
      have d2 : doSt l ⟨a, r, o, c⟩ e = did l ⟨a, r, o, c⟩ e := by simp [doSt, d1]
      rw [d1, d2]
      (refine callE_is (callE_w [ResultVar.cell 6 39, ResultVar.tmp 7] rfl Try.func96 rfl (by decide +kernel) rfl (by simp) ?_); (conv => whnf))
      repeat' ((with_reducible (first | refine sCall.of (q1 _) ?_ | refine sCall.of (q2 _) ?_ | refine gP ?_ | refine gN ?_ | refine fG.split (fun _ => ?_) (fun _ => ?_) | refine fG.not ?_ | refine gY ?_ | refine gF ?_ | refine fG.yes (flat_map (fun _ => rfl) _) ?_ | refine fG.bool (fun _ => ?_) (fun _ => ?_) | refine gS64 ?_ | refine gU8 ?_ | refine gI10 ?_ | refine fE.of rfl ?_ | refine gBq ?_ | refine gNum10 ?_ | refine gSet ?_ | refine gRd ?_ | refine gLk ?_ | refine gRow10 ?_ | refine fB.of (wide_map (fun _ => rfl) _) ?_ | refine fB.of (full_map (fun _ => rfl) _) ?_ | refine fB.of (full_map (fun x => full_rKept x) _) ?_ | refine gRf ?_)) <;> (try (conv => whnf)))
      all_goals first | rfl | skip
    | false =>
      simp only [doRes_false hk] at q2
      have d1 : doB l ⟨a, r, o, c⟩ e = false := by simp [doB, e1, hk]
      have d2 : doSt l ⟨a, r, o, c⟩ e = ⟨a, r, o, c⟩ := by simp [doSt, d1]
      rw [d1, d2]
      (refine callE_is (callE_w [ResultVar.cell 6 39, ResultVar.tmp 7] rfl Try.func96 rfl (by decide +kernel) rfl (by simp) ?_); (conv => whnf))
      repeat' ((with_reducible (first | refine sCall.of (q1 _) ?_ | refine sCall.of (q2 _) ?_ | refine gP ?_ | refine gN ?_ | refine fG.split (fun _ => ?_) (fun _ => ?_) | refine fG.not ?_ | refine gY ?_ | refine gF ?_ | refine fG.yes (flat_map (fun _ => rfl) _) ?_ | refine fG.bool (fun _ => ?_) (fun _ => ?_) | refine gS64 ?_ | refine gU8 ?_ | refine gI10 ?_ | refine fE.of rfl ?_ | refine gBq ?_ | refine gNum10 ?_ | refine gSet ?_ | refine gRd ?_ | refine gLk ?_ | refine gRow10 ?_ | refine fB.of (wide_map (fun _ => rfl) _) ?_ | refine fB.of (full_map (fun _ => rfl) _) ?_ | refine fB.of (full_map (fun x => full_rKept x) _) ?_ | refine gRf ?_)) <;> (try (conv => whnf)))
      all_goals first | rfl | skip
theorem doSt_len {l : List Ins} {s : State} {e : Event} (h : doB l s e = true) : (doSt l s e).regs.length ≤ 100000000000 ∧ (doSt l s e).out.length ≤ 100000000000 := by
  rw [doSt, if_pos h]
  simp only [doB, Bool.and_eq_true] at h
  have h1 := right_sok h.1
  have h2 := did_ok h1.1 h1.2 h.2
  have h3 := h2.regs
  have h4 := h2.out
  omega
/-- Events that are drawn. -/
def DrawnEvents (b : List Int) (n : Nat) (r : Res) : Prop := ∃ (es : List Event) (i h : Int), es.length ≤ n ∧ 0 ≤ i ∧ i ≤ b.length ∧ r = ⟨.h 2000000 1 0 [] 3 0 es.length, [tEvent9 es], [none, some (tCur b i h), none]⟩
structure ED where
  es : List Event
  j : Nat
  s : State
  f : Bool
  b1 : Nat
  b2 : Nat
  o : Nat
  bb : Nat
  g : Nat
  d : Bool
  i : Int
  h : Int
set_option maxRecDepth 20000 in
set_option maxHeartbeats 8000000 in
theorem ok_spec_l3DrawEvents (k : Nat) (b : List Int) (i h : Int) (l : List Ins) (hb : Bytes b) (hl : l.length ≤ 100000000000 := by omega) (h0 : 0 ≤ i := by assumption) (h1 : i ≤ b.length := by assumption) :
    Told (callE PR C (k + 8) 73 [.pt 1000001 0 0 [] 0 0, .h 1000002 0 0 [] 5 0 l.length] [tB b, tCur b i h, tIns l]) (DrawnEvents b 24) := by
  have hbl := hb.len
  (refine callE_w [ResultVar.tmp 4] rfl Try.func73 rfl (by decide +kernel) rfl (by simp) ?_; (conv => whnf))
  repeat' ((with_reducible (first | refine sCall.of (ok_spec_StateNew _) ?_ | refine sCall.cur (ok_Below _ _ _ _ _ hb) (fun _ _ _ _ _ _ _ => ?_) | refine gP ?_ | refine gN ?_ | refine fG.split (fun _ => ?_) (fun _ => ?_) | refine fG.not ?_ | refine gY ?_ | refine gF ?_ | refine fG.yes (flat_map (fun _ => rfl) _) ?_ | refine fG.bool (fun _ => ?_) (fun _ => ?_) | refine gS64 ?_ | refine gU8 ?_ | refine gI10 ?_ | refine fE.of rfl ?_ | refine gBq ?_ | refine gNum10 ?_ | refine gSet ?_ | refine gRd ?_ | refine gLk ?_ | refine gRow10 ?_ | refine fB.of (wide_map (fun _ => rfl) _) ?_ | refine fB.of (full_map (fun _ => rfl) _) ?_ | refine fB.of (full_map (fun x => full_rKept x) _) ?_ | refine gRf ?_ | refine sZ.eq (i64_and255 _) ?_ | refine sZ.eq (i64_and30 _) ?_ | refine sZ.all (fun _ => ?_) | refine sW.all (fun _ => ?_))) <;> (try (conv => whnf)))
  rename_i n i0 h0' n0 n1 hi0 hi1
  refine loop_rule (ι := ED) (fun y => [(0, .pt 1000001 0 0 [] 0 0), (1, .h 1000002 0 0 [] 5 0 l.length), (5, .h y.o y.bb 0 [] 3 0 y.es.length), (6, .pt 6 1 0 [] 0 0), (7, i64 n), (8, i64 (y.j : Nat))])
    (fun y => [(1000000, ⟨0, 0, false, tB b⟩), (1000001, ⟨0, 0, true, tCur b y.i y.h⟩), (1000002, ⟨0, 0, false, tIns l⟩),
      (6, ⟨1, 0, true, .box [i64 y.s.at_, .h (bif y.f then 10013 else 10040) y.b1 0 [] 1 0 y.s.regs.length, .h (bif y.f then 20013 else 20040) y.b2 0 [] 1 0 y.s.out.length, i64 y.s.code]⟩),
      ((bif y.f then 10013 else 10040), ⟨y.b1, 0, false, tI9 y.s.regs⟩), ((bif y.f then 20013 else 20040), ⟨y.b2, 0, false, tI9 y.s.out⟩), (y.o, ⟨y.bb, y.g, y.d, tEvent9 y.es⟩)])
    (fun y => 25 - y.j) (fun y => y.j ≤ 24 ∧ y.es.length = y.j ∧ y.s.regs.length ≤ 100000000000 ∧ y.s.out.length ≤ 100000000000 ∧ 0 ≤ y.i ∧ y.i ≤ b.length ∧ (y.o = 12 ∨ y.o = 49))
    ⟨[], 0, newState, true, 1, 1, 12, _, _, _, _, _⟩ (by (try dsimp only [cond_true, cond_false]); exact ⟨⟨rfl, rfl, rfl, rfl, rfl, rfl, trivial⟩, ⟨rfl, rfl, rfl, rfl, rfl, rfl, rfl, trivial⟩⟩) ⟨by simp, rfl, by simp [newState], by simp [newState], by assumption, by assumption, .inl rfl⟩ (by simp [C]) ?_
  rintro ⟨es, j, s, f, b1, b2, o, bb, g, d, i1, h1'⟩ sl ob ⟨hj, hes, hr, ho, hi2, hi3, hoo⟩
  dsimp only at hj hes hr ho hi2 hi3 hoo
  subst hes
  have q1 := fun k => ok_spec_Next k l s.at_ s.regs s.out s.code hl hr ho
  have q2 := fun k e1 e2 e3 => ok_spec_Do k l s.at_ s.regs s.out s.code ⟨e1, e2, e3⟩ hl hr ho
  dsimp only [aEvent] at q2
  rcases hoo with rfl | rfl
  all_goals cases f
  all_goals (try dsimp only [cond_true, cond_false])
  all_goals (conv => whnf)
  all_goals repeat' ((with_reducible (first | refine sCall.of (q1 _) ?_ | refine sCall.cur (ok_Below _ _ _ _ _ hb) (fun _ _ _ _ _ _ _ => ?_) | refine sCall.of (q2 _ _ _ _) ?_ | refine gP ?_ | refine gN ?_ | refine fG.split (fun _ => ?_) (fun _ => ?_) | refine fG.not ?_ | refine gY ?_ | refine gF ?_ | refine fG.yes (flat_map (fun _ => rfl) _) ?_ | refine fG.bool (fun _ => ?_) (fun _ => ?_) | refine gS64 ?_ | refine gU8 ?_ | refine gI10 ?_ | refine fE.of rfl ?_ | refine gBq ?_ | refine gNum10 ?_ | refine gSet ?_ | refine gRd ?_ | refine gLk ?_ | refine gRow10 ?_ | refine fB.of (wide_map (fun _ => rfl) _) ?_ | refine fB.of (full_map (fun _ => rfl) _) ?_ | refine fB.of (full_map (fun x => full_rKept x) _) ?_ | refine gRf ?_)) <;> (try (conv => whnf)))
  all_goals first
    | exact ⟨es, _, _, by omega, by assumption, by assumption, rfl⟩
    | (rename_i hd
       refine ⟨⟨⟨es ++ [_], es.length + 1, doSt l s _, false, _, _, 49, _, _, _, _, _⟩, (by (try dsimp only [cond_true, cond_false]); exact ⟨⟨rfl, rfl, rfl, rfl, rfl, rfl, trivial⟩, ⟨rfl, rfl, rfl, rfl, rfl, rfl, rfl, trivial⟩⟩), ?_, ?_⟩⟩
       · exact ⟨by show es.length + 1 ≤ _; omega, by simp, (doSt_len hd).1, (doSt_len hd).2, by assumption, by assumption, .inr rfl⟩
       · show 25 - (es.length + 1) < 25 - es.length; omega)

theorem sCall.newCur {x : Option Res} {b : List Int} {F : Res → Prop} (e : Told x (fun r => ∃ h : Int, r = ⟨.pt 2000000 1 0 [] 0 0, [.box [.h 1000000 0 0 [] 1 0 b.length, i64 0, i64 h]], [none]⟩)) (h : ∀ h : Int, F ⟨.pt 2000000 1 0 [] 0 0, [tCur b 0 h], [none]⟩) : sCall x F :=
  sCall.ex e fun r hr => by obtain ⟨h', rfl⟩ := hr; exact h h'
theorem sCall.evs {x : Option Res} {b : List Int} {n : Nat} {F : Res → Prop} (e : Told x (DrawnEvents b n)) (h : ∀ (es : List Event) (i h : Int), es.length ≤ n → 0 ≤ i → i ≤ b.length → F ⟨.h 2000000 1 0 [] 3 0 es.length, [tEvent9 es], [none, some (tCur b i h), none]⟩) : sCall x F :=
  sCall.ex e fun r hr => by obtain ⟨es, i, h', h1, h2, h3, rfl⟩ := hr; exact h es i h' h1 h2 h3
/-- A program and events that are drawn. -/
def DrawnReplay (r : Res) : Prop := ∃ (l : List Ins) (es : List Event), l.length ≤ 40 ∧ es.length ≤ 24 ∧ r = ⟨.tu [.h 2000000 1 0 [] 5 0 l.length, .h 2000001 1 0 [] 3 0 es.length], [tIns9 l, tEvent9 es], [none]⟩
theorem dr_set (l : List Ins) (es : List Event) (n : Nat) (e : Event) (h1 : l.length ≤ 40) (h2 : es.length ≤ 24) : DrawnReplay ⟨.tu [.h 2000000 1 0 [] 5 0 l.length, .h 2000001 1 0 [] 3 0 es.length], [tIns9 l, tEvent9 (es.set n e)], [none]⟩ :=
  ⟨l, es.set n e, h1, by simp; exact h2, by simp⟩
set_option maxRecDepth 20000 in
set_option maxHeartbeats 8000000 in
theorem ok_spec_DrawReplay (k : Nat) (b : List Int) (hb : Bytes b) : Told (callE PR C (k + 9) 50 [.h 1000000 0 0 [] 1 0 b.length] [tB b]) DrawnReplay := by
  have hbl := hb.len
  have q0 := fun k => ok_spec_l1New k b hb.len hb.num
  have z0 : (0 : Int) ≤ 0 := Int.le_refl 0
  have z1 : (0 : Int) ≤ b.length := by omega
  (refine callE_w [ResultVar.tmp 2, ResultVar.tmp 3] rfl Try.func50 rfl (by decide +kernel) rfl (by simp) ?_; (conv => whnf))
  repeat' ((with_reducible (first | refine sCall.newCur (q0 _) (fun _ => ?_) | refine sCall.prog (ok_spec_l1DrawAny _ _ _ _ hb) (fun _ _ _ _ _ _ _ => ?_) | refine sCall.evs (ok_spec_l3DrawEvents _ _ _ _ _ hb) (fun _ _ _ _ _ _ => ?_) | refine sCall.cur (ok_Below _ _ _ _ _ hb) (fun _ _ _ _ _ _ _ => ?_) | refine gP ?_ | refine gN ?_ | refine fG.split (fun _ => ?_) (fun _ => ?_) | refine fG.not ?_ | refine gY ?_ | refine gF ?_ | refine fG.yes (flat_map (fun _ => rfl) _) ?_ | refine fG.bool (fun _ => ?_) (fun _ => ?_) | refine gS64 ?_ | refine gU8 ?_ | refine gI10 ?_ | refine fE.of rfl ?_ | refine gBq ?_ | refine gNum10 ?_ | refine gSet ?_ | refine gRd ?_ | refine gLk ?_ | refine gRow10 ?_ | refine fB.of (wide_map (fun _ => rfl) _) ?_ | refine fB.of (full_map (fun _ => rfl) _) ?_ | refine fB.of (full_map (fun x => full_rKept x) _) ?_ | refine gRf ?_ | refine sDraw.none (id := 12) (ty := tys) rfl (by decide +kernel) ?_)) <;> (try (conv => whnf)))
  case' refine_1.refine_2.refine_2.refine_1 =>
    refine sI.mk (by simp only [List.length_map, List.length_take, List.length_drop]; omega) ?_
    (conv => whnf)
    repeat' ((with_reducible (first | refine gP ?_ | refine gN ?_ | refine fG.split (fun _ => ?_) (fun _ => ?_) | refine fG.not ?_ | refine gY ?_ | refine gF ?_ | refine fG.yes (flat_map (fun _ => rfl) _) ?_ | refine fG.bool (fun _ => ?_) (fun _ => ?_) | refine gS64 ?_ | refine gU8 ?_ | refine gI10 ?_ | refine fE.of rfl ?_ | refine gBq ?_ | refine gNum10 ?_ | refine gSet ?_ | refine gRd ?_ | refine gLk ?_ | refine gRow10 ?_ | refine fB.of (wide_map (fun _ => rfl) _) ?_ | refine fB.of (full_map (fun _ => rfl) _) ?_ | refine fB.of (full_map (fun x => full_rKept x) _) ?_ | refine gRf ?_ | refine sDraw.none (id := 12) (ty := tys) rfl (by decide +kernel) ?_)) <;> (try (conv => whnf)))
    refine sI.mk (by simp only [List.length_map, List.length_append, List.length_take, List.length_drop]; omega) ?_
    (conv => whnf)
    repeat' ((with_reducible (first | refine gP ?_ | refine gN ?_ | refine fG.split (fun _ => ?_) (fun _ => ?_) | refine fG.not ?_ | refine gY ?_ | refine gF ?_ | refine fG.yes (flat_map (fun _ => rfl) _) ?_ | refine fG.bool (fun _ => ?_) (fun _ => ?_) | refine gS64 ?_ | refine gU8 ?_ | refine gI10 ?_ | refine fE.of rfl ?_ | refine gBq ?_ | refine gNum10 ?_ | refine gSet ?_ | refine gRd ?_ | refine gLk ?_ | refine gRow10 ?_ | refine fB.of (wide_map (fun _ => rfl) _) ?_ | refine fB.of (full_map (fun _ => rfl) _) ?_ | refine fB.of (full_map (fun x => full_rKept x) _) ?_ | refine gRf ?_ | refine sDraw.none (id := 12) (ty := tys) rfl (by decide +kernel) ?_)) <;> (try (conv => whnf)))
  all_goals first
    | exact ⟨_, _, by assumption, by assumption, rfl⟩
    | exact dr_set _ _ _ _ (by assumption) (by assumption)
    | exact ⟨_, _, by assumption, by simp only [List.length_append, List.length_take, List.length_drop]; omega, rfl⟩
    | skip
theorem sCall.dr {x : Option Res} {F : Res → Prop} (e : Told x DrawnReplay) (h : ∀ (l : List Ins) (es : List Event), l.length ≤ 40 → es.length ≤ 24 → F ⟨.tu [.h 2000000 1 0 [] 5 0 l.length, .h 2000001 1 0 [] 3 0 es.length], [tIns9 l, tEvent9 es], [none]⟩) : sCall x F :=
  sCall.ex e fun r hr => by obtain ⟨l, es, h1, h2, rfl⟩ := hr; exact h l es h1 h2
theorem ok_spec_DrawKeepAll (k : Nat) (b : List Int) (hb : Bytes b) : Told (callE PR C (k + 10) 17 [.h 1000000 0 0 [] 1 0 b.length] [tB b]) DrawnReplay := by
  (refine callE_w [ResultVar.tmp 2, ResultVar.tmp 3] rfl Try.func17 rfl (by decide +kernel) rfl (by simp) ?_; (conv => whnf))
  repeat' ((with_reducible (first | refine sCall.dr (ok_spec_DrawReplay _ _ hb) (fun _ _ _ _ => ?_) | refine gP ?_ | refine gN ?_ | refine fG.split (fun _ => ?_) (fun _ => ?_) | refine fG.not ?_ | refine gY ?_ | refine gF ?_ | refine fG.yes (flat_map (fun _ => rfl) _) ?_ | refine fG.bool (fun _ => ?_) (fun _ => ?_) | refine gS64 ?_ | refine gU8 ?_ | refine gI10 ?_ | refine fE.of rfl ?_ | refine gBq ?_ | refine gNum10 ?_ | refine gSet ?_ | refine gRd ?_ | refine gLk ?_ | refine gRow10 ?_ | refine fB.of (wide_map (fun _ => rfl) _) ?_ | refine fB.of (full_map (fun _ => rfl) _) ?_ | refine fB.of (full_map (fun x => full_rKept x) _) ?_ | refine gRf ?_)) <;> (try (conv => whnf)))
  exact ⟨_, _, by assumption, by assumption, rfl⟩

set_option maxRecDepth 20000 in
set_option maxHeartbeats 8000000 in
theorem ok_laws_FnKept (k : Nat) (b : List Int) (hl : b.length ≤ 140737488355328) (hv : ∀ v ∈ b, 0 ≤ v ∧ v < 256) :
    callE PR C (k + 13) 4 [.h 1000000 0 0 [] 1 0 b.length] [tB b] = some ⟨bl true, [], [none]⟩ := by
  have q0 := fun k => ok_laws_big k b
  by_cases c0 : 1048576 < (b.length : Int)
  · rw [decide_eq_true c0] at q0
    (refine callE_is (callE_w [ResultVar.tmp 2] rfl Try.func4 rfl (by decide +kernel) rfl (by simp) ?_); (conv => whnf))
    repeat' ((with_reducible (first | refine sCall.of (q0 _) ?_ | refine gP ?_ | refine gN ?_ | refine fG.split (fun _ => ?_) (fun _ => ?_) | refine fG.not ?_ | refine gY ?_ | refine gF ?_ | refine fG.yes (flat_map (fun _ => rfl) _) ?_ | refine fG.bool (fun _ => ?_) (fun _ => ?_) | refine gS64 ?_ | refine gU8 ?_ | refine gI10 ?_ | refine fE.of rfl ?_ | refine gBq ?_ | refine gNum10 ?_ | refine gSet ?_ | refine gRd ?_ | refine gLk ?_ | refine gRow10 ?_ | refine fB.of (wide_map (fun _ => rfl) _) ?_ | refine fB.of (full_map (fun _ => rfl) _) ?_ | refine fB.of (full_map (fun x => full_rKept x) _) ?_ | refine gRf ?_)) <;> (try (conv => whnf)))
  · rw [decide_eq_false c0] at q0
    have hb : Bytes b := ⟨by omega, hv⟩
    (refine callE_is (callE_w [ResultVar.tmp 2] rfl Try.func4 rfl (by decide +kernel) rfl (by simp) ?_); (conv => whnf))
    repeat' ((with_reducible (first | refine sCall.of (q0 _) ?_ | refine sCall.dr (ok_spec_DrawKeepAll _ _ hb) (fun _ _ _ _ => ?_) | refine gP ?_ | refine gN ?_ | refine fG.split (fun _ => ?_) (fun _ => ?_) | refine fG.not ?_ | refine gY ?_ | refine gF ?_ | refine fG.yes (flat_map (fun _ => rfl) _) ?_ | refine fG.bool (fun _ => ?_) (fun _ => ?_) | refine gS64 ?_ | refine gU8 ?_ | refine gI10 ?_ | refine fE.of rfl ?_ | refine gBq ?_ | refine gNum10 ?_ | refine gSet ?_ | refine gRd ?_ | refine gLk ?_ | refine gRow10 ?_ | refine fB.of (wide_map (fun _ => rfl) _) ?_ | refine fB.of (full_map (fun _ => rfl) _) ?_ | refine fB.of (full_map (fun x => full_rKept x) _) ?_ | refine gRf ?_)) <;> (try (conv => whnf)))
    rename_i l es hl40 he24
    have hl' : l.length ≤ 100000000000 := by omega
    have he' : es.length ≤ 100000000000 := by omega
    have q1 := fun k => ok_impl_KeepAll k l es hl' he'
    have q2 := fun k => ok_spec_KeepAll k l es hl' he'
    have q3 := fun k => ok_impl_Replay' k l es hl' he'
    cases hr : (replayAll l es).isSome with
    | false =>
      simp only [hr] at q3
      have e : keepAll l es = [] := by simp [keepAll, hr]
      simp only [e] at q1 q2
      repeat' ((with_reducible (first | refine sCall.of (q1 _) ?_ | refine sCall.of (q2 _) ?_ | refine sCall.of (q3 _) ?_ | refine gP ?_ | refine gN ?_ | refine fG.split (fun _ => ?_) (fun _ => ?_) | refine fG.not ?_ | refine gY ?_ | refine gF ?_ | refine fG.yes (flat_map (fun _ => rfl) _) ?_ | refine fG.bool (fun _ => ?_) (fun _ => ?_) | refine gS64 ?_ | refine gU8 ?_ | refine gI10 ?_ | refine fE.of rfl ?_ | refine gBq ?_ | refine gNum10 ?_ | refine gSet ?_ | refine gRd ?_ | refine gLk ?_ | refine gRow10 ?_ | refine fB.of (wide_map (fun _ => rfl) _) ?_ | refine fB.of (full_map (fun _ => rfl) _) ?_ | refine fB.of (full_map (fun x => full_rKept x) _) ?_ | refine gRf ?_)) <;> (try (conv => whnf)))
      all_goals rfl
    | true =>
      simp only [hr] at q3
      have hf := keepAll_fits l es (by omega)
      have hklen := keepAll_len hr
      have q4 := fun k => ok_impl_KeptOk k l es (keepAll l es) hl' he' hf
      simp only [keepAll_right hr] at q4
      repeat' ((with_reducible (first | refine sCall.of (q1 _) ?_ | refine sCall.of (q2 _) ?_ | refine sCall.of (q3 _) ?_ | refine sCall.of (q4 _) ?_ | refine gP ?_ | refine gN ?_ | refine fG.split (fun _ => ?_) (fun _ => ?_) | refine fG.not ?_ | refine gY ?_ | refine gF ?_ | refine fG.yes (flat_map (fun _ => rfl) _) ?_ | refine fG.bool (fun _ => ?_) (fun _ => ?_) | refine gS64 ?_ | refine gU8 ?_ | refine gI10 ?_ | refine fE.of rfl ?_ | refine gBq ?_ | refine gNum10 ?_ | refine gSet ?_ | refine gRd ?_ | refine gLk ?_ | refine gRow10 ?_ | refine fB.of (wide_map (fun _ => rfl) _) ?_ | refine fB.of (full_map (fun _ => rfl) _) ?_ | refine fB.of (full_map (fun x => full_rKept x) _) ?_ | refine gRf ?_)) <;> (try (conv => whnf)))
      refine loop_rule (ι := Nat) (fun j => [(3, .h 10017 1 0 [] 5 0 l.length), (4, .h 20017 1 0 [] 3 0 es.length), (5, .h 10022 1 0 [] 5 0 (keepAll l es).length), (8, i64 (j : Nat))])
        (fun _ => [(10017, ⟨1, 0, false, tIns9 l⟩), (20017, ⟨1, 0, false, tEvent9 es⟩), (10022, ⟨1, 0, false, tKept9 (keepAll l es)⟩)])
        (fun j => es.length + 1 - j) (fun j => j ≤ es.length + 1) 0 (by (try dsimp only [cond_true, cond_false]); exact ⟨⟨rfl, rfl, rfl, rfl, trivial⟩, ⟨rfl, rfl, rfl, trivial⟩⟩) (Nat.zero_le _) (by simp [C]; omega) ?_
      rintro j sl ob hj
      (try dsimp only [cond_true, cond_false])
      (conv => whnf)
      by_cases hjl : j ≤ es.length
      · have hR := keepAll_restore hr hjl
        have hT := (replay_take hr j).2
        have t1 : (stOf (replayAll l (es.take j))).regs.length ≤ 100000000000 := by have := hT.regs; omega
        have t2 : (stOf (replayAll l (es.take j))).out.length ≤ 100000000000 := by have := hT.out; omega
        have q5 := fun k => ok_impl_Restore k l es (keepAll l es) j hl' he' hf
        have q6 := fun k => ok_impl_Again k l es (keepAll l es) j hl' he' hf
        simp only [hR.1, hR.2] at q5 q6
        have q7 := fun k => ok_impl_Replay' k l (es.take j) hl' (by simp; omega)
        generalize hn8 : j % 8 = n8 at q5 q6
        have hn8' : n8 < 8 := by omega
        generalize hst : stOf (replayAll l (es.take j)) = st at q5 q7 t1 t2
        have q8 := fun k => ok_laws_sameState k st.at_ st.regs st.out st.code st.at_ st.regs st.out st.code t1 t2 t1 t2
        simp only [sameS_of (rfl : st = st)] at q8
        repeat' ((with_reducible (first | refine sCall.of (q5 _) ?_ | refine sCall.of (q7 _) ?_ | refine sCall.of (q8 _) ?_ | refine sCall.of (q6 _) ?_ | refine gP ?_ | refine gN ?_ | refine fG.split (fun _ => ?_) (fun _ => ?_) | refine fG.not ?_ | refine gY ?_ | refine gF ?_ | refine fG.yes (flat_map (fun _ => rfl) _) ?_ | refine fG.bool (fun _ => ?_) (fun _ => ?_) | refine gS64 ?_ | refine gU8 ?_ | refine gI10 ?_ | refine fE.of rfl ?_ | refine gBq ?_ | refine gNum10 ?_ | refine gSet ?_ | refine gRd ?_ | refine gLk ?_ | refine gRow10 ?_ | refine fB.of (wide_map (fun _ => rfl) _) ?_ | refine fB.of (full_map (fun _ => rfl) _) ?_ | refine fB.of (full_map (fun x => full_rKept x) _) ?_ | refine gRf ?_)) <;> (try (conv => whnf)))
        all_goals first
          | (exfalso; omega)
          | skip
        refine ⟨⟨j + 1, (by (try dsimp only [cond_true, cond_false]); exact ⟨⟨rfl, rfl, rfl, rfl, trivial⟩, ⟨rfl, rfl, rfl, trivial⟩⟩), ?_, ?_⟩⟩
        · show j + 1 ≤ _; omega
        · show es.length + 1 - (j + 1) < es.length + 1 - j; omega
      · repeat' ((with_reducible (first | refine gP ?_ | refine gN ?_ | refine fG.split (fun _ => ?_) (fun _ => ?_) | refine fG.not ?_ | refine gY ?_ | refine gF ?_ | refine fG.yes (flat_map (fun _ => rfl) _) ?_ | refine fG.bool (fun _ => ?_) (fun _ => ?_) | refine gS64 ?_ | refine gU8 ?_ | refine gI10 ?_ | refine fE.of rfl ?_ | refine gBq ?_ | refine gNum10 ?_ | refine gSet ?_ | refine gRd ?_ | refine gLk ?_ | refine gRow10 ?_ | refine fB.of (wide_map (fun _ => rfl) _) ?_ | refine fB.of (full_map (fun _ => rfl) _) ?_ | refine fB.of (full_map (fun x => full_rKept x) _) ?_ | refine gRf ?_)) <;> (try (conv => whnf)))

end Go.Proofs.Ytfeenmfehgljgaa.Abs
namespace Go.Proofs.Ytfeenmfehgljgaa.Abs
open Go Go.Proofs
set_option linter.unusedVariables false
set_option linter.unusedSimpArgs false
attribute [local irreducible] callE
/-! ### Numbers in bytes -/
theorem sW.eq {k : IntKind} {n r : Int} {F : Int → Prop} (e : k.wrap n = r) (h : F r) : sW k n F := ⟨by rw [e]; exact h⟩
/-- Numbers from 0 in bytes of 7 bits. -/
def vb (m : Nat) : List Int := if 127 < m then ((m % 128 + 128 : Nat) : Int) :: vb (m / 128) else [(m : Int)]
termination_by m
theorem vb_more {m : Nat} (h : 127 < m) : vb m = ((m % 128 + 128 : Nat) : Int) :: vb (m / 128) := by rw [vb, if_pos h]
theorem vb_last {m : Nat} (h : ¬ 127 < m) : vb m = [(m : Int)] := by rw [vb, if_neg h]
def zig (x : Int) : Nat := (if x < 0 then -2 * x - 1 else 2 * x).toNat
def putNum (x : Int) : List Int := if -2000000000 ≤ x ∧ x ≤ 2000000000 then vb (zig x) else []
theorem zig_le {x : Int} (h : -2000000000 ≤ x ∧ x ≤ 2000000000) : zig x ≤ 4000000000 := by unfold zig; split <;> omega
theorem and127 {m : Nat} (h : m < 4611686018427387904) : Go.bits .and .i64 (m : Int) 127 = ((m % 128 : Nat) : Int) := by
  have hw : ∀ n : Int, 0 ≤ n → n < 2 ^ 62 → IntKind.i64.wrap n = n := by intro n h0 h1; rw [IntKind.wrap_i64]; omega
  have := bits_mask .i64 62 (by decide) hw 7 (by decide) (m : Int) (by omega) (by omega)
  have e : ((2 : Int) ^ 7 - 1) = 127 := by decide
  rw [e] at this
  rw [this]; simp
theorem or128 {x : Nat} (h : x < 128) : Go.bits .or .i64 (x : Int) 128 = ((x + 128 : Nat) : Int) := by
  have hw : ∀ n : Int, 0 ≤ n → n < 2 ^ 62 → IntKind.i64.wrap n = n := by intro n h0 h1; rw [IntKind.wrap_i64]; omega
  have := (bits_nat .i64 62 (by decide) hw x 128 (by omega) (by omega)).2
  rw [show ((128 : Nat) : Int) = 128 from rfl] at this
  rw [this]
  congr 1
  have h2 := Nat.two_pow_add_eq_or_of_lt (i := 7) (b := x) (by omega) 1
  rw [Nat.or_comm]; simpa [Nat.add_comm] using h2.symm
structure PN where
  l : List Int
  n : Nat
  o : Nat
  bb : Nat
set_option maxRecDepth 20000 in
theorem ok_impl_PutNum (k : Nat) (x : Int) : callE PR C (k + 2) 11 [i64 x] [] = some ⟨.h 2000000 1 0 [] 1 0 (putNum x).length, [.tree 9 (.sl 1 ((putNum x).map rB))], []⟩ := by
  have hz : ((zig x : Nat) : Int) = if x < 0 then -2 * x - 1 else 2 * x := by unfold zig; split <;> omega
  have q1 := fun k => ok_impl_in k x (-2000000000) 2000000000
  by_cases hx : -2000000000 ≤ x ∧ x ≤ 2000000000
  · rw [decide_eq_true hx] at q1
    have hl := zig_le hx
    rw [putNum, if_pos hx]
    by_cases hn : x < 0
    all_goals (first | rw [if_pos hn] at hz | rw [if_neg hn] at hz)
    all_goals (refine callE_is (callE_w [ResultVar.tmp 2] rfl Try.func11 rfl (by decide +kernel) rfl (by simp) ?_); (conv => whnf))
    all_goals repeat' ((with_reducible (first | refine sCall.of (q1 _) ?_ | refine gP ?_ | refine gN ?_ | refine fG.split (fun _ => ?_) (fun _ => ?_) | refine fG.not ?_ | refine gY ?_ | refine gF ?_ | refine fG.yes (flat_map (fun _ => rfl) _) ?_ | refine fG.bool (fun _ => ?_) (fun _ => ?_) | refine gS64 ?_ | refine gU8 ?_ | refine gI10 ?_ | refine fE.of rfl ?_ | refine gBq ?_ | refine gNum10 ?_ | refine gSet ?_ | refine gRd ?_ | refine gLk ?_ | refine gRow10 ?_ | refine fB.of (wide_map (fun _ => rfl) _) ?_ | refine fB.of (full_map (fun _ => rfl) _) ?_ | refine fB.of (full_map (fun x => full_rKept x) _) ?_ | refine gRf ?_)) <;> (try (conv => whnf)))
    all_goals
      refine loop_rule (ι := PN) (fun y => [(3, i64 (y.n : Nat)), (4, .h y.o y.bb 0 [] 1 0 y.l.length)])
        (fun y => [(y.o, ⟨y.bb, 0, false, .tree 9 (.sl 1 (y.l.map rB))⟩)]) (fun y => y.n) (fun y => y.l.length + y.n ≤ zig x ∧ (y.o = 15 ∨ y.o = 24) ∧ y.l ++ vb y.n = vb (zig x))
        ⟨[], zig x, 15, _⟩ ⟨⟨by rw [hz]; rfl, rfl, trivial⟩, ⟨rfl, trivial⟩⟩ ⟨by simp, .inl rfl, by simp⟩ (by simp [C]; omega) ?_
      rintro ⟨out, n, o, bb⟩ sl ob ⟨hle, ho, hv⟩
      dsimp only at hle ho hv
      have w1 := @and127 n (by omega)
      have w2 := @or128 (n % 128) (by omega)
      have w3 : (n : Int).fdiv (2 ^ min (7 : Int).toNat IntKind.i64.bits) = ((n / 128 : Nat) : Int) := by
        rw [Int.fdiv_eq_ediv_of_nonneg _ (by decide)]
        show (n : Int) / 128 = _
        omega
      rcases ho with rfl | rfl
      all_goals (try dsimp only [cond_true, cond_false])
      all_goals (conv => whnf)
      all_goals repeat' ((with_reducible (first | refine sZ.eq (w1) ?_ | refine sZ.eq (w2) ?_ | refine sZ.eq (w3) ?_ | refine gP ?_ | refine gN ?_ | refine fG.split (fun _ => ?_) (fun _ => ?_) | refine fG.not ?_ | refine gY ?_ | refine gF ?_ | refine fG.yes (flat_map (fun _ => rfl) _) ?_ | refine fG.bool (fun _ => ?_) (fun _ => ?_) | refine gS64 ?_ | refine gU8 ?_ | refine gI10 ?_ | refine fE.of rfl ?_ | refine gBq ?_ | refine gNum10 ?_ | refine gSet ?_ | refine gRd ?_ | refine gLk ?_ | refine gRow10 ?_ | refine fB.of (wide_map (fun _ => rfl) _) ?_ | refine fB.of (full_map (fun _ => rfl) _) ?_ | refine fB.of (full_map (fun x => full_rKept x) _) ?_ | refine gRf ?_)) <;> (try (conv => whnf)))
      all_goals first
        | (refine ⟨⟨⟨out ++ [((n % 128 + 128 : Nat) : Int)], n / 128, 24, _⟩, (by (try dsimp only [cond_true, cond_false]); exact ⟨⟨rfl, rfl, trivial⟩, ⟨rfl, trivial⟩⟩), ?_, ?_⟩⟩
           · exact ⟨by show List.length _ + n / 128 ≤ _; simp; omega, .inr rfl, by show _ ++ vb (n / 128) = _; rw [vb_more (by omega : 127 < n)] at hv; simpa using hv⟩
           · show n / 128 < n; omega)
        | (rw [vb_last (m := n) (by omega)] at hv
           rw [← hv])
        | skip
  · rw [decide_eq_false hx] at q1
    rw [putNum, if_neg hx]
    (refine callE_is (callE_w [ResultVar.tmp 2] rfl Try.func11 rfl (by decide +kernel) rfl (by simp) ?_); (conv => whnf))
    repeat' ((with_reducible (first | refine sCall.of (q1 _) ?_ | refine gP ?_ | refine gN ?_ | refine fG.split (fun _ => ?_) (fun _ => ?_) | refine fG.not ?_ | refine gY ?_ | refine gF ?_ | refine fG.yes (flat_map (fun _ => rfl) _) ?_ | refine fG.bool (fun _ => ?_) (fun _ => ?_) | refine gS64 ?_ | refine gU8 ?_ | refine gI10 ?_ | refine fE.of rfl ?_ | refine gBq ?_ | refine gNum10 ?_ | refine gSet ?_ | refine gRd ?_ | refine gLk ?_ | refine gRow10 ?_ | refine fB.of (wide_map (fun _ => rfl) _) ?_ | refine fB.of (full_map (fun _ => rfl) _) ?_ | refine fB.of (full_map (fun x => full_rKept x) _) ?_ | refine gRf ?_)) <;> (try (conv => whnf)))
    all_goals rfl
set_option maxRecDepth 20000 in
theorem ok_spec_PutNum (k : Nat) (x : Int) : callE PR C (k + 2) 12 [i64 x] [] = some ⟨.h 2000000 1 0 [] 1 0 (putNum x).length, [.tree 9 (.sl 1 ((putNum x).map rB))], []⟩ := by
  have hz : ((zig x : Nat) : Int) = if x < 0 then -2 * x - 1 else 2 * x := by unfold zig; split <;> omega
  have q1 := fun k => ok_spec_l1In k x (-2000000000) 2000000000
  by_cases hx : -2000000000 ≤ x ∧ x ≤ 2000000000
  · rw [decide_eq_true hx] at q1
    have hl := zig_le hx
    rw [putNum, if_pos hx]
    by_cases hn : x < 0
    all_goals (first | rw [if_pos hn] at hz | rw [if_neg hn] at hz)
    all_goals (refine callE_is (callE_w [ResultVar.tmp 2] rfl Try.func12 rfl (by decide +kernel) rfl (by simp) ?_); (conv => whnf))
    all_goals repeat' ((with_reducible (first | refine sCall.of (q1 _) ?_ | refine gP ?_ | refine gN ?_ | refine fG.split (fun _ => ?_) (fun _ => ?_) | refine fG.not ?_ | refine gY ?_ | refine gF ?_ | refine fG.yes (flat_map (fun _ => rfl) _) ?_ | refine fG.bool (fun _ => ?_) (fun _ => ?_) | refine gS64 ?_ | refine gU8 ?_ | refine gI10 ?_ | refine fE.of rfl ?_ | refine gBq ?_ | refine gNum10 ?_ | refine gSet ?_ | refine gRd ?_ | refine gLk ?_ | refine gRow10 ?_ | refine fB.of (wide_map (fun _ => rfl) _) ?_ | refine fB.of (full_map (fun _ => rfl) _) ?_ | refine fB.of (full_map (fun x => full_rKept x) _) ?_ | refine gRf ?_)) <;> (try (conv => whnf)))
    all_goals
      refine loop_rule (ι := PN) (fun y => [(3, .h y.o y.bb 0 [] 1 0 y.l.length), (4, i64 (y.n : Nat))])
        (fun y => [(y.o, ⟨y.bb, 0, false, .tree 9 (.sl 1 (y.l.map rB))⟩)]) (fun y => y.n) (fun y => y.l.length + y.n ≤ zig x ∧ (y.o = 5 ∨ y.o = 25) ∧ y.l ++ vb y.n = vb (zig x))
        ⟨[], zig x, 5, _⟩ ⟨⟨rfl, by rw [hz]; rfl, trivial⟩, ⟨rfl, trivial⟩⟩ ⟨by simp, .inl rfl, by simp⟩ (by simp [C]; omega) ?_
      rintro ⟨out, n, o, bb⟩ sl ob ⟨hle, ho, hv⟩
      dsimp only at hle ho hv
      have w1 : (n : Int).tmod 128 = ((n % 128 : Nat) : Int) := by rw [Int.tmod_eq_emod_of_nonneg (by omega)]; omega
      have w2 : IntKind.i64.wrap (((n % 128 : Nat) : Int) + 128) = ((n % 128 + 128 : Nat) : Int) := by rw [wrap_i64 _ (by omega) (by omega)]; omega
      have w3 : (n : Int).tdiv 128 = ((n / 128 : Nat) : Int) := by rw [Int.tdiv_eq_ediv_of_nonneg (by omega)]; omega
      rcases ho with rfl | rfl
      all_goals (try dsimp only [cond_true, cond_false])
      all_goals (conv => whnf)
      all_goals repeat' ((with_reducible (first | refine sZ.eq (w1) ?_ | refine sW.eq (w2) ?_ | refine sZ.eq (w3) ?_ | refine gP ?_ | refine gN ?_ | refine fG.split (fun _ => ?_) (fun _ => ?_) | refine fG.not ?_ | refine gY ?_ | refine gF ?_ | refine fG.yes (flat_map (fun _ => rfl) _) ?_ | refine fG.bool (fun _ => ?_) (fun _ => ?_) | refine gS64 ?_ | refine gU8 ?_ | refine gI10 ?_ | refine fE.of rfl ?_ | refine gBq ?_ | refine gNum10 ?_ | refine gSet ?_ | refine gRd ?_ | refine gLk ?_ | refine gRow10 ?_ | refine fB.of (wide_map (fun _ => rfl) _) ?_ | refine fB.of (full_map (fun _ => rfl) _) ?_ | refine fB.of (full_map (fun x => full_rKept x) _) ?_ | refine gRf ?_)) <;> (try (conv => whnf)))
      all_goals first
        | (refine ⟨⟨⟨out ++ [((n % 128 + 128 : Nat) : Int)], n / 128, 25, _⟩, (by (try dsimp only [cond_true, cond_false]); exact ⟨⟨rfl, rfl, trivial⟩, ⟨rfl, trivial⟩⟩), ?_, ?_⟩⟩
           · exact ⟨by show List.length _ + n / 128 ≤ _; simp; omega, .inr rfl, by show _ ++ vb (n / 128) = _; rw [vb_more (by omega : 127 < n)] at hv; simpa using hv⟩
           · show n / 128 < n; omega)
        | (rw [vb_last (m := n) (by omega)] at hv
           rw [← hv])
        | skip
  · rw [decide_eq_false hx] at q1
    rw [putNum, if_neg hx]
    (refine callE_is (callE_w [ResultVar.tmp 2] rfl Try.func12 rfl (by decide +kernel) rfl (by simp) ?_); (conv => whnf))
    repeat' ((with_reducible (first | refine sCall.of (q1 _) ?_ | refine gP ?_ | refine gN ?_ | refine fG.split (fun _ => ?_) (fun _ => ?_) | refine fG.not ?_ | refine gY ?_ | refine gF ?_ | refine fG.yes (flat_map (fun _ => rfl) _) ?_ | refine fG.bool (fun _ => ?_) (fun _ => ?_) | refine gS64 ?_ | refine gU8 ?_ | refine gI10 ?_ | refine fE.of rfl ?_ | refine gBq ?_ | refine gNum10 ?_ | refine gSet ?_ | refine gRd ?_ | refine gLk ?_ | refine gRow10 ?_ | refine fB.of (wide_map (fun _ => rfl) _) ?_ | refine fB.of (full_map (fun _ => rfl) _) ?_ | refine fB.of (full_map (fun x => full_rKept x) _) ?_ | refine gRf ?_)) <;> (try (conv => whnf)))
    all_goals rfl

def unz (m : Nat) : Int := if m % 2 = 1 then -(((m + 1) / 2 : Nat) : Int) else ((m / 2 : Nat) : Int)
def gotNum (p k M : Nat) (v : Int) : Int × Int × Bool := if (v = 0 ∧ 0 < k) ∨ ¬ (-2000000000 ≤ unz M ∧ unz M ≤ 2000000000) then (0, 0, false) else (unz M, (p : Int) + k + 1, true)
def getGo (b : List Int) (p : Nat) : Nat → Nat → Nat → Int × Int × Bool
  | 0, _, _ => (0, 0, false)
  | f + 1, m, k => if p + k < b.length then
      (if 127 < rd b (p + k) then getGo b p f (m + (rd b (p + k)).toNat % 128 * 2 ^ (7 * k)) (k + 1) else gotNum p k (m + (rd b (p + k)).toNat % 128 * 2 ^ (7 * k)) (rd b (p + k)))
    else (0, 0, false)
def getNum (b : List Int) (p : Int) : Int × Int × Bool := if 0 ≤ p ∧ p ≤ b.length then getGo b p.toNat 5 0 0 else (0, 0, false)
theorem orN (i : Nat) (hi : i ≤ 28) (m v : Nat) (hm : m < 2 ^ i) (hv : v < 128) : Go.bits .or .i64 (m : Int) ((v * 2 ^ i : Nat) : Int) = ((m + v * 2 ^ i : Nat) : Int) := by
  have hw : ∀ n : Int, 0 ≤ n → n < 2 ^ 62 → IntKind.i64.wrap n = n := by intro n h0 h1; rw [IntKind.wrap_i64]; omega
  have hp : 2 ^ i ≤ 2 ^ 28 := Nat.pow_le_pow_right (by decide) hi
  have hprod : v * 2 ^ i ≤ 127 * 2 ^ 28 := Nat.mul_le_mul (by omega) hp
  rw [(bits_nat .i64 62 (by decide) hw m (v * 2 ^ i) (by omega) (by omega)).2]
  congr 1
  have h2 := Nat.two_pow_add_eq_or_of_lt hm v
  rw [Nat.or_comm, Nat.mul_comm v, ← h2, Nat.add_comm]
theorem bnd (k m v : Nat) (hk : k ≤ 4) (hm : m < 2 ^ (7 * k)) (hv : v < 128) : m + v * 2 ^ (7 * k) < 2 ^ (7 * (k + 1)) ∧ m + v * 2 ^ (7 * k) < 34359738368 := by
  have h1 : 2 ^ (7 * (k + 1)) = 128 * 2 ^ (7 * k) := by rw [show 7 * (k + 1) = 7 * k + 7 by omega, Nat.pow_add]; omega
  have h3 : 2 ^ (7 * (k + 1)) ≤ 2 ^ 35 := Nat.pow_le_pow_right (by decide) (by omega)
  have h4 : (2 : Nat) ^ 35 = 34359738368 := by decide
  have h2 : v * 2 ^ (7 * k) ≤ 127 * 2 ^ (7 * k) := Nat.mul_le_mul_right _ (by omega)
  omega
/-- What a round reckons. -/
structure GN (v : Int) (m kk M : Nat) : Prop where
  lt : M < 34359738368
  wA : Go.bits .and .i64 v 127 = ((v.toNat % 128 : Nat) : Int)
  wR : v.tmod 128 = ((v.toNat % 128 : Nat) : Int)
  wS : IntKind.i64.wrap (((v.toNat % 128 : Nat) : Int) * 2 ^ min (7 * (kk : Int)).toNat IntKind.i64.bits) = ((v.toNat % 128 * 2 ^ (7 * kk) : Nat) : Int)
  wO : Go.bits .or .i64 (m : Int) ((v.toNat % 128 * 2 ^ (7 * kk) : Nat) : Int) = (M : Int)
  nx : M < 2 ^ (7 * (kk + 1))
  half : (M : Int).tdiv 2 = ((M / 2 : Nat) : Int)
  odd : (M : Int).tmod 2 = ((M % 2 : Nat) : Int)
  neg : (0 - ((M : Int) + 1)).tdiv 2 = -(((M + 1) / 2 : Nat) : Int)
theorem gn_of {v : Int} {m kk M : Nat} (hk : kk ≤ 4) (hm : m < 2 ^ (7 * kk)) (h0 : 0 ≤ v) (h1 : v < 256) (hM : M = m + v.toNat % 128 * 2 ^ (7 * kk)) : GN v m kk M := by
  have hb := bnd kk m (v.toNat % 128) hk hm (by omega)
  have hi : (7 * (kk : Int)).toNat = 7 * kk := by omega
  obtain ⟨n, rfl⟩ := Int.eq_ofNat_of_zero_le h0
  refine ⟨by omega, and127 (by omega), ?_, ?_, ?_, by omega, ?_, ?_, ?_⟩
  · rw [Int.tmod_eq_emod_of_nonneg (by omega)]; simp
  · rw [hi, Nat.min_eq_left (by show 7 * kk ≤ 64; omega)]
    have : ((((n : Int)).toNat % 128 : Nat) : Int) * 2 ^ (7 * kk) = (((n : Int).toNat % 128 * 2 ^ (7 * kk) : Nat) : Int) := by simp
    rw [this]
    exact wrap_i64 _ (by omega) (by omega)
  · rw [orN (7 * kk) (by omega) m _ hm (by omega), hM]
  · rw [Int.tdiv_eq_ediv_of_nonneg (by omega)]; omega
  · rw [Int.tmod_eq_emod_of_nonneg (by omega)]; omega
  · rw [show (0 - ((M : Int) + 1)) = -((M : Int) + 1) by omega, Int.neg_tdiv, Int.tdiv_eq_ediv_of_nonneg (by omega)]; omega
structure GS where
  k : Nat
  m : Nat
set_option maxRecDepth 20000 in
set_option maxHeartbeats 4000000 in
theorem ok_impl_GetNum (j : Nat) (b : List Int) (p : Int) (hl : b.length ≤ 100000000000) (hb : ∀ v ∈ b, 0 ≤ v ∧ v < 256) :
    callE PR C (j + 2) 13 [.h 1000000 0 0 [] 1 0 b.length, i64 p] [tB b] = some ⟨.tu [i64 (getNum b p).1, i64 (getNum b p).2.1, bl (getNum b p).2.2], [], [none]⟩ := by
  have q1 := fun k => ok_impl_in k p 0 b.length
  by_cases hp : 0 ≤ p ∧ p ≤ b.length
  · rw [decide_eq_true hp] at q1
    rw [getNum, if_pos hp]
    obtain ⟨hp0, hp1⟩ := hp
    obtain ⟨pn, rfl⟩ := Int.eq_ofNat_of_zero_le hp0
    simp only [Int.toNat_natCast]
    generalize hR : getGo b pn 5 0 0 = R
    (refine callE_is (callE_w [ResultVar.tmp 4, ResultVar.tmp 5, ResultVar.tmp 6] rfl Try.func13 rfl (by decide +kernel) rfl (by simp) ?_); (conv => whnf))
    repeat' ((with_reducible (first | refine sCall.of (q1 _) ?_ | refine gP ?_ | refine gN ?_ | refine fG.split (fun _ => ?_) (fun _ => ?_) | refine fG.not ?_ | refine gY ?_ | refine gF ?_ | refine fG.yes (flat_map (fun _ => rfl) _) ?_ | refine fG.bool (fun _ => ?_) (fun _ => ?_) | refine gS64 ?_ | refine gU8 ?_ | refine gI10 ?_ | refine fE.of rfl ?_ | refine gBq ?_ | refine gNum10 ?_ | refine gSet ?_ | refine gRd ?_ | refine gLk ?_ | refine gRow10 ?_ | refine fB.of (wide_map (fun _ => rfl) _) ?_ | refine fB.of (full_map (fun _ => rfl) _) ?_ | refine fB.of (full_map (fun x => full_rKept x) _) ?_ | refine gRf ?_)) <;> (try (conv => whnf)))
    refine loop_rule (ι := GS) (fun y => [(0, .h 1000000 0 0 [] 1 0 b.length), (1, i64 (pn : Nat)), (7, i64 (y.m : Nat)), (8, i64 (y.k : Nat))])
      (fun y => [(1000000, ⟨0, 0, false, tB b⟩)]) (fun y => 5 - y.k) (fun y => y.k ≤ 5 ∧ y.m < 2 ^ (7 * y.k) ∧ R = getGo b pn (5 - y.k) y.m y.k)
      ⟨0, 0⟩ (by (try dsimp only [cond_true, cond_false]); exact ⟨⟨rfl, rfl, rfl, rfl, trivial⟩, ⟨rfl, trivial⟩⟩) ⟨by simp, by simp, hR.symm⟩ (by simp [C]) ?_
    rintro ⟨k, m⟩ sl ob ⟨hk, hm, hg⟩
    dsimp only at hk hm hg
    (try dsimp only [cond_true, cond_false])
    (conv => whnf)
    by_cases hk5 : k < 5
    · by_cases hlen : pn + k < b.length
      · have hv := hb _ (rd_mem hlen)
        have hG := gn_of (by omega) hm hv.1 hv.2 rfl
        generalize hM : m + (rd b (pn + k)).toNat % 128 * 2 ^ (7 * k) = M at hG
        have hlt := hG.lt
        have e5 : getGo b pn (5 - k) m k = (if 127 < rd b (pn + k) then getGo b pn (5 - (k + 1)) M (k + 1) else gotNum pn k M (rd b (pn + k))) := by
          rw [show 5 - k = (5 - (k + 1)) + 1 by omega, getGo, if_pos hlen, hM]
        have wI : IntKind.i64.wrap (rd b ((pn : Int) + (k : Int)).toNat) = rd b (pn + k) := by rw [show ((pn : Int) + (k : Int)).toNat = pn + k by omega]; exact wrap_i64 _ (by omega) (by omega)
        generalize rd b (pn + k) = v at hv hM hG e5 wI ⊢
        repeat' ((with_reducible (first | refine sCall.of (ok_impl_in _ _ _ _) ?_ | refine sW.eq (wI) ?_ | refine sZ.eq (hG.wA) ?_ | refine sW.eq (hG.wS) ?_ | refine sZ.eq (hG.wO) ?_ | refine sZ.eq (hG.half) ?_ | refine sZ.eq (hG.odd) ?_ | refine sZ.eq (hG.neg) ?_ | refine gP ?_ | refine gN ?_ | refine fG.split (fun _ => ?_) (fun _ => ?_) | refine fG.not ?_ | refine gY ?_ | refine gF ?_ | refine fG.yes (flat_map (fun _ => rfl) _) ?_ | refine fG.bool (fun _ => ?_) (fun _ => ?_) | refine gS64 ?_ | refine gU8 ?_ | refine gI10 ?_ | refine fE.of rfl ?_ | refine gBq ?_ | refine gNum10 ?_ | refine gSet ?_ | refine gRd ?_ | refine gLk ?_ | refine gRow10 ?_ | refine fB.of (wide_map (fun _ => rfl) _) ?_ | refine fB.of (full_map (fun _ => rfl) _) ?_ | refine fB.of (full_map (fun x => full_rKept x) _) ?_ | refine gRf ?_)) <;> (try (conv => whnf)))
        case' refine_1 h127 =>
          refine ⟨⟨⟨k + 1, M⟩, (by (try dsimp only [cond_true, cond_false]); exact ⟨⟨rfl, rfl, rfl, rfl, trivial⟩, ⟨rfl, trivial⟩⟩), ?_, ?_⟩⟩
          · exact ⟨by show k + 1 ≤ 5; omega, hG.nx, by rw [hg, e5, if_pos h127]⟩
          · show 5 - (k + 1) < 5 - k; omega
        all_goals
          rw [hg, e5, if_neg (by assumption), gotNum]
          by_cases hodd : M % 2 = 1
          · rw [show unz M = -(((M + 1) / 2 : Nat) : Int) from if_pos hodd]
            first
              | (exfalso; omega)
              | (rw [if_pos (by omega)]; done)
              | (rw [if_neg (by omega)]; done)
          · rw [show unz M = ((M / 2 : Nat) : Int) from if_neg hodd]
            first
              | (exfalso; omega)
              | (rw [if_pos (by omega)]; done)
              | (rw [if_neg (by omega)]; done)
      · have e0 : getGo b pn (5 - k) m k = (0, 0, false) := by rw [show 5 - k = (5 - (k + 1)) + 1 by omega, getGo, if_neg hlen]
        rw [e0] at hg
        subst hg
        repeat' ((with_reducible (first | refine gP ?_ | refine gN ?_ | refine fG.split (fun _ => ?_) (fun _ => ?_) | refine fG.not ?_ | refine gY ?_ | refine gF ?_ | refine fG.yes (flat_map (fun _ => rfl) _) ?_ | refine fG.bool (fun _ => ?_) (fun _ => ?_) | refine gS64 ?_ | refine gU8 ?_ | refine gI10 ?_ | refine fE.of rfl ?_ | refine gBq ?_ | refine gNum10 ?_ | refine gSet ?_ | refine gRd ?_ | refine gLk ?_ | refine gRow10 ?_ | refine fB.of (wide_map (fun _ => rfl) _) ?_ | refine fB.of (full_map (fun _ => rfl) _) ?_ | refine fB.of (full_map (fun x => full_rKept x) _) ?_ | refine gRf ?_)) <;> (try (conv => whnf)))
    · have e0 : getGo b pn (5 - k) m k = (0, 0, false) := by rw [show 5 - k = 0 by omega, getGo]
      rw [e0] at hg
      subst hg
      repeat' ((with_reducible (first | refine gP ?_ | refine gN ?_ | refine fG.split (fun _ => ?_) (fun _ => ?_) | refine fG.not ?_ | refine gY ?_ | refine gF ?_ | refine fG.yes (flat_map (fun _ => rfl) _) ?_ | refine fG.bool (fun _ => ?_) (fun _ => ?_) | refine gS64 ?_ | refine gU8 ?_ | refine gI10 ?_ | refine fE.of rfl ?_ | refine gBq ?_ | refine gNum10 ?_ | refine gSet ?_ | refine gRd ?_ | refine gLk ?_ | refine gRow10 ?_ | refine fB.of (wide_map (fun _ => rfl) _) ?_ | refine fB.of (full_map (fun _ => rfl) _) ?_ | refine fB.of (full_map (fun x => full_rKept x) _) ?_ | refine gRf ?_)) <;> (try (conv => whnf)))
  · rw [decide_eq_false hp] at q1
    rw [getNum, if_neg hp]
    (refine callE_is (callE_w [ResultVar.tmp 4, ResultVar.tmp 5, ResultVar.tmp 6] rfl Try.func13 rfl (by decide +kernel) rfl (by simp) ?_); (conv => whnf))
    repeat' ((with_reducible (first | refine sCall.of (q1 _) ?_ | refine gP ?_ | refine gN ?_ | refine fG.split (fun _ => ?_) (fun _ => ?_) | refine fG.not ?_ | refine gY ?_ | refine gF ?_ | refine fG.yes (flat_map (fun _ => rfl) _) ?_ | refine fG.bool (fun _ => ?_) (fun _ => ?_) | refine gS64 ?_ | refine gU8 ?_ | refine gI10 ?_ | refine fE.of rfl ?_ | refine gBq ?_ | refine gNum10 ?_ | refine gSet ?_ | refine gRd ?_ | refine gLk ?_ | refine gRow10 ?_ | refine fB.of (wide_map (fun _ => rfl) _) ?_ | refine fB.of (full_map (fun _ => rfl) _) ?_ | refine fB.of (full_map (fun x => full_rKept x) _) ?_ | refine gRf ?_)) <;> (try (conv => whnf)))
    all_goals rfl

theorem vb_pos (m : Nat) : 0 < (vb m).length := by
  by_cases h : 127 < m
  · rw [vb_more h]; simp
  · rw [vb_last h]; simp
theorem putNum_len (x : Int) : (putNum x).length = 0 ↔ ¬ (-2000000000 ≤ x ∧ x ≤ 2000000000) := by
  unfold putNum
  split
  · have := vb_pos (zig x)
    constructor
    · intro h; omega
    · intro h; exact absurd (by assumption) h
  · simp [*]
set_option maxRecDepth 20000 in
set_option maxHeartbeats 4000000 in
theorem ok_spec_GetNum (j : Nat) (b : List Int) (p : Int) (hl : b.length ≤ 100000000000) (hb : ∀ v ∈ b, 0 ≤ v ∧ v < 256) :
    callE PR C (j + 3) 16 [.h 1000000 0 0 [] 1 0 b.length, i64 p] [tB b] = some ⟨.tu [i64 (getNum b p).1, i64 (getNum b p).2.1, bl (getNum b p).2.2], [], [none]⟩ := by
  by_cases hp : 0 ≤ p ∧ p ≤ b.length
  · rw [getNum, if_pos hp]
    obtain ⟨hp0, hp1⟩ := hp
    obtain ⟨pn, rfl⟩ := Int.eq_ofNat_of_zero_le hp0
    simp only [Int.toNat_natCast]
    generalize hR : getGo b pn 5 0 0 = R
    by_cases hpe : pn < b.length
    case' neg =>
      have hR2 : R = (0, 0, false) := by rw [← hR]; show getGo b pn (4 + 1) 0 0 = _; rw [getGo, if_neg (by omega)]
      subst hR2
    all_goals (refine callE_is (callE_w [ResultVar.tmp 4, ResultVar.tmp 5, ResultVar.tmp 6] rfl Try.func16 rfl (by decide +kernel) rfl (by simp) ?_); (conv => whnf))
    all_goals repeat' ((with_reducible (first | refine gP ?_ | refine gN ?_ | refine fG.split (fun _ => ?_) (fun _ => ?_) | refine fG.not ?_ | refine gY ?_ | refine gF ?_ | refine fG.yes (flat_map (fun _ => rfl) _) ?_ | refine fG.bool (fun _ => ?_) (fun _ => ?_) | refine gS64 ?_ | refine gU8 ?_ | refine gI10 ?_ | refine fE.of rfl ?_ | refine gBq ?_ | refine gNum10 ?_ | refine gSet ?_ | refine gRd ?_ | refine gLk ?_ | refine gRow10 ?_ | refine fB.of (wide_map (fun _ => rfl) _) ?_ | refine fB.of (full_map (fun _ => rfl) _) ?_ | refine fB.of (full_map (fun x => full_rKept x) _) ?_ | refine gRf ?_)) <;> (try (conv => whnf)))
    refine loop_rule (ι := GS) (fun y => [(0, .h 1000000 0 0 [] 1 0 b.length), (1, i64 (pn : Nat)), (7, i64 (y.m : Nat)), (8, i64 (y.k : Nat))])
      (fun y => [(1000000, ⟨0, 0, false, tB b⟩)]) (fun y => 5 - y.k) (fun y => y.k ≤ 5 ∧ y.m < 2 ^ (7 * y.k) ∧ R = getGo b pn (5 - y.k) y.m y.k)
      ⟨0, 0⟩ (by (try dsimp only [cond_true, cond_false]); exact ⟨⟨rfl, rfl, rfl, rfl, trivial⟩, ⟨rfl, trivial⟩⟩) ⟨by simp, by simp, hR.symm⟩ (by simp [C]) ?_
    rintro ⟨k, m⟩ sl ob ⟨hk, hm, hg⟩
    dsimp only at hk hm hg
    (try dsimp only [cond_true, cond_false])
    (conv => whnf)
    by_cases hk5 : k < 5
    · by_cases hlen : pn + k < b.length
      · have hv := hb _ (rd_mem hlen)
        have hG := gn_of (by omega) hm hv.1 hv.2 rfl
        generalize hM : m + (rd b (pn + k)).toNat % 128 * 2 ^ (7 * k) = M at hG
        have hlt := hG.lt
        have e5 : getGo b pn (5 - k) m k = (if 127 < rd b (pn + k) then getGo b pn (5 - (k + 1)) M (k + 1) else gotNum pn k M (rd b (pn + k))) := by
          rw [show 5 - k = (5 - (k + 1)) + 1 by omega, getGo, if_pos hlen, hM]
        have wI : IntKind.i64.wrap (rd b ((pn : Int) + (k : Int)).toNat) = rd b (pn + k) := by rw [show ((pn : Int) + (k : Int)).toNat = pn + k by omega]; exact wrap_i64 _ (by omega) (by omega)
        generalize rd b (pn + k) = v at hv hM hG e5 wI ⊢
        by_cases hodd : M % 2 = 1
        · have hu : unz M = -(((M + 1) / 2 : Nat) : Int) := if_pos hodd
          have hN : IntKind.i64.wrap (0 - ((M / 2 : Nat) : Int) - 1) = unz M := by rw [wrap_i64 _ (by omega) (by omega), hu]; omega
          have hpl := putNum_len (unz M)
          repeat' ((with_reducible (first | refine sCall.of (ok_spec_PutNum _ _) ?_ | refine sW.eq (wI) ?_ | refine sZ.eq (hG.wR) ?_ | refine sW.eq (hG.wS) ?_ | refine sZ.eq (hG.wO) ?_ | refine sZ.eq (hG.half) ?_ | refine sZ.eq (hG.odd) ?_ | refine sW.eq (hN) ?_ | refine gP ?_ | refine gN ?_ | refine fG.split (fun _ => ?_) (fun _ => ?_) | refine fG.not ?_ | refine gY ?_ | refine gF ?_ | refine fG.yes (flat_map (fun _ => rfl) _) ?_ | refine fG.bool (fun _ => ?_) (fun _ => ?_) | refine gS64 ?_ | refine gU8 ?_ | refine gI10 ?_ | refine fE.of rfl ?_ | refine gBq ?_ | refine gNum10 ?_ | refine gSet ?_ | refine gRd ?_ | refine gLk ?_ | refine gRow10 ?_ | refine fB.of (wide_map (fun _ => rfl) _) ?_ | refine fB.of (full_map (fun _ => rfl) _) ?_ | refine fB.of (full_map (fun x => full_rKept x) _) ?_ | refine gRf ?_)) <;> (try (conv => whnf)))
          case' refine_1 h127 =>
            refine ⟨⟨⟨k + 1, M⟩, (by (try dsimp only [cond_true, cond_false]); exact ⟨⟨rfl, rfl, rfl, rfl, trivial⟩, ⟨rfl, trivial⟩⟩), ?_, ?_⟩⟩
            · exact ⟨by show k + 1 ≤ 5; omega, hG.nx, by rw [hg, e5, if_pos (by omega)]⟩
            · show 5 - (k + 1) < 5 - k; omega
          all_goals
            rw [hg, e5, if_neg (by omega), gotNum]
            first
              | (exfalso; omega)
              | (rw [if_pos (by omega)]; done)
              | (rw [if_neg (by omega)]; done)
        · have hu : unz M = ((M / 2 : Nat) : Int) := if_neg hodd
          have hN : IntKind.i64.wrap ((M / 2 : Nat) : Int) = unz M := by rw [wrap_i64 _ (by omega) (by omega), hu]
          have hpl := putNum_len (unz M)
          repeat' ((with_reducible (first | refine sCall.of (ok_spec_PutNum _ _) ?_ | refine sW.eq (wI) ?_ | refine sZ.eq (hG.wR) ?_ | refine sW.eq (hG.wS) ?_ | refine sZ.eq (hG.wO) ?_ | refine sZ.eq (hG.half) ?_ | refine sZ.eq (hG.odd) ?_ | refine sW.eq (hN) ?_ | refine gP ?_ | refine gN ?_ | refine fG.split (fun _ => ?_) (fun _ => ?_) | refine fG.not ?_ | refine gY ?_ | refine gF ?_ | refine fG.yes (flat_map (fun _ => rfl) _) ?_ | refine fG.bool (fun _ => ?_) (fun _ => ?_) | refine gS64 ?_ | refine gU8 ?_ | refine gI10 ?_ | refine fE.of rfl ?_ | refine gBq ?_ | refine gNum10 ?_ | refine gSet ?_ | refine gRd ?_ | refine gLk ?_ | refine gRow10 ?_ | refine fB.of (wide_map (fun _ => rfl) _) ?_ | refine fB.of (full_map (fun _ => rfl) _) ?_ | refine fB.of (full_map (fun x => full_rKept x) _) ?_ | refine gRf ?_)) <;> (try (conv => whnf)))
          case' refine_1 h127 =>
            refine ⟨⟨⟨k + 1, M⟩, (by (try dsimp only [cond_true, cond_false]); exact ⟨⟨rfl, rfl, rfl, rfl, trivial⟩, ⟨rfl, trivial⟩⟩), ?_, ?_⟩⟩
            · exact ⟨by show k + 1 ≤ 5; omega, hG.nx, by rw [hg, e5, if_pos (by omega)]⟩
            · show 5 - (k + 1) < 5 - k; omega
          all_goals
            rw [hg, e5, if_neg (by omega), gotNum]
            first
              | (exfalso; omega)
              | (rw [if_pos (by omega)]; done)
              | (rw [if_neg (by omega)]; done)
      · have e0 : getGo b pn (5 - k) m k = (0, 0, false) := by rw [show 5 - k = (5 - (k + 1)) + 1 by omega, getGo, if_neg hlen]
        rw [e0] at hg
        subst hg
        repeat' ((with_reducible (first | refine gP ?_ | refine gN ?_ | refine fG.split (fun _ => ?_) (fun _ => ?_) | refine fG.not ?_ | refine gY ?_ | refine gF ?_ | refine fG.yes (flat_map (fun _ => rfl) _) ?_ | refine fG.bool (fun _ => ?_) (fun _ => ?_) | refine gS64 ?_ | refine gU8 ?_ | refine gI10 ?_ | refine fE.of rfl ?_ | refine gBq ?_ | refine gNum10 ?_ | refine gSet ?_ | refine gRd ?_ | refine gLk ?_ | refine gRow10 ?_ | refine fB.of (wide_map (fun _ => rfl) _) ?_ | refine fB.of (full_map (fun _ => rfl) _) ?_ | refine fB.of (full_map (fun x => full_rKept x) _) ?_ | refine gRf ?_)) <;> (try (conv => whnf)))
    · have e0 : getGo b pn (5 - k) m k = (0, 0, false) := by rw [show 5 - k = 0 by omega, getGo]
      rw [e0] at hg
      subst hg
      repeat' ((with_reducible (first | refine gP ?_ | refine gN ?_ | refine fG.split (fun _ => ?_) (fun _ => ?_) | refine fG.not ?_ | refine gY ?_ | refine gF ?_ | refine fG.yes (flat_map (fun _ => rfl) _) ?_ | refine fG.bool (fun _ => ?_) (fun _ => ?_) | refine gS64 ?_ | refine gU8 ?_ | refine gI10 ?_ | refine fE.of rfl ?_ | refine gBq ?_ | refine gNum10 ?_ | refine gSet ?_ | refine gRd ?_ | refine gLk ?_ | refine gRow10 ?_ | refine fB.of (wide_map (fun _ => rfl) _) ?_ | refine fB.of (full_map (fun _ => rfl) _) ?_ | refine fB.of (full_map (fun x => full_rKept x) _) ?_ | refine gRf ?_)) <;> (try (conv => whnf)))
  · rw [getNum, if_neg hp]
    (refine callE_is (callE_w [ResultVar.tmp 4, ResultVar.tmp 5, ResultVar.tmp 6] rfl Try.func16 rfl (by decide +kernel) rfl (by simp) ?_); (conv => whnf))
    repeat' ((with_reducible (first | refine gP ?_ | refine gN ?_ | refine fG.split (fun _ => ?_) (fun _ => ?_) | refine fG.not ?_ | refine gY ?_ | refine gF ?_ | refine fG.yes (flat_map (fun _ => rfl) _) ?_ | refine fG.bool (fun _ => ?_) (fun _ => ?_) | refine gS64 ?_ | refine gU8 ?_ | refine gI10 ?_ | refine fE.of rfl ?_ | refine gBq ?_ | refine gNum10 ?_ | refine gSet ?_ | refine gRd ?_ | refine gLk ?_ | refine gRow10 ?_ | refine fB.of (wide_map (fun _ => rfl) _) ?_ | refine fB.of (full_map (fun _ => rfl) _) ?_ | refine fB.of (full_map (fun x => full_rKept x) _) ?_ | refine gRf ?_)) <;> (try (conv => whnf)))
    all_goals rfl

/-! ### Bytes of numbers, plainly -/
theorem vb_byte (m : Nat) : ∀ v ∈ vb m, 0 ≤ v ∧ v < 256 := by
  induction m using Nat.strongRecOn with
  | ind m ih =>
    by_cases h : 127 < m
    · rw [vb_more h]
      intro v hv
      rcases List.mem_cons.1 hv with rfl | hv
      · omega
      · exact ih _ (by omega) v hv
    · rw [vb_last h]
      intro v hv
      have : v = m := by simpa using hv
      omega
theorem vb_len (j : Nat) : ∀ m, m < 128 ^ (j + 1) → (vb m).length ≤ j + 1 := by
  induction j with
  | zero => intro m h; rw [vb_last (by omega)]; simp
  | succ j ih =>
    intro m h
    by_cases h1 : 127 < m
    · rw [vb_more h1, List.length_cons]
      have := ih (m / 128) (by rw [Nat.pow_succ] at h; omega)
      omega
    · rw [vb_last h1]; simp
theorem putNum_byte (x : Int) : ∀ v ∈ putNum x, 0 ≤ v ∧ v < 256 := by
  unfold putNum
  split
  · exact vb_byte _
  · simp
theorem putNum_five (x : Int) : (putNum x).length ≤ 5 := by
  unfold putNum
  split
  · exact vb_len 4 _ (by have := zig_le (x := x) (by assumption); omega)
  · simp
theorem unz_zig (x : Int) : unz (zig x) = x := by
  unfold unz zig
  split <;> split <;> omega
theorem zig_unz (m : Nat) : zig (unz m) = m := by
  unfold unz zig
  split <;> split <;> omega
theorem rd_drop {l : List Int} {n : Nat} {v : Int} {t : List Int} (h : l.drop n = v :: t) : n < l.length ∧ rd l n = v ∧ l.drop (n + 1) = t := by
  have hn : n < l.length := by
    by_cases c : n < l.length
    · exact c
    · rw [List.drop_eq_nil_of_le (by omega)] at h; cases h
  rw [drop_rd hn] at h
  cases h
  exact ⟨hn, rfl, rfl⟩
theorem pow_next (k : Nat) : 2 ^ (7 * (k + 1)) = 128 * 2 ^ (7 * k) := by rw [show 7 * (k + 1) = 7 * k + 7 by omega, Nat.pow_add]; omega
theorem split_num (m n k : Nat) : m + n % 128 * 2 ^ (7 * k) + n / 128 * 2 ^ (7 * (k + 1)) = m + n * 2 ^ (7 * k) := by
  rw [pow_next]
  generalize 2 ^ (7 * k) = q
  have : n = n % 128 + 128 * (n / 128) := by omega
  conv => rhs; rw [this]
  rw [Nat.add_mul, Nat.mul_assoc, Nat.mul_left_comm, Nat.mul_comm (n / 128)]
  have e : n / 128 * (128 * q) = 128 * (q * (n / 128)) := by rw [Nat.mul_left_comm, Nat.mul_comm (n / 128)]
  rw [Nat.mul_comm q, ← Nat.mul_comm (n / 128)] at *
  omega
theorem getGo_put (b : List Int) (p : Nat) : ∀ (f n m k : Nat) (t : List Int), b.drop (p + k) = vb n ++ t → (vb n).length ≤ f → (0 < k → 0 < n) → (-2000000000 ≤ unz (m + n * 2 ^ (7 * k)) ∧ unz (m + n * 2 ^ (7 * k)) ≤ 2000000000) →
    getGo b p f m k = (unz (m + n * 2 ^ (7 * k)), ((p + k + (vb n).length : Nat) : Int), true) := by
  intro f
  induction f with
  | zero => intro n m k t _ h; have := vb_pos n; omega
  | succ f ih =>
    intro n m k t hd hl hk hr
    by_cases h : 127 < n
    · rw [vb_more h] at hd hl ⊢
      obtain ⟨h1, h2, h3⟩ := rd_drop hd
      rw [getGo, if_pos h1, h2, if_pos (by omega)]
      have e : (((n % 128 + 128 : Nat) : Int)).toNat % 128 = n % 128 := by omega
      rw [e]
      have hs := split_num m n k
      rw [ih (n / 128) _ (k + 1) t h3 (by simpa using hl) (fun _ => by omega) (by rw [hs]; exact hr), hs]
      simp only [List.length_cons]
      congr 2
      omega
    · rw [vb_last h] at hd hl ⊢
      obtain ⟨h1, h2, h3⟩ := rd_drop hd
      have e : ((n : Int)).toNat % 128 = n := by omega
      rw [getGo, if_pos h1, h2, if_neg (by omega), e, gotNum, if_neg (by omega)]
      simp
theorem getNum_put (x : Int) (h : -2000000000 ≤ x ∧ x ≤ 2000000000) (t : List Int) : getNum (putNum x ++ t) 0 = (x, ((putNum x).length : Int), true) := by
  have h5 := putNum_five x
  rw [getNum, if_pos (by omega)]
  rw [putNum, if_pos h] at h5 ⊢
  have hu := unz_zig x
  rw [show Int.toNat 0 = 0 from rfl, getGo_put (vb (zig x) ++ t) 0 5 (zig x) 0 0 t rfl h5 (fun h => by omega) (by simpa [hu] using h)]
  simp [hu]
theorem getGo_no (b : List Int) (p : Nat) : ∀ (f m k : Nat), (getGo b p f m k).2.2 = false → getGo b p f m k = (0, 0, false) := by
  intro f
  induction f with
  | zero => intro m k _; rfl
  | succ f ih =>
    intro m k h
    rw [getGo] at h ⊢
    split
    · split
      · rw [if_pos (by assumption), if_pos (by assumption)] at h
        exact ih _ _ h
      · rw [if_pos (by assumption), if_neg (by assumption)] at h
        unfold gotNum at h ⊢
        split
        · rfl
        · rw [if_neg (by assumption)] at h; cases h
    · rfl
theorem getGo_yes (b : List Int) (hb : ∀ v ∈ b, 0 ≤ v ∧ v < 256) (p : Nat) : ∀ (f m k : Nat), (getGo b p f m k).2.2 = true →
    ∃ n e : Nat, (getGo b p f m k).1 = unz (m + n * 2 ^ (7 * k)) ∧ (-2000000000 ≤ unz (m + n * 2 ^ (7 * k)) ∧ unz (m + n * 2 ^ (7 * k)) ≤ 2000000000) ∧ (getGo b p f m k).2.1 = (e : Int) ∧ p + k < e ∧ e ≤ b.length ∧ (b.drop (p + k)).take (e - (p + k)) = vb n ∧ (0 < k → 0 < n) := by
  intro f
  induction f with
  | zero => intro m k h; cases h
  | succ f ih =>
    intro m k h
    rw [getGo] at h ⊢
    by_cases c1 : p + k < b.length
    · rw [if_pos c1] at h ⊢
      have hv := hb _ (rd_mem c1)
      have hd := drop_rd c1
      generalize rd b (p + k) = v at hv hd h ⊢
      by_cases c2 : 127 < v
      · rw [if_pos c2] at h ⊢
        obtain ⟨n, e, h1, h2, h3, h4, h5, h6, h7⟩ := ih _ _ h
        have hn := h7 (by omega)
        refine ⟨v.toNat % 128 + 128 * n, e, ?_, ?_, h3, by omega, h5, ?_, fun _ => by omega⟩
        · have e1 : (v.toNat % 128 + 128 * n) % 128 = v.toNat % 128 := by omega
          have e2 : (v.toNat % 128 + 128 * n) / 128 = n := by omega
          have hs := split_num m (v.toNat % 128 + 128 * n) k
          rw [e1, e2] at hs
          rw [h1, hs]
        · have e1 : (v.toNat % 128 + 128 * n) % 128 = v.toNat % 128 := by omega
          have e2 : (v.toNat % 128 + 128 * n) / 128 = n := by omega
          rw [← split_num m, e1, e2]
          exact h2
        · have e1 : (v.toNat % 128 + 128 * n) % 128 = v.toNat % 128 := by omega
          have e2 : (v.toNat % 128 + 128 * n) / 128 = n := by omega
          rw [vb_more (by omega), e1, e2, hd, show e - (p + k) = (e - (p + (k + 1))) + 1 by omega, List.take_succ_cons, ← h6]
          congr 1
          omega
      · rw [if_neg c2] at h ⊢
        unfold gotNum at h ⊢
        split
        · rw [if_pos (by assumption)] at h; cases h
        · rename_i c3
          have e1 : v.toNat % 128 = v.toNat := by omega
          rw [e1] at c3 ⊢
          refine ⟨v.toNat, p + k + 1, rfl, by omega, by simp, by omega, by omega, ?_, fun hk => by omega⟩
          rw [hd, vb_last (by omega), show p + k + 1 - (p + k) = 1 by omega]
          simp
          omega
    · rw [if_neg c1] at h; cases h
theorem getNum_no {b : List Int} {p : Int} (h : (getNum b p).2.2 = false) : getNum b p = (0, 0, false) := by
  unfold getNum at h ⊢
  split
  · rw [if_pos (by assumption)] at h
    exact getGo_no _ _ _ _ _ h
  · rfl
/-- Bytes that are read are those of the number. -/
theorem getNum_yes {b : List Int} (hb : ∀ v ∈ b, 0 ≤ v ∧ v < 256) {p : Int} (h : (getNum b p).2.2 = true) :
    0 ≤ p ∧ p ≤ (getNum b p).2.1 ∧ (getNum b p).2.1 ≤ b.length ∧ (b.drop p.toNat).take ((getNum b p).2.1.toNat - p.toNat) = putNum (getNum b p).1 := by
  unfold getNum at h ⊢
  by_cases c : 0 ≤ p ∧ p ≤ b.length
  · rw [if_pos c] at h ⊢
    obtain ⟨n, e, h1, h2, h3, h4, h5, h6, _⟩ := getGo_yes b hb _ _ _ _ h
    rw [h1, h3]
    simp only [Nat.mul_zero, Nat.pow_zero, Nat.mul_one, Nat.zero_add, Nat.add_zero] at *
    refine ⟨c.1, by omega, by omega, ?_⟩
    rw [putNum, if_pos h2, zig_unz, ← h6]
    simp
  · rw [if_neg c] at h; cases h

end Go.Proofs.Ytfeenmfehgljgaa.Abs
namespace Go.Proofs.Ytfeenmfehgljgaa.Abs
open Go Go.Proofs
set_option linter.unusedVariables false
set_option linter.unusedSimpArgs false
attribute [local irreducible] callE
theorem u8_any (n : Int) : 0 ≤ IntKind.u8.wrap n ∧ IntKind.u8.wrap n < 256 := by
  simp [IntKind.wrap, IntKind.bits, IntKind.signed]
  omega
theorem sW.u8any {n : Int} {F : Int → Prop} (h : ∀ x : Int, 0 ≤ x → x < 256 → F x) : sW .u8 n F := ⟨h _ (u8_any n).1 (u8_any n).2⟩
theorem sW.i64L {n : Int} {F : Int → Prop} (h : F n) (e : -9223372036854775808 ≤ n ∧ n ≤ 9223372036854775807 := by simp only [List.length_append, List.length_cons, List.length_nil, List.length_map, List.length_set, List.length_take, List.length_drop]; omega) : sW .i64 n F := sW.i64 e h
theorem snoc2_rB (l : List Int) (x y : Int) : l.map rB ++ [[.v (.int .u8 x)], [.v (.int .u8 y)]] = (l ++ [x, y]).map rB := by simp [rB]
theorem gI11 {p A : Prop} (h : A) (e : p := by first | with_reducible assumption | omega | (simp only [Nat.zero_add, Nat.add_zero, Nat.sub_zero, Int.toNat_natCast, Int.toNat_zero, Int.toNat_one, List.length_map, List.length_nil, Int.reduceToNat, Nat.reduceAdd, Nat.reduceSub, Int.sub_zero, Int.reduceAdd, Int.reduceSub, Nat.sub_self, Int.toNat_natCast_add_one, marks_len, bs_len, List.length_append, List.length_cons, List.length_set, List.length_replicate, List.length_range]; first | done | omega)) : sI p A := sI.mk e h
theorem gNum11 {r r' : Nat} {F : Nat → Prop} (h : F r') (e : r = r' := by first | (simp only [Nat.zero_add, Nat.add_zero, Nat.sub_zero, Int.toNat_natCast, Int.toNat_zero, Int.toNat_one, List.length_map, List.length_nil, Int.reduceToNat, Nat.reduceAdd, Nat.reduceSub, Int.sub_zero, Int.reduceAdd, Int.reduceSub, Nat.sub_self, Int.toNat_natCast_add_one, marks_len, bs_len]; rfl) | rfl) : sN r F := sN.eq e h
theorem gRow11 {r r' : List (List T)} {F : List (List T) → Prop} (h : F r') (e : r = r' := by first | (simp only [Nat.add_zero, Nat.zero_add, Nat.reduceAdd, List.drop_zero, List.take_succ_cons, List.take_nil, List.drop_succ_cons, List.drop_nil, List.take_zero, List.nil_append, List.append_nil, List.map_nil, drop_suf, take_pre, drop_map, List.take_length, take_len_set, take_len_app, List.set_set, List.length_map, snoc2_rB, one_rIns, cons_rIns, one_rI, cons_rI, rep_rKept, marks_take, set_rKept, set_rIns, rep_rIns, set_rEvent, rep_rEvent, snoc_rKept, snoc_rEvent, snoc_rIns, bytesT_bs, snoc_rI, snoc_rB, snoc_rBool, set_rI, set_rBool, rep_rI, rep_rBool, map_app]; rfl) | rfl) : sR r F := sR.eq e h
theorem ok_BelowL (k : Nat) (b : List Int) (i h n : Int) (hb : Bytes b) (h0 : 0 ≤ i := by assumption) (h1 : i ≤ b.length := by assumption)
    (hn : 0 < n ∧ n ≤ 100000000001 := by simp only [List.length_append, List.length_cons, List.length_nil, List.length_map]; omega) :
    Told (callE PR C (k + 2) 46 [.pt 1000001 0 0 [] 0 0, i64 n] [tB b, tCur b i h]) (Cur b 0 (n - 1)) := ok_Below k b i h n hb h0 h1 hn.1 hn.2
abbrev tB9 (b : List Int) : Cont := .tree 9 (.sl 1 (b.map rB))
def GotBytes (n : Nat) (r : Res) : Prop := ∃ l : List Int, l.length ≤ n ∧ (∀ v ∈ l, 0 ≤ v ∧ v < 256) ∧ r = ⟨.h 2000000 1 0 [] 1 0 l.length, [tB9 l], []⟩
theorem sCall.byt {x : Option Res} {n : Nat} {F : Res → Prop} (e : Told x (GotBytes n)) (h : ∀ l : List Int, l.length ≤ n → (∀ v ∈ l, 0 ≤ v ∧ v < 256) → F ⟨.h 2000000 1 0 [] 1 0 l.length, [tB9 l], []⟩) : sCall x F :=
  sCall.ex e fun r hr => by obtain ⟨l, h1, h2, rfl⟩ := hr; exact h l h1 h2
theorem told_of {x : Option Res} {r : Res} {R : Res → Prop} (e : x = some r) (h : R r) : Told x R := ⟨⟨r, e, h⟩⟩
theorem ok_PutNum_any (k : Nat) (x : Int) : Told (callE PR C (k + 2) 12 [i64 x] []) (GotBytes 5) := told_of (ok_spec_PutNum k x) ⟨_, putNum_five x, putNum_byte x, rfl⟩
theorem sCall.num {x : Option Res} {b : List (Option Cont)} {F : Res → Prop} (e : Told x (fun r => ∃ n : Int, r = ⟨i64 n, [], b⟩)) (h : ∀ n : Int, F ⟨i64 n, [], b⟩) : sCall x F :=
  sCall.ex e fun r hr => by obtain ⟨n, rfl⟩ := hr; exact h n
theorem ok_laws_at (k : Nat) (b : List Int) (i : Int) (hl : b.length ≤ 100000000000) (hb : ∀ v ∈ b, 0 ≤ v ∧ v < 256) (h0 : 0 ≤ i) (h1 : i ≤ 1000) :
    Told (callE PR C (k + 1) 14 [.h 1000000 0 0 [] 1 0 b.length, i64 i] [tB b]) (fun r => ∃ n : Int, r = ⟨i64 n, [], [none]⟩) := by
  (refine callE_w [ResultVar.tmp 4] rfl Try.func14 rfl (by decide +kernel) rfl (by simp) ?_; (conv => whnf))
  repeat' ((with_reducible (first | refine gP ?_ | refine gN ?_ | refine fG.split (fun _ => ?_) (fun _ => ?_) | refine fG.not ?_ | refine gY ?_ | refine gF ?_ | refine fG.yes (flat_map (fun _ => rfl) _) ?_ | refine fG.bool (fun _ => ?_) (fun _ => ?_) | refine gS64 ?_ | refine gU8 ?_ | refine gI11 ?_ | refine fE.of rfl ?_ | refine gBq ?_ | refine gNum11 ?_ | refine gSet ?_ | refine gRd ?_ | refine gLk ?_ | refine gRow11 ?_ | refine fB.of (wide_map (fun _ => rfl) _) ?_ | refine fB.of (full_map (fun _ => rfl) _) ?_ | refine fB.of (full_map (fun x => full_rKept x) _) ?_ | refine gRf ?_ | refine sZ.eq (i64_and255 _) ?_ | refine sZ.eq (i64_and30 _) ?_ | refine sZ.all (fun _ => ?_) | refine sW.all (fun _ => ?_))) <;> (try (conv => whnf)))
  all_goals exact ⟨_, rfl⟩
theorem ok_Byte (k : Nat) (b : List Int) (i h : Int) (hb : Bytes b) (h0 : 0 ≤ i := by assumption) (h1 : i ≤ b.length := by assumption) :
    Told (callE PR C (k + 1) 49 [.pt 1000001 0 0 [] 0 0] [tB b, tCur b i h]) (Cur b 0 255) := ok_spec_l1Byte k b i h hb.len hb.num h0 h1
set_option maxRecDepth 20000 in
set_option maxHeartbeats 8000000 in
theorem ok_spec_DrawPutNum (k : Nat) (b : List Int) (hb : Bytes b) : Told (callE PR C (k + 4) 10 [.h 1000000 0 0 [] 1 0 b.length] [tB b]) (fun r => ∃ n : Int, r = ⟨i64 n, [], [none]⟩) := by
  have hbl := hb.len
  have q0 := fun k => ok_spec_l1New k b hb.len hb.num
  have z0 : (0 : Int) ≤ 0 := Int.le_refl 0
  have z1 : (0 : Int) ≤ b.length := by omega
  (refine callE_w [ResultVar.tmp 2] rfl Try.func10 rfl (by decide +kernel) rfl (by simp) ?_; (conv => whnf))
  repeat' ((with_reducible (first | refine sCall.newCur (q0 _) (fun _ => ?_) | refine sCall.cur (ok_Below _ _ _ _ _ hb) (fun _ _ _ _ _ _ _ => ?_) | refine sCall.pick (ok_PickInt _ _ _ _ _ hb) (fun _ _ _ _ _ _ => ?_) | refine gP ?_ | refine gN ?_ | refine fG.split (fun _ => ?_) (fun _ => ?_) | refine fG.not ?_ | refine gY ?_ | refine gF ?_ | refine fG.yes (flat_map (fun _ => rfl) _) ?_ | refine fG.bool (fun _ => ?_) (fun _ => ?_) | refine gS64 ?_ | refine gU8 ?_ | refine gI11 ?_ | refine fE.of rfl ?_ | refine gBq ?_ | refine gNum11 ?_ | refine gSet ?_ | refine gRd ?_ | refine gLk ?_ | refine gRow11 ?_ | refine fB.of (wide_map (fun _ => rfl) _) ?_ | refine fB.of (full_map (fun _ => rfl) _) ?_ | refine fB.of (full_map (fun x => full_rKept x) _) ?_ | refine gRf ?_)) <;> (try (conv => whnf)))
  all_goals exact ⟨_, rfl⟩

theorem bytes_app {l m : List Int} (h1 : ∀ v ∈ l, 0 ≤ v ∧ v < 256) (h2 : ∀ v ∈ m, 0 ≤ v ∧ v < 256) : ∀ v ∈ l ++ m, 0 ≤ v ∧ v < 256 := by
  intro v hv
  rcases List.mem_append.1 hv with h | h
  · exact h1 v h
  · exact h2 v h
/-- Bytes and a place, drawn. -/
def Raw (r : Res) : Prop := ∃ (l : List Int) (n : Int), l.length ≤ 1000 ∧ (∀ v ∈ l, 0 ≤ v ∧ v < 256) ∧ r = ⟨.tu [.h 2000000 1 0 [] 1 0 l.length, i64 n], [tB9 l], [none]⟩
theorem raw_2 {l m : List Int} {n : Int} (a1 : l.length ≤ 5) (a2 : ∀ v ∈ l, 0 ≤ v ∧ v < 256) (b1 : m.length ≤ 5) (b2 : ∀ v ∈ m, 0 ≤ v ∧ v < 256) : Raw ⟨.tu [.h 2000000 1 0 [] 1 0 (l ++ m).length, i64 n], [tB9 (l ++ m)], [none]⟩ :=
  ⟨l ++ m, n, by simp; omega, bytes_app a2 b2, rfl⟩
theorem raw_3 {l m : List Int} {n y : Int} (a1 : l.length ≤ 5) (a2 : ∀ v ∈ l, 0 ≤ v ∧ v < 256) (b1 : m.length ≤ 5) (b2 : ∀ v ∈ m, 0 ≤ v ∧ v < 256) (c0 : 0 ≤ y) (c1 : y ≤ 255) : Raw ⟨.tu [.h 2000000 1 0 [] 1 0 (l ++ m ++ [128, y]).length, i64 n], [tB9 (l ++ m ++ [128, y])], [none]⟩ :=
  ⟨l ++ m ++ [128, y], n, by simp; omega, bytes_app (bytes_app a2 b2) (by intro v hv; simp at hv; omega), rfl⟩
theorem raw_6 {n y : Int} (c0 : 0 ≤ y) (c1 : y < 256) : Raw ⟨.tu [.h 2000000 1 0 [] 1 0 6, i64 n], [tB9 [255, 255, 255, 255, y, 1]], [none]⟩ :=
  ⟨[255, 255, 255, 255, y, 1], n, by simp, by intro v hv; simp at hv; omega, rfl⟩
set_option maxRecDepth 20000 in
set_option maxHeartbeats 8000000 in
theorem ok_spec_DrawGetNum (k : Nat) (b : List Int) (hb : Bytes b) : Told (callE PR C (k + 5) 15 [.h 1000000 0 0 [] 1 0 b.length] [tB b])
    Raw := by
  have hbl := hb.len
  have q0 := fun k => ok_spec_l1New k b hb.len hb.num
  have z0 : (0 : Int) ≤ 0 := Int.le_refl 0
  have z1 : (0 : Int) ≤ b.length := by omega
  (refine callE_w [ResultVar.tmp 2, ResultVar.tmp 3] rfl Try.func15 rfl (by decide +kernel) rfl (by simp) ?_; (conv => whnf))
  repeat' ((with_reducible (first | refine sCall.newCur (q0 _) (fun _ => ?_) | refine sCall.cur (ok_Below _ _ _ _ _ hb) (fun _ _ _ _ _ _ _ => ?_) | refine sCall.pick (ok_PickInt _ _ _ _ _ hb) (fun _ _ _ _ _ _ => ?_) | refine sCall.byt (ok_PutNum_any _ _) (fun _ _ _ => ?_) | refine sCall.cur (ok_Byte _ _ _ _ hb) (fun _ _ _ _ _ _ _ => ?_) | refine sCall.cur (ok_BelowL _ _ _ _ _ hb) (fun _ _ _ _ _ _ _ => ?_) | refine gP ?_ | refine gN ?_ | refine fG.split (fun _ => ?_) (fun _ => ?_) | refine fG.not ?_ | refine gY ?_ | refine gF ?_ | refine fG.yes (flat_map (fun _ => rfl) _) ?_ | refine fG.bool (fun _ => ?_) (fun _ => ?_) | refine gS64 ?_ | refine gU8 ?_ | refine gI11 ?_ | refine fE.of rfl ?_ | refine gBq ?_ | refine gNum11 ?_ | refine gSet ?_ | refine gRd ?_ | refine gLk ?_ | refine gRow11 ?_ | refine fB.of (wide_map (fun _ => rfl) _) ?_ | refine fB.of (full_map (fun _ => rfl) _) ?_ | refine fB.of (full_map (fun x => full_rKept x) _) ?_ | refine gRf ?_ | refine sOpt.of (nums_rB _) ?_ | refine sBool.eq (beq_self_eq_true _) ?_ | refine sW.u8any (fun _ _ _ => ?_) | refine sW.i64L ?_ | refine sZ.all (fun _ => ?_) | refine sW.all (fun _ => ?_))) <;> (try (conv => whnf)))
  all_goals first
    | exact raw_6 (by assumption) (by assumption)
    | exact raw_2 (by assumption) (by assumption) (by assumption) (by assumption)
    | exact raw_3 (by assumption) (by assumption) (by assumption) (by assumption) (by assumption) (by assumption)

theorem sCall.raw {x : Option Res} {F : Res → Prop} (e : Told x Raw)
    (h : ∀ (l : List Int) (n : Int), l.length ≤ 1000 → (∀ v ∈ l, 0 ≤ v ∧ v < 256) → F ⟨.tu [.h 2000000 1 0 [] 1 0 l.length, i64 n], [tB9 l], [none]⟩) : sCall x F :=
  sCall.ex e fun r hr => by obtain ⟨l, n, h1, h2, rfl⟩ := hr; exact h l n h1 h2
set_option maxRecDepth 20000 in
set_option maxHeartbeats 8000000 in
theorem ok_laws_FnNumBytes (k : Nat) (b : List Int) (hl : b.length ≤ 140737488355328) (hv : ∀ v ∈ b, 0 ≤ v ∧ v < 256) :
    callE PR C (k + 6) 3 [.h 1000000 0 0 [] 1 0 b.length] [tB b] = some ⟨bl true, [], [none]⟩ := by
  have q0 := fun k => ok_laws_big k b
  by_cases c0 : 1048576 < (b.length : Int)
  · rw [decide_eq_true c0] at q0
    (refine callE_is (callE_w [ResultVar.tmp 2] rfl Try.func3 rfl (by decide +kernel) rfl (by simp) ?_); (conv => whnf))
    repeat' ((with_reducible (first | refine sCall.of (q0 _) ?_ | refine gP ?_ | refine gN ?_ | refine fG.split (fun _ => ?_) (fun _ => ?_) | refine fG.not ?_ | refine gY ?_ | refine gF ?_ | refine fG.yes (flat_map (fun _ => rfl) _) ?_ | refine fG.bool (fun _ => ?_) (fun _ => ?_) | refine gS64 ?_ | refine gU8 ?_ | refine gI11 ?_ | refine fE.of rfl ?_ | refine gBq ?_ | refine gNum11 ?_ | refine gSet ?_ | refine gRd ?_ | refine gLk ?_ | refine gRow11 ?_ | refine fB.of (wide_map (fun _ => rfl) _) ?_ | refine fB.of (full_map (fun _ => rfl) _) ?_ | refine fB.of (full_map (fun x => full_rKept x) _) ?_ | refine gRf ?_ | refine sDraw.mk' (id := 5) [(1, 3)] (ty := tys) rfl (by decide +kernel) ?_ | refine sDraw.mk' (id := 15) [(14, 20)] (ty := tys) rfl (by decide +kernel) ?_)) <;> (try (conv => whnf)))
  · rw [decide_eq_false c0] at q0
    have hb : Bytes b := ⟨by omega, hv⟩
    have q9 := fun k => ok_laws_at k b 1 (by omega) hv (by omega) (by omega)
    (refine callE_is (callE_w [ResultVar.tmp 2] rfl Try.func3 rfl (by decide +kernel) rfl (by simp) ?_); (conv => whnf))
    repeat' ((with_reducible (first | refine sCall.of (q0 _) ?_ | refine sCall.num (ok_spec_DrawPutNum _ _ hb) (fun _ => ?_) | refine gP ?_ | refine gN ?_ | refine fG.split (fun _ => ?_) (fun _ => ?_) | refine fG.not ?_ | refine gY ?_ | refine gF ?_ | refine fG.yes (flat_map (fun _ => rfl) _) ?_ | refine fG.bool (fun _ => ?_) (fun _ => ?_) | refine gS64 ?_ | refine gU8 ?_ | refine gI11 ?_ | refine fE.of rfl ?_ | refine gBq ?_ | refine gNum11 ?_ | refine gSet ?_ | refine gRd ?_ | refine gLk ?_ | refine gRow11 ?_ | refine fB.of (wide_map (fun _ => rfl) _) ?_ | refine fB.of (full_map (fun _ => rfl) _) ?_ | refine fB.of (full_map (fun x => full_rKept x) _) ?_ | refine gRf ?_ | refine sDraw.mk' (id := 5) [(1, 3)] (ty := tys) rfl (by decide +kernel) ?_ | refine sDraw.mk' (id := 15) [(14, 20)] (ty := tys) rfl (by decide +kernel) ?_)) <;> (try (conv => whnf)))
    rename_i x
    have hp5 := putNum_five x
    have q1 := fun k => ok_impl_PutNum k x
    have q2 := fun k => ok_spec_PutNum k x
    repeat' ((with_reducible (first | refine sCall.of (q1 _) ?_ | refine sCall.of (q2 _) ?_ | refine sCall.num (q9 _) (fun _ => ?_) | refine gP ?_ | refine gN ?_ | refine fG.split (fun _ => ?_) (fun _ => ?_) | refine fG.not ?_ | refine gY ?_ | refine gF ?_ | refine fG.yes (flat_map (fun _ => rfl) _) ?_ | refine fG.bool (fun _ => ?_) (fun _ => ?_) | refine gS64 ?_ | refine gU8 ?_ | refine gI11 ?_ | refine fE.of rfl ?_ | refine gBq ?_ | refine gNum11 ?_ | refine gSet ?_ | refine gRd ?_ | refine gLk ?_ | refine gRow11 ?_ | refine fB.of (wide_map (fun _ => rfl) _) ?_ | refine fB.of (full_map (fun _ => rfl) _) ?_ | refine fB.of (full_map (fun x => full_rKept x) _) ?_ | refine gRf ?_ | refine sOpt.of (nums_rB _) ?_ | refine sBool.eq (beq_self_eq_true _) ?_ | refine sW.u8any (fun _ _ _ => ?_) | refine sW.i64L ?_ | refine sZ.all (fun _ => ?_) | refine sW.all (fun _ => ?_) | refine sDraw.mk' (id := 5) [(1, 3)] (ty := tys) rfl (by decide +kernel) ?_ | refine sDraw.mk' (id := 15) [(14, 20)] (ty := tys) rfl (by decide +kernel) ?_)) <;> (try (conv => whnf)))
    rename_i w y hy0 hy1
    have hbx : ∀ v ∈ putNum x ++ [y], 0 ≤ v ∧ v < 256 := bytes_app (putNum_byte x) (by intro v hv; simp at hv; omega)
    have q3 := fun k => ok_impl_GetNum k (putNum x ++ [y]) 0 (by simp; omega) hbx
    have hpl := putNum_len x
    by_cases hx : -2000000000 ≤ x ∧ x ≤ 2000000000
    case' pos => simp only [getNum_put x hx [y]] at q3
    case' neg => generalize getNum (putNum x ++ [y]) 0 = gg at q3
    all_goals repeat' ((with_reducible (first | refine sCall.of (q3 _) ?_ | refine sCall.raw (ok_spec_DrawGetNum _ _ hb) (fun _ _ _ _ => ?_) | refine gP ?_ | refine gN ?_ | refine fG.split (fun _ => ?_) (fun _ => ?_) | refine fG.not ?_ | refine gY ?_ | refine gF ?_ | refine fG.yes (flat_map (fun _ => rfl) _) ?_ | refine fG.bool (fun _ => ?_) (fun _ => ?_) | refine gS64 ?_ | refine gU8 ?_ | refine gI11 ?_ | refine fE.of rfl ?_ | refine gBq ?_ | refine gNum11 ?_ | refine gSet ?_ | refine gRd ?_ | refine gLk ?_ | refine gRow11 ?_ | refine fB.of (wide_map (fun _ => rfl) _) ?_ | refine fB.of (full_map (fun _ => rfl) _) ?_ | refine fB.of (full_map (fun x => full_rKept x) _) ?_ | refine gRf ?_ | refine sOpt.of (nums_rB _) ?_ | refine sBool.eq (beq_self_eq_true _) ?_ | refine sW.u8any (fun _ _ _ => ?_) | refine sW.i64L ?_ | refine sZ.all (fun _ => ?_) | refine sW.all (fun _ => ?_) | refine sDraw.mk' (id := 5) [(1, 3)] (ty := tys) rfl (by decide +kernel) ?_ | refine sDraw.mk' (id := 15) [(14, 20)] (ty := tys) rfl (by decide +kernel) ?_)) <;> (try (conv => whnf)))
    all_goals try (exfalso; omega)
    all_goals
      rename_i l n hln hbn
      have q4 := fun k => ok_impl_GetNum k l n (by omega) hbn
      have q5 := fun k => ok_spec_GetNum k l n (by omega) hbn
      cases hf : (getNum l n).2.2 with
      | false =>
        simp only [getNum_no hf] at q4 q5
        repeat' ((with_reducible (first | refine sCall.of (q4 _) ?_ | refine sCall.of (q5 _) ?_ | refine gP ?_ | refine gN ?_ | refine fG.split (fun _ => ?_) (fun _ => ?_) | refine fG.not ?_ | refine gY ?_ | refine gF ?_ | refine fG.yes (flat_map (fun _ => rfl) _) ?_ | refine fG.bool (fun _ => ?_) (fun _ => ?_) | refine gS64 ?_ | refine gU8 ?_ | refine gI11 ?_ | refine fE.of rfl ?_ | refine gBq ?_ | refine gNum11 ?_ | refine gSet ?_ | refine gRd ?_ | refine gLk ?_ | refine gRow11 ?_ | refine fB.of (wide_map (fun _ => rfl) _) ?_ | refine fB.of (full_map (fun _ => rfl) _) ?_ | refine fB.of (full_map (fun x => full_rKept x) _) ?_ | refine gRf ?_ | refine sOpt.of (nums_rB _) ?_ | refine sBool.eq (beq_self_eq_true _) ?_ | refine sW.u8any (fun _ _ _ => ?_) | refine sW.i64L ?_ | refine sZ.all (fun _ => ?_) | refine sW.all (fun _ => ?_) | refine sDraw.mk' (id := 5) [(1, 3)] (ty := tys) rfl (by decide +kernel) ?_ | refine sDraw.mk' (id := 15) [(14, 20)] (ty := tys) rfl (by decide +kernel) ?_)) <;> (try (conv => whnf)))
      | true =>
        obtain ⟨g1, g2, g3, g4⟩ := getNum_yes hbn hf
        simp only [hf] at q4 q5
        generalize (getNum l n).1 = z at q4 q5 g4
        generalize (getNum l n).2.1 = e at q4 q5 g2 g3 g4
        have q6 := fun k => ok_impl_PutNum k z
        repeat' ((with_reducible (first | refine sCall.of (q4 _) ?_ | refine sCall.of (q5 _) ?_ | refine sCall.of (q6 _) ?_ | refine gP ?_ | refine gN ?_ | refine fG.split (fun _ => ?_) (fun _ => ?_) | refine fG.not ?_ | refine gY ?_ | refine gF ?_ | refine fG.yes (flat_map (fun _ => rfl) _) ?_ | refine fG.bool (fun _ => ?_) (fun _ => ?_) | refine gS64 ?_ | refine gU8 ?_ | refine gI11 ?_ | refine fE.of rfl ?_ | refine gBq ?_ | refine gNum11 ?_ | refine gSet ?_ | refine gRd ?_ | refine gLk ?_ | refine gRow11 ?_ | refine fB.of (wide_map (fun _ => rfl) _) ?_ | refine fB.of (full_map (fun _ => rfl) _) ?_ | refine fB.of (full_map (fun x => full_rKept x) _) ?_ | refine gRf ?_ | refine sOpt.of (nums_rB _) ?_ | refine sBool.eq (beq_self_eq_true _) ?_ | refine sW.u8any (fun _ _ _ => ?_) | refine sW.i64L ?_ | refine sZ.all (fun _ => ?_) | refine sW.all (fun _ => ?_) | refine sDraw.mk' (id := 5) [(1, 3)] (ty := tys) rfl (by decide +kernel) ?_ | refine sDraw.mk' (id := 15) [(14, 20)] (ty := tys) rfl (by decide +kernel) ?_)) <;> (try (conv => whnf)))
        rw [g4]
        repeat' ((with_reducible (first | refine gP ?_ | refine gN ?_ | refine fG.split (fun _ => ?_) (fun _ => ?_) | refine fG.not ?_ | refine gY ?_ | refine gF ?_ | refine fG.yes (flat_map (fun _ => rfl) _) ?_ | refine fG.bool (fun _ => ?_) (fun _ => ?_) | refine gS64 ?_ | refine gU8 ?_ | refine gI11 ?_ | refine fE.of rfl ?_ | refine gBq ?_ | refine gNum11 ?_ | refine gSet ?_ | refine gRd ?_ | refine gLk ?_ | refine gRow11 ?_ | refine fB.of (wide_map (fun _ => rfl) _) ?_ | refine fB.of (full_map (fun _ => rfl) _) ?_ | refine fB.of (full_map (fun x => full_rKept x) _) ?_ | refine gRf ?_ | refine sOpt.of (nums_rB _) ?_ | refine sBool.eq (beq_self_eq_true _) ?_ | refine sW.u8any (fun _ _ _ => ?_) | refine sW.i64L ?_ | refine sZ.all (fun _ => ?_) | refine sW.all (fun _ => ?_) | refine sDraw.mk' (id := 5) [(1, 3)] (ty := tys) rfl (by decide +kernel) ?_ | refine sDraw.mk' (id := 15) [(14, 20)] (ty := tys) rfl (by decide +kernel) ?_)) <;> (try (conv => whnf)))

end Go.Proofs.Ytfeenmfehgljgaa.Abs
namespace Go.Proofs.Ytfeenmfehgljgaa.Abs
open Go
set_option linter.unusedVariables false

/-- What is read at a type: as many cells, each of a tree that nobody writes; the trees have the property. -/
def Opens (P : Program) (t : TypeId) (n : Nat) (M : List T → Prop) : Prop :=
  ∀ (H : Type) (enc : TypeId × Value → H) (w : World) (base : Nat) (sp : Nat → Bool) (held : Bool) (fuel : Nat) (cs : List Value) (x : DataW H × List MemPlace),
    DataW.trod enc P w base sp held fuel t cs = some x → (∀ m ∈ x.1.weights P t, m ≤ reachBytes) →
      cs.length = n ∧ ∃ ts : List T, ts.length = n ∧ M ts ∧ ∀ (i : Nat) v t', cs[i]? = some v → ts[i]? = some t' → Ow (fun k => k < w.heap.size) w 0 v t' none_
theorem Opens.mono {P : Program} {t : TypeId} {n : Nat} {M M' : List T → Prop} (h : Opens P t n M) (hm : ∀ ts, M ts → M' ts) : Opens P t n M' := by
  intro H enc w base sp held fuel cs x hx hw
  obtain ⟨h1, ts, h2, h3, h4⟩ := h H enc w base sp held fuel cs x hx hw
  exact ⟨h1, ts, h2, hm _ h3, h4⟩
theorem one_ow {w : World} {v0 : Value} {t0 : T} (h : Ow (fun k => k < w.heap.size) w 0 v0 t0 none_) : ∀ (i : Nat) v t', [v0][i]? = some v → [t0][i]? = some t' → Ow (fun k => k < w.heap.size) w 0 v t' none_ := by
  rintro (_ | i) v t' h1 h2
  · simp at h1 h2; subst h1; subst h2; exact h
  · simp at h1
theorem Opens.int {P : Program} {t : TypeId} {k : IntKind} (ht : P.underlying t = some (.int k)) : Opens P t 1 (fun ts => ∃ n, (Lit.int k n).wf = true ∧ ts = [.v (.int k n)]) := by
  intro H enc w base sp held fuel cs x hx hw
  obtain ⟨n, rfl, rfl, h⟩ := DataW.trod_int ht hx
  exact ⟨rfl, _, rfl, ⟨n, h, rfl⟩, one_ow (.v rfl)⟩
theorem Opens.bool {P : Program} {t : TypeId} (ht : P.underlying t = some .bool) : Opens P t 1 (fun ts => ∃ b, ts = [.v (.bool b)]) := by
  intro H enc w base sp held fuel cs x hx hw
  obtain ⟨b, rfl, rfl⟩ := DataW.trod_bool ht hx
  exact ⟨rfl, _, rfl, ⟨b, rfl⟩, one_ow (.v rfl)⟩
theorem Opens.str {P : Program} {t : TypeId} (ht : P.underlying t = some .string) : Opens P t 1 (fun ts => ∃ s : ByteArray, s.size ≤ reachBytes ∧ ts = [.v (.string s)]) := by
  intro H enc w base sp held fuel cs x hx hw
  obtain ⟨s, rfl, rfl, h⟩ := DataW.trod_string ht hx
  refine ⟨rfl, _, rfl, ⟨s, ?_, rfl⟩, one_ow (.v rfl)⟩
  have := hw s.data.toList.length (by simp [DataW.weights])
  simpa using this
/-- The parts of a struct, from a place on. -/
def Parts (P : Program) : List Field → Nat → Nat → (List T → Prop) → Prop
  | [], _, n, M => n = 0 ∧ M []
  | f :: r, off, n, M => f.offset = off ∧ ∃ n1 n2 M1 M2, P.cellsOf f.type = n1 ∧ Opens P f.type n1 M1 ∧ Parts P r (off + n1) n2 M2 ∧ n = n1 + n2 ∧ ∀ a b, M1 a → M2 b → M (a ++ b)
theorem weights_part {P : Program} {H : Type} {ts : List TypeId} : ∀ {ds : List (DataW H)} {R : Nat}, (∀ m ∈ DataW.weightsEach P ts ds, m ≤ R) → ∀ (j : Nat) t d, ts[j]? = some t → ds[j]? = some d → ∀ m ∈ d.weights P t, m ≤ R :=
  fun h j t d ht hd m hm => h m (DataW.weights_mem_each ht hd m hm)
theorem Parts.opens {P : Program} {H : Type} {enc : TypeId × Value → H} {w : World} {base : Nat} {sp : Nat → Bool} {held : Bool} {fuel : Nat} {cs : List Value} : ∀ {fs : List Field} {off n : Nat} {M : List T → Prop}, Parts P fs off n M → off + n = cs.length →
    (∀ f ∈ fs, ∃ x, DataW.trod enc P w base sp held fuel f.type ((cs.drop f.offset).take (P.cellsOf f.type)) = some x ∧ (∀ m ∈ x.1.weights P f.type, m ≤ reachBytes)) →
    ∃ ts : List T, ts.length = n ∧ M ts ∧ ∀ (i : Nat) v t', cs[off + i]? = some v → ts[i]? = some t' → Ow (fun k => k < w.heap.size) w 0 v t' none_ := by
  intro fs
  induction fs with
  | nil =>
    intro off n M h hl _
    exact ⟨[], h.1.symm, h.2, fun i v t' _ h2 => by simp at h2⟩
  | cons f r ih =>
    intro off n M h hl hx
    obtain ⟨rfl, n1, n2, M1, M2, h1, h2, h3, rfl, h4⟩ := h
    obtain ⟨x, hx1, hx2⟩ := hx f (by simp)
    rw [h1] at hx1
    obtain ⟨k1, t1, k2, k3, k4⟩ := h2 H enc w base sp held fuel _ x hx1 hx2
    obtain ⟨t2, q1, q2, q3⟩ := ih h3 (by omega) fun g hg => hx g (by simp [hg])
    refine ⟨t1 ++ t2, by simp [k2, q1], h4 _ _ k3 q2, fun i v t' hv ht' => ?_⟩
    by_cases hi : i < n1
    · rw [List.getElem?_append_left (by omega)] at ht'
      exact k4 i v t' (by rw [List.getElem?_take, if_pos hi, List.getElem?_drop]; exact hv) ht'
    · rw [List.getElem?_append_right (by omega), k2] at ht'
      exact q3 (i - n1) v t' (by rw [show f.offset + n1 + (i - n1) = f.offset + i by omega]; exact hv) ht'
theorem Opens.struct {P : Program} {t : TypeId} {fs : Array Field} {n : Nat} {M : List T → Prop} (ht : P.underlying t = some (.struct fs)) (hc : P.cellsOf t = n) (hp : Parts P fs.toList 0 n M) : Opens P t n M := by
  intro H enc w base sp held fuel cs x hx hw
  obtain ⟨xs, m, _, rfl, hl, hlen, hf⟩ := DataW.trod_struct ht hx
  have hl' : cs.length = n := hl.trans hc
  obtain ⟨ts, h1, h2, h3⟩ := hp.opens (enc := enc) (w := w) (base := base) (sp := sp) (held := held) (fuel := m) (cs := cs) (by omega) (by
    intro f hfm
    obtain ⟨i, hi⟩ := List.getElem?_of_mem hfm
    have hi' : fs[i]? = some f := by simpa using hi
    have hlt : i < xs.length := by rw [hlen]; exact (Array.getElem?_eq_some_iff.1 hi').1
    have hy : xs[i]? = some xs[i] := List.getElem?_eq_getElem hlt
    refine ⟨xs[i], (hf i f hi').trans hy, ?_⟩
    refine weights_part (ts := fs.toList.map (·.type)) (ds := xs.map (·.1)) ?_ i f.type xs[i].1 (by simp [hi']) (by rw [List.getElem?_map, hy]; rfl)
    intro q hq
    refine hw q ?_
    simpa [DataW.weights, ht] using hq)
  exact ⟨hl', ts, h1, h2, fun i v t' hv ht' => h3 i v t' (by simpa using hv) ht'⟩
/-- As many whole numbers. -/
def IntsM (n : Nat) (ts : List T) : Prop := ∃ zs : List Int, zs.length = n ∧ ts = zs.map fun z => T.v (.int .i64 z)
theorem Parts.nil {P : Program} {off : Nat} : Parts P [] off 0 (IntsM 0) := ⟨rfl, [], rfl, rfl⟩
theorem Parts.int {P : Program} {f : Field} {r : List Field} {off n : Nat} (ho : f.offset = off) (hc : P.cellsOf f.type = 1) (ht : P.underlying f.type = some (.int .i64)) (h : Parts P r (off + 1) n (IntsM n)) :
    Parts P (f :: r) off (1 + n) (IntsM (1 + n)) := by
  refine ⟨ho, 1, n, _, _, hc, Opens.int ht, h, rfl, ?_⟩
  rintro a b ⟨z, _, rfl⟩ ⟨zs, hz, rfl⟩
  exact ⟨z :: zs, by simp [hz]; omega, rfl⟩
/-- Parts, each of a kind. -/
def Ms : List (List T → Prop) → List T → Prop
  | [], ts => ts = []
  | M :: r, ts => ∃ a b, ts = a ++ b ∧ M a ∧ Ms r b
theorem Parts.mnil {P : Program} {off : Nat} : Parts P [] off 0 (Ms []) := ⟨rfl, rfl⟩
theorem Parts.mcons {P : Program} {f : Field} {r : List Field} {off n1 n : Nat} {M : List T → Prop} {l : List (List T → Prop)} (ho : f.offset = off) (hc : P.cellsOf f.type = n1) (ht : Opens P f.type n1 M) (h : Parts P r (off + n1) n (Ms l)) :
    Parts P (f :: r) off (n1 + n) (Ms (M :: l)) :=
  ⟨ho, n1, n, _, _, hc, ht, h, rfl, fun a b ha hb => ⟨a, b, rfl, ha, hb⟩⟩

/-- Rows of a kind are a list's. -/
theorem rows_map {α : Type} {f : α → List T} {p : α → Prop} {rows : List (List T)} (h : ∀ r ∈ rows, ∃ x, p x ∧ r = f x) : ∃ l : List α, rows = l.map f ∧ ∀ x ∈ l, p x := by
  induction rows with
  | nil => exact ⟨[], rfl, by simp⟩
  | cons r rows ih =>
    obtain ⟨x, hx, rfl⟩ := h r (by simp)
    obtain ⟨l, rfl, hl⟩ := ih fun q hq => h q (by simp [hq])
    exact ⟨x :: l, rfl, by simpa using ⟨hx, hl⟩⟩
theorem weights_all {P : Program} {H : Type} {e : TypeId} {d : DataW H} : ∀ {l : List (DataW H)}, d ∈ l → ∀ m ∈ d.weights P e, m ∈ DataW.weightsAll P e l
  | a :: r, hd, m, hm => by
    simp only [DataW.weightsAll, List.mem_append]
    rcases List.mem_cons.1 hd with rfl | hd
    · exact .inl hm
    · exact .inr (weights_all hd m hm)
/-- A slice. -/
theorem Opens.slice {P : Program} {t e : TypeId} {sz B : Nat} {M : List T → Prop} (ht : P.underlying t = some (.slice e)) (hc : P.cellsOf e = sz) (hB : P.bytesOf e = B) (hsz : 0 < sz) (hE : Opens P e sz M) :
    Opens P t 1 (fun ts => ∃ rows, ts = [.sl sz rows] ∧ (∀ x ∈ rows, M x) ∧ rows.length * B ≤ reachBytes) := by
  intro H enc w base sp held fuel cs0 x hx hw
  rcases DataW.trod_slice ht hx with ⟨rfl, _⟩ | ⟨a, len, cap, elems, rest, n, _, rfl, rfl, _, hl, _, hlen, hel, _⟩
  · exact ⟨rfl, _, rfl, ⟨[], rfl, by simp, by simp⟩, one_ow .nil⟩
  · have hw1 : (elems.length + rest.length) * B ≤ reachBytes := by
      have := hw ((elems.length + rest.length) * P.bytesOf e) (by simp [DataW.weights, ht])
      rwa [hB] at this
    have hcell : ∀ i : Nat, ∃ q : List Value × List T, i < len → q.1.length = sz ∧ q.2.length = sz ∧ M q.2 ∧ (∀ j, j < sz → w.cell? ((a.add (i * sz)).add j) = q.1[j]?) ∧
        ∀ (j : Nat) v t', q.1[j]? = some v → q.2[j]? = some t' → Ow (fun k => k < w.heap.size) w 0 v t' none_ := by
      intro i
      by_cases hi : i < len
      · have hy : elems[i]? = some (elems[i]'(by omega)) := List.getElem?_eq_getElem (by omega)
        have h1 := hel i hi
        rw [hy, hc, Option.bind_eq_some_iff] at h1
        obtain ⟨cs, hcs, htr⟩ := h1
        obtain ⟨k1, ts, k2, k3, k4⟩ := hE H enc w base sp held n cs _ htr (by
          intro m hm
          refine hw m ?_
          have := weights_all (P := P) (e := e) (l := elems.map (·.1)) (List.mem_map_of_mem (List.getElem_mem (by omega : i < elems.length))) m hm
          simp [DataW.weights, ht, this])
        obtain ⟨_, g1, g2⟩ := World.cells?_some hcs
        exact ⟨(cs, ts), fun _ => ⟨k1, k2, k3, g2, k4⟩⟩
      · exact ⟨([], []), fun h => absurd h hi⟩
    obtain ⟨c, hc2⟩ := Classical.axiomOfChoice hcell
    have hblk : 0 < len → a.block < w.heap.size := by
      intro h0
      obtain ⟨k1, k2, k3, k4, k5⟩ := hc2 0 h0
      have h1 := k4 0 hsz
      have h2 : (c 0).1[0]? = some ((c 0).1[0]'(by omega)) := List.getElem?_eq_getElem (by omega)
      rw [h2] at h1
      by_cases hlt : a.block < w.heap.size
      · exact hlt
      · unfold World.cell? at h1
        rw [add_block, add_block, Array.getElem?_eq_none (by omega)] at h1
        simp at h1
    have hat : ∀ i j t', cellT ((List.range len).map fun i => (c i).2) i j = some t' → i < len ∧ (c i).2[j]? = some t' := by
      intro i j t' h'
      unfold cellT at h'
      rw [List.getElem?_map] at h'
      by_cases hi : i < len
      · have hr : (List.range len)[i]? = some i := by simp [hi]
        rw [hr] at h'
        exact ⟨hi, by simpa using h'⟩
      · have hr : (List.range len)[i]? = none := by simp; omega
        rw [hr] at h'
        simp at h'
    refine ⟨rfl, [.sl sz ((List.range len).map fun i => (c i).2)], rfl, ⟨_, rfl, ?_, ?_⟩, one_ow ?_⟩
    · intro x hx
      obtain ⟨i, hi, rfl⟩ := List.mem_map.1 hx
      exact (hc2 i (List.mem_range.1 hi)).2.2.1
    · rw [List.length_map, List.length_range]
      exact Nat.le_trans (Nat.mul_le_mul_right _ (by omega)) hw1
    · have hro := Ow.ro (Z := fun k => k < w.heap.size) (w := w) (a := a) (c := cap) (rows := (List.range len).map fun i => (c i).2) (sz := sz) (fun i j => (c i).1.getD j undef) (by simpa using hl)
        (by
          intro r hr
          obtain ⟨i, hi, rfl⟩ := List.mem_map.1 hr
          exact (hc2 i (List.mem_range.1 hi)).2.1) (fun hne => hblk (by
            rcases Nat.eq_zero_or_pos len with h0 | h0
            · subst h0; exact absurd rfl hne
            · exact h0))
        (by
          intro i j t' h'
          obtain ⟨hi, hj⟩ := hat i j t' h'
          obtain ⟨k1, k2, k3, k4, k5⟩ := hc2 i hi
          have hj' : j < sz := by rw [← k2]; exact (List.getElem?_eq_some_iff.1 hj).1
          rw [← Addr.add_add, k4 j hj', List.getElem?_eq_getElem (by omega)]
          simp [List.getD, show j < (c i).1.length by omega])
        (by
          intro i j t' h'
          obtain ⟨hi, hj⟩ := hat i j t' h'
          obtain ⟨k1, k2, k3, k4, k5⟩ := hc2 i hi
          have hj' : j < sz := by rw [← k2]; exact (List.getElem?_eq_some_iff.1 hj).1
          refine k5 j _ t' ?_ hj
          rw [List.getElem?_eq_getElem (by omega)]
          simp [List.getD, show j < (c i).1.length by omega])
      simpa using hro
/-- An argument of one cell. -/
theorem Opens.one {P : Program} {t : TypeId} {M : List T → Prop} (h : Opens P t 1 M) {H : Type} {enc : TypeId × Value → H} {w : World} {base : Nat} {sp : Nat → Bool} {held : Bool} {v : Value} {d : DataW H} {ps : List MemPlace}
    (hv : v.cells.toList = [v]) (hd : DataW.Trod enc P w base sp held t v d ps) (hw : ∀ m ∈ d.weights P t, m ≤ reachBytes) : ∃ t', M [t'] ∧ Ow (fun k => k < w.heap.size) w 0 v t' none_ := by
  obtain ⟨fuel, hf⟩ := hd
  rw [hv] at hf
  obtain ⟨_, ts, h1, h2, h3⟩ := h H enc w base sp held fuel _ _ hf hw
  obtain ⟨t', rfl⟩ := List.length_eq_one_iff.1 h1
  exact ⟨t', h2, h3 0 v t' rfl rfl⟩
end Go.Proofs.Ytfeenmfehgljgaa.Abs
namespace Go.Proofs.Ytfeenmfehgljgaa.Abs
open Go Go.RowKit
set_option linter.unusedVariables false

theorem Ow.slice_inv {Z : Fp} {w : World} {v : Value} {sz : Nat} {rows : List (List T)} {F : Fp} {l : Nat} (h : Ow Z w l v (.sl sz rows) F) :
    (v = .slice none 0 0 ∧ rows = []) ∨ ∃ a c, v = .slice (some a) rows.length c ∧ rows.length ≤ c := by
  cases h with
  | nil => exact .inl ⟨rfl, rfl⟩
  | ro xs hc hs hz hx ht => exact .inr ⟨_, _, rfl, hc⟩
  | own xs F hb hfr hc hoff hmax hs hx ht hF hnb hd => exact .inr ⟨_, _, rfl, hc⟩
theorem arg_slice {Z : Fp} {w : World} {ob : Objs} {ρ : Nat → Value} {o sz : Nat} {rows : List (List T)} {v : Value} (h1 : ob o = ⟨0, 0, false, .tree 0 (.sl sz rows)⟩) (h2 : ρ o = v) (h3 : Ow Z w 0 v (.sl sz rows) none_) :
    AVR w ob ρ (.h o 0 0 [] sz 0 rows.length) v := by
  have hin := h3.slice_inv
  refine .h ?_ ?_ fun _ => ?_
  · rw [h1]; exact ⟨Nat.le_refl _, fun _ h => absurd rfl h⟩
  · rcases hin with ⟨rfl, rfl⟩ | ⟨a, c, rfl, hc⟩
    · exact ⟨none, 0, rfl, Nat.le_refl _, fun _ => rfl⟩
    · exact ⟨some a, c, rfl, hc, fun h => by cases h⟩
  · rw [h1, h2]
    refine ⟨fun cells h => by (dsimp only at h; cases h), fun lvl t hc => ?_⟩
    dsimp only at hc
    cases hc
    refine ⟨v, rows, .here, by omega, ?_⟩
    rcases hin with ⟨rfl, rfl⟩ | ⟨a, c, rfl, hc⟩
    · exact .inl ⟨rfl, rfl, rfl, rfl⟩
    · refine .inr ⟨a, rows.length, c, 0, c, rfl, ?_, hc, by omega, Nat.le_refl _, fun _ => rfl⟩
      rw [Nat.zero_mul]
      cases a with
      | mk b off s => cases s <;> simp [Addr.add]
/-- A call from the outside. -/
theorem FnOk.outside {P : Program} {W : World} {f : FuncId} {args : List AV} {conts : List Cont} {r : Res} (h : FnOk P f args conts r) (vals : List Value)
    (ho : ∀ (i : Nat) c, conts[i]? = some c → ∃ t v, c = .tree 0 t ∧ vals[i]? = some v ∧ Ow (fun k => k < W.heap.size) W 0 v t none_) (vs : Array Value) (hs : vs.size = args.length)
    (hA : ∀ (i : Nat) x, args[i]? = some x → AVR W (obIn conts) (fun o => vals.getD (o - 1000000) undef) x (vs.getD i undef)) :
    Calls P f vs W (fun e w' => ∃ v, e = .returned v ∧ Below W.heap.size W w' ∧ ∃ ob' ρ', AVR w' ob' ρ' r.v v) := by
  have hI : OInv W none_ (obIn conts) W (fun o => vals.getD (o - 1000000) undef) (fun _ => none_) (fun k => k < W.heap.size) := by
    refine ⟨Keep.refl _ _, fun k hk _ => hk, fun k hk => hk, fun o k hk => hk.elim, fun o o' k hk => hk.elim, fun o k hk => hk.elim, fun o => ?_⟩
    unfold ObOk
    by_cases h1 : 1000000 ≤ o
    · simp only [obIn, h1, if_true]
      cases hc : conts[o - 1000000]? with
      | none =>
        have e : conts.getD (o - 1000000) .dead = .dead := by simp [List.getD, hc]
        rw [e]
        exact fun k hk => hk
      | some c =>
        obtain ⟨t, v, rfl, hv, how⟩ := ho _ _ hc
        have e : conts.getD (o - 1000000) .dead = .tree 0 t := by simp [List.getD, hc]
        have e2 : vals.getD (o - 1000000) undef = v := by simp [List.getD, hv]
        rw [e, e2]
        exact how
    · simp only [obIn, h1, if_false]
      exact fun k hk => hk
  have hr := h.run W none_ _ _ _ vs hI (fun k _ hk => hk) hs hA
  intro cs
  obtain ⟨e, w', fr, hR, hC, hfn, hl⟩ := hr cs
  refine ⟨e, w', fr, ?_, hC, hfn, hl⟩
  cases e with
  | returned v =>
    obtain ⟨ρ', φ', Z', hst, hav⟩ := hR
    exact ⟨v, rfl, ⟨hst.inv.keep.os, hst.inv.keep.tape, hst.inv.keep.output, hst.inv.keep.size, fun k hk => hst.inv.keep.block k hk id⟩, _, _, hav⟩
  | _ => exact hR.elim
theorem AVR.bool_inv {w : World} {ob : Objs} {ρ : Nat → Value} {b : Bool} {v : Value} (h : AVR w ob ρ (.s (.bool b)) v) : v = .bool b := by
  cases h; rfl
end Go.Proofs.Ytfeenmfehgljgaa.Abs
namespace Go.Proofs.Ytfeenmfehgljgaa.Abs
open Go Go.Proofs Go.RowKit
set_option linter.unusedVariables false
set_option linter.unusedSimpArgs false
attribute [local irreducible] callE
theorem u8_wf {n : Int} (h : (Lit.int .u8 n).wf = true) : 0 ≤ n ∧ n < 256 := by
  simp [Lit.wf, IntKind.min, IntKind.max, IntKind.bits, IntKind.signed] at h
  omega
set_option maxRecDepth 20000 in
theorem opens_Bytes : Opens Try.prog 22 1 (fun ts => ∃ l : List Int, (l.length ≤ 140737488355328 ∧ ∀ v ∈ l, 0 ≤ v ∧ v < 256) ∧ ts = [.sl 1 (l.map rB)]) :=
  (Opens.slice (sz := 1) (B := 1) Try.underlying22 (by kernel_rfl) (by kernel_rfl) (by decide) (Opens.int Try.underlying5)).mono fun ts h => by
    obtain ⟨rows, rfl, h1, h2⟩ := h
    obtain ⟨l, rfl, hl⟩ := rows_map (f := rB) (p := fun v => 0 ≤ v ∧ v < 256) (fun r hr => by obtain ⟨n, hn, rfl⟩ := h1 r hr; exact ⟨n, u8_wf hn, rfl⟩)
    rw [List.length_map] at h2
    have := reachBytes_lt
    exact ⟨l, ⟨by omega, hl⟩, rfl⟩
set_option maxRecDepth 20000 in
theorem open_Bytes {H : Type} {enc : TypeId × Value → H} {w : World} {base : Nat} {sp : Nat → Bool} {held : Bool} {v : Value} {d : DataW H} {ps : List MemPlace} {r : Reach} {b0 : Nat}
    (hval : Value.okWide Try.prog w r b0 22 v) (h : DataW.Trod enc Try.prog w base sp held 22 v d ps) (hw : ∀ m ∈ d.weights Try.prog 22, m ≤ reachBytes) :
    ∃ l : List Int, (l.length ≤ 140737488355328 ∧ ∀ v ∈ l, 0 ≤ v ∧ v < 256) ∧ Ow (fun k => k < w.heap.size) w 0 v (.sl 1 (l.map rB)) none_ := by
  obtain ⟨a0, len0, cap0, rfl⟩ := Go.WideShapes.okWide_slice Try.underlying22 hval
  obtain ⟨t', ⟨l, h1, h2⟩, h3⟩ := opens_Bytes.one rfl h hw
  cases h2
  exact ⟨l, h1, h3⟩

/-- The law, of any input. -/
theorem walk_FnNumBytes {W : World} {v0 : Value} {l : List Int} (h1 : l.length ≤ 140737488355328 ∧ ∀ v ∈ l, 0 ≤ v ∧ v < 256)
    (o1 : Ow (fun k => k < W.heap.size) W 0 v0 (.sl 1 (l.map rB)) none_) :
    Calls PR 3 #[v0] W (fun e w' => e = .returned (.bool true) ∧ Below W.heap.size W w') := by
  have hF := callE_sound (C := C) tys_ok prims_ok _ _ _ _ _ (ok_laws_FnNumBytes 0 l h1.1 h1.2)
  refine (hF.outside [v0] ?_ #[v0] rfl ?_).mono ?_
  · rintro (_ | i) c hc
    · cases hc; exact ⟨_, _, rfl, rfl, o1⟩
    · simp at hc
  · rintro (_ | i) x hx
    · cases hx
      have := arg_slice (ob := obIn [tB l]) (ρ := fun o => [v0].getD (o - 1000000) undef) (o := 1000000) (by rfl) (by rfl) o1
      rwa [List.length_map] at this
    · simp at hx
  · rintro e w' ⟨v, rfl, hb, ob', ρ', hv⟩
    exact ⟨by rw [hv.bool_inv], hb⟩

end Go.Proofs.Ytfeenmfehgljgaa.Abs
namespace Go.Proofs.Ytfeenmfehgljgaa.fnNumBytes
open Go Go.Proofs Go.ChangeShapes Go.WideShapes Go.RowKit Go.Proofs.Ytfeenmfehgljgaa.Abs
set_option linter.unusedVariables false
theorem own : ownKnob Try.prog.godebug = none := by kernel_rfl
theorem laidOut : laidOutB Try.prog = true := by kernel_rfl
set_option maxRecDepth 100000 in
theorem lifted (os : Os) (started : os.Started) (H : Type) (enc : TypeId × Value → H) :
    ReturnsInHanded {} Try.checked os 3 .any (Rows.fnNumBytesSpec.pre6 enc Try.prog Try.f3 Rows.fnNumBytesRow.domain false) (Rows.fnNumBytesSpec.post enc Try.prog Try.f3 false true false false) := by
  refine returnsInHanded_of_change_sized (C := Try.checked) own started (by kernel_rfl) Try.func3
    (ChangeSpec.witness6 (enc := enc) (C := Try.checked) false ⟨#[], #[.slice none 0 0], []⟩ 8 (by kernel_rfl) (by kernel_rfl) (by kernel_rfl) (by kernel_rfl)) ?_
  intro W base args ds gs before hval0 hW hcnd hsz0 _
  have hsz : (DataW.weightsEach Try.prog (Try.f3.params.toList ++ Rows.fnNumBytesSpec.plain.varTypes Try.prog) (ds ++ gs)).all (· ≤ reachBytes) = true := hsz0
  have hval : ∀ (j : Nat) t v, Try.f3.params[j]? = some t → args[j]? = some v → Value.okWide Try.prog W .any base t v := hval0
  have hW' := hW
  obtain ⟨p, q, hA0, hV, rfl, hfz, hnd⟩ := hW
  have hA : DataW.TrodAll enc Try.prog W 0 (fun _ => true) true Try.f3.params.toList args.toList ds p := hA0
  rw [Try.params3] at hA hval hsz
  obtain ⟨v0, vs0, d0, ds0, p0, q0, hargs, rfl, rfl, h0, r0⟩ := trodAll_cons hA
  obtain ⟨rfl, rfl, rfl⟩ := trodAll_nil r0
  obtain rfl : args = #[v0] := by cases args; simp_all
  obtain ⟨rfl, rfl⟩ := trodVars_none hV
  have hwt : ∀ (j : Nat) t d, [22][j]? = some t → [d0][j]? = some d → ∀ m ∈ d.weights Try.prog t, m ≤ reachBytes := by
    intro j t d ht hd m hm
    have := List.all_eq_true.1 hsz m (DataW.weights_mem_each (j := j) (t := t) (d := d) ht hd m hm)
    simpa using this
  have k0 := h0
  have lt0 : ∀ x ∈ p0, x.block < W.heap.size := by obtain ⟨m, hm⟩ := k0; exact DataW.trod_lt m _ _ _ hm
  obtain ⟨l0, s0, o0⟩ := open_Bytes (hval 0 22 v0 rfl rfl) h0 (hwt 0 _ _ rfl rfl)
  clear hA0 hval0 hsz0 hsz hwt
  refine (walk_FnNumBytes s0 o0).mono fun e W' ⟨he, bel⟩ => ?_
  subst he
  exact ⟨_, rfl, _, _, _, [], _, [], hW', trodAll_mk1 (shut_bool Try.underlying4 _), (trodAll_cons_mk (Below.trod laidOut (by kernel_rfl) (of_decide_eq_true (by kernel_rfl)) k0 bel lt0) trodAll_mk0), rfl, bel.frame _, fun h => by cases h⟩
theorem over : Rows.fnNumBytesRow.holds Try.pinned (OpenSpec.ofChange Rows.fnNumBytesSpec) :=
  OpenClaim.holds_of_wide 3 Try.f3 rfl rfl rfl rfl rfl rfl rfl ⟨rfl, rfl, rfl, rfl, rfl⟩ rfl rfl rfl rfl rfl (by kernel_rfl) Try.func3 (by kernel_rfl)
    (of_decide_eq_true (by kernel_rfl)) (by unfold Func.isWrapper; first | (rw [if_pos (by decide +kernel)]; kernel_rfl) | (rw [if_neg (by decide +kernel)]; exact ⟨rfl, rfl⟩))
    (fun os started H enc _ => lifted os started H enc)
theorem proved : Rows.FnNumBytesSaid := over
#print axioms proved
end Go.Proofs.Ytfeenmfehgljgaa.fnNumBytes
namespace Go.Proofs.Ytfeenmfehgljgaa
/-- The row, under a short name, for the claim. -/
theorem fnNumBytes_holds : Rows.FnNumBytesSaid := fnNumBytes.proved
end Go.Proofs.Ytfeenmfehgljgaa

