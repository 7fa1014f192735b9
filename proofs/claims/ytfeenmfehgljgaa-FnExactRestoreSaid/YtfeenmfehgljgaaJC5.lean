/- FnExactRestore returns true for every input, and leaves its arguments as they read. Conditions: none beside the row's own. -/
import Derived.ChangeSame
import Derived.SizedLaws
import Derived.DataReads
import Derived.Carry
import Derived.WideShapes
import Derived.KernelRfl
import Derived.Test.YtfeenmfehgljgaaRows
import Derived.WalkKit
import Derived.ProofKit
import Derived.OpenShut
import Derived.ShutString
import Derived.ChangeOld
import Derived.Below
import Derived.Test.YtfeenmfehgljgaaJC4
namespace Go.Proofs.Ytfeenmfehgljgaa.Abs
open Go Go.Proofs
set_option linter.unusedVariables false
set_option linter.unusedSimpArgs false
attribute [local irreducible] callE
theorem replay_ok {l : List Ins} (hi : ∀ i, i < l.length → IOk l.length (rd l i)) (es : List Event) : ∀ {s s' : State}, SOk l.length s → replay l s es = some s' → SOk l.length s' := by
  induction es with
  | nil => intro s s' hs h; simp only [replay] at h; cases h; exact hs
  | cons e es ih =>
    intro s s' hs h
    simp only [replay] at h
    split at h
    · rename_i hc
      refine ih (did_ok hs (hi _ ?_) ?_) h
      · have := hs.at0; have := hs.at1; omega
      · exact hc.2
    · cases h
theorem stOf_len (l : List Ins) (es : List Event) : (stOf (replayAll l es)).regs.length ≤ 4 ∧ (stOf (replayAll l es)).out.length ≤ 60 := by
  unfold replayAll
  split
  · rename_i h
    cases hr : replay l newState es with
    | none => exact ⟨Nat.zero_le _, Nat.zero_le _⟩
    | some s =>
      have := replay_ok (fun i hi => progOk_iok h.1 hi) es (newState_ok (progOk_len h.1).1) hr
      exact ⟨Nat.le_of_eq this.regs, this.out⟩
  · exact ⟨Nat.zero_le _, Nat.zero_le _⟩
theorem keepAll_ok (l : List Ins) (es : List Event) : (keepAll l es).length ≤ 26 ∧ ∀ j : Nat, j < (keepAll l es).length → (rd (keepAll l es) j).s.regs.length ≤ 4 ∧ (rd (keepAll l es) j).s.out.length ≤ 60 := by
  unfold keepAll
  split
  · rename_i h
    have he : es.length ≤ 200 := by
      unfold replayAll at h
      split at h
      · rename_i hh; exact hh.2
      · cases h
    refine ⟨by simp; omega, fun j hj => ?_⟩
    simp only [List.length_map, List.length_range] at hj
    rw [show rd ((List.range (es.length / 8 + 1)).map (keptAt l es)) j = keptAt l es j by simp [rd, hj]]
    exact stOf_len l (es.take (8 * j))
  · exact ⟨by simp, fun j hj => by simp at hj⟩
theorem wts_bound {α : Type} [Inhabited α] (wt : α → Nat) (n : Nat) (l : List α) (h : ∀ j : Nat, j < l.length → wt (rd l j) ≤ n) : wts wt l ≤ n * l.length := by
  induction l with
  | nil => simp [wts]
  | cons x l ih =>
    have h1 : wt x ≤ n := h 0 (by simp)
    have h2 := ih fun j hj => by
      have := h (j + 1) (by simp; omega)
      simpa [rd] using this
    simp only [wts, List.length_cons, Nat.mul_add]
    omega
theorem keepAll_wts (l : List Ins) (es : List Event) : wts wKept (keepAll l es) ≤ 67 * 26 := by
  have h := keepAll_ok l es
  have := wts_bound wKept 67 (keepAll l es) fun j hj => by have := h.2 j hj; simp only [wKept]; omega
  omega

theorem marks_take {α : Type} (one : Int → α → α) (wt : α → Nat) (m : Int) (l : List α) : (marks one wt m l).take l.length = marks one wt m l := List.take_of_length_le (by rw [marks_len]; exact Nat.le_refl _)
theorem gI7 {p A : Prop} (h : A) (e : p := by first | with_reducible assumption | omega | (simp only [Nat.zero_add, Nat.add_zero, Nat.sub_zero, Int.toNat_natCast, Int.toNat_zero, Int.toNat_one, List.length_map, List.length_nil, Int.reduceToNat, Nat.reduceAdd, Nat.reduceSub, Int.sub_zero, Int.reduceAdd, Int.reduceSub, Nat.sub_self, Int.toNat_natCast_add_one, bs_len, List.length_append, List.length_cons, List.length_set, List.length_replicate, List.length_range]; first | done | omega)) : sI p A := sI.mk e h
theorem gNum7 {r r' : Nat} {F : Nat → Prop} (h : F r') (e : r = r' := by first | (simp only [Nat.zero_add, Nat.add_zero, Nat.sub_zero, Int.toNat_natCast, Int.toNat_zero, Int.toNat_one, List.length_map, List.length_nil, Int.reduceToNat, Nat.reduceAdd, Nat.reduceSub, Int.sub_zero, Int.reduceAdd, Int.reduceSub, Nat.sub_self, Int.toNat_natCast_add_one, bs_len]; rfl) | rfl) : sN r F := sN.eq e h
theorem gRow7 {r r' : List (List T)} {F : List (List T) → Prop} (h : F r') (e : r = r' := by first | (simp only [Nat.add_zero, Nat.zero_add, Nat.reduceAdd, List.drop_zero, List.take_succ_cons, List.take_nil, List.drop_succ_cons, List.drop_nil, List.take_zero, List.nil_append, List.append_nil, List.map_nil, drop_suf, take_pre, drop_map, List.take_length, take_len_set, take_len_app, List.set_set, List.length_map, marks_take, set_rKept, set_rIns, rep_rIns, set_rEvent, rep_rEvent, snoc_rKept, snoc_rEvent, snoc_rIns, bytesT_bs, snoc_rI, snoc_rB, snoc_rBool, set_rI, set_rBool, rep_rI, rep_rBool, map_app]; rfl) | rfl) : sR r F := sR.eq e h
theorem gI8 {p A : Prop} (h : A) (e : p := by first | with_reducible assumption | omega | (simp only [Nat.zero_add, Nat.add_zero, Nat.sub_zero, Int.toNat_natCast, Int.toNat_zero, Int.toNat_one, List.length_map, List.length_nil, Int.reduceToNat, Nat.reduceAdd, Nat.reduceSub, Int.sub_zero, Int.reduceAdd, Int.reduceSub, Nat.sub_self, Int.toNat_natCast_add_one, marks_len, bs_len, List.length_append, List.length_cons, List.length_set, List.length_replicate, List.length_range]; first | done | omega)) : sI p A := sI.mk e h
theorem gNum8 {r r' : Nat} {F : Nat → Prop} (h : F r') (e : r = r' := by first | (simp only [Nat.zero_add, Nat.add_zero, Nat.sub_zero, Int.toNat_natCast, Int.toNat_zero, Int.toNat_one, List.length_map, List.length_nil, Int.reduceToNat, Nat.reduceAdd, Nat.reduceSub, Int.sub_zero, Int.reduceAdd, Int.reduceSub, Nat.sub_self, Int.toNat_natCast_add_one, marks_len, bs_len]; rfl) | rfl) : sN r F := sN.eq e h
theorem gRow8 {r r' : List (List T)} {F : List (List T) → Prop} (h : F r') (e : r = r' := by first | (simp only [Nat.add_zero, Nat.zero_add, Nat.reduceAdd, List.drop_zero, List.take_succ_cons, List.take_nil, List.drop_succ_cons, List.drop_nil, List.take_zero, List.nil_append, List.append_nil, List.map_nil, drop_suf, take_pre, drop_map, List.take_length, take_len_set, take_len_app, List.set_set, List.length_map, marks_take, set_rKept, set_rIns, rep_rIns, set_rEvent, rep_rEvent, snoc_rKept, snoc_rEvent, snoc_rIns, bytesT_bs, snoc_rI, snoc_rB, snoc_rBool, set_rI, set_rBool, rep_rI, rep_rBool, map_app]; rfl) | rfl) : sR r F := sR.eq e h
theorem left_neg {m n : Int} (h : left m n < 0) (hm : m - n < 0 ∨ 0 ≤ m - n) : m < n := by
  unfold left at h; split at h <;> omega
theorem left_pos {m n : Int} (h : ¬ left m n < 0) : left m n = m - n ∧ n ≤ m := by
  unfold left at h ⊢; split at h
  · exact absurd (by decide) h
  · rename_i h2; rw [if_neg h2]; omega
theorem rep_rKept (n : Nat) : List.replicate n [T.v (.int .i64 0), .v (.int .i64 0), .sl 1 [], .sl 1 [], .v (.int .i64 0)] = (List.replicate n (default : Kept)).map rKept := by simp [rKept, default, instInhabitedKept, instInhabitedState]
theorem gI9 {p A : Prop} (h : A) (e : p := by first | with_reducible assumption | omega | (simp only [Nat.zero_add, Nat.add_zero, Nat.sub_zero, Int.toNat_natCast, Int.toNat_zero, Int.toNat_one, List.length_map, List.length_nil, Int.reduceToNat, Nat.reduceAdd, Nat.reduceSub, Int.sub_zero, Int.reduceAdd, Int.reduceSub, Nat.sub_self, Int.toNat_natCast_add_one, marks_len, bs_len, List.length_append, List.length_cons, List.length_set, List.length_replicate, List.length_range]; first | done | omega)) : sI p A := sI.mk e h
theorem gNum9 {r r' : Nat} {F : Nat → Prop} (h : F r') (e : r = r' := by first | (simp only [Nat.zero_add, Nat.add_zero, Nat.sub_zero, Int.toNat_natCast, Int.toNat_zero, Int.toNat_one, List.length_map, List.length_nil, Int.reduceToNat, Nat.reduceAdd, Nat.reduceSub, Int.sub_zero, Int.reduceAdd, Int.reduceSub, Nat.sub_self, Int.toNat_natCast_add_one, marks_len, bs_len]; rfl) | rfl) : sN r F := sN.eq e h
theorem gRow9 {r r' : List (List T)} {F : List (List T) → Prop} (h : F r') (e : r = r' := by first | (simp only [Nat.add_zero, Nat.zero_add, Nat.reduceAdd, List.drop_zero, List.take_succ_cons, List.take_nil, List.drop_succ_cons, List.drop_nil, List.take_zero, List.nil_append, List.append_nil, List.map_nil, drop_suf, take_pre, drop_map, List.take_length, take_len_set, take_len_app, List.set_set, List.length_map, rep_rKept, marks_take, set_rKept, set_rIns, rep_rIns, set_rEvent, rep_rEvent, snoc_rKept, snoc_rEvent, snoc_rIns, bytesT_bs, snoc_rI, snoc_rB, snoc_rBool, set_rI, set_rBool, rep_rI, rep_rBool, map_app]; rfl) | rfl) : sR r F := sR.eq e h

/-! ### More helpers of the laws: states, kept states -/
theorem left_left {m : Int} {x y : Nat} (h : ¬ left m x < 0) : left (left m x) y = left m ((x : Int) + y) := by
  obtain ⟨h1, h2⟩ := left_pos h
  rw [h1]
  unfold left
  rw [show m - (x : Int) - y = m - (x + y) by omega]
theorem left_more {m : Int} {x y : Nat} (h : left m x < 0) : left m ((x : Int) + y) = -1 := by
  unfold left at h ⊢
  split at h
  · rw [if_pos (by omega)]
  · omega
theorem left_m1 {m : Int} {x : Nat} (h : left m x < 0) : left m x = -1 := by
  unfold left at h ⊢
  split at h
  · rename_i h1; rw [if_pos h1]
  · omega
theorem ok_laws_szIntS (k : Nat) (l : List Int) (m : Int) (h0 : 0 ≤ m) (h1 : m ≤ 1048576) (hl : l.length ≤ 140737488355328) : callE PR C (k + 1) 106 [.h 1000000 0 0 [] 1 0 l.length, i64 m] [tI l] = some ⟨i64 (left m l.length), [], [none]⟩ := by
  (refine callE_is (callE_w [ResultVar.tmp 4] rfl Try.func106 rfl (by decide +kernel) rfl (by simp) ?_); (conv => whnf))
  repeat' ((with_reducible (first | refine gP ?_ | refine gN ?_ | refine fG.split (fun _ => ?_) (fun _ => ?_) | refine fG.not ?_ | refine gY ?_ | refine gF ?_ | refine fG.yes (flat_map (fun _ => rfl) _) ?_ | refine fG.bool (fun _ => ?_) (fun _ => ?_) | refine gS64 ?_ | refine gU8 ?_ | refine gI9 ?_ | refine fE.of rfl ?_ | refine gBq ?_ | refine gNum9 ?_ | refine gSet ?_ | refine gRd ?_ | refine gLk ?_ | refine gRow9 ?_ | refine fB.of (wide_map (fun _ => rfl) _) ?_ | refine fB.of (full_map (fun _ => rfl) _) ?_ | refine fB.of (full_map (fun x => full_rKept x) _) ?_ | refine gRf ?_)) <;> (try (conv => whnf)))
  all_goals (simp only [left, *, if_true, if_false]; done)
theorem ok_laws_szState (k : Nat) (a c : Int) (r o : List Int) (m : Int) (h0 : 0 ≤ m) (h1 : m ≤ 1048576) (hr : r.length ≤ 140737488355328) (ho : o.length ≤ 140737488355328) :
    callE PR C (k + 2) 84 [aState 0 a r o c, i64 m] [tI r, tI o] = some ⟨i64 (left m ((r.length : Int) + o.length)), [], [none, none]⟩ := by
  have q1 := fun k => ok_laws_szIntS k r m h0 h1 hr
  by_cases c1 : left m r.length < 0
  · rw [left_more c1]
    (refine callE_is (callE_w [ResultVar.tmp 4] rfl Try.func84 rfl (by decide +kernel) rfl (by simp) ?_); (conv => whnf))
    repeat' ((with_reducible (first | refine sCall.of (q1 _) ?_ | refine gP ?_ | refine gN ?_ | refine fG.split (fun _ => ?_) (fun _ => ?_) | refine fG.not ?_ | refine gY ?_ | refine gF ?_ | refine fG.yes (flat_map (fun _ => rfl) _) ?_ | refine fG.bool (fun _ => ?_) (fun _ => ?_) | refine gS64 ?_ | refine gU8 ?_ | refine gI9 ?_ | refine fE.of rfl ?_ | refine gBq ?_ | refine gNum9 ?_ | refine gSet ?_ | refine gRd ?_ | refine gLk ?_ | refine gRow9 ?_ | refine fB.of (wide_map (fun _ => rfl) _) ?_ | refine fB.of (full_map (fun _ => rfl) _) ?_ | refine fB.of (full_map (fun x => full_rKept x) _) ?_ | refine gRf ?_)) <;> (try (conv => whnf)))
  · obtain ⟨c2, c3⟩ := left_pos c1
    have q2 := fun k => ok_laws_szIntS k o (left m r.length) (by omega) (by omega) ho
    rw [left_left c1] at q2
    by_cases c4 : left m ((r.length : Int) + o.length) < 0
    · rw [show left m ((r.length : Int) + o.length) = -1 from by rw [← left_left c1]; exact left_m1 (by rw [left_left c1]; exact c4)]
      (refine callE_is (callE_w [ResultVar.tmp 4] rfl Try.func84 rfl (by decide +kernel) rfl (by simp) ?_); (conv => whnf))
      repeat' ((with_reducible (first | refine sCall.of (q1 _) ?_ | refine sCall.of (q2 _) ?_ | refine gP ?_ | refine gN ?_ | refine fG.split (fun _ => ?_) (fun _ => ?_) | refine fG.not ?_ | refine gY ?_ | refine gF ?_ | refine fG.yes (flat_map (fun _ => rfl) _) ?_ | refine fG.bool (fun _ => ?_) (fun _ => ?_) | refine gS64 ?_ | refine gU8 ?_ | refine gI9 ?_ | refine fE.of rfl ?_ | refine gBq ?_ | refine gNum9 ?_ | refine gSet ?_ | refine gRd ?_ | refine gLk ?_ | refine gRow9 ?_ | refine fB.of (wide_map (fun _ => rfl) _) ?_ | refine fB.of (full_map (fun _ => rfl) _) ?_ | refine fB.of (full_map (fun x => full_rKept x) _) ?_ | refine gRf ?_)) <;> (try (conv => whnf)))
    · (refine callE_is (callE_w [ResultVar.tmp 4] rfl Try.func84 rfl (by decide +kernel) rfl (by simp) ?_); (conv => whnf))
      repeat' ((with_reducible (first | refine sCall.of (q1 _) ?_ | refine sCall.of (q2 _) ?_ | refine gP ?_ | refine gN ?_ | refine fG.split (fun _ => ?_) (fun _ => ?_) | refine fG.not ?_ | refine gY ?_ | refine gF ?_ | refine fG.yes (flat_map (fun _ => rfl) _) ?_ | refine fG.bool (fun _ => ?_) (fun _ => ?_) | refine gS64 ?_ | refine gU8 ?_ | refine gI9 ?_ | refine fE.of rfl ?_ | refine gBq ?_ | refine gNum9 ?_ | refine gSet ?_ | refine gRd ?_ | refine gLk ?_ | refine gRow9 ?_ | refine fB.of (wide_map (fun _ => rfl) _) ?_ | refine fB.of (full_map (fun _ => rfl) _) ?_ | refine fB.of (full_map (fun x => full_rKept x) _) ?_ | refine gRf ?_)) <;> (try (conv => whnf)))
theorem ok_laws_szKept (k : Nat) (n a c : Int) (r o : List Int) (m : Int) (h0 : 0 ≤ m) (h1 : m ≤ 1048576) (hr : r.length ≤ 140737488355328) (ho : o.length ≤ 140737488355328) :
    callE PR C (k + 3) 58 [.ag [i64 n, i64 a, .h 1000000 0 0 [] 1 0 r.length, .h 1000001 0 0 [] 1 0 o.length, i64 c], i64 m] [tI r, tI o] = some ⟨i64 (left m ((r.length : Int) + o.length)), [], [none, none]⟩ := by
  have q1 := fun k => ok_laws_szState k a c r o m h0 h1 hr ho
  by_cases c4 : left m ((r.length : Int) + o.length) < 0
  · rw [show left m ((r.length : Int) + o.length) = -1 from by have := @left_m1 m (r.length + o.length); simp only [Int.natCast_add] at this; exact this c4] at q1 ⊢
    (refine callE_is (callE_w [ResultVar.tmp 4] rfl Try.func58 rfl (by decide +kernel) rfl (by simp) ?_); (conv => whnf))
    repeat' ((with_reducible (first | refine sCall.of (q1 _) ?_ | refine gP ?_ | refine gN ?_ | refine fG.split (fun _ => ?_) (fun _ => ?_) | refine fG.not ?_ | refine gY ?_ | refine gF ?_ | refine fG.yes (flat_map (fun _ => rfl) _) ?_ | refine fG.bool (fun _ => ?_) (fun _ => ?_) | refine gS64 ?_ | refine gU8 ?_ | refine gI9 ?_ | refine fE.of rfl ?_ | refine gBq ?_ | refine gNum9 ?_ | refine gSet ?_ | refine gRd ?_ | refine gLk ?_ | refine gRow9 ?_ | refine fB.of (wide_map (fun _ => rfl) _) ?_ | refine fB.of (full_map (fun _ => rfl) _) ?_ | refine fB.of (full_map (fun x => full_rKept x) _) ?_ | refine gRf ?_)) <;> (try (conv => whnf)))
  · (refine callE_is (callE_w [ResultVar.tmp 4] rfl Try.func58 rfl (by decide +kernel) rfl (by simp) ?_); (conv => whnf))
    repeat' ((with_reducible (first | refine sCall.of (q1 _) ?_ | refine gP ?_ | refine gN ?_ | refine fG.split (fun _ => ?_) (fun _ => ?_) | refine fG.not ?_ | refine gY ?_ | refine gF ?_ | refine fG.yes (flat_map (fun _ => rfl) _) ?_ | refine fG.bool (fun _ => ?_) (fun _ => ?_) | refine gS64 ?_ | refine gU8 ?_ | refine gI9 ?_ | refine fE.of rfl ?_ | refine gBq ?_ | refine gNum9 ?_ | refine gSet ?_ | refine gRd ?_ | refine gLk ?_ | refine gRow9 ?_ | refine fB.of (wide_map (fun _ => rfl) _) ?_ | refine fB.of (full_map (fun _ => rfl) _) ?_ | refine fB.of (full_map (fun x => full_rKept x) _) ?_ | refine gRf ?_)) <;> (try (conv => whnf)))
theorem ok_laws_toIntS (k : Nat) (l : List Int) (hl : l.length ≤ 100000000000) : callE PR C (k + 1) 107 [.h 1000000 0 0 [] 1 0 l.length] [tI l] = some ⟨.h 2000000 1 0 [] 1 0 l.length, [tI9 l], [none]⟩ := by
  (refine callE_is (callE_w [ResultVar.tmp 2] rfl Try.func107 rfl (by decide +kernel) rfl (by simp) ?_); (conv => whnf))
  repeat' ((with_reducible (first | refine gP ?_ | refine gN ?_ | refine fG.split (fun _ => ?_) (fun _ => ?_) | refine fG.not ?_ | refine gY ?_ | refine gF ?_ | refine fG.yes (flat_map (fun _ => rfl) _) ?_ | refine fG.bool (fun _ => ?_) (fun _ => ?_) | refine gS64 ?_ | refine gU8 ?_ | refine gI9 ?_ | refine fE.of rfl ?_ | refine gBq ?_ | refine gNum9 ?_ | refine gSet ?_ | refine gRd ?_ | refine gLk ?_ | refine gRow9 ?_ | refine fB.of (wide_map (fun _ => rfl) _) ?_ | refine fB.of (full_map (fun _ => rfl) _) ?_ | refine fB.of (full_map (fun x => full_rKept x) _) ?_ | refine gRf ?_)) <;> (try (conv => whnf)))
  refine loop_rule (ι := TL Int) (fun x => [(0, .h 1000000 0 0 [] 1 0 l.length), (3, .h 7 1 0 [] 1 0 l.length), (4, i64 (x.j : Nat))])
    (fun x => [(1000000, ⟨0, 0, false, tI l⟩), (7, ⟨1, x.g, x.d, tI9 x.l⟩)])
    (fun x => l.length - x.j) (fun x => x.j ≤ l.length ∧ x.l = fill l x.j) ⟨0, List.replicate l.length 0, 0, false⟩ (by (try dsimp only [cond_true, cond_false]); exact ⟨⟨rfl, rfl, rfl, trivial⟩, ⟨rfl, rfl, trivial⟩⟩) ⟨Nat.zero_le _, (fill_zero l).symm⟩ (by simp [C]; omega) ?_
  rintro ⟨j, out, g, d⟩ sl ob ⟨hj, hout⟩
  dsimp only at hj hout
  have hlen : out.length = l.length := by rw [hout, fill_len]
  (try dsimp only [cond_true, cond_false])
  (conv => whnf)
  repeat' ((with_reducible (first | refine gP ?_ | refine gN ?_ | refine fG.split (fun _ => ?_) (fun _ => ?_) | refine fG.not ?_ | refine gY ?_ | refine gF ?_ | refine fG.yes (flat_map (fun _ => rfl) _) ?_ | refine fG.bool (fun _ => ?_) (fun _ => ?_) | refine gS64 ?_ | refine gU8 ?_ | refine gI9 ?_ | refine fE.of rfl ?_ | refine gBq ?_ | refine gNum9 ?_ | refine gSet ?_ | refine gRd ?_ | refine gLk ?_ | refine gRow9 ?_ | refine fB.of (wide_map (fun _ => rfl) _) ?_ | refine fB.of (full_map (fun _ => rfl) _) ?_ | refine fB.of (full_map (fun x => full_rKept x) _) ?_ | refine gRf ?_)) <;> (try (conv => whnf)))
  case' refine_1 h =>
    refine ⟨⟨⟨j + 1, out.set j (rd l j), _, _⟩, (by (try dsimp only [cond_true, cond_false]); exact ⟨⟨rfl, rfl, rfl, trivial⟩, ⟨rfl, rfl, trivial⟩⟩), ?_, ?_⟩⟩
    · exact ⟨by show j + 1 ≤ _; omega, by show _ = _; rw [hout]; exact fill_set l j (by omega)⟩
    · show l.length - (j + 1) < l.length - j; omega
  case refine_2 h =>
    have : j = l.length := by omega
    rw [hout, this, fill_all, List.take_length]
set_option maxRecDepth 10000 in
theorem ok_laws_toState (k : Nat) (a c : Int) (r o : List Int) (hr : r.length ≤ 100000000000) (ho : o.length ≤ 100000000000) : callE PR C (k + 2) 85 [aState 0 a r o c] [tI r, tI o] = some ⟨nState 0 a r o c, [tI9 r, tI9 o], [none, none]⟩ := by
  (refine callE_is (callE_w [ResultVar.cell 2 39] rfl Try.func85 rfl (by decide +kernel) rfl (by simp) ?_); (conv => whnf))
  repeat' ((with_reducible (first | refine sCall.of (ok_laws_toIntS _ _ hr) ?_ | refine sCall.of (ok_laws_toIntS _ _ ho) ?_ | refine gP ?_ | refine gN ?_ | refine fG.split (fun _ => ?_) (fun _ => ?_) | refine fG.not ?_ | refine gY ?_ | refine gF ?_ | refine fG.yes (flat_map (fun _ => rfl) _) ?_ | refine fG.bool (fun _ => ?_) (fun _ => ?_) | refine gS64 ?_ | refine gU8 ?_ | refine gI9 ?_ | refine fE.of rfl ?_ | refine gBq ?_ | refine gNum9 ?_ | refine gSet ?_ | refine gRd ?_ | refine gLk ?_ | refine gRow9 ?_ | refine fB.of (wide_map (fun _ => rfl) _) ?_ | refine fB.of (full_map (fun _ => rfl) _) ?_ | refine fB.of (full_map (fun x => full_rKept x) _) ?_ | refine gRf ?_)) <;> (try (conv => whnf)))
set_option maxRecDepth 10000 in
theorem ok_laws_toKept (k : Nat) (n a c : Int) (r o : List Int) (hr : r.length ≤ 100000000000) (ho : o.length ≤ 100000000000) :
    callE PR C (k + 3) 62 [.ag [i64 n, i64 a, .h 1000000 0 0 [] 1 0 r.length, .h 1000001 0 0 [] 1 0 o.length, i64 c]] [tI r, tI o] = some ⟨.ag [i64 n, i64 a, .h 2000000 1 0 [] 1 0 r.length, .h 2000001 1 0 [] 1 0 o.length, i64 c], [tI9 r, tI9 o], [none, none]⟩ := by
  (refine callE_is (callE_w [ResultVar.cell 2 75] rfl Try.func62 rfl (by decide +kernel) rfl (by simp) ?_); (conv => whnf))
  repeat' ((with_reducible (first | refine sCall.of (ok_laws_toState _ _ _ _ _ hr ho) ?_ | refine gP ?_ | refine gN ?_ | refine fG.split (fun _ => ?_) (fun _ => ?_) | refine fG.not ?_ | refine gY ?_ | refine gF ?_ | refine fG.yes (flat_map (fun _ => rfl) _) ?_ | refine fG.bool (fun _ => ?_) (fun _ => ?_) | refine gS64 ?_ | refine gU8 ?_ | refine gI9 ?_ | refine fE.of rfl ?_ | refine gBq ?_ | refine gNum9 ?_ | refine gSet ?_ | refine gRd ?_ | refine gLk ?_ | refine gRow9 ?_ | refine fB.of (wide_map (fun _ => rfl) _) ?_ | refine fB.of (full_map (fun _ => rfl) _) ?_ | refine fB.of (full_map (fun x => full_rKept x) _) ?_ | refine gRf ?_)) <;> (try (conv => whnf)))

def wS (x : Kept) : Nat := x.s.regs.length + x.s.out.length
theorem ok_laws_szKeptS (k : Nat) (l : List Kept) (m : Int) (h0 : 0 ≤ m) (h1 : m ≤ 1048576) (hl : l.length ≤ 140737488355328) (hx : ∀ j : Nat, j < l.length → (rd l j).s.regs.length ≤ 140737488355328 ∧ (rd l j).s.out.length ≤ 140737488355328) :
    callE PR C (k + 4) 27 [hKept 0 l, i64 m] [tKept l] = some ⟨i64 (left m (l.length + wts wS l : Nat)), [], [none]⟩ := by
  by_cases c1 : m - l.length < 0
  · rw [show left m (l.length + wts wS l : Nat) = -1 from by unfold left; rw [if_pos (by omega)]]
    (refine callE_is (callE_w [ResultVar.tmp 4] rfl Try.func27 rfl (by decide +kernel) rfl (by simp) ?_); (conv => whnf))
    repeat' ((with_reducible (first | refine gP ?_ | refine gN ?_ | refine fG.split (fun _ => ?_) (fun _ => ?_) | refine fG.not ?_ | refine gY ?_ | refine gF ?_ | refine fG.yes (flat_map (fun _ => rfl) _) ?_ | refine fG.bool (fun _ => ?_) (fun _ => ?_) | refine gS64 ?_ | refine gU8 ?_ | refine gI9 ?_ | refine fE.of rfl ?_ | refine gBq ?_ | refine gNum9 ?_ | refine gSet ?_ | refine gRd ?_ | refine gLk ?_ | refine gRow9 ?_ | refine fB.of (wide_map (fun _ => rfl) _) ?_ | refine fB.of (full_map (fun _ => rfl) _) ?_ | refine fB.of (full_map (fun x => full_rKept x) _) ?_ | refine gRf ?_)) <;> (try (conv => whnf)))
  · (refine callE_is (callE_w [ResultVar.tmp 4] rfl Try.func27 rfl (by decide +kernel) rfl (by simp) ?_); (conv => whnf))
    repeat' ((with_reducible (first | refine gP ?_ | refine gN ?_ | refine fG.split (fun _ => ?_) (fun _ => ?_) | refine fG.not ?_ | refine gY ?_ | refine gF ?_ | refine fG.yes (flat_map (fun _ => rfl) _) ?_ | refine fG.bool (fun _ => ?_) (fun _ => ?_) | refine gS64 ?_ | refine gU8 ?_ | refine gI9 ?_ | refine fE.of rfl ?_ | refine gBq ?_ | refine gNum9 ?_ | refine gSet ?_ | refine gRd ?_ | refine gLk ?_ | refine gRow9 ?_ | refine fB.of (wide_map (fun _ => rfl) _) ?_ | refine fB.of (full_map (fun _ => rfl) _) ?_ | refine fB.of (full_map (fun x => full_rKept x) _) ?_ | refine gRf ?_)) <;> (try (conv => whnf)))
    refine loop_rule (ι := TH) (fun x => [(0, hKept 0 l), (1, i64 x.m), (5, i64 (x.j : Nat))])
      (fun x => [(1000000, ⟨0, 0, false, tKept l⟩)])
      (fun x => l.length - x.j) (fun x => x.j ≤ l.length ∧ x.m = m - l.length - wts wS (l.take x.j) ∧ 0 ≤ x.m) ⟨0, m - l.length⟩ (by (try dsimp only [cond_true, cond_false]); exact ⟨⟨rfl, rfl, rfl, trivial⟩, ⟨rfl, trivial⟩⟩) ⟨Nat.zero_le _, by simp [wts], by show 0 ≤ m - (l.length : Int); omega⟩ (by simp [C]; omega) ?_
    rintro ⟨j, n⟩ sl ob ⟨hj, hn, hn0⟩
    dsimp only at hj hn hn0
    have hn1 : n ≤ 1048576 := by omega
    (try dsimp only [cond_true, cond_false])
    (conv => whnf)
    by_cases hjl : j < l.length
    · have hx1 := (hx j hjl).1
      have hx2 := (hx j hjl).2
      have e := wts_take wS l j hjl
      have e2 := wts_le wS l (j + 1)
      have hq := fun k => ok_laws_szKept k (rd l j).n (rd l j).s.at_ (rd l j).s.code (rd l j).s.regs (rd l j).s.out n hn0 hn1 hx1 hx2
      simp only [wS] at e
      by_cases c2 : n - (((rd l j).s.regs.length : Int) + (rd l j).s.out.length) < 0
      · have e3 : left n (((rd l j).s.regs.length : Int) + (rd l j).s.out.length) = -1 := by unfold left; rw [if_pos c2]
        rw [e3] at hq
        rw [show left m (l.length + wts wS l : Nat) = -1 from by unfold left; rw [if_pos (by omega)]]
        repeat' ((with_reducible (first | refine sCall.of (hq _) ?_ | refine gP ?_ | refine gN ?_ | refine fG.split (fun _ => ?_) (fun _ => ?_) | refine fG.not ?_ | refine gY ?_ | refine gF ?_ | refine fG.yes (flat_map (fun _ => rfl) _) ?_ | refine fG.bool (fun _ => ?_) (fun _ => ?_) | refine gS64 ?_ | refine gU8 ?_ | refine gI9 ?_ | refine fE.of rfl ?_ | refine gBq ?_ | refine gNum9 ?_ | refine gSet ?_ | refine gRd ?_ | refine gLk ?_ | refine gRow9 ?_ | refine fB.of (wide_map (fun _ => rfl) _) ?_ | refine fB.of (full_map (fun _ => rfl) _) ?_ | refine fB.of (full_map (fun x => full_rKept x) _) ?_ | refine gRf ?_)) <;> (try (conv => whnf)))
      · have e3 : left n (((rd l j).s.regs.length : Int) + (rd l j).s.out.length) = n - (((rd l j).s.regs.length : Int) + (rd l j).s.out.length) := by unfold left; rw [if_neg c2]
        rw [e3] at hq
        repeat' ((with_reducible (first | refine sCall.of (hq _) ?_ | refine gP ?_ | refine gN ?_ | refine fG.split (fun _ => ?_) (fun _ => ?_) | refine fG.not ?_ | refine gY ?_ | refine gF ?_ | refine fG.yes (flat_map (fun _ => rfl) _) ?_ | refine fG.bool (fun _ => ?_) (fun _ => ?_) | refine gS64 ?_ | refine gU8 ?_ | refine gI9 ?_ | refine fE.of rfl ?_ | refine gBq ?_ | refine gNum9 ?_ | refine gSet ?_ | refine gRd ?_ | refine gLk ?_ | refine gRow9 ?_ | refine fB.of (wide_map (fun _ => rfl) _) ?_ | refine fB.of (full_map (fun _ => rfl) _) ?_ | refine fB.of (full_map (fun x => full_rKept x) _) ?_ | refine gRf ?_)) <;> (try (conv => whnf)))
        refine ⟨⟨⟨j + 1, n - (((rd l j).s.regs.length : Int) + (rd l j).s.out.length)⟩, (by (try dsimp only [cond_true, cond_false]); exact ⟨⟨rfl, rfl, rfl, trivial⟩, ⟨rfl, trivial⟩⟩), ?_, ?_⟩⟩
        · refine ⟨by show j + 1 ≤ _; omega, ?_, by show (0 : Int) ≤ n - (((rd l j).s.regs.length : Int) + (rd l j).s.out.length); omega⟩
          show n - (((rd l j).s.regs.length : Int) + (rd l j).s.out.length) = m - l.length - (wts wS (l.take (j + 1)) : Nat)
          omega
        · show l.length - (j + 1) < l.length - j; omega
    · have hjj : j = l.length := by omega
      rw [hjj, List.take_length] at hn
      rw [show left m (l.length + wts wS l : Nat) = n from by unfold left; rw [if_neg (by omega)]; omega]
      repeat' ((with_reducible (first | refine gP ?_ | refine gN ?_ | refine fG.split (fun _ => ?_) (fun _ => ?_) | refine fG.not ?_ | refine gY ?_ | refine gF ?_ | refine fG.yes (flat_map (fun _ => rfl) _) ?_ | refine fG.bool (fun _ => ?_) (fun _ => ?_) | refine gS64 ?_ | refine gU8 ?_ | refine gI9 ?_ | refine fE.of rfl ?_ | refine gBq ?_ | refine gNum9 ?_ | refine gSet ?_ | refine gRd ?_ | refine gLk ?_ | refine gRow9 ?_ | refine fB.of (wide_map (fun _ => rfl) _) ?_ | refine fB.of (full_map (fun _ => rfl) _) ?_ | refine fB.of (full_map (fun x => full_rKept x) _) ?_ | refine gRf ?_)) <;> (try (conv => whnf)))
theorem ok_laws_toKeptS (k : Nat) (l : List Kept) (hl : l.length ≤ 100000000000) (hx : ∀ j : Nat, j < l.length → (rd l j).s.regs.length ≤ 100000000000 ∧ (rd l j).s.out.length ≤ 100000000000) : callE PR C (k + 4) 31 [hKept 0 l] [tKept l] = some ⟨.h 2000000 1 0 [] 5 0 l.length, [tKept9 l], [none]⟩ := by
  (refine callE_is (callE_w [ResultVar.tmp 2] rfl Try.func31 rfl (by decide +kernel) rfl (by simp) ?_); (conv => whnf))
  repeat' ((with_reducible (first | refine gP ?_ | refine gN ?_ | refine fG.split (fun _ => ?_) (fun _ => ?_) | refine fG.not ?_ | refine gY ?_ | refine gF ?_ | refine fG.yes (flat_map (fun _ => rfl) _) ?_ | refine fG.bool (fun _ => ?_) (fun _ => ?_) | refine gS64 ?_ | refine gU8 ?_ | refine gI9 ?_ | refine fE.of rfl ?_ | refine gBq ?_ | refine gNum9 ?_ | refine gSet ?_ | refine gRd ?_ | refine gLk ?_ | refine gRow9 ?_ | refine fB.of (wide_map (fun _ => rfl) _) ?_ | refine fB.of (full_map (fun _ => rfl) _) ?_ | refine fB.of (full_map (fun x => full_rKept x) _) ?_ | refine gRf ?_)) <;> (try (conv => whnf)))
  refine loop_rule (ι := TL Kept) (fun x => [(0, hKept 0 l), (3, .h 7 1 0 [] 5 0 l.length), (4, i64 (x.j : Nat))])
    (fun x => [(1000000, ⟨0, 0, false, tKept l⟩), (7, ⟨1, x.g, x.d, tKept9 x.l⟩)])
    (fun x => l.length - x.j) (fun x => x.j ≤ l.length ∧ x.l = fill l x.j) ⟨0, List.replicate l.length default, 0, false⟩ (by (try dsimp only [cond_true, cond_false]); exact ⟨⟨rfl, rfl, rfl, trivial⟩, ⟨rfl, rfl, trivial⟩⟩) ⟨Nat.zero_le _, (fill_zero l).symm⟩ (by simp [C]; omega) ?_
  rintro ⟨j, out, g, d⟩ sl ob ⟨hj, hout⟩
  dsimp only at hj hout
  have hlen : out.length = l.length := by rw [hout, fill_len]
  (try dsimp only [cond_true, cond_false])
  (conv => whnf)
  by_cases hjl : j < l.length
  · have hx1 := (hx j hjl).1
    have hx2 := (hx j hjl).2
    have hq := fun k => ok_laws_toKept k (rd l j).n (rd l j).s.at_ (rd l j).s.code (rd l j).s.regs (rd l j).s.out hx1 hx2
    repeat' ((with_reducible (first | refine sCall.of (hq _) ?_ | refine gP ?_ | refine gN ?_ | refine fG.split (fun _ => ?_) (fun _ => ?_) | refine fG.not ?_ | refine gY ?_ | refine gF ?_ | refine fG.yes (flat_map (fun _ => rfl) _) ?_ | refine fG.bool (fun _ => ?_) (fun _ => ?_) | refine gS64 ?_ | refine gU8 ?_ | refine gI9 ?_ | refine fE.of rfl ?_ | refine gBq ?_ | refine gNum9 ?_ | refine gSet ?_ | refine gRd ?_ | refine gLk ?_ | refine gRow9 ?_ | refine fB.of (wide_map (fun _ => rfl) _) ?_ | refine fB.of (full_map (fun _ => rfl) _) ?_ | refine fB.of (full_map (fun x => full_rKept x) _) ?_ | refine gRf ?_)) <;> (try (conv => whnf)))
    refine ⟨⟨⟨j + 1, out.set j (rd l j), _, _⟩, (by (try dsimp only [cond_true, cond_false]); exact ⟨⟨rfl, rfl, rfl, trivial⟩, ⟨rfl, rfl, trivial⟩⟩), ?_, ?_⟩⟩
    · exact ⟨by show j + 1 ≤ _; omega, by show _ = _; rw [hout]; exact fill_set l j (by omega)⟩
    · show l.length - (j + 1) < l.length - j; omega
  · have : j = l.length := by omega
    repeat' ((with_reducible (first | refine gP ?_ | refine gN ?_ | refine fG.split (fun _ => ?_) (fun _ => ?_) | refine fG.not ?_ | refine gY ?_ | refine gF ?_ | refine fG.yes (flat_map (fun _ => rfl) _) ?_ | refine fG.bool (fun _ => ?_) (fun _ => ?_) | refine gS64 ?_ | refine gU8 ?_ | refine gI9 ?_ | refine fE.of rfl ?_ | refine gBq ?_ | refine gNum9 ?_ | refine gSet ?_ | refine gRd ?_ | refine gLk ?_ | refine gRow9 ?_ | refine fB.of (wide_map (fun _ => rfl) _) ?_ | refine fB.of (full_map (fun _ => rfl) _) ?_ | refine fB.of (full_map (fun x => full_rKept x) _) ?_ | refine gRf ?_)) <;> (try (conv => whnf)))
    rw [hout, this, fill_all, List.take_length]

end Go.Proofs.Ytfeenmfehgljgaa.Abs
namespace Go.Proofs.Ytfeenmfehgljgaa.Abs
open Go Go.Proofs
set_option linter.unusedVariables false
set_option linter.unusedSimpArgs false
attribute [local irreducible] callE
/-! ### Equal lists, equal states -/
theorem take_next {l m : List Int} {j : Nat} (h1 : j < l.length) (h2 : j < m.length) (h : l.take j = m.take j) (e : rd l j = rd m j) : l.take (j + 1) = m.take (j + 1) := by rw [take_rd h1, take_rd h2, h, e]
theorem take_all_eq {l m : List Int} (h1 : l.length = m.length) (h : l.take l.length = m.take l.length) : l = m := by rw [List.take_length, h1, List.take_length] at h; exact h
theorem ok_Equal_int (k : Nat) (r s : List Int) (hr : r.length ≤ 100000000000) (hs : s.length ≤ 100000000000) : callE PR C (k + 1) 82 [.h 1000000 0 0 [] 1 0 r.length, .h 1000001 0 0 [] 1 0 s.length] [tI r, tI s] = some ⟨bl (decide (r = s)), [], [none, none]⟩ := by
  by_cases h : r.length = s.length
  · (refine callE_is (callE_w [ResultVar.tmp 4] rfl Try.func82 rfl (by decide +kernel) rfl (by simp) ?_); (conv => whnf))
    repeat' ((with_reducible (first | refine gP ?_ | refine gN ?_ | refine fG.split (fun _ => ?_) (fun _ => ?_) | refine fG.not ?_ | refine gY ?_ | refine gF ?_ | refine fG.yes (flat_map (fun _ => rfl) _) ?_ | refine fG.bool (fun _ => ?_) (fun _ => ?_) | refine gS64 ?_ | refine gU8 ?_ | refine gI9 ?_ | refine fE.of rfl ?_ | refine gBq ?_ | refine gNum9 ?_ | refine gSet ?_ | refine gRd ?_ | refine gLk ?_ | refine gRow9 ?_ | refine fB.of (wide_map (fun _ => rfl) _) ?_ | refine fB.of (full_map (fun _ => rfl) _) ?_ | refine fB.of (full_map (fun x => full_rKept x) _) ?_ | refine gRf ?_ | refine sDraw.none (id := 6) (ty := tys) rfl (by decide +kernel) ?_)) <;> (try (conv => whnf)))
    refine loop_rule (ι := Nat) (fun j => [(0, .h 1000000 0 0 [] 1 0 r.length), (1, .h 1000001 0 0 [] 1 0 s.length), (12, i64 r.length), (13, i64 (j : Nat))])
      (fun x => [(1000000, ⟨0, 0, false, tI r⟩), (1000001, ⟨0, 0, false, tI s⟩)])
      (fun j => r.length - j) (fun j => j ≤ r.length ∧ r.take j = s.take j) 0 (by (try dsimp only [cond_true, cond_false]); exact ⟨⟨rfl, rfl, rfl, rfl, trivial⟩, ⟨rfl, rfl, trivial⟩⟩) ⟨Nat.zero_le _, rfl⟩ (by simp [C]; omega) ?_
    rintro j sl ob ⟨hj, ht⟩
    (try dsimp only [cond_true, cond_false])
    (conv => whnf)
    by_cases hjl : j < r.length
    · by_cases e : rd r j = rd s j
      · repeat' ((with_reducible (first | refine gP ?_ | refine gN ?_ | refine fG.split (fun _ => ?_) (fun _ => ?_) | refine fG.not ?_ | refine gY ?_ | refine gF ?_ | refine fG.yes (flat_map (fun _ => rfl) _) ?_ | refine fG.bool (fun _ => ?_) (fun _ => ?_) | refine gS64 ?_ | refine gU8 ?_ | refine gI9 ?_ | refine fE.of rfl ?_ | refine gBq ?_ | refine gNum9 ?_ | refine gSet ?_ | refine gRd ?_ | refine gLk ?_ | refine gRow9 ?_ | refine fB.of (wide_map (fun _ => rfl) _) ?_ | refine fB.of (full_map (fun _ => rfl) _) ?_ | refine fB.of (full_map (fun x => full_rKept x) _) ?_ | refine gRf ?_ | refine sDraw.none (id := 6) (ty := tys) rfl (by decide +kernel) ?_)) <;> (try (conv => whnf)))
        refine ⟨⟨j + 1, (by (try dsimp only [cond_true, cond_false]); exact ⟨⟨rfl, rfl, rfl, rfl, trivial⟩, ⟨rfl, rfl, trivial⟩⟩), ?_, ?_⟩⟩
        · exact ⟨by show j + 1 ≤ _; omega, take_next hjl (by omega) ht e⟩
        · show r.length - (j + 1) < r.length - j; omega
      · rw [decide_eq_false (fun hh : r = s => e (by rw [hh]))]
        repeat' ((with_reducible (first | refine gP ?_ | refine gN ?_ | refine fG.split (fun _ => ?_) (fun _ => ?_) | refine fG.not ?_ | refine gY ?_ | refine gF ?_ | refine fG.yes (flat_map (fun _ => rfl) _) ?_ | refine fG.bool (fun _ => ?_) (fun _ => ?_) | refine gS64 ?_ | refine gU8 ?_ | refine gI9 ?_ | refine fE.of rfl ?_ | refine gBq ?_ | refine gNum9 ?_ | refine gSet ?_ | refine gRd ?_ | refine gLk ?_ | refine gRow9 ?_ | refine fB.of (wide_map (fun _ => rfl) _) ?_ | refine fB.of (full_map (fun _ => rfl) _) ?_ | refine fB.of (full_map (fun x => full_rKept x) _) ?_ | refine gRf ?_ | refine sDraw.none (id := 6) (ty := tys) rfl (by decide +kernel) ?_)) <;> (try (conv => whnf)))
    · have hjj : j = r.length := by omega
      rw [decide_eq_true (take_all_eq h (by rw [← hjj]; exact ht))]
      repeat' ((with_reducible (first | refine gP ?_ | refine gN ?_ | refine fG.split (fun _ => ?_) (fun _ => ?_) | refine fG.not ?_ | refine gY ?_ | refine gF ?_ | refine fG.yes (flat_map (fun _ => rfl) _) ?_ | refine fG.bool (fun _ => ?_) (fun _ => ?_) | refine gS64 ?_ | refine gU8 ?_ | refine gI9 ?_ | refine fE.of rfl ?_ | refine gBq ?_ | refine gNum9 ?_ | refine gSet ?_ | refine gRd ?_ | refine gLk ?_ | refine gRow9 ?_ | refine fB.of (wide_map (fun _ => rfl) _) ?_ | refine fB.of (full_map (fun _ => rfl) _) ?_ | refine fB.of (full_map (fun x => full_rKept x) _) ?_ | refine gRf ?_ | refine sDraw.none (id := 6) (ty := tys) rfl (by decide +kernel) ?_)) <;> (try (conv => whnf)))
  · rw [decide_eq_false (fun hh : r = s => h (by rw [hh]))]
    (refine callE_is (callE_w [ResultVar.tmp 4] rfl Try.func82 rfl (by decide +kernel) rfl (by simp) ?_); (conv => whnf))
    repeat' ((with_reducible (first | refine gP ?_ | refine gN ?_ | refine fG.split (fun _ => ?_) (fun _ => ?_) | refine fG.not ?_ | refine gY ?_ | refine gF ?_ | refine fG.yes (flat_map (fun _ => rfl) _) ?_ | refine fG.bool (fun _ => ?_) (fun _ => ?_) | refine gS64 ?_ | refine gU8 ?_ | refine gI9 ?_ | refine fE.of rfl ?_ | refine gBq ?_ | refine gNum9 ?_ | refine gSet ?_ | refine gRd ?_ | refine gLk ?_ | refine gRow9 ?_ | refine fB.of (wide_map (fun _ => rfl) _) ?_ | refine fB.of (full_map (fun _ => rfl) _) ?_ | refine fB.of (full_map (fun x => full_rKept x) _) ?_ | refine gRf ?_ | refine sDraw.none (id := 6) (ty := tys) rfl (by decide +kernel) ?_)) <;> (try (conv => whnf)))
def sameS (a : Int) (r o : List Int) (c a2 : Int) (r2 o2 : List Int) (c2 : Int) : Bool := decide ((⟨a, r, o, c⟩ : State) = ⟨a2, r2, o2, c2⟩)
theorem sameS_eq (a : Int) (r o : List Int) (c a2 : Int) (r2 o2 : List Int) (c2 : Int) : sameS a r o c a2 r2 o2 c2 = (decide (a = a2) && (decide (c = c2) && (decide (r = r2) && decide (o = o2)))) := by
  unfold sameS
  rw [Bool.eq_iff_iff]
  simp only [decide_eq_true_eq, Bool.and_eq_true, State.mk.injEq]
  exact ⟨fun ⟨a, b, c, d⟩ => ⟨a, d, b, c⟩, fun ⟨a, d, b, c⟩ => ⟨a, b, c, d⟩⟩
theorem ok_impl_sameState (k : Nat) (a : Int) (r o : List Int) (c a2 : Int) (r2 o2 : List Int) (c2 : Int) (h1 : r.length ≤ 100000000000) (h2 : o.length ≤ 100000000000) (h3 : r2.length ≤ 100000000000) (h4 : o2.length ≤ 100000000000) :
    callE PR C (k + 2) 55 [aState 0 a r o c, aState 2 a2 r2 o2 c2] [tI r, tI o, tI r2, tI o2] = some ⟨bl (sameS a r o c a2 r2 o2 c2), [], [none, none, none, none]⟩ := by
  rw [sameS_eq]
  (refine callE_is (callE_w [ResultVar.tmp 4] rfl Try.func55 rfl (by decide +kernel) rfl (by simp) ?_); (conv => whnf))
  repeat' ((with_reducible (first | refine sCall.of (ok_Equal_int _ _ _ h1 h3) ?_ | refine sCall.of (ok_Equal_int _ _ _ h2 h4) ?_ | refine gP ?_ | refine gN ?_ | refine fG.split (fun _ => ?_) (fun _ => ?_) | refine fG.not ?_ | refine gY ?_ | refine gF ?_ | refine fG.yes (flat_map (fun _ => rfl) _) ?_ | refine fG.bool (fun _ => ?_) (fun _ => ?_) | refine gS64 ?_ | refine gU8 ?_ | refine gI9 ?_ | refine fE.of rfl ?_ | refine gBq ?_ | refine gNum9 ?_ | refine gSet ?_ | refine gRd ?_ | refine gLk ?_ | refine gRow9 ?_ | refine fB.of (wide_map (fun _ => rfl) _) ?_ | refine fB.of (full_map (fun _ => rfl) _) ?_ | refine fB.of (full_map (fun x => full_rKept x) _) ?_ | refine gRf ?_)) <;> (try (conv => whnf)))
  all_goals (simp [*]; done)

set_option maxHeartbeats 4000000 in
theorem ok_spec_l4SameState (k : Nat) (a : Int) (r o : List Int) (c a2 : Int) (r2 o2 : List Int) (c2 : Int) (h1 : r.length ≤ 100000000000) (h2 : o.length ≤ 100000000000) (h3 : r2.length ≤ 100000000000) (h4 : o2.length ≤ 100000000000) :
    callE PR C (k + 1) 59 [aState 0 a r o c, aState 2 a2 r2 o2 c2] [tI r, tI o, tI r2, tI o2] = some ⟨bl (sameS a r o c a2 r2 o2 c2), [], [none, none, none, none]⟩ := by
  have hno : ∀ q : ¬ ((⟨a, r, o, c⟩ : State) = ⟨a2, r2, o2, c2⟩), sameS a r o c a2 r2 o2 c2 = false := fun q => decide_eq_false q
  by_cases g1 : a = a2
  · by_cases g2 : c = c2
    · by_cases g3 : r.length = r2.length
      · by_cases g4 : o.length = o2.length
        · (refine callE_is (callE_w [ResultVar.tmp 4] rfl Try.func59 rfl (by decide +kernel) rfl (by simp) ?_); (conv => whnf))
          repeat' ((with_reducible (first | refine gP ?_ | refine gN ?_ | refine fG.split (fun _ => ?_) (fun _ => ?_) | refine fG.not ?_ | refine gY ?_ | refine gF ?_ | refine fG.yes (flat_map (fun _ => rfl) _) ?_ | refine fG.bool (fun _ => ?_) (fun _ => ?_) | refine gS64 ?_ | refine gU8 ?_ | refine gI9 ?_ | refine fE.of rfl ?_ | refine gBq ?_ | refine gNum9 ?_ | refine gSet ?_ | refine gRd ?_ | refine gLk ?_ | refine gRow9 ?_ | refine fB.of (wide_map (fun _ => rfl) _) ?_ | refine fB.of (full_map (fun _ => rfl) _) ?_ | refine fB.of (full_map (fun x => full_rKept x) _) ?_ | refine gRf ?_ | refine sDraw.none (id := 6) (ty := tys) rfl (by decide +kernel) ?_ | refine sDraw.none (id := 11) (ty := tys) rfl (by decide +kernel) ?_)) <;> (try (conv => whnf)))
          refine loop_rule (ι := Nat) (fun j => [(2, .pt 2 1 0 [] 0 0), (3, .pt 3 1 0 [] 0 0), (5, i64 (j : Nat))])
            (fun x => [(1000000, ⟨0, 0, false, tI r⟩), (1000001, ⟨0, 0, false, tI o⟩), (1000002, ⟨0, 0, false, tI r2⟩), (1000003, ⟨0, 0, false, tI o2⟩),
              (2, ⟨1, 0, false, .box [i64 a, .h 1000000 0 0 [] 1 0 r.length, .h 1000001 0 0 [] 1 0 o.length, i64 c]⟩), (3, ⟨1, 0, false, .box [i64 a2, .h 1000002 0 0 [] 1 0 r2.length, .h 1000003 0 0 [] 1 0 o2.length, i64 c2]⟩)])
            (fun j => r.length - j) (fun j => j ≤ r.length ∧ r.take j = r2.take j) 0 (by (try dsimp only [cond_true, cond_false]); exact ⟨⟨rfl, rfl, rfl, trivial⟩, ⟨rfl, rfl, rfl, rfl, rfl, rfl, trivial⟩⟩) ⟨Nat.zero_le _, rfl⟩ (by simp [C]; omega) ?_
          rintro j sl ob ⟨hj, ht⟩
          (try dsimp only [cond_true, cond_false])
          (conv => whnf)
          by_cases hjl : j < r.length
          · by_cases e : rd r j = rd r2 j
            · repeat' ((with_reducible (first | refine gP ?_ | refine gN ?_ | refine fG.split (fun _ => ?_) (fun _ => ?_) | refine fG.not ?_ | refine gY ?_ | refine gF ?_ | refine fG.yes (flat_map (fun _ => rfl) _) ?_ | refine fG.bool (fun _ => ?_) (fun _ => ?_) | refine gS64 ?_ | refine gU8 ?_ | refine gI9 ?_ | refine fE.of rfl ?_ | refine gBq ?_ | refine gNum9 ?_ | refine gSet ?_ | refine gRd ?_ | refine gLk ?_ | refine gRow9 ?_ | refine fB.of (wide_map (fun _ => rfl) _) ?_ | refine fB.of (full_map (fun _ => rfl) _) ?_ | refine fB.of (full_map (fun x => full_rKept x) _) ?_ | refine gRf ?_ | refine sDraw.none (id := 6) (ty := tys) rfl (by decide +kernel) ?_ | refine sDraw.none (id := 11) (ty := tys) rfl (by decide +kernel) ?_)) <;> (try (conv => whnf)))
              refine ⟨⟨j + 1, (by (try dsimp only [cond_true, cond_false]); exact ⟨⟨rfl, rfl, rfl, trivial⟩, ⟨rfl, rfl, rfl, rfl, rfl, rfl, trivial⟩⟩), ?_, ?_⟩⟩
              · exact ⟨by show j + 1 ≤ _; omega, take_next hjl (by omega) ht e⟩
              · show r.length - (j + 1) < r.length - j; omega
            · rw [hno fun hh => e (by cases hh; rfl)]
              repeat' ((with_reducible (first | refine gP ?_ | refine gN ?_ | refine fG.split (fun _ => ?_) (fun _ => ?_) | refine fG.not ?_ | refine gY ?_ | refine gF ?_ | refine fG.yes (flat_map (fun _ => rfl) _) ?_ | refine fG.bool (fun _ => ?_) (fun _ => ?_) | refine gS64 ?_ | refine gU8 ?_ | refine gI9 ?_ | refine fE.of rfl ?_ | refine gBq ?_ | refine gNum9 ?_ | refine gSet ?_ | refine gRd ?_ | refine gLk ?_ | refine gRow9 ?_ | refine fB.of (wide_map (fun _ => rfl) _) ?_ | refine fB.of (full_map (fun _ => rfl) _) ?_ | refine fB.of (full_map (fun x => full_rKept x) _) ?_ | refine gRf ?_ | refine sDraw.none (id := 6) (ty := tys) rfl (by decide +kernel) ?_ | refine sDraw.none (id := 11) (ty := tys) rfl (by decide +kernel) ?_)) <;> (try (conv => whnf)))
          · have hjj : j = r.length := by omega
            have er : r = r2 := take_all_eq g3 (by rw [← hjj]; exact ht)
            repeat' ((with_reducible (first | refine gP ?_ | refine gN ?_ | refine fG.split (fun _ => ?_) (fun _ => ?_) | refine fG.not ?_ | refine gY ?_ | refine gF ?_ | refine fG.yes (flat_map (fun _ => rfl) _) ?_ | refine fG.bool (fun _ => ?_) (fun _ => ?_) | refine gS64 ?_ | refine gU8 ?_ | refine gI9 ?_ | refine fE.of rfl ?_ | refine gBq ?_ | refine gNum9 ?_ | refine gSet ?_ | refine gRd ?_ | refine gLk ?_ | refine gRow9 ?_ | refine fB.of (wide_map (fun _ => rfl) _) ?_ | refine fB.of (full_map (fun _ => rfl) _) ?_ | refine fB.of (full_map (fun x => full_rKept x) _) ?_ | refine gRf ?_ | refine sDraw.none (id := 6) (ty := tys) rfl (by decide +kernel) ?_ | refine sDraw.none (id := 11) (ty := tys) rfl (by decide +kernel) ?_)) <;> (try (conv => whnf)))
            refine loop_rule (ι := Nat) (fun j => [(2, .pt 2 1 0 [] 0 0), (3, .pt 3 1 0 [] 0 0), (6, i64 (j : Nat))])
              (fun x => [(1000001, ⟨0, 0, false, tI o⟩), (1000003, ⟨0, 0, false, tI o2⟩), (1000000, ⟨0, 0, false, tI r⟩), (1000002, ⟨0, 0, false, tI r2⟩),
                (2, ⟨1, 0, false, .box [i64 a, .h 1000000 0 0 [] 1 0 r.length, .h 1000001 0 0 [] 1 0 o.length, i64 c]⟩), (3, ⟨1, 0, false, .box [i64 a2, .h 1000002 0 0 [] 1 0 r2.length, .h 1000003 0 0 [] 1 0 o2.length, i64 c2]⟩)])
              (fun j => o.length - j) (fun j => j ≤ o.length ∧ o.take j = o2.take j) 0 (by (try dsimp only [cond_true, cond_false]); exact ⟨⟨rfl, rfl, rfl, trivial⟩, ⟨rfl, rfl, rfl, rfl, rfl, rfl, trivial⟩⟩) ⟨Nat.zero_le _, rfl⟩ (by simp [C]; omega) ?_
            clear ht hj hjj hjl
            rintro j' sl' ob' ⟨hj, ht⟩
            (try dsimp only [cond_true, cond_false])
            (conv => whnf)
            by_cases hjl : j' < o.length
            · by_cases e : rd o j' = rd o2 j'
              · repeat' ((with_reducible (first | refine gP ?_ | refine gN ?_ | refine fG.split (fun _ => ?_) (fun _ => ?_) | refine fG.not ?_ | refine gY ?_ | refine gF ?_ | refine fG.yes (flat_map (fun _ => rfl) _) ?_ | refine fG.bool (fun _ => ?_) (fun _ => ?_) | refine gS64 ?_ | refine gU8 ?_ | refine gI9 ?_ | refine fE.of rfl ?_ | refine gBq ?_ | refine gNum9 ?_ | refine gSet ?_ | refine gRd ?_ | refine gLk ?_ | refine gRow9 ?_ | refine fB.of (wide_map (fun _ => rfl) _) ?_ | refine fB.of (full_map (fun _ => rfl) _) ?_ | refine fB.of (full_map (fun x => full_rKept x) _) ?_ | refine gRf ?_ | refine sDraw.none (id := 6) (ty := tys) rfl (by decide +kernel) ?_ | refine sDraw.none (id := 11) (ty := tys) rfl (by decide +kernel) ?_)) <;> (try (conv => whnf)))
                refine ⟨⟨j' + 1, (by (try dsimp only [cond_true, cond_false]); exact ⟨⟨rfl, rfl, rfl, trivial⟩, ⟨rfl, rfl, rfl, rfl, rfl, rfl, trivial⟩⟩), ?_, ?_⟩⟩
                · exact ⟨by show j' + 1 ≤ _; omega, take_next hjl (by omega) ht e⟩
                · show o.length - (j' + 1) < o.length - j'; omega
              · rw [hno fun hh => e (by cases hh; rfl)]
                repeat' ((with_reducible (first | refine gP ?_ | refine gN ?_ | refine fG.split (fun _ => ?_) (fun _ => ?_) | refine fG.not ?_ | refine gY ?_ | refine gF ?_ | refine fG.yes (flat_map (fun _ => rfl) _) ?_ | refine fG.bool (fun _ => ?_) (fun _ => ?_) | refine gS64 ?_ | refine gU8 ?_ | refine gI9 ?_ | refine fE.of rfl ?_ | refine gBq ?_ | refine gNum9 ?_ | refine gSet ?_ | refine gRd ?_ | refine gLk ?_ | refine gRow9 ?_ | refine fB.of (wide_map (fun _ => rfl) _) ?_ | refine fB.of (full_map (fun _ => rfl) _) ?_ | refine fB.of (full_map (fun x => full_rKept x) _) ?_ | refine gRf ?_ | refine sDraw.none (id := 6) (ty := tys) rfl (by decide +kernel) ?_ | refine sDraw.none (id := 11) (ty := tys) rfl (by decide +kernel) ?_)) <;> (try (conv => whnf)))
            · have hjj : j' = o.length := by omega
              have eo : o = o2 := take_all_eq g4 (by rw [← hjj]; exact ht)
              rw [show sameS a r o c a2 r2 o2 c2 = true from decide_eq_true (by rw [g1, g2, er, eo])]
              repeat' ((with_reducible (first | refine gP ?_ | refine gN ?_ | refine fG.split (fun _ => ?_) (fun _ => ?_) | refine fG.not ?_ | refine gY ?_ | refine gF ?_ | refine fG.yes (flat_map (fun _ => rfl) _) ?_ | refine fG.bool (fun _ => ?_) (fun _ => ?_) | refine gS64 ?_ | refine gU8 ?_ | refine gI9 ?_ | refine fE.of rfl ?_ | refine gBq ?_ | refine gNum9 ?_ | refine gSet ?_ | refine gRd ?_ | refine gLk ?_ | refine gRow9 ?_ | refine fB.of (wide_map (fun _ => rfl) _) ?_ | refine fB.of (full_map (fun _ => rfl) _) ?_ | refine fB.of (full_map (fun x => full_rKept x) _) ?_ | refine gRf ?_ | refine sDraw.none (id := 6) (ty := tys) rfl (by decide +kernel) ?_ | refine sDraw.none (id := 11) (ty := tys) rfl (by decide +kernel) ?_)) <;> (try (conv => whnf)))
        · rw [hno fun hh => g4 (by cases hh; rfl)]
          (refine callE_is (callE_w [ResultVar.tmp 4] rfl Try.func59 rfl (by decide +kernel) rfl (by simp) ?_); (conv => whnf))
          repeat' ((with_reducible (first | refine gP ?_ | refine gN ?_ | refine fG.split (fun _ => ?_) (fun _ => ?_) | refine fG.not ?_ | refine gY ?_ | refine gF ?_ | refine fG.yes (flat_map (fun _ => rfl) _) ?_ | refine fG.bool (fun _ => ?_) (fun _ => ?_) | refine gS64 ?_ | refine gU8 ?_ | refine gI9 ?_ | refine fE.of rfl ?_ | refine gBq ?_ | refine gNum9 ?_ | refine gSet ?_ | refine gRd ?_ | refine gLk ?_ | refine gRow9 ?_ | refine fB.of (wide_map (fun _ => rfl) _) ?_ | refine fB.of (full_map (fun _ => rfl) _) ?_ | refine fB.of (full_map (fun x => full_rKept x) _) ?_ | refine gRf ?_ | refine sDraw.none (id := 6) (ty := tys) rfl (by decide +kernel) ?_ | refine sDraw.none (id := 11) (ty := tys) rfl (by decide +kernel) ?_)) <;> (try (conv => whnf)))
      · rw [hno fun hh => g3 (by cases hh; rfl)]
        (refine callE_is (callE_w [ResultVar.tmp 4] rfl Try.func59 rfl (by decide +kernel) rfl (by simp) ?_); (conv => whnf))
        repeat' ((with_reducible (first | refine gP ?_ | refine gN ?_ | refine fG.split (fun _ => ?_) (fun _ => ?_) | refine fG.not ?_ | refine gY ?_ | refine gF ?_ | refine fG.yes (flat_map (fun _ => rfl) _) ?_ | refine fG.bool (fun _ => ?_) (fun _ => ?_) | refine gS64 ?_ | refine gU8 ?_ | refine gI9 ?_ | refine fE.of rfl ?_ | refine gBq ?_ | refine gNum9 ?_ | refine gSet ?_ | refine gRd ?_ | refine gLk ?_ | refine gRow9 ?_ | refine fB.of (wide_map (fun _ => rfl) _) ?_ | refine fB.of (full_map (fun _ => rfl) _) ?_ | refine fB.of (full_map (fun x => full_rKept x) _) ?_ | refine gRf ?_ | refine sDraw.none (id := 6) (ty := tys) rfl (by decide +kernel) ?_ | refine sDraw.none (id := 11) (ty := tys) rfl (by decide +kernel) ?_)) <;> (try (conv => whnf)))
    · rw [hno fun hh => g2 (by cases hh; rfl)]
      (refine callE_is (callE_w [ResultVar.tmp 4] rfl Try.func59 rfl (by decide +kernel) rfl (by simp) ?_); (conv => whnf))
      repeat' ((with_reducible (first | refine gP ?_ | refine gN ?_ | refine fG.split (fun _ => ?_) (fun _ => ?_) | refine fG.not ?_ | refine gY ?_ | refine gF ?_ | refine fG.yes (flat_map (fun _ => rfl) _) ?_ | refine fG.bool (fun _ => ?_) (fun _ => ?_) | refine gS64 ?_ | refine gU8 ?_ | refine gI9 ?_ | refine fE.of rfl ?_ | refine gBq ?_ | refine gNum9 ?_ | refine gSet ?_ | refine gRd ?_ | refine gLk ?_ | refine gRow9 ?_ | refine fB.of (wide_map (fun _ => rfl) _) ?_ | refine fB.of (full_map (fun _ => rfl) _) ?_ | refine fB.of (full_map (fun x => full_rKept x) _) ?_ | refine gRf ?_ | refine sDraw.none (id := 6) (ty := tys) rfl (by decide +kernel) ?_ | refine sDraw.none (id := 11) (ty := tys) rfl (by decide +kernel) ?_)) <;> (try (conv => whnf)))
  · rw [hno fun hh => g1 (by cases hh; rfl)]
    (refine callE_is (callE_w [ResultVar.tmp 4] rfl Try.func59 rfl (by decide +kernel) rfl (by simp) ?_); (conv => whnf))
    repeat' ((with_reducible (first | refine gP ?_ | refine gN ?_ | refine fG.split (fun _ => ?_) (fun _ => ?_) | refine fG.not ?_ | refine gY ?_ | refine gF ?_ | refine fG.yes (flat_map (fun _ => rfl) _) ?_ | refine fG.bool (fun _ => ?_) (fun _ => ?_) | refine gS64 ?_ | refine gU8 ?_ | refine gI9 ?_ | refine fE.of rfl ?_ | refine gBq ?_ | refine gNum9 ?_ | refine gSet ?_ | refine gRd ?_ | refine gLk ?_ | refine gRow9 ?_ | refine fB.of (wide_map (fun _ => rfl) _) ?_ | refine fB.of (full_map (fun _ => rfl) _) ?_ | refine fB.of (full_map (fun x => full_rKept x) _) ?_ | refine gRf ?_ | refine sDraw.none (id := 6) (ty := tys) rfl (by decide +kernel) ?_ | refine sDraw.none (id := 11) (ty := tys) rfl (by decide +kernel) ?_)) <;> (try (conv => whnf)))

/-! ### Kept states that are right -/
def keptOne (l : List Ins) (es : List Event) (ks : List Kept) (i : Nat) : Bool :=
  decide (0 ≤ (rd ks i).n ∧ (rd ks i).n ≤ es.length) && (decide (i = 0 ∨ (rd ks (i - 1)).n < (rd ks i).n) && decide (stOf (replayAll l (es.take (rd ks i).n.toNat)) = (rd ks i).s))
def keptOk (l : List Ins) (es : List Event) (ks : List Kept) : Bool :=
  (replayAll l es).isSome && (decide (0 < ks.length) && (decide ((rd ks 0).n = 0) && (List.range ks.length).all (keptOne l es ks)))
theorem keptOk_no {l : List Ins} {es : List Event} {ks : List Kept} {i : Nat} (hi : i < ks.length) (h : keptOne l es ks i = false) : keptOk l es ks = false := by
  have : (List.range ks.length).all (keptOne l es ks) = false := by
    rw [List.all_eq_false]
    exact ⟨i, List.mem_range.2 hi, by rw [h]; decide⟩
  simp only [keptOk, this, Bool.and_false]
theorem keptOk_yes {l : List Ins} {es : List Event} {ks : List Kept} (h1 : (replayAll l es).isSome = true) (h2 : 0 < ks.length) (h3 : (rd ks 0).n = 0) (h : ∀ i, i < ks.length → keptOne l es ks i = true) : keptOk l es ks = true := by
  have : (List.range ks.length).all (keptOne l es ks) = true := by
    rw [List.all_eq_true]
    exact fun i hi => h i (List.mem_range.1 hi)
  simp only [keptOk, this, h1, h2, h3, decide_true, Bool.and_self]
/-- Kept states that fit into memory. -/
def KFits (ks : List Kept) : Prop := ks.length ≤ 100000000000 ∧ ∀ j : Nat, j < ks.length → (rd ks j).s.regs.length ≤ 100000000000 ∧ (rd ks j).s.out.length ≤ 100000000000
theorem sameS_of {s t : State} (h : s = t) : sameS s.at_ s.regs s.out s.code t.at_ t.regs t.out t.code = true := decide_eq_true h
theorem sameS_not {s t : State} (h : ¬ s = t) : sameS s.at_ s.regs s.out s.code t.at_ t.regs t.out t.code = false := decide_eq_false h
structure KRnd where
  j : Nat
set_option maxHeartbeats 8000000 in
theorem ok_impl_KeptOk (k : Nat) (l : List Ins) (es : List Event) (ks : List Kept) (hl : l.length ≤ 100000000000) (he : es.length ≤ 100000000000) (hk : KFits ks) :
    callE PR C (k + 10) 21 [hIns 0 l, hEvent 1 es, hKept 2 ks] [tIns l, tEvent es, tKept ks] = some ⟨bl (keptOk l es ks), [], [none, none, none]⟩ := by
  have hk1 := hk.1
  cases hr : (replayAll l es).isSome with
  | false =>
    have hq := fun k => ok_impl_Replay' k l es hl he
    simp only [hr] at hq
    rw [show keptOk l es ks = false by simp only [keptOk, hr, Bool.false_and]]
    (refine callE_is (callE_w [ResultVar.tmp 6] rfl Try.func21 rfl (by decide +kernel) rfl (by simp) ?_); (conv => whnf))
    repeat' ((with_reducible (first | refine sCall.of (hq _) ?_ | refine gP ?_ | refine gN ?_ | refine fG.split (fun _ => ?_) (fun _ => ?_) | refine fG.not ?_ | refine gY ?_ | refine gF ?_ | refine fG.yes (flat_map (fun _ => rfl) _) ?_ | refine fG.bool (fun _ => ?_) (fun _ => ?_) | refine gS64 ?_ | refine gU8 ?_ | refine gI9 ?_ | refine fE.of rfl ?_ | refine gBq ?_ | refine gNum9 ?_ | refine gSet ?_ | refine gRd ?_ | refine gLk ?_ | refine gRow9 ?_ | refine fB.of (wide_map (fun _ => rfl) _) ?_ | refine fB.of (full_map (fun _ => rfl) _) ?_ | refine fB.of (full_map (fun x => full_rKept x) _) ?_ | refine gRf ?_ | refine sDraw.none (id := 7) (ty := tys) rfl (by decide +kernel) ?_)) <;> (try (conv => whnf)))
  | true =>
    have hq := fun k => ok_impl_Replay' k l es hl he
    simp only [hr] at hq
    by_cases g1 : 0 < ks.length
    · by_cases g2 : (rd ks 0).n = 0
      · (refine callE_is (callE_w [ResultVar.tmp 6] rfl Try.func21 rfl (by decide +kernel) rfl (by simp) ?_); (conv => whnf))
        repeat' ((with_reducible (first | refine sCall.of (hq _) ?_ | refine gP ?_ | refine gN ?_ | refine fG.split (fun _ => ?_) (fun _ => ?_) | refine fG.not ?_ | refine gY ?_ | refine gF ?_ | refine fG.yes (flat_map (fun _ => rfl) _) ?_ | refine fG.bool (fun _ => ?_) (fun _ => ?_) | refine gS64 ?_ | refine gU8 ?_ | refine gI9 ?_ | refine fE.of rfl ?_ | refine gBq ?_ | refine gNum9 ?_ | refine gSet ?_ | refine gRd ?_ | refine gLk ?_ | refine gRow9 ?_ | refine fB.of (wide_map (fun _ => rfl) _) ?_ | refine fB.of (full_map (fun _ => rfl) _) ?_ | refine fB.of (full_map (fun x => full_rKept x) _) ?_ | refine gRf ?_ | refine sDraw.none (id := 7) (ty := tys) rfl (by decide +kernel) ?_)) <;> (try (conv => whnf)))
        refine loop_rule (ι := KRnd) (fun x => [(0, hIns 0 l), (1, hEvent 1 es), (2, hKept 2 ks), (33, hKept 2 ks), (34, i64 ks.length), (35, i64 (x.j : Nat))])
          (fun x => [(1000000, ⟨0, 0, false, tIns l⟩), (1000001, ⟨0, 0, false, tEvent es⟩), (1000002, ⟨0, 0, false, tKept ks⟩)])
          (fun x => ks.length - x.j) (fun x => x.j ≤ ks.length ∧ ∀ i, i < x.j → keptOne l es ks i = true) ⟨0⟩ (by (try dsimp only [cond_true, cond_false]); exact ⟨⟨rfl, rfl, rfl, rfl, rfl, rfl, trivial⟩, ⟨rfl, rfl, rfl, trivial⟩⟩) ⟨Nat.zero_le _, by simp⟩ (by simp [C]; omega) ?_
        rintro ⟨j⟩ sl ob ⟨hj, hall⟩
        dsimp only at hj hall
        (try dsimp only [cond_true, cond_false])
        (conv => whnf)
        by_cases hjl : j < ks.length
        · have hx1 := (hk.2 j hjl).1
          have hx2 := (hk.2 j hjl).2
          by_cases g3 : 0 ≤ (rd ks j).n ∧ (rd ks j).n ≤ es.length
          · obtain ⟨g4, g5⟩ := g3
            by_cases g6 : j = 0 ∨ (rd ks (j - 1)).n < (rd ks j).n
            · obtain ⟨y1, y2⟩ := stOf_len l (es.take (rd ks j).n.toNat)
              have hin := fun k => ok_impl_in k (rd ks j).n 0 es.length
              rw [decide_eq_true (⟨g4, g5⟩ : 0 ≤ (rd ks j).n ∧ (rd ks j).n ≤ (es.length : Int))] at hin
              have hq2 := fun k => ok_impl_Replay' k l (es.take (rd ks j).n.toNat) hl (by simp; omega)
              have hs := fun k => ok_impl_sameState k (stOf (replayAll l (es.take (rd ks j).n.toNat))).at_ (stOf (replayAll l (es.take (rd ks j).n.toNat))).regs (stOf (replayAll l (es.take (rd ks j).n.toNat))).out (stOf (replayAll l (es.take (rd ks j).n.toNat))).code (rd ks j).s.at_ (rd ks j).s.regs (rd ks j).s.out (rd ks j).s.code (by omega) (by omega) hx1 hx2
              by_cases e : stOf (replayAll l (es.take (rd ks j).n.toNat)) = (rd ks j).s
              · have hone : keptOne l es ks j = true := by
                  unfold keptOne
                  rw [decide_eq_true (⟨g4, g5⟩ : 0 ≤ (rd ks j).n ∧ (rd ks j).n ≤ (es.length : Int)), decide_eq_true g6, decide_eq_true e]
                  rfl
                simp only [sameS_of e] at hs
                by_cases j0 : j = 0
                · repeat' ((with_reducible (first | refine sCall.of (hin _) ?_ | refine sCall.of (hq2 _) ?_ | refine sCall.of (hs _) ?_ | refine gP ?_ | refine gN ?_ | refine fG.split (fun _ => ?_) (fun _ => ?_) | refine fG.not ?_ | refine gY ?_ | refine gF ?_ | refine fG.yes (flat_map (fun _ => rfl) _) ?_ | refine fG.bool (fun _ => ?_) (fun _ => ?_) | refine gS64 ?_ | refine gU8 ?_ | refine gI9 ?_ | refine fE.of rfl ?_ | refine gBq ?_ | refine gNum9 ?_ | refine gSet ?_ | refine gRd ?_ | refine gLk ?_ | refine gRow9 ?_ | refine fB.of (wide_map (fun _ => rfl) _) ?_ | refine fB.of (full_map (fun _ => rfl) _) ?_ | refine fB.of (full_map (fun x => full_rKept x) _) ?_ | refine gRf ?_ | refine sDraw.none (id := 7) (ty := tys) rfl (by decide +kernel) ?_)) <;> (try (conv => whnf)))
                  refine ⟨⟨⟨j + 1⟩, (by (try dsimp only [cond_true, cond_false]); exact ⟨⟨rfl, rfl, rfl, rfl, rfl, rfl, trivial⟩, ⟨rfl, rfl, rfl, trivial⟩⟩), ?_, ?_⟩⟩
                  · exact ⟨by show j + 1 ≤ _; omega, fun i hi => by rcases Nat.lt_succ_iff_lt_or_eq.1 hi with h | h; exact hall i h; rw [h]; exact hone⟩
                  · show ks.length - (j + 1) < ks.length - j; omega
                · have g7 : (rd ks ((j : Int) - 1).toNat).n < (rd ks j).n := by
                    rw [show ((j : Int) - 1).toNat = j - 1 by omega]
                    rcases g6 with h | h
                    · exact absurd h j0
                    · exact h
                  repeat' ((with_reducible (first | refine sCall.of (hin _) ?_ | refine sCall.of (hq2 _) ?_ | refine sCall.of (hs _) ?_ | refine gP ?_ | refine gN ?_ | refine fG.split (fun _ => ?_) (fun _ => ?_) | refine fG.not ?_ | refine gY ?_ | refine gF ?_ | refine fG.yes (flat_map (fun _ => rfl) _) ?_ | refine fG.bool (fun _ => ?_) (fun _ => ?_) | refine gS64 ?_ | refine gU8 ?_ | refine gI9 ?_ | refine fE.of rfl ?_ | refine gBq ?_ | refine gNum9 ?_ | refine gSet ?_ | refine gRd ?_ | refine gLk ?_ | refine gRow9 ?_ | refine fB.of (wide_map (fun _ => rfl) _) ?_ | refine fB.of (full_map (fun _ => rfl) _) ?_ | refine fB.of (full_map (fun x => full_rKept x) _) ?_ | refine gRf ?_ | refine sDraw.none (id := 7) (ty := tys) rfl (by decide +kernel) ?_)) <;> (try (conv => whnf)))
                  refine ⟨⟨⟨j + 1⟩, (by (try dsimp only [cond_true, cond_false]); exact ⟨⟨rfl, rfl, rfl, rfl, rfl, rfl, trivial⟩, ⟨rfl, rfl, rfl, trivial⟩⟩), ?_, ?_⟩⟩
                  · exact ⟨by show j + 1 ≤ _; omega, fun i hi => by rcases Nat.lt_succ_iff_lt_or_eq.1 hi with h | h; exact hall i h; rw [h]; exact hone⟩
                  · show ks.length - (j + 1) < ks.length - j; omega
              · rw [keptOk_no hjl (by unfold keptOne; rw [decide_eq_false e, Bool.and_false, Bool.and_false])]
                simp only [sameS_not e] at hs
                by_cases j0 : j = 0
                · repeat' ((with_reducible (first | refine sCall.of (hin _) ?_ | refine sCall.of (hq2 _) ?_ | refine sCall.of (hs _) ?_ | refine gP ?_ | refine gN ?_ | refine fG.split (fun _ => ?_) (fun _ => ?_) | refine fG.not ?_ | refine gY ?_ | refine gF ?_ | refine fG.yes (flat_map (fun _ => rfl) _) ?_ | refine fG.bool (fun _ => ?_) (fun _ => ?_) | refine gS64 ?_ | refine gU8 ?_ | refine gI9 ?_ | refine fE.of rfl ?_ | refine gBq ?_ | refine gNum9 ?_ | refine gSet ?_ | refine gRd ?_ | refine gLk ?_ | refine gRow9 ?_ | refine fB.of (wide_map (fun _ => rfl) _) ?_ | refine fB.of (full_map (fun _ => rfl) _) ?_ | refine fB.of (full_map (fun x => full_rKept x) _) ?_ | refine gRf ?_ | refine sDraw.none (id := 7) (ty := tys) rfl (by decide +kernel) ?_)) <;> (try (conv => whnf)))
                · have g7 : (rd ks ((j : Int) - 1).toNat).n < (rd ks j).n := by
                    rw [show ((j : Int) - 1).toNat = j - 1 by omega]
                    rcases g6 with h | h
                    · exact absurd h j0
                    · exact h
                  repeat' ((with_reducible (first | refine sCall.of (hin _) ?_ | refine sCall.of (hq2 _) ?_ | refine sCall.of (hs _) ?_ | refine gP ?_ | refine gN ?_ | refine fG.split (fun _ => ?_) (fun _ => ?_) | refine fG.not ?_ | refine gY ?_ | refine gF ?_ | refine fG.yes (flat_map (fun _ => rfl) _) ?_ | refine fG.bool (fun _ => ?_) (fun _ => ?_) | refine gS64 ?_ | refine gU8 ?_ | refine gI9 ?_ | refine fE.of rfl ?_ | refine gBq ?_ | refine gNum9 ?_ | refine gSet ?_ | refine gRd ?_ | refine gLk ?_ | refine gRow9 ?_ | refine fB.of (wide_map (fun _ => rfl) _) ?_ | refine fB.of (full_map (fun _ => rfl) _) ?_ | refine fB.of (full_map (fun x => full_rKept x) _) ?_ | refine gRf ?_ | refine sDraw.none (id := 7) (ty := tys) rfl (by decide +kernel) ?_)) <;> (try (conv => whnf)))
            · rw [keptOk_no hjl (by unfold keptOne; rw [decide_eq_false g6, Bool.false_and, Bool.and_false])]
              have hin := fun k => ok_impl_in k (rd ks j).n 0 es.length
              rw [decide_eq_true (⟨g4, g5⟩ : 0 ≤ (rd ks j).n ∧ (rd ks j).n ≤ (es.length : Int))] at hin
              have j0 : ¬ j = 0 := fun h => g6 (.inl h)
              have g7 : (rd ks j).n ≤ (rd ks ((j : Int) - 1).toNat).n := by
                rw [show ((j : Int) - 1).toNat = j - 1 by omega]
                have := fun h => g6 (.inr h)
                omega
              repeat' ((with_reducible (first | refine sCall.of (hin _) ?_ | refine gP ?_ | refine gN ?_ | refine fG.split (fun _ => ?_) (fun _ => ?_) | refine fG.not ?_ | refine gY ?_ | refine gF ?_ | refine fG.yes (flat_map (fun _ => rfl) _) ?_ | refine fG.bool (fun _ => ?_) (fun _ => ?_) | refine gS64 ?_ | refine gU8 ?_ | refine gI9 ?_ | refine fE.of rfl ?_ | refine gBq ?_ | refine gNum9 ?_ | refine gSet ?_ | refine gRd ?_ | refine gLk ?_ | refine gRow9 ?_ | refine fB.of (wide_map (fun _ => rfl) _) ?_ | refine fB.of (full_map (fun _ => rfl) _) ?_ | refine fB.of (full_map (fun x => full_rKept x) _) ?_ | refine gRf ?_ | refine sDraw.none (id := 7) (ty := tys) rfl (by decide +kernel) ?_)) <;> (try (conv => whnf)))
          · rw [keptOk_no hjl (by unfold keptOne; rw [decide_eq_false g3, Bool.false_and])]
            have hin := fun k => ok_impl_in k (rd ks j).n 0 es.length
            rw [decide_eq_false g3] at hin
            repeat' ((with_reducible (first | refine sCall.of (hin _) ?_ | refine gP ?_ | refine gN ?_ | refine fG.split (fun _ => ?_) (fun _ => ?_) | refine fG.not ?_ | refine gY ?_ | refine gF ?_ | refine fG.yes (flat_map (fun _ => rfl) _) ?_ | refine fG.bool (fun _ => ?_) (fun _ => ?_) | refine gS64 ?_ | refine gU8 ?_ | refine gI9 ?_ | refine fE.of rfl ?_ | refine gBq ?_ | refine gNum9 ?_ | refine gSet ?_ | refine gRd ?_ | refine gLk ?_ | refine gRow9 ?_ | refine fB.of (wide_map (fun _ => rfl) _) ?_ | refine fB.of (full_map (fun _ => rfl) _) ?_ | refine fB.of (full_map (fun x => full_rKept x) _) ?_ | refine gRf ?_ | refine sDraw.none (id := 7) (ty := tys) rfl (by decide +kernel) ?_)) <;> (try (conv => whnf)))
        · have hjj : j = ks.length := by omega
          rw [keptOk_yes hr g1 g2 (by rw [← hjj]; exact hall)]
          repeat' ((with_reducible (first | refine gP ?_ | refine gN ?_ | refine fG.split (fun _ => ?_) (fun _ => ?_) | refine fG.not ?_ | refine gY ?_ | refine gF ?_ | refine fG.yes (flat_map (fun _ => rfl) _) ?_ | refine fG.bool (fun _ => ?_) (fun _ => ?_) | refine gS64 ?_ | refine gU8 ?_ | refine gI9 ?_ | refine fE.of rfl ?_ | refine gBq ?_ | refine gNum9 ?_ | refine gSet ?_ | refine gRd ?_ | refine gLk ?_ | refine gRow9 ?_ | refine fB.of (wide_map (fun _ => rfl) _) ?_ | refine fB.of (full_map (fun _ => rfl) _) ?_ | refine fB.of (full_map (fun x => full_rKept x) _) ?_ | refine gRf ?_ | refine sDraw.none (id := 7) (ty := tys) rfl (by decide +kernel) ?_)) <;> (try (conv => whnf)))
      · rw [show keptOk l es ks = false by simp only [keptOk, decide_eq_false g2, Bool.false_and, Bool.and_false]]
        (refine callE_is (callE_w [ResultVar.tmp 6] rfl Try.func21 rfl (by decide +kernel) rfl (by simp) ?_); (conv => whnf))
        repeat' ((with_reducible (first | refine sCall.of (hq _) ?_ | refine gP ?_ | refine gN ?_ | refine fG.split (fun _ => ?_) (fun _ => ?_) | refine fG.not ?_ | refine gY ?_ | refine gF ?_ | refine fG.yes (flat_map (fun _ => rfl) _) ?_ | refine fG.bool (fun _ => ?_) (fun _ => ?_) | refine gS64 ?_ | refine gU8 ?_ | refine gI9 ?_ | refine fE.of rfl ?_ | refine gBq ?_ | refine gNum9 ?_ | refine gSet ?_ | refine gRd ?_ | refine gLk ?_ | refine gRow9 ?_ | refine fB.of (wide_map (fun _ => rfl) _) ?_ | refine fB.of (full_map (fun _ => rfl) _) ?_ | refine fB.of (full_map (fun x => full_rKept x) _) ?_ | refine gRf ?_ | refine sDraw.none (id := 7) (ty := tys) rfl (by decide +kernel) ?_)) <;> (try (conv => whnf)))
    · rw [show keptOk l es ks = false by simp only [keptOk, decide_eq_false g1, Bool.false_and, Bool.and_false]]
      (refine callE_is (callE_w [ResultVar.tmp 6] rfl Try.func21 rfl (by decide +kernel) rfl (by simp) ?_); (conv => whnf))
      repeat' ((with_reducible (first | refine sCall.of (hq _) ?_ | refine gP ?_ | refine gN ?_ | refine fG.split (fun _ => ?_) (fun _ => ?_) | refine fG.not ?_ | refine gY ?_ | refine gF ?_ | refine fG.yes (flat_map (fun _ => rfl) _) ?_ | refine fG.bool (fun _ => ?_) (fun _ => ?_) | refine gS64 ?_ | refine gU8 ?_ | refine gI9 ?_ | refine fE.of rfl ?_ | refine gBq ?_ | refine gNum9 ?_ | refine gSet ?_ | refine gRd ?_ | refine gLk ?_ | refine gRow9 ?_ | refine fB.of (wide_map (fun _ => rfl) _) ?_ | refine fB.of (full_map (fun _ => rfl) _) ?_ | refine fB.of (full_map (fun x => full_rKept x) _) ?_ | refine gRf ?_ | refine sDraw.none (id := 7) (ty := tys) rfl (by decide +kernel) ?_)) <;> (try (conv => whnf)))

set_option maxHeartbeats 8000000 in
theorem ok_spec_KeptOk (k : Nat) (l : List Ins) (es : List Event) (ks : List Kept) (hl : l.length ≤ 100000000000) (he : es.length ≤ 100000000000) (hk : KFits ks) :
    callE PR C (k + 7) 28 [hIns 0 l, hEvent 1 es, hKept 2 ks] [tIns l, tEvent es, tKept ks] = some ⟨bl (keptOk l es ks), [], [none, none, none]⟩ := by
  have hk1 := hk.1
  cases hr : (replayAll l es).isSome with
  | false =>
    have hq := fun k => ok_spec_Replay' k l es hl he
    simp only [hr] at hq
    rw [show keptOk l es ks = false by simp only [keptOk, hr, Bool.false_and]]
    (refine callE_is (callE_w [ResultVar.tmp 6] rfl Try.func28 rfl (by decide +kernel) rfl (by simp) ?_); (conv => whnf))
    repeat' ((with_reducible (first | refine sCall.of (hq _) ?_ | refine gP ?_ | refine gN ?_ | refine fG.split (fun _ => ?_) (fun _ => ?_) | refine fG.not ?_ | refine gY ?_ | refine gF ?_ | refine fG.yes (flat_map (fun _ => rfl) _) ?_ | refine fG.bool (fun _ => ?_) (fun _ => ?_) | refine gS64 ?_ | refine gU8 ?_ | refine gI9 ?_ | refine fE.of rfl ?_ | refine gBq ?_ | refine gNum9 ?_ | refine gSet ?_ | refine gRd ?_ | refine gLk ?_ | refine gRow9 ?_ | refine fB.of (wide_map (fun _ => rfl) _) ?_ | refine fB.of (full_map (fun _ => rfl) _) ?_ | refine fB.of (full_map (fun x => full_rKept x) _) ?_ | refine gRf ?_ | refine sDraw.none (id := 7) (ty := tys) rfl (by decide +kernel) ?_ | refine sDraw.none (id := 10) (ty := tys) rfl (by decide +kernel) ?_)) <;> (try (conv => whnf)))
  | true =>
    have hq := fun k => ok_spec_Replay' k l es hl he
    simp only [hr] at hq
    by_cases g1 : 0 < ks.length
    · by_cases g2 : (rd ks 0).n = 0
      · (refine callE_is (callE_w [ResultVar.tmp 6] rfl Try.func28 rfl (by decide +kernel) rfl (by simp) ?_); (conv => whnf))
        repeat' ((with_reducible (first | refine sCall.of (hq _) ?_ | refine gP ?_ | refine gN ?_ | refine fG.split (fun _ => ?_) (fun _ => ?_) | refine fG.not ?_ | refine gY ?_ | refine gF ?_ | refine fG.yes (flat_map (fun _ => rfl) _) ?_ | refine fG.bool (fun _ => ?_) (fun _ => ?_) | refine gS64 ?_ | refine gU8 ?_ | refine gI9 ?_ | refine fE.of rfl ?_ | refine gBq ?_ | refine gNum9 ?_ | refine gSet ?_ | refine gRd ?_ | refine gLk ?_ | refine gRow9 ?_ | refine fB.of (wide_map (fun _ => rfl) _) ?_ | refine fB.of (full_map (fun _ => rfl) _) ?_ | refine fB.of (full_map (fun x => full_rKept x) _) ?_ | refine gRf ?_ | refine sDraw.none (id := 7) (ty := tys) rfl (by decide +kernel) ?_ | refine sDraw.none (id := 10) (ty := tys) rfl (by decide +kernel) ?_)) <;> (try (conv => whnf)))
        refine loop_rule (ι := KRnd) (fun x => [(0, hIns 0 l), (1, hEvent 1 es), (2, hKept 2 ks), (9, i64 (x.j : Nat))])
          (fun x => [(1000000, ⟨0, 0, false, tIns l⟩), (1000001, ⟨0, 0, false, tEvent es⟩), (1000002, ⟨0, 0, false, tKept ks⟩)])
          (fun x => ks.length - x.j) (fun x => x.j ≤ ks.length ∧ ∀ i, i < x.j → keptOne l es ks i = true) ⟨0⟩ (by (try dsimp only [cond_true, cond_false]); exact ⟨⟨rfl, rfl, rfl, rfl, trivial⟩, ⟨rfl, rfl, rfl, trivial⟩⟩) ⟨Nat.zero_le _, by simp⟩ (by simp [C]; omega) ?_
        rintro ⟨j⟩ sl ob ⟨hj, hall⟩
        dsimp only at hj hall
        (try dsimp only [cond_true, cond_false])
        (conv => whnf)
        by_cases hjl : j < ks.length
        · have hx1 := (hk.2 j hjl).1
          have hx2 := (hk.2 j hjl).2
          by_cases g3 : 0 ≤ (rd ks j).n ∧ (rd ks j).n ≤ es.length
          · obtain ⟨g4, g5⟩ := g3
            by_cases g6 : j = 0 ∨ (rd ks (j - 1)).n < (rd ks j).n
            · obtain ⟨y1, y2⟩ := stOf_len l (es.take (rd ks j).n.toNat)
              have hin := fun k => ok_spec_l1In k (rd ks j).n 0 es.length
              rw [decide_eq_true (⟨g4, g5⟩ : 0 ≤ (rd ks j).n ∧ (rd ks j).n ≤ (es.length : Int))] at hin
              have hq2 := fun k => ok_spec_Replay' k l (es.take (rd ks j).n.toNat) hl (by simp; omega)
              have hs := fun k => ok_spec_l4SameState k (stOf (replayAll l (es.take (rd ks j).n.toNat))).at_ (stOf (replayAll l (es.take (rd ks j).n.toNat))).regs (stOf (replayAll l (es.take (rd ks j).n.toNat))).out (stOf (replayAll l (es.take (rd ks j).n.toNat))).code (rd ks j).s.at_ (rd ks j).s.regs (rd ks j).s.out (rd ks j).s.code (by omega) (by omega) hx1 hx2
              by_cases e : stOf (replayAll l (es.take (rd ks j).n.toNat)) = (rd ks j).s
              · have hone : keptOne l es ks j = true := by
                  unfold keptOne
                  rw [decide_eq_true (⟨g4, g5⟩ : 0 ≤ (rd ks j).n ∧ (rd ks j).n ≤ (es.length : Int)), decide_eq_true g6, decide_eq_true e]
                  rfl
                simp only [sameS_of e] at hs
                by_cases j0 : j = 0
                · repeat' ((with_reducible (first | refine sCall.of (hin _) ?_ | refine sCall.of (hq2 _) ?_ | refine sCall.of (hs _) ?_ | refine gP ?_ | refine gN ?_ | refine fG.split (fun _ => ?_) (fun _ => ?_) | refine fG.not ?_ | refine gY ?_ | refine gF ?_ | refine fG.yes (flat_map (fun _ => rfl) _) ?_ | refine fG.bool (fun _ => ?_) (fun _ => ?_) | refine gS64 ?_ | refine gU8 ?_ | refine gI9 ?_ | refine fE.of rfl ?_ | refine gBq ?_ | refine gNum9 ?_ | refine gSet ?_ | refine gRd ?_ | refine gLk ?_ | refine gRow9 ?_ | refine fB.of (wide_map (fun _ => rfl) _) ?_ | refine fB.of (full_map (fun _ => rfl) _) ?_ | refine fB.of (full_map (fun x => full_rKept x) _) ?_ | refine gRf ?_ | refine sDraw.none (id := 7) (ty := tys) rfl (by decide +kernel) ?_ | refine sDraw.none (id := 10) (ty := tys) rfl (by decide +kernel) ?_)) <;> (try (conv => whnf)))
                  refine ⟨⟨⟨j + 1⟩, (by (try dsimp only [cond_true, cond_false]); exact ⟨⟨rfl, rfl, rfl, rfl, trivial⟩, ⟨rfl, rfl, rfl, trivial⟩⟩), ?_, ?_⟩⟩
                  · exact ⟨by show j + 1 ≤ _; omega, fun i hi => by rcases Nat.lt_succ_iff_lt_or_eq.1 hi with h | h; exact hall i h; rw [h]; exact hone⟩
                  · show ks.length - (j + 1) < ks.length - j; omega
                · have g7 : (rd ks ((j : Int) - 1).toNat).n < (rd ks j).n := by
                    rw [show ((j : Int) - 1).toNat = j - 1 by omega]
                    rcases g6 with h | h
                    · exact absurd h j0
                    · exact h
                  repeat' ((with_reducible (first | refine sCall.of (hin _) ?_ | refine sCall.of (hq2 _) ?_ | refine sCall.of (hs _) ?_ | refine gP ?_ | refine gN ?_ | refine fG.split (fun _ => ?_) (fun _ => ?_) | refine fG.not ?_ | refine gY ?_ | refine gF ?_ | refine fG.yes (flat_map (fun _ => rfl) _) ?_ | refine fG.bool (fun _ => ?_) (fun _ => ?_) | refine gS64 ?_ | refine gU8 ?_ | refine gI9 ?_ | refine fE.of rfl ?_ | refine gBq ?_ | refine gNum9 ?_ | refine gSet ?_ | refine gRd ?_ | refine gLk ?_ | refine gRow9 ?_ | refine fB.of (wide_map (fun _ => rfl) _) ?_ | refine fB.of (full_map (fun _ => rfl) _) ?_ | refine fB.of (full_map (fun x => full_rKept x) _) ?_ | refine gRf ?_ | refine sDraw.none (id := 7) (ty := tys) rfl (by decide +kernel) ?_ | refine sDraw.none (id := 10) (ty := tys) rfl (by decide +kernel) ?_)) <;> (try (conv => whnf)))
                  refine ⟨⟨⟨j + 1⟩, (by (try dsimp only [cond_true, cond_false]); exact ⟨⟨rfl, rfl, rfl, rfl, trivial⟩, ⟨rfl, rfl, rfl, trivial⟩⟩), ?_, ?_⟩⟩
                  · exact ⟨by show j + 1 ≤ _; omega, fun i hi => by rcases Nat.lt_succ_iff_lt_or_eq.1 hi with h | h; exact hall i h; rw [h]; exact hone⟩
                  · show ks.length - (j + 1) < ks.length - j; omega
              · rw [keptOk_no hjl (by unfold keptOne; rw [decide_eq_false e, Bool.and_false, Bool.and_false])]
                simp only [sameS_not e] at hs
                by_cases j0 : j = 0
                · repeat' ((with_reducible (first | refine sCall.of (hin _) ?_ | refine sCall.of (hq2 _) ?_ | refine sCall.of (hs _) ?_ | refine gP ?_ | refine gN ?_ | refine fG.split (fun _ => ?_) (fun _ => ?_) | refine fG.not ?_ | refine gY ?_ | refine gF ?_ | refine fG.yes (flat_map (fun _ => rfl) _) ?_ | refine fG.bool (fun _ => ?_) (fun _ => ?_) | refine gS64 ?_ | refine gU8 ?_ | refine gI9 ?_ | refine fE.of rfl ?_ | refine gBq ?_ | refine gNum9 ?_ | refine gSet ?_ | refine gRd ?_ | refine gLk ?_ | refine gRow9 ?_ | refine fB.of (wide_map (fun _ => rfl) _) ?_ | refine fB.of (full_map (fun _ => rfl) _) ?_ | refine fB.of (full_map (fun x => full_rKept x) _) ?_ | refine gRf ?_ | refine sDraw.none (id := 7) (ty := tys) rfl (by decide +kernel) ?_ | refine sDraw.none (id := 10) (ty := tys) rfl (by decide +kernel) ?_)) <;> (try (conv => whnf)))
                · have g7 : (rd ks ((j : Int) - 1).toNat).n < (rd ks j).n := by
                    rw [show ((j : Int) - 1).toNat = j - 1 by omega]
                    rcases g6 with h | h
                    · exact absurd h j0
                    · exact h
                  repeat' ((with_reducible (first | refine sCall.of (hin _) ?_ | refine sCall.of (hq2 _) ?_ | refine sCall.of (hs _) ?_ | refine gP ?_ | refine gN ?_ | refine fG.split (fun _ => ?_) (fun _ => ?_) | refine fG.not ?_ | refine gY ?_ | refine gF ?_ | refine fG.yes (flat_map (fun _ => rfl) _) ?_ | refine fG.bool (fun _ => ?_) (fun _ => ?_) | refine gS64 ?_ | refine gU8 ?_ | refine gI9 ?_ | refine fE.of rfl ?_ | refine gBq ?_ | refine gNum9 ?_ | refine gSet ?_ | refine gRd ?_ | refine gLk ?_ | refine gRow9 ?_ | refine fB.of (wide_map (fun _ => rfl) _) ?_ | refine fB.of (full_map (fun _ => rfl) _) ?_ | refine fB.of (full_map (fun x => full_rKept x) _) ?_ | refine gRf ?_ | refine sDraw.none (id := 7) (ty := tys) rfl (by decide +kernel) ?_ | refine sDraw.none (id := 10) (ty := tys) rfl (by decide +kernel) ?_)) <;> (try (conv => whnf)))
            · rw [keptOk_no hjl (by unfold keptOne; rw [decide_eq_false g6, Bool.false_and, Bool.and_false])]
              have hin := fun k => ok_spec_l1In k (rd ks j).n 0 es.length
              rw [decide_eq_true (⟨g4, g5⟩ : 0 ≤ (rd ks j).n ∧ (rd ks j).n ≤ (es.length : Int))] at hin
              have j0 : ¬ j = 0 := fun h => g6 (.inl h)
              have g7 : (rd ks j).n ≤ (rd ks ((j : Int) - 1).toNat).n := by
                rw [show ((j : Int) - 1).toNat = j - 1 by omega]
                have := fun h => g6 (.inr h)
                omega
              repeat' ((with_reducible (first | refine sCall.of (hin _) ?_ | refine gP ?_ | refine gN ?_ | refine fG.split (fun _ => ?_) (fun _ => ?_) | refine fG.not ?_ | refine gY ?_ | refine gF ?_ | refine fG.yes (flat_map (fun _ => rfl) _) ?_ | refine fG.bool (fun _ => ?_) (fun _ => ?_) | refine gS64 ?_ | refine gU8 ?_ | refine gI9 ?_ | refine fE.of rfl ?_ | refine gBq ?_ | refine gNum9 ?_ | refine gSet ?_ | refine gRd ?_ | refine gLk ?_ | refine gRow9 ?_ | refine fB.of (wide_map (fun _ => rfl) _) ?_ | refine fB.of (full_map (fun _ => rfl) _) ?_ | refine fB.of (full_map (fun x => full_rKept x) _) ?_ | refine gRf ?_ | refine sDraw.none (id := 7) (ty := tys) rfl (by decide +kernel) ?_ | refine sDraw.none (id := 10) (ty := tys) rfl (by decide +kernel) ?_)) <;> (try (conv => whnf)))
          · rw [keptOk_no hjl (by unfold keptOne; rw [decide_eq_false g3, Bool.false_and])]
            have hin := fun k => ok_spec_l1In k (rd ks j).n 0 es.length
            rw [decide_eq_false g3] at hin
            repeat' ((with_reducible (first | refine sCall.of (hin _) ?_ | refine gP ?_ | refine gN ?_ | refine fG.split (fun _ => ?_) (fun _ => ?_) | refine fG.not ?_ | refine gY ?_ | refine gF ?_ | refine fG.yes (flat_map (fun _ => rfl) _) ?_ | refine fG.bool (fun _ => ?_) (fun _ => ?_) | refine gS64 ?_ | refine gU8 ?_ | refine gI9 ?_ | refine fE.of rfl ?_ | refine gBq ?_ | refine gNum9 ?_ | refine gSet ?_ | refine gRd ?_ | refine gLk ?_ | refine gRow9 ?_ | refine fB.of (wide_map (fun _ => rfl) _) ?_ | refine fB.of (full_map (fun _ => rfl) _) ?_ | refine fB.of (full_map (fun x => full_rKept x) _) ?_ | refine gRf ?_ | refine sDraw.none (id := 7) (ty := tys) rfl (by decide +kernel) ?_ | refine sDraw.none (id := 10) (ty := tys) rfl (by decide +kernel) ?_)) <;> (try (conv => whnf)))
        · have hjj : j = ks.length := by omega
          rw [keptOk_yes hr g1 g2 (by rw [← hjj]; exact hall)]
          repeat' ((with_reducible (first | refine gP ?_ | refine gN ?_ | refine fG.split (fun _ => ?_) (fun _ => ?_) | refine fG.not ?_ | refine gY ?_ | refine gF ?_ | refine fG.yes (flat_map (fun _ => rfl) _) ?_ | refine fG.bool (fun _ => ?_) (fun _ => ?_) | refine gS64 ?_ | refine gU8 ?_ | refine gI9 ?_ | refine fE.of rfl ?_ | refine gBq ?_ | refine gNum9 ?_ | refine gSet ?_ | refine gRd ?_ | refine gLk ?_ | refine gRow9 ?_ | refine fB.of (wide_map (fun _ => rfl) _) ?_ | refine fB.of (full_map (fun _ => rfl) _) ?_ | refine fB.of (full_map (fun x => full_rKept x) _) ?_ | refine gRf ?_ | refine sDraw.none (id := 7) (ty := tys) rfl (by decide +kernel) ?_ | refine sDraw.none (id := 10) (ty := tys) rfl (by decide +kernel) ?_)) <;> (try (conv => whnf)))
      · rw [show keptOk l es ks = false by simp only [keptOk, decide_eq_false g2, Bool.false_and, Bool.and_false]]
        (refine callE_is (callE_w [ResultVar.tmp 6] rfl Try.func28 rfl (by decide +kernel) rfl (by simp) ?_); (conv => whnf))
        repeat' ((with_reducible (first | refine sCall.of (hq _) ?_ | refine gP ?_ | refine gN ?_ | refine fG.split (fun _ => ?_) (fun _ => ?_) | refine fG.not ?_ | refine gY ?_ | refine gF ?_ | refine fG.yes (flat_map (fun _ => rfl) _) ?_ | refine fG.bool (fun _ => ?_) (fun _ => ?_) | refine gS64 ?_ | refine gU8 ?_ | refine gI9 ?_ | refine fE.of rfl ?_ | refine gBq ?_ | refine gNum9 ?_ | refine gSet ?_ | refine gRd ?_ | refine gLk ?_ | refine gRow9 ?_ | refine fB.of (wide_map (fun _ => rfl) _) ?_ | refine fB.of (full_map (fun _ => rfl) _) ?_ | refine fB.of (full_map (fun x => full_rKept x) _) ?_ | refine gRf ?_ | refine sDraw.none (id := 7) (ty := tys) rfl (by decide +kernel) ?_ | refine sDraw.none (id := 10) (ty := tys) rfl (by decide +kernel) ?_)) <;> (try (conv => whnf)))
    · rw [show keptOk l es ks = false by simp only [keptOk, decide_eq_false g1, Bool.false_and, Bool.and_false]]
      (refine callE_is (callE_w [ResultVar.tmp 6] rfl Try.func28 rfl (by decide +kernel) rfl (by simp) ?_); (conv => whnf))
      repeat' ((with_reducible (first | refine sCall.of (hq _) ?_ | refine gP ?_ | refine gN ?_ | refine fG.split (fun _ => ?_) (fun _ => ?_) | refine fG.not ?_ | refine gY ?_ | refine gF ?_ | refine fG.yes (flat_map (fun _ => rfl) _) ?_ | refine fG.bool (fun _ => ?_) (fun _ => ?_) | refine gS64 ?_ | refine gU8 ?_ | refine gI9 ?_ | refine fE.of rfl ?_ | refine gBq ?_ | refine gNum9 ?_ | refine gSet ?_ | refine gRd ?_ | refine gLk ?_ | refine gRow9 ?_ | refine fB.of (wide_map (fun _ => rfl) _) ?_ | refine fB.of (full_map (fun _ => rfl) _) ?_ | refine fB.of (full_map (fun x => full_rKept x) _) ?_ | refine gRf ?_ | refine sDraw.none (id := 7) (ty := tys) rfl (by decide +kernel) ?_ | refine sDraw.none (id := 10) (ty := tys) rfl (by decide +kernel) ?_)) <;> (try (conv => whnf)))

end Go.Proofs.Ytfeenmfehgljgaa.Abs
namespace Go.Proofs.Ytfeenmfehgljgaa.Abs
open Go Go.Proofs
set_option linter.unusedVariables false
set_option linter.unusedSimpArgs false
attribute [local irreducible] callE
/-! ### Restored states -/
theorem replay_append (l : List Ins) (a b : List Event) : ∀ s, replay l s (a ++ b) = (replay l s a).bind fun s' => replay l s' b := by
  induction a with
  | nil => intro s; rfl
  | cons e a ih =>
    intro s
    simp only [List.cons_append, replay]
    split
    · exact ih _
    · rfl
theorem replayAll_some {l : List Ins} {es : List Event} (h : (replayAll l es).isSome = true) : progOk l 4 = true ∧ es.length ≤ 200 := by
  unfold replayAll at h
  split at h
  · assumption
  · cases h
/-- What is behind the first events of a replay that stands. -/
theorem replay_take {l : List Ins} {es : List Event} (h : (replayAll l es).isSome = true) (n : Nat) : replay l newState (es.take n) = some (stOf (replayAll l (es.take n))) ∧ SOk l.length (stOf (replayAll l (es.take n))) := by
  obtain ⟨h1, h2⟩ := replayAll_some h
  have e1 : replayAll l es = replay l newState es := by unfold replayAll; rw [if_pos ⟨h1, h2⟩]
  have e2 : replayAll l (es.take n) = replay l newState (es.take n) := by unfold replayAll; rw [if_pos ⟨h1, by simp; omega⟩]
  rw [e1] at h
  have e3 : replay l newState es = (replay l newState (es.take n)).bind fun s' => replay l s' (es.drop n) := by rw [← replay_append, List.take_append_drop]
  cases hr : replay l newState (es.take n) with
  | none => rw [e3, hr] at h; cases h
  | some s =>
    rw [e2, hr]
    exact ⟨rfl, replay_ok (fun i hi => progOk_iok h1 hi) _ (newState_ok (progOk_len h1).1) hr⟩
/-- From the state behind a events to that behind n. -/
theorem replay_from {l : List Ins} {es : List Event} (h : (replayAll l es).isSome = true) {a n : Nat} (han : a ≤ n) : replay l (stOf (replayAll l (es.take a))) ((es.take n).drop a) = some (stOf (replayAll l (es.take n))) := by
  have h1 := (replay_take h a).1
  have h2 := (replay_take h n).1
  have e : es.take n = es.take a ++ (es.take n).drop a := by
    conv => lhs; rw [← List.take_append_drop a (es.take n)]
    rw [List.take_take, Nat.min_eq_left han]
  have h3 : replay l newState (es.take a ++ (es.take n).drop a) = some (stOf (replayAll l (es.take n))) := by rw [← e]; exact h2
  rw [replay_append, h1] at h3
  exact h3
theorem keptOk_facts {l : List Ins} {es : List Event} {ks : List Kept} (h : keptOk l es ks = true) : (replayAll l es).isSome = true ∧ 0 < ks.length ∧ (rd ks 0).n = 0 ∧ ∀ i, i < ks.length → keptOne l es ks i = true := by
  simp only [keptOk, Bool.and_eq_true, decide_eq_true_eq, List.all_eq_true, List.mem_range] at h
  exact ⟨h.1, h.2.1, h.2.2.1, h.2.2.2⟩
theorem keptOne_facts {l : List Ins} {es : List Event} {ks : List Kept} {i : Nat} (h : keptOne l es ks i = true) : 0 ≤ (rd ks i).n ∧ (rd ks i).n ≤ es.length ∧ stOf (replayAll l (es.take (rd ks i).n.toNat)) = (rd ks i).s := by
  simp only [keptOne, Bool.and_eq_true, decide_eq_true_eq] at h
  exact ⟨h.1.1, h.1.2, h.2.2⟩
/-- Which of the first kept states is the last that is no later than n. -/
def lastAt (ks : List Kept) (n : Int) : Nat → Nat
  | 0 => 0
  | j + 1 => if (rd ks j).n ≤ n then j else lastAt ks n j
theorem lastAt_lt (ks : List Kept) (n : Int) (h : 0 < ks.length) : ∀ j, j ≤ ks.length → lastAt ks n j < ks.length := by
  intro j
  induction j with
  | zero => intro _; exact h
  | succ j ih =>
    intro hj
    simp only [lastAt]
    split
    · omega
    · exact ih (by omega)
theorem lastAt_le (ks : List Kept) (n : Int) (h : (rd ks 0).n = 0) (hn : 0 ≤ n) : ∀ j, (rd ks (lastAt ks n j)).n ≤ n := by
  intro j
  induction j with
  | zero => simp only [lastAt]; omega
  | succ j ih =>
    simp only [lastAt]
    split
    · assumption
    · exact ih
/-- The kept state that is begun from. -/
def lastK (ks : List Kept) (n : Int) : Kept := rd ks (lastAt ks n ks.length)
/-- What is restored: a state, and how much is done again. -/
def restoreSt (l : List Ins) (es : List Event) (ks : List Kept) (n : Int) : State := if keptOk l es ks = true ∧ 0 ≤ n ∧ n ≤ es.length then stOf (replayAll l (es.take n.toNat)) else default
def restoreN (l : List Ins) (es : List Event) (ks : List Kept) (n : Int) : Int := if keptOk l es ks = true ∧ 0 ≤ n ∧ n ≤ es.length then n - (lastK ks n).n else -1

theorem restore_no {l : List Ins} {es : List Event} {ks : List Kept} {n : Int} (h : ¬ (keptOk l es ks = true ∧ 0 ≤ n ∧ n ≤ es.length)) : restoreSt l es ks n = default ∧ restoreN l es ks n = -1 := by
  unfold restoreSt restoreN
  rw [if_neg h, if_neg h]; exact ⟨rfl, rfl⟩
theorem restore_yes {l : List Ins} {es : List Event} {ks : List Kept} {n : Int} (h1 : keptOk l es ks = true) (h2 : 0 ≤ n) (h3 : n ≤ es.length) : restoreSt l es ks n = stOf (replayAll l (es.take n.toNat)) ∧ restoreN l es ks n = n - (lastK ks n).n := by
  unfold restoreSt restoreN
  rw [if_pos ⟨h1, h2, h3⟩, if_pos ⟨h1, h2, h3⟩]; exact ⟨rfl, rfl⟩
structure RS where
  j : Nat
  i : Nat
set_option maxHeartbeats 8000000 in
theorem ok_impl_Restore (k : Nat) (l : List Ins) (es : List Event) (ks : List Kept) (n : Int) (hl : l.length ≤ 100000000000) (he : es.length ≤ 100000000000) (hk : KFits ks) :
    callE PR C (k + 11) 22 [hIns 0 l, hEvent 1 es, hKept 2 ks, i64 n] [tIns l, tEvent es, tKept ks] =
      some ⟨.tu [nSt 0 (restoreSt l es ks n), i64 (restoreN l es ks n)], [tI9 (restoreSt l es ks n).regs, tI9 (restoreSt l es ks n).out], [none, none, none]⟩ := by
  have hk1 := hk.1
  have hq := fun k => ok_impl_KeptOk k l es ks hl he hk
  have hin := fun k => ok_impl_in k n 0 es.length
  cases hb : keptOk l es ks with
  | false =>
    obtain ⟨e1, e2⟩ := @restore_no l es ks n (by rw [hb]; simp)
    rw [e1, e2]
    simp only [hb] at hq
    (refine callE_is (callE_w [ResultVar.cell 8 39, ResultVar.tmp 9] rfl Try.func22 rfl (by decide +kernel) rfl (by simp) ?_); (conv => whnf))
    repeat' ((with_reducible (first | refine sCall.of (hq _) ?_ | refine sCall.of (hin _) ?_ | refine gP ?_ | refine gN ?_ | refine fG.split (fun _ => ?_) (fun _ => ?_) | refine fG.not ?_ | refine gY ?_ | refine gF ?_ | refine fG.yes (flat_map (fun _ => rfl) _) ?_ | refine fG.bool (fun _ => ?_) (fun _ => ?_) | refine gS64 ?_ | refine gU8 ?_ | refine gI9 ?_ | refine fE.of rfl ?_ | refine gBq ?_ | refine gNum9 ?_ | refine gSet ?_ | refine gRd ?_ | refine gLk ?_ | refine gRow9 ?_ | refine fB.of (wide_map (fun _ => rfl) _) ?_ | refine fB.of (full_map (fun _ => rfl) _) ?_ | refine fB.of (full_map (fun x => full_rKept x) _) ?_ | refine gRf ?_ | refine sDraw.mk' (id := 10) [(3, 6), (2, 13), (3, 13), (6, 13), (9, 13)] (ty := tys) rfl (by decide +kernel) ?_ | refine sDraw.mk' (id := 11) [(3, 5)] (ty := tys) rfl (by decide +kernel) ?_)) <;> (try (conv => whnf)))
    all_goals rfl
  | true =>
    simp only [hb] at hq
    by_cases g : 0 ≤ n ∧ n ≤ es.length
    · obtain ⟨e1, e2⟩ := restore_yes hb g.1 g.2
      rw [e1, e2]
      rw [decide_eq_true g] at hin
      obtain ⟨f1, f2, f3, f4⟩ := keptOk_facts hb
      (refine callE_is (callE_w [ResultVar.cell 8 39, ResultVar.tmp 9] rfl Try.func22 rfl (by decide +kernel) rfl (by simp) ?_); (conv => whnf))
      repeat' ((with_reducible (first | refine sCall.of (hq _) ?_ | refine sCall.of (hin _) ?_ | refine gP ?_ | refine gN ?_ | refine fG.split (fun _ => ?_) (fun _ => ?_) | refine fG.not ?_ | refine gY ?_ | refine gF ?_ | refine fG.yes (flat_map (fun _ => rfl) _) ?_ | refine fG.bool (fun _ => ?_) (fun _ => ?_) | refine gS64 ?_ | refine gU8 ?_ | refine gI9 ?_ | refine fE.of rfl ?_ | refine gBq ?_ | refine gNum9 ?_ | refine gSet ?_ | refine gRd ?_ | refine gLk ?_ | refine gRow9 ?_ | refine fB.of (wide_map (fun _ => rfl) _) ?_ | refine fB.of (full_map (fun _ => rfl) _) ?_ | refine fB.of (full_map (fun x => full_rKept x) _) ?_ | refine gRf ?_ | refine sDraw.mk' (id := 10) [(3, 6), (2, 13), (3, 13), (6, 13), (9, 13)] (ty := tys) rfl (by decide +kernel) ?_ | refine sDraw.mk' (id := 11) [(3, 5)] (ty := tys) rfl (by decide +kernel) ?_)) <;> (try (conv => whnf)))
      refine loop_rule (ι := RS) (fun x => [(0, hIns 0 l), (1, hEvent 1 es), (3, i64 n), (8, .pt 8 1 0 [] 0 0), (10, .pt 10 1 0 [] 0 0), (31, hKept 2 ks), (32, i64 ks.length), (33, i64 (x.j : Nat))])
        (fun x => [(1000000, ⟨0, 0, false, tIns l⟩), (1000001, ⟨0, 0, false, tEvent es⟩), (1000002, ⟨0, 0, false, tKept ks⟩), (8, ⟨1, 0, false, .box [i64 0, .nl 1, .nl 1, i64 0]⟩),
          (10, ⟨1, 0, true, .box [i64 (rd ks x.i).n, i64 (rd ks x.i).s.at_, .h 1000002 0 0 [(x.i, 2)] 1 0 ((rd ks x.i).s.regs.map rI).length, .h 1000002 0 0 [(x.i, 3)] 1 0 ((rd ks x.i).s.out.map rI).length, i64 (rd ks x.i).s.code]⟩)])
        (fun x => ks.length - x.j) (fun x => x.j ≤ ks.length ∧ x.i = lastAt ks n x.j) ⟨0, 0⟩ (by (try dsimp only [cond_true, cond_false]); exact ⟨⟨rfl, rfl, rfl, rfl, rfl, rfl, rfl, rfl, trivial⟩, ⟨rfl, rfl, rfl, rfl, rfl, trivial⟩⟩) ⟨Nat.zero_le _, rfl⟩ (by simp [C]; omega) ?_
      rintro ⟨j, i⟩ sl ob ⟨hj, hi⟩
      dsimp only at hj hi
      (try dsimp only [cond_true, cond_false])
      (conv => whnf)
      by_cases hjl : j < ks.length
      · by_cases g2 : (rd ks j).n ≤ n
        · repeat' ((with_reducible (first | refine gP ?_ | refine gN ?_ | refine fG.split (fun _ => ?_) (fun _ => ?_) | refine fG.not ?_ | refine gY ?_ | refine gF ?_ | refine fG.yes (flat_map (fun _ => rfl) _) ?_ | refine fG.bool (fun _ => ?_) (fun _ => ?_) | refine gS64 ?_ | refine gU8 ?_ | refine gI9 ?_ | refine fE.of rfl ?_ | refine gBq ?_ | refine gNum9 ?_ | refine gSet ?_ | refine gRd ?_ | refine gLk ?_ | refine gRow9 ?_ | refine fB.of (wide_map (fun _ => rfl) _) ?_ | refine fB.of (full_map (fun _ => rfl) _) ?_ | refine fB.of (full_map (fun x => full_rKept x) _) ?_ | refine gRf ?_ | refine sDraw.mk' (id := 10) [(3, 6), (2, 13), (3, 13), (6, 13), (9, 13)] (ty := tys) rfl (by decide +kernel) ?_ | refine sDraw.mk' (id := 11) [(3, 5)] (ty := tys) rfl (by decide +kernel) ?_)) <;> (try (conv => whnf)))
          refine ⟨⟨⟨j + 1, j⟩, (by (try dsimp only [cond_true, cond_false]); exact ⟨⟨rfl, rfl, rfl, rfl, rfl, rfl, rfl, rfl, trivial⟩, ⟨rfl, rfl, rfl, rfl, rfl, trivial⟩⟩), ?_, ?_⟩⟩
          · exact ⟨by show j + 1 ≤ _; omega, by show j = lastAt ks n (j + 1); simp only [lastAt, g2, if_true]⟩
          · show ks.length - (j + 1) < ks.length - j; omega
        · repeat' ((with_reducible (first | refine gP ?_ | refine gN ?_ | refine fG.split (fun _ => ?_) (fun _ => ?_) | refine fG.not ?_ | refine gY ?_ | refine gF ?_ | refine fG.yes (flat_map (fun _ => rfl) _) ?_ | refine fG.bool (fun _ => ?_) (fun _ => ?_) | refine gS64 ?_ | refine gU8 ?_ | refine gI9 ?_ | refine fE.of rfl ?_ | refine gBq ?_ | refine gNum9 ?_ | refine gSet ?_ | refine gRd ?_ | refine gLk ?_ | refine gRow9 ?_ | refine fB.of (wide_map (fun _ => rfl) _) ?_ | refine fB.of (full_map (fun _ => rfl) _) ?_ | refine fB.of (full_map (fun x => full_rKept x) _) ?_ | refine gRf ?_ | refine sDraw.mk' (id := 10) [(3, 6), (2, 13), (3, 13), (6, 13), (9, 13)] (ty := tys) rfl (by decide +kernel) ?_ | refine sDraw.mk' (id := 11) [(3, 5)] (ty := tys) rfl (by decide +kernel) ?_)) <;> (try (conv => whnf)))
          refine ⟨⟨⟨j + 1, i⟩, (by (try dsimp only [cond_true, cond_false]); exact ⟨⟨rfl, rfl, rfl, rfl, rfl, rfl, rfl, rfl, trivial⟩, ⟨rfl, rfl, rfl, rfl, rfl, trivial⟩⟩), ?_, ?_⟩⟩
          · exact ⟨by show j + 1 ≤ _; omega, by show i = lastAt ks n (j + 1); simp only [lastAt, g2, if_false]; exact hi⟩
          · show ks.length - (j + 1) < ks.length - j; omega
      · have hjj : j = ks.length := by omega
        rw [hjj] at hi
        have hil : i < ks.length := by rw [hi]; exact lastAt_lt ks n f2 _ (Nat.le_refl _)
        have hin : (rd ks i).n ≤ n := by rw [hi]; exact lastAt_le ks n f3 g.1 _
        obtain ⟨z1, z2, z3⟩ := keptOne_facts (f4 i hil)
        rw [show lastK ks n = rd ks i by unfold lastK; rw [hi]]
        have hrep := replay_from f1 (show (rd ks i).n.toNat ≤ n.toNat by omega)
        rw [z3] at hrep
        have hcl := fun k => ok_impl_cloneState k (rd ks i).s.at_ (rd ks i).s.regs (rd ks i).s.out (rd ks i).s.code (hk.2 i hil).1 (hk.2 i hil).2
        have hok := (replay_take f1 (rd ks i).n.toNat).2
        rw [z3] at hok
        have hrep' : replay l ⟨(rd ks i).s.at_, (rd ks i).s.regs, (rd ks i).s.out, (rd ks i).s.code⟩ ((es.drop (rd ks i).n.toNat).take (n.toNat - (rd ks i).n.toNat)) = some (stOf (replayAll l (es.take n.toNat))) := by rw [← List.drop_take]; exact hrep
        have hrp := fun k => ok_impl_replayed k l (rd ks i).s.at_ (rd ks i).s.regs (rd ks i).s.out (rd ks i).s.code ((es.drop (rd ks i).n.toNat).take (n.toNat - (rd ks i).n.toNat)) hl (by simp; omega) hok (fun i hi => progOk_iok (replayAll_some f1).1 hi)
        have hb1 := hok.regs
        have hb2 := hok.out
        by_cases h0 : ((es.drop (rd ks i).n.toNat).take (n.toNat - (rd ks i).n.toNat)).length = 0
        · simp only [replayedRes, hrep', h0, if_true] at hrp
          rw [replay_nil_or hrep' h0]
          repeat' ((with_reducible (first | refine sCall.of (hcl _) ?_ | refine sCall.of (hrp _) ?_ | refine gP ?_ | refine gN ?_ | refine fG.split (fun _ => ?_) (fun _ => ?_) | refine fG.not ?_ | refine gY ?_ | refine gF ?_ | refine fG.yes (flat_map (fun _ => rfl) _) ?_ | refine fG.bool (fun _ => ?_) (fun _ => ?_) | refine gS64 ?_ | refine gU8 ?_ | refine gI9 ?_ | refine fE.of rfl ?_ | refine gBq ?_ | refine gNum9 ?_ | refine gSet ?_ | refine gRd ?_ | refine gLk ?_ | refine gRow9 ?_ | refine fB.of (wide_map (fun _ => rfl) _) ?_ | refine fB.of (full_map (fun _ => rfl) _) ?_ | refine fB.of (full_map (fun x => full_rKept x) _) ?_ | refine gRf ?_ | refine sDraw.mk' (id := 10) [(3, 6), (2, 13), (3, 13), (6, 13), (9, 13)] (ty := tys) rfl (by decide +kernel) ?_ | refine sDraw.mk' (id := 11) [(3, 5)] (ty := tys) rfl (by decide +kernel) ?_)) <;> (try (conv => whnf)))
        · simp only [replayedRes, hrep', h0, if_false] at hrp
          have hb3 := (stOf_len l (es.take n.toNat)).1
          have hb4 := (stOf_len l (es.take n.toNat)).2
          repeat' ((with_reducible (first | refine sCall.of (hcl _) ?_ | refine sCall.of (hrp _) ?_ | refine gP ?_ | refine gN ?_ | refine fG.split (fun _ => ?_) (fun _ => ?_) | refine fG.not ?_ | refine gY ?_ | refine gF ?_ | refine fG.yes (flat_map (fun _ => rfl) _) ?_ | refine fG.bool (fun _ => ?_) (fun _ => ?_) | refine gS64 ?_ | refine gU8 ?_ | refine gI9 ?_ | refine fE.of rfl ?_ | refine gBq ?_ | refine gNum9 ?_ | refine gSet ?_ | refine gRd ?_ | refine gLk ?_ | refine gRow9 ?_ | refine fB.of (wide_map (fun _ => rfl) _) ?_ | refine fB.of (full_map (fun _ => rfl) _) ?_ | refine fB.of (full_map (fun x => full_rKept x) _) ?_ | refine gRf ?_ | refine sDraw.mk' (id := 10) [(3, 6), (2, 13), (3, 13), (6, 13), (9, 13)] (ty := tys) rfl (by decide +kernel) ?_ | refine sDraw.mk' (id := 11) [(3, 5)] (ty := tys) rfl (by decide +kernel) ?_)) <;> (try (conv => whnf)))
    · obtain ⟨e1, e2⟩ := @restore_no l es ks n (by rw [hb]; exact fun h => g h.2)
      rw [e1, e2]
      rw [decide_eq_false g] at hin
      (refine callE_is (callE_w [ResultVar.cell 8 39, ResultVar.tmp 9] rfl Try.func22 rfl (by decide +kernel) rfl (by simp) ?_); (conv => whnf))
      repeat' ((with_reducible (first | refine sCall.of (hq _) ?_ | refine sCall.of (hin _) ?_ | refine gP ?_ | refine gN ?_ | refine fG.split (fun _ => ?_) (fun _ => ?_) | refine fG.not ?_ | refine gY ?_ | refine gF ?_ | refine fG.yes (flat_map (fun _ => rfl) _) ?_ | refine fG.bool (fun _ => ?_) (fun _ => ?_) | refine gS64 ?_ | refine gU8 ?_ | refine gI9 ?_ | refine fE.of rfl ?_ | refine gBq ?_ | refine gNum9 ?_ | refine gSet ?_ | refine gRd ?_ | refine gLk ?_ | refine gRow9 ?_ | refine fB.of (wide_map (fun _ => rfl) _) ?_ | refine fB.of (full_map (fun _ => rfl) _) ?_ | refine fB.of (full_map (fun x => full_rKept x) _) ?_ | refine gRf ?_ | refine sDraw.mk' (id := 10) [(3, 6), (2, 13), (3, 13), (6, 13), (9, 13)] (ty := tys) rfl (by decide +kernel) ?_ | refine sDraw.mk' (id := 11) [(3, 5)] (ty := tys) rfl (by decide +kernel) ?_)) <;> (try (conv => whnf)))
      all_goals rfl

theorem replay_one {l : List Ins} {es : List Event} (h : (replayAll l es).isSome = true) {m : Nat} (hm : m < es.length) :
    (stOf (replayAll l (es.take m))).code = 0 ∧ comes (rd es m) (next l (stOf (replayAll l (es.take m)))) = true ∧ did l (stOf (replayAll l (es.take m))) (rd es m) = stOf (replayAll l (es.take (m + 1))) := by
  have h1 := replay_from h (Nat.le_succ m)
  have e : (es.take (m + 1)).drop m = [rd es m] := by
    have hm1 : m = (es.take m).length := by simp; omega
    rw [take_rd hm]
    conv => lhs; arg 1; rw [hm1]
    rw [List.drop_left]
  rw [e] at h1
  simp only [replay] at h1
  split at h1
  · rename_i hc
    exact ⟨hc.1, hc.2, Option.some.inj h1⟩
  · cases h1
structure R2 where
  m : Int
  s : State
  f : Bool
  b1 : Nat
  b2 : Nat
  b0 : Nat
set_option maxHeartbeats 16000000 in
theorem ok_spec_Restore (k : Nat) (l : List Ins) (es : List Event) (ks : List Kept) (n : Int) (hl : l.length ≤ 100000000000) (he : es.length ≤ 100000000000) (hk : KFits ks) :
    callE PR C (k + 8) 37 [hIns 0 l, hEvent 1 es, hKept 2 ks, i64 n] [tIns l, tEvent es, tKept ks] =
      some ⟨.tu [nSt 0 (restoreSt l es ks n), i64 (restoreN l es ks n)], [tI9 (restoreSt l es ks n).regs, tI9 (restoreSt l es ks n).out], [none, none, none]⟩ := by
  have hk1 := hk.1
  have hq := fun k => ok_spec_KeptOk k l es ks hl he hk
  have hin := fun k => ok_spec_l1In k n 0 es.length
  cases hb : keptOk l es ks with
  | false =>
    obtain ⟨e1, e2⟩ := @restore_no l es ks n (by rw [hb]; simp)
    rw [e1, e2]
    simp only [hb] at hq
    (refine callE_is (callE_w [ResultVar.cell 8 39, ResultVar.tmp 9] rfl Try.func37 rfl (by decide +kernel) rfl (by simp) ?_); (conv => whnf))
    repeat' ((with_reducible (first | refine sCall.of (hq _) ?_ | refine sCall.of (hin _) ?_ | refine gP ?_ | refine gN ?_ | refine fG.split (fun _ => ?_) (fun _ => ?_) | refine fG.not ?_ | refine gY ?_ | refine gF ?_ | refine fG.yes (flat_map (fun _ => rfl) _) ?_ | refine fG.bool (fun _ => ?_) (fun _ => ?_) | refine gS64 ?_ | refine gU8 ?_ | refine gI9 ?_ | refine fE.of rfl ?_ | refine gBq ?_ | refine gNum9 ?_ | refine gSet ?_ | refine gRd ?_ | refine gLk ?_ | refine gRow9 ?_ | refine fB.of (wide_map (fun _ => rfl) _) ?_ | refine fB.of (full_map (fun _ => rfl) _) ?_ | refine fB.of (full_map (fun x => full_rKept x) _) ?_ | refine gRf ?_ | refine sDraw.none (id := 13) (ty := tys) rfl (by decide +kernel) ?_ | refine sDraw.mk' (id := 14) [(6, 8)] (ty := tys) rfl (by decide +kernel) ?_)) <;> (try (conv => whnf)))
    all_goals rfl
  | true =>
    simp only [hb] at hq
    by_cases g : 0 ≤ n ∧ n ≤ es.length
    · obtain ⟨e1, e2⟩ := restore_yes hb g.1 g.2
      rw [e1, e2]
      rw [decide_eq_true g] at hin
      obtain ⟨f1, f2, f3, f4⟩ := keptOk_facts hb
      (refine callE_is (callE_w [ResultVar.cell 8 39, ResultVar.tmp 9] rfl Try.func37 rfl (by decide +kernel) rfl (by simp) ?_); (conv => whnf))
      repeat' ((with_reducible (first | refine sCall.of (hq _) ?_ | refine sCall.of (hin _) ?_ | refine gP ?_ | refine gN ?_ | refine fG.split (fun _ => ?_) (fun _ => ?_) | refine fG.not ?_ | refine gY ?_ | refine gF ?_ | refine fG.yes (flat_map (fun _ => rfl) _) ?_ | refine fG.bool (fun _ => ?_) (fun _ => ?_) | refine gS64 ?_ | refine gU8 ?_ | refine gI9 ?_ | refine fE.of rfl ?_ | refine gBq ?_ | refine gNum9 ?_ | refine gSet ?_ | refine gRd ?_ | refine gLk ?_ | refine gRow9 ?_ | refine fB.of (wide_map (fun _ => rfl) _) ?_ | refine fB.of (full_map (fun _ => rfl) _) ?_ | refine fB.of (full_map (fun x => full_rKept x) _) ?_ | refine gRf ?_ | refine sDraw.none (id := 13) (ty := tys) rfl (by decide +kernel) ?_ | refine sDraw.mk' (id := 14) [(6, 8)] (ty := tys) rfl (by decide +kernel) ?_)) <;> (try (conv => whnf)))
      refine loop_rule (ι := RS) (fun x => [(0, hIns 0 l), (1, hEvent 1 es), (2, hKept 2 ks), (3, i64 n), (8, .pt 8 1 0 [] 0 0), (10, i64 (x.i : Nat)), (11, i64 (x.j : Nat))])
        (fun x => [(1000000, ⟨0, 0, false, tIns l⟩), (1000001, ⟨0, 0, false, tEvent es⟩), (1000002, ⟨0, 0, false, tKept ks⟩), (8, ⟨1, 0, false, .box [i64 0, .nl 1, .nl 1, i64 0]⟩)])
        (fun x => ks.length - x.j) (fun x => x.j ≤ ks.length ∧ x.i = lastAt ks n x.j) ⟨0, 0⟩ (by (try dsimp only [cond_true, cond_false]); exact ⟨⟨rfl, rfl, rfl, rfl, rfl, rfl, rfl, trivial⟩, ⟨rfl, rfl, rfl, rfl, trivial⟩⟩) ⟨Nat.zero_le _, rfl⟩ (by simp [C]; omega) ?_
      rintro ⟨j, i⟩ sl ob ⟨hj, hi⟩
      dsimp only at hj hi
      (try dsimp only [cond_true, cond_false])
      (conv => whnf)
      by_cases hjl : j < ks.length
      · by_cases g2 : (rd ks j).n ≤ n
        · repeat' ((with_reducible (first | refine gP ?_ | refine gN ?_ | refine fG.split (fun _ => ?_) (fun _ => ?_) | refine fG.not ?_ | refine gY ?_ | refine gF ?_ | refine fG.yes (flat_map (fun _ => rfl) _) ?_ | refine fG.bool (fun _ => ?_) (fun _ => ?_) | refine gS64 ?_ | refine gU8 ?_ | refine gI9 ?_ | refine fE.of rfl ?_ | refine gBq ?_ | refine gNum9 ?_ | refine gSet ?_ | refine gRd ?_ | refine gLk ?_ | refine gRow9 ?_ | refine fB.of (wide_map (fun _ => rfl) _) ?_ | refine fB.of (full_map (fun _ => rfl) _) ?_ | refine fB.of (full_map (fun x => full_rKept x) _) ?_ | refine gRf ?_ | refine sDraw.none (id := 13) (ty := tys) rfl (by decide +kernel) ?_ | refine sDraw.mk' (id := 14) [(6, 8)] (ty := tys) rfl (by decide +kernel) ?_)) <;> (try (conv => whnf)))
          refine ⟨⟨⟨j + 1, j⟩, (by (try dsimp only [cond_true, cond_false]); exact ⟨⟨rfl, rfl, rfl, rfl, rfl, rfl, rfl, trivial⟩, ⟨rfl, rfl, rfl, rfl, trivial⟩⟩), ?_, ?_⟩⟩
          · exact ⟨by show j + 1 ≤ _; omega, by show j = lastAt ks n (j + 1); simp only [lastAt, g2, if_true]⟩
          · show ks.length - (j + 1) < ks.length - j; omega
        · repeat' ((with_reducible (first | refine gP ?_ | refine gN ?_ | refine fG.split (fun _ => ?_) (fun _ => ?_) | refine fG.not ?_ | refine gY ?_ | refine gF ?_ | refine fG.yes (flat_map (fun _ => rfl) _) ?_ | refine fG.bool (fun _ => ?_) (fun _ => ?_) | refine gS64 ?_ | refine gU8 ?_ | refine gI9 ?_ | refine fE.of rfl ?_ | refine gBq ?_ | refine gNum9 ?_ | refine gSet ?_ | refine gRd ?_ | refine gLk ?_ | refine gRow9 ?_ | refine fB.of (wide_map (fun _ => rfl) _) ?_ | refine fB.of (full_map (fun _ => rfl) _) ?_ | refine fB.of (full_map (fun x => full_rKept x) _) ?_ | refine gRf ?_ | refine sDraw.none (id := 13) (ty := tys) rfl (by decide +kernel) ?_ | refine sDraw.mk' (id := 14) [(6, 8)] (ty := tys) rfl (by decide +kernel) ?_)) <;> (try (conv => whnf)))
          refine ⟨⟨⟨j + 1, i⟩, (by (try dsimp only [cond_true, cond_false]); exact ⟨⟨rfl, rfl, rfl, rfl, rfl, rfl, rfl, trivial⟩, ⟨rfl, rfl, rfl, rfl, trivial⟩⟩), ?_, ?_⟩⟩
          · exact ⟨by show j + 1 ≤ _; omega, by show i = lastAt ks n (j + 1); simp only [lastAt, g2, if_false]; exact hi⟩
          · show ks.length - (j + 1) < ks.length - j; omega
      · have hjj : j = ks.length := by omega
        rw [hjj] at hi
        have hil : i < ks.length := by rw [hi]; exact lastAt_lt ks n f2 _ (Nat.le_refl _)
        have hin : (rd ks i).n ≤ n := by rw [hi]; exact lastAt_le ks n f3 g.1 _
        obtain ⟨z1, z2, z3⟩ := keptOne_facts (f4 i hil)
        rw [show lastK ks n = rd ks i by unfold lastK; rw [hi]]
        have hcl := fun k => ok_spec_l2Copy k (rd ks i).s.at_ (rd ks i).s.regs (rd ks i).s.out (rd ks i).s.code (hk.2 i hil).1 (hk.2 i hil).2
        repeat' ((with_reducible (first | refine sCall.of (hcl _) ?_ | refine gP ?_ | refine gN ?_ | refine fG.split (fun _ => ?_) (fun _ => ?_) | refine fG.not ?_ | refine gY ?_ | refine gF ?_ | refine fG.yes (flat_map (fun _ => rfl) _) ?_ | refine fG.bool (fun _ => ?_) (fun _ => ?_) | refine gS64 ?_ | refine gU8 ?_ | refine gI9 ?_ | refine fE.of rfl ?_ | refine gBq ?_ | refine gNum9 ?_ | refine gSet ?_ | refine gRd ?_ | refine gLk ?_ | refine gRow9 ?_ | refine fB.of (wide_map (fun _ => rfl) _) ?_ | refine fB.of (full_map (fun _ => rfl) _) ?_ | refine fB.of (full_map (fun x => full_rKept x) _) ?_ | refine gRf ?_ | refine sDraw.none (id := 13) (ty := tys) rfl (by decide +kernel) ?_ | refine sDraw.mk' (id := 14) [(6, 8)] (ty := tys) rfl (by decide +kernel) ?_)) <;> (try (conv => whnf)))
        refine loop_rule (ι := R2) (fun x => [(0, hIns 0 l), (1, hEvent 1 es), (2, hKept 2 ks), (3, i64 n), (8, .pt 8 1 0 [] 0 0), (10, i64 (i : Nat)), (12, .pt 12 x.b0 0 [] 0 0), (13, i64 x.m)])
          (fun x => [(1000000, ⟨0, 0, false, tIns l⟩), (1000001, ⟨0, 0, false, tEvent es⟩), (1000002, ⟨0, 0, false, tKept ks⟩), (8, ⟨1, 0, false, .box [i64 0, .nl 1, .nl 1, i64 0]⟩),
            (12, ⟨x.b0, 0, true, .box [i64 x.s.at_, .h (bif x.f then 10046 else 10064) x.b1 0 [] 1 0 x.s.regs.length, .h (bif x.f then 20046 else 20064) x.b2 0 [] 1 0 x.s.out.length, i64 x.s.code]⟩), ((bif x.f then 10046 else 10064), ⟨x.b1, 0, false, tI9 x.s.regs⟩), ((bif x.f then 20046 else 20064), ⟨x.b2, 0, false, tI9 x.s.out⟩)])
          (fun x => (n - x.m).toNat) (fun x => (rd ks i).n ≤ x.m ∧ x.m ≤ n ∧ x.s = stOf (replayAll l (es.take x.m.toNat)))
          ⟨(rd ks i).n, (rd ks i).s, true, _, _, _⟩ (by (try dsimp only [cond_true, cond_false]); exact ⟨⟨rfl, rfl, rfl, rfl, rfl, rfl, rfl, rfl, trivial⟩, ⟨rfl, rfl, rfl, rfl, rfl, rfl, rfl, trivial⟩⟩) ⟨Int.le_refl _, hin, z3.symm⟩ (by simp [C]; omega) ?_
        rintro ⟨m, s, f, b1, b2, b0⟩ sl' ob' ⟨hm1, hm2, hms⟩
        dsimp only at hm1 hm2 hms
        have hs1 : SOk l.length s := by rw [hms]; exact (replay_take f1 m.toNat).2
        have hat0 := hs1.at0
        have hat1 := hs1.at1
        have hb1 := hs1.regs
        have hb2 := hs1.out
        by_cases hlt : m < n
        · obtain ⟨y1, y2, y3⟩ := replay_one f1 (show m.toNat < es.length by omega)
          rw [← hms] at y1 y2 y3
          have hdo := fun k => ok_spec_l2Do k l s.at_ s.regs s.out s.code (rd es m.toNat) hl hs1 (progOk_iok (replayAll_some f1).1 (by omega))
          simp only [doRes_true (show comes (rd es m.toNat) (next l ⟨s.at_, s.regs, s.out, s.code⟩) = true from y2)] at hdo
          cases f
          all_goals (try dsimp only [cond_true, cond_false])
          all_goals (conv => whnf)
          all_goals repeat' ((with_reducible (first | refine sCall.of (hdo _) ?_ | refine gP ?_ | refine gN ?_ | refine fG.split (fun _ => ?_) (fun _ => ?_) | refine fG.not ?_ | refine gY ?_ | refine gF ?_ | refine fG.yes (flat_map (fun _ => rfl) _) ?_ | refine fG.bool (fun _ => ?_) (fun _ => ?_) | refine gS64 ?_ | refine gU8 ?_ | refine gI9 ?_ | refine fE.of rfl ?_ | refine gBq ?_ | refine gNum9 ?_ | refine gSet ?_ | refine gRd ?_ | refine gLk ?_ | refine gRow9 ?_ | refine fB.of (wide_map (fun _ => rfl) _) ?_ | refine fB.of (full_map (fun _ => rfl) _) ?_ | refine fB.of (full_map (fun x => full_rKept x) _) ?_ | refine gRf ?_ | refine sDraw.none (id := 13) (ty := tys) rfl (by decide +kernel) ?_ | refine sDraw.mk' (id := 14) [(6, 8)] (ty := tys) rfl (by decide +kernel) ?_)) <;> (try (conv => whnf)))
          all_goals
            refine ⟨⟨⟨m + 1, did l s (rd es m.toNat), false, _, _, _⟩, (by (try dsimp only [cond_true, cond_false]); exact ⟨⟨rfl, rfl, rfl, rfl, rfl, rfl, rfl, rfl, trivial⟩, ⟨rfl, rfl, rfl, rfl, rfl, rfl, rfl, trivial⟩⟩), ?_, ?_⟩⟩
            · exact ⟨by show _ ≤ m + 1; omega, by show m + 1 ≤ n; omega, by show did l s (rd es m.toNat) = stOf (replayAll l (es.take (m + 1).toNat)); rw [y3, show (m + 1).toNat = m.toNat + 1 by omega]⟩
            · show (n - (m + 1)).toNat < (n - m).toNat; omega
        · have hmn : m = n := by omega
          rw [hmn] at hms
          rw [← hms]
          cases f
          all_goals (try dsimp only [cond_true, cond_false])
          all_goals (conv => whnf)
          all_goals repeat' ((with_reducible (first | refine gP ?_ | refine gN ?_ | refine fG.split (fun _ => ?_) (fun _ => ?_) | refine fG.not ?_ | refine gY ?_ | refine gF ?_ | refine fG.yes (flat_map (fun _ => rfl) _) ?_ | refine fG.bool (fun _ => ?_) (fun _ => ?_) | refine gS64 ?_ | refine gU8 ?_ | refine gI9 ?_ | refine fE.of rfl ?_ | refine gBq ?_ | refine gNum9 ?_ | refine gSet ?_ | refine gRd ?_ | refine gLk ?_ | refine gRow9 ?_ | refine fB.of (wide_map (fun _ => rfl) _) ?_ | refine fB.of (full_map (fun _ => rfl) _) ?_ | refine fB.of (full_map (fun x => full_rKept x) _) ?_ | refine gRf ?_ | refine sDraw.none (id := 13) (ty := tys) rfl (by decide +kernel) ?_ | refine sDraw.mk' (id := 14) [(6, 8)] (ty := tys) rfl (by decide +kernel) ?_)) <;> (try (conv => whnf)))
          all_goals rfl
    · obtain ⟨e1, e2⟩ := @restore_no l es ks n (by rw [hb]; exact fun h => g h.2)
      rw [e1, e2]
      rw [decide_eq_false g] at hin
      (refine callE_is (callE_w [ResultVar.cell 8 39, ResultVar.tmp 9] rfl Try.func37 rfl (by decide +kernel) rfl (by simp) ?_); (conv => whnf))
      repeat' ((with_reducible (first | refine sCall.of (hq _) ?_ | refine sCall.of (hin _) ?_ | refine gP ?_ | refine gN ?_ | refine fG.split (fun _ => ?_) (fun _ => ?_) | refine fG.not ?_ | refine gY ?_ | refine gF ?_ | refine fG.yes (flat_map (fun _ => rfl) _) ?_ | refine fG.bool (fun _ => ?_) (fun _ => ?_) | refine gS64 ?_ | refine gU8 ?_ | refine gI9 ?_ | refine fE.of rfl ?_ | refine gBq ?_ | refine gNum9 ?_ | refine gSet ?_ | refine gRd ?_ | refine gLk ?_ | refine gRow9 ?_ | refine fB.of (wide_map (fun _ => rfl) _) ?_ | refine fB.of (full_map (fun _ => rfl) _) ?_ | refine fB.of (full_map (fun x => full_rKept x) _) ?_ | refine gRf ?_ | refine sDraw.none (id := 13) (ty := tys) rfl (by decide +kernel) ?_ | refine sDraw.mk' (id := 14) [(6, 8)] (ty := tys) rfl (by decide +kernel) ?_)) <;> (try (conv => whnf)))
      all_goals rfl

end Go.Proofs.Ytfeenmfehgljgaa.Abs
namespace Go.Proofs.Ytfeenmfehgljgaa.Abs
open Go Go.Proofs
set_option linter.unusedVariables false
set_option linter.unusedSimpArgs false
attribute [local irreducible] callE
theorem ok_impl_Again (k : Nat) (l : List Ins) (es : List Event) (ks : List Kept) (n : Int) (hl : l.length ≤ 100000000000) (he : es.length ≤ 100000000000) (hk : KFits ks) :
    callE PR C (k + 12) 24 [hIns 0 l, hEvent 1 es, hKept 2 ks, i64 n] [tIns l, tEvent es, tKept ks] = some ⟨i64 (restoreN l es ks n), [], [none, none, none]⟩ := by
  have hk1 := hk.1
  have hq := fun k => ok_impl_Restore k l es ks n hl he hk
  (refine callE_is (callE_w [ResultVar.tmp 8] rfl Try.func24 rfl (by decide +kernel) rfl (by simp) ?_); (conv => whnf))
  repeat' ((with_reducible (first | refine sCall.of (hq _) ?_ | refine fG.pos (by first | with_reducible assumption | omega) ?_ | refine fG.neg (by first | with_reducible assumption | omega) ?_ | refine fG.split (fun _ => ?_) (fun _ => ?_) | refine fG.not ?_ | refine fG.yes (by with_reducible assumption) ?_ | refine fG.no (by with_reducible assumption) ?_ | refine fG.yes (flat_map (fun _ => rfl) _) ?_ | refine fG.bool (fun _ => ?_) (fun _ => ?_) | refine sW.i64 (by omega) ?_ | refine sW.u8 (by omega) ?_ | refine sI.mk (by first | with_reducible assumption | omega | (simp only [Nat.zero_add, Nat.add_zero, Nat.sub_zero, Int.toNat_natCast, Int.toNat_zero, Int.toNat_one, List.length_map, List.length_nil, Int.reduceToNat, Nat.reduceAdd, Nat.reduceSub, Int.sub_zero, Int.reduceAdd, Int.reduceSub, Nat.sub_self, Int.toNat_natCast_add_one, marks_len, bs_len, List.length_append, List.length_cons, List.length_set, List.length_replicate, List.length_range]; first | done | omega)) ?_ | refine fE.of rfl ?_ | refine fB.of (Nat.beq_refl _) ?_ | refine sN.eq (by first | (simp only [Nat.zero_add, Nat.add_zero, Nat.sub_zero, Int.toNat_natCast, Int.toNat_zero, Int.toNat_one, List.length_map, List.length_nil, Int.reduceToNat, Nat.reduceAdd, Nat.reduceSub, Int.sub_zero, Int.reduceAdd, Int.reduceSub, Nat.sub_self, Int.toNat_natCast_add_one, marks_len, bs_len]; rfl) | rfl) ?_ | refine fO.of (map_set_rd (by omega)) ?_ | refine fO.of (map_rd (by omega)) ?_ | refine sBool.eq (like_map (by first | with_reducible assumption | omega | (simp only [List.length_set]; omega))) ?_ | refine sR.eq (by first | (simp only [Nat.add_zero, Nat.zero_add, Nat.reduceAdd, List.drop_zero, List.take_succ_cons, List.take_nil, List.drop_succ_cons, List.drop_nil, List.take_zero, List.nil_append, List.append_nil, List.map_nil, drop_suf, take_pre, drop_map, List.take_length, take_len_set, take_len_app, List.set_set, List.length_map, rep_rKept, marks_take, set_rKept, set_rIns, rep_rIns, set_rEvent, rep_rEvent, snoc_rKept, snoc_rEvent, snoc_rIns, bytesT_bs, snoc_rI, snoc_rB, snoc_rBool, set_rI, set_rBool, rep_rI, rep_rBool, map_app]; rfl) | rfl) ?_ | refine fB.of (wide_map (fun _ => rfl) _) ?_ | refine fB.of (full_map (fun _ => rfl) _) ?_ | refine fB.of (full_map (fun x => full_rKept x) _) ?_ | refine fB.of (by first | rfl | (simp only [full_map, wide_map]; done)) ?_)) <;> (try (conv => whnf)))
theorem ok_spec_Again (k : Nat) (l : List Ins) (es : List Event) (ks : List Kept) (n : Int) (hl : l.length ≤ 100000000000) (he : es.length ≤ 100000000000) (hk : KFits ks) :
    callE PR C (k + 9) 35 [hIns 0 l, hEvent 1 es, hKept 2 ks, i64 n] [tIns l, tEvent es, tKept ks] = some ⟨i64 (restoreN l es ks n), [], [none, none, none]⟩ := by
  have hk1 := hk.1
  have hq := fun k => ok_spec_Restore k l es ks n hl he hk
  (refine callE_is (callE_w [ResultVar.tmp 8] rfl Try.func35 rfl (by decide +kernel) rfl (by simp) ?_); (conv => whnf))
  repeat' ((with_reducible (first | refine sCall.of (hq _) ?_ | refine fG.pos (by first | with_reducible assumption | omega) ?_ | refine fG.neg (by first | with_reducible assumption | omega) ?_ | refine fG.split (fun _ => ?_) (fun _ => ?_) | refine fG.not ?_ | refine fG.yes (by with_reducible assumption) ?_ | refine fG.no (by with_reducible assumption) ?_ | refine fG.yes (flat_map (fun _ => rfl) _) ?_ | refine fG.bool (fun _ => ?_) (fun _ => ?_) | refine sW.i64 (by omega) ?_ | refine sW.u8 (by omega) ?_ | refine sI.mk (by first | with_reducible assumption | omega | (simp only [Nat.zero_add, Nat.add_zero, Nat.sub_zero, Int.toNat_natCast, Int.toNat_zero, Int.toNat_one, List.length_map, List.length_nil, Int.reduceToNat, Nat.reduceAdd, Nat.reduceSub, Int.sub_zero, Int.reduceAdd, Int.reduceSub, Nat.sub_self, Int.toNat_natCast_add_one, marks_len, bs_len, List.length_append, List.length_cons, List.length_set, List.length_replicate, List.length_range]; first | done | omega)) ?_ | refine fE.of rfl ?_ | refine fB.of (Nat.beq_refl _) ?_ | refine sN.eq (by first | (simp only [Nat.zero_add, Nat.add_zero, Nat.sub_zero, Int.toNat_natCast, Int.toNat_zero, Int.toNat_one, List.length_map, List.length_nil, Int.reduceToNat, Nat.reduceAdd, Nat.reduceSub, Int.sub_zero, Int.reduceAdd, Int.reduceSub, Nat.sub_self, Int.toNat_natCast_add_one, marks_len, bs_len]; rfl) | rfl) ?_ | refine fO.of (map_set_rd (by omega)) ?_ | refine fO.of (map_rd (by omega)) ?_ | refine sBool.eq (like_map (by first | with_reducible assumption | omega | (simp only [List.length_set]; omega))) ?_ | refine sR.eq (by first | (simp only [Nat.add_zero, Nat.zero_add, Nat.reduceAdd, List.drop_zero, List.take_succ_cons, List.take_nil, List.drop_succ_cons, List.drop_nil, List.take_zero, List.nil_append, List.append_nil, List.map_nil, drop_suf, take_pre, drop_map, List.take_length, take_len_set, take_len_app, List.set_set, List.length_map, rep_rKept, marks_take, set_rKept, set_rIns, rep_rIns, set_rEvent, rep_rEvent, snoc_rKept, snoc_rEvent, snoc_rIns, bytesT_bs, snoc_rI, snoc_rB, snoc_rBool, set_rI, set_rBool, rep_rI, rep_rBool, map_app]; rfl) | rfl) ?_ | refine fB.of (wide_map (fun _ => rfl) _) ?_ | refine fB.of (full_map (fun _ => rfl) _) ?_ | refine fB.of (full_map (fun x => full_rKept x) _) ?_ | refine fB.of (by first | rfl | (simp only [full_map, wide_map]; done)) ?_)) <;> (try (conv => whnf)))

theorem ok_laws_markIntS9 (k : Nat) (l : List Int) (m : Int) (hl : l.length ≤ 100000000000) (h0 : 0 ≤ m) (h1 : m ≤ 100000000000) : callE PR C (k + 1) 70 [.h 1000000 0 0 [] 1 0 l.length, i64 m] [tI9 l] = some ⟨i64 (m + l.length), [], [some (tI9 (marksI m l))]⟩ := by
  (refine callE_is (callE_w [ResultVar.tmp 4] rfl Try.func70 rfl (by decide +kernel) rfl (by simp) ?_); (conv => whnf))
  repeat' ((with_reducible (first | refine fG.pos (by first | with_reducible assumption | omega) ?_ | refine fG.neg (by first | with_reducible assumption | omega) ?_ | refine fG.split (fun _ => ?_) (fun _ => ?_) | refine fG.not ?_ | refine fG.yes (by with_reducible assumption) ?_ | refine fG.no (by with_reducible assumption) ?_ | refine fG.yes (flat_map (fun _ => rfl) _) ?_ | refine fG.bool (fun _ => ?_) (fun _ => ?_) | refine sW.i64 (by omega) ?_ | refine sW.u8 (by omega) ?_ | refine sI.mk (by first | with_reducible assumption | omega | (simp only [Nat.zero_add, Nat.add_zero, Nat.sub_zero, Int.toNat_natCast, Int.toNat_zero, Int.toNat_one, List.length_map, List.length_nil, Int.reduceToNat, Nat.reduceAdd, Nat.reduceSub, Int.sub_zero, Int.reduceAdd, Int.reduceSub, Nat.sub_self, Int.toNat_natCast_add_one, marks_len, bs_len, List.length_append, List.length_cons, List.length_set, List.length_replicate, List.length_range]; first | done | omega)) ?_ | refine fE.of rfl ?_ | refine fB.of (Nat.beq_refl _) ?_ | refine sN.eq (by first | (simp only [Nat.zero_add, Nat.add_zero, Nat.sub_zero, Int.toNat_natCast, Int.toNat_zero, Int.toNat_one, List.length_map, List.length_nil, Int.reduceToNat, Nat.reduceAdd, Nat.reduceSub, Int.sub_zero, Int.reduceAdd, Int.reduceSub, Nat.sub_self, Int.toNat_natCast_add_one, marks_len, bs_len]; rfl) | rfl) ?_ | refine fO.of (map_set_rd (by omega)) ?_ | refine fO.of (map_rd (by omega)) ?_ | refine sBool.eq (like_map (by first | with_reducible assumption | omega | (simp only [List.length_set]; omega))) ?_ | refine sR.eq (by first | (simp only [Nat.add_zero, Nat.zero_add, Nat.reduceAdd, List.drop_zero, List.take_succ_cons, List.take_nil, List.drop_succ_cons, List.drop_nil, List.take_zero, List.nil_append, List.append_nil, List.map_nil, drop_suf, take_pre, drop_map, List.take_length, take_len_set, take_len_app, List.set_set, List.length_map, rep_rKept, marks_take, set_rKept, set_rIns, rep_rIns, set_rEvent, rep_rEvent, snoc_rKept, snoc_rEvent, snoc_rIns, bytesT_bs, snoc_rI, snoc_rB, snoc_rBool, set_rI, set_rBool, rep_rI, rep_rBool, map_app]; rfl) | rfl) ?_ | refine fB.of (wide_map (fun _ => rfl) _) ?_ | refine fB.of (full_map (fun _ => rfl) _) ?_ | refine fB.of (full_map (fun x => full_rKept x) _) ?_ | refine fB.of (by first | rfl | (simp only [full_map, wide_map]; done)) ?_)) <;> (try (conv => whnf)))
  refine loop_rule (ι := TM Int) (fun x => [(0, .h 1000000 0 0 [] 1 0 l.length), (1, i64 x.m), (5, i64 (x.j : Nat))])
    (fun x => [(1000000, ⟨0, x.g, x.d, tI9 x.l⟩)])
    (fun x => l.length - x.j) (fun x => x.j ≤ l.length ∧ x.l = half mInt wInt m l x.j ∧ x.m = m + x.j) ⟨0, m, l, 0, false⟩ (by (try dsimp only [cond_true, cond_false]); exact ⟨⟨rfl, rfl, rfl, trivial⟩, ⟨rfl, trivial⟩⟩) ⟨Nat.zero_le _, (half_zero _ _ m l).symm, by simp⟩ (by simp [C]; omega) ?_
  rintro ⟨j, n, out, g, d⟩ sl ob ⟨hj, hout, hn⟩
  dsimp only at hj hout hn
  have hlen : out.length = l.length := by rw [hout, half_len]
  (try dsimp only [cond_true, cond_false])
  (conv => whnf)
  repeat' ((with_reducible (first | refine fG.pos (by first | with_reducible assumption | omega) ?_ | refine fG.neg (by first | with_reducible assumption | omega) ?_ | refine fG.split (fun _ => ?_) (fun _ => ?_) | refine fG.not ?_ | refine fG.yes (by with_reducible assumption) ?_ | refine fG.no (by with_reducible assumption) ?_ | refine fG.yes (flat_map (fun _ => rfl) _) ?_ | refine fG.bool (fun _ => ?_) (fun _ => ?_) | refine sW.i64 (by omega) ?_ | refine sW.u8 (by omega) ?_ | refine sI.mk (by first | with_reducible assumption | omega | (simp only [Nat.zero_add, Nat.add_zero, Nat.sub_zero, Int.toNat_natCast, Int.toNat_zero, Int.toNat_one, List.length_map, List.length_nil, Int.reduceToNat, Nat.reduceAdd, Nat.reduceSub, Int.sub_zero, Int.reduceAdd, Int.reduceSub, Nat.sub_self, Int.toNat_natCast_add_one, marks_len, bs_len, List.length_append, List.length_cons, List.length_set, List.length_replicate, List.length_range]; first | done | omega)) ?_ | refine fE.of rfl ?_ | refine fB.of (Nat.beq_refl _) ?_ | refine sN.eq (by first | (simp only [Nat.zero_add, Nat.add_zero, Nat.sub_zero, Int.toNat_natCast, Int.toNat_zero, Int.toNat_one, List.length_map, List.length_nil, Int.reduceToNat, Nat.reduceAdd, Nat.reduceSub, Int.sub_zero, Int.reduceAdd, Int.reduceSub, Nat.sub_self, Int.toNat_natCast_add_one, marks_len, bs_len]; rfl) | rfl) ?_ | refine fO.of (map_set_rd (by omega)) ?_ | refine fO.of (map_rd (by omega)) ?_ | refine sBool.eq (like_map (by first | with_reducible assumption | omega | (simp only [List.length_set]; omega))) ?_ | refine sR.eq (by first | (simp only [Nat.add_zero, Nat.zero_add, Nat.reduceAdd, List.drop_zero, List.take_succ_cons, List.take_nil, List.drop_succ_cons, List.drop_nil, List.take_zero, List.nil_append, List.append_nil, List.map_nil, drop_suf, take_pre, drop_map, List.take_length, take_len_set, take_len_app, List.set_set, List.length_map, rep_rKept, marks_take, set_rKept, set_rIns, rep_rIns, set_rEvent, rep_rEvent, snoc_rKept, snoc_rEvent, snoc_rIns, bytesT_bs, snoc_rI, snoc_rB, snoc_rBool, set_rI, set_rBool, rep_rI, rep_rBool, map_app]; rfl) | rfl) ?_ | refine fB.of (wide_map (fun _ => rfl) _) ?_ | refine fB.of (full_map (fun _ => rfl) _) ?_ | refine fB.of (full_map (fun x => full_rKept x) _) ?_ | refine fB.of (by first | rfl | (simp only [full_map, wide_map]; done)) ?_)) <;> (try (conv => whnf)))
  case' refine_1 h =>
    refine ⟨⟨⟨j + 1, n + 1, out.set j n, _, _⟩, (by (try dsimp only [cond_true, cond_false]); exact ⟨⟨rfl, rfl, rfl, trivial⟩, ⟨rfl, trivial⟩⟩), ?_, ?_⟩⟩
    · refine ⟨by show j + 1 ≤ _; omega, ?_, by show _ = _; push_cast; omega⟩
      show _ = _
      rw [← half_set _ _ m l j (by omega), hout, hn]
      simp only [wts_wInt, List.length_take, mInt, show min j l.length = j by omega]
    · show l.length - (j + 1) < l.length - j; omega
  case refine_2 h =>
    have : j = l.length := by omega
    rw [hout, hn, this, half_all]
theorem ok_laws_markState (k : Nat) (a c : Int) (r o : List Int) (m : Int) (hr : r.length ≤ 10000000000) (ho : o.length ≤ 10000000000) (h0 : 0 ≤ m) (h1 : m ≤ 10000000000) :
    callE PR C (k + 2) 42 [aState 0 a r o c, i64 m] [tI9 r, tI9 o] = some ⟨i64 (m + r.length + o.length), [], [some (tI9 (marksI m r)), some (tI9 (marksI (m + r.length) o))]⟩ := by
  have q1 := fun k => ok_laws_markIntS9 k r m (by omega) h0 (by omega)
  have q2 := fun k => ok_laws_markIntS9 k o (m + r.length) (by omega) (by omega) (by omega)
  have q3 := marksI_len m r
  have q4 := marksI_len (m + r.length) o
  (refine callE_is (callE_w [ResultVar.tmp 4] rfl Try.func42 rfl (by decide +kernel) rfl (by simp) ?_); (conv => whnf))
  repeat' ((with_reducible (first | refine sCall.of (q1 _) ?_ | refine sCall.of (q2 _) ?_ | refine fG.pos (by first | with_reducible assumption | omega) ?_ | refine fG.neg (by first | with_reducible assumption | omega) ?_ | refine fG.split (fun _ => ?_) (fun _ => ?_) | refine fG.not ?_ | refine fG.yes (by with_reducible assumption) ?_ | refine fG.no (by with_reducible assumption) ?_ | refine fG.yes (flat_map (fun _ => rfl) _) ?_ | refine fG.bool (fun _ => ?_) (fun _ => ?_) | refine sW.i64 (by omega) ?_ | refine sW.u8 (by omega) ?_ | refine sI.mk (by first | with_reducible assumption | omega | (simp only [Nat.zero_add, Nat.add_zero, Nat.sub_zero, Int.toNat_natCast, Int.toNat_zero, Int.toNat_one, List.length_map, List.length_nil, Int.reduceToNat, Nat.reduceAdd, Nat.reduceSub, Int.sub_zero, Int.reduceAdd, Int.reduceSub, Nat.sub_self, Int.toNat_natCast_add_one, marks_len, bs_len, List.length_append, List.length_cons, List.length_set, List.length_replicate, List.length_range]; first | done | omega)) ?_ | refine fE.of rfl ?_ | refine fB.of (Nat.beq_refl _) ?_ | refine sN.eq (by first | (simp only [Nat.zero_add, Nat.add_zero, Nat.sub_zero, Int.toNat_natCast, Int.toNat_zero, Int.toNat_one, List.length_map, List.length_nil, Int.reduceToNat, Nat.reduceAdd, Nat.reduceSub, Int.sub_zero, Int.reduceAdd, Int.reduceSub, Nat.sub_self, Int.toNat_natCast_add_one, marks_len, bs_len]; rfl) | rfl) ?_ | refine fO.of (map_set_rd (by omega)) ?_ | refine fO.of (map_rd (by omega)) ?_ | refine sBool.eq (like_map (by first | with_reducible assumption | omega | (simp only [List.length_set]; omega))) ?_ | refine sR.eq (by first | (simp only [Nat.add_zero, Nat.zero_add, Nat.reduceAdd, List.drop_zero, List.take_succ_cons, List.take_nil, List.drop_succ_cons, List.drop_nil, List.take_zero, List.nil_append, List.append_nil, List.map_nil, drop_suf, take_pre, drop_map, List.take_length, take_len_set, take_len_app, List.set_set, List.length_map, rep_rKept, marks_take, set_rKept, set_rIns, rep_rIns, set_rEvent, rep_rEvent, snoc_rKept, snoc_rEvent, snoc_rIns, bytesT_bs, snoc_rI, snoc_rB, snoc_rBool, set_rI, set_rBool, rep_rI, rep_rBool, map_app]; rfl) | rfl) ?_ | refine fB.of (wide_map (fun _ => rfl) _) ?_ | refine fB.of (full_map (fun _ => rfl) _) ?_ | refine fB.of (full_map (fun x => full_rKept x) _) ?_ | refine fB.of (by first | rfl | (simp only [full_map, wide_map]; done)) ?_)) <;> (try (conv => whnf)))
theorem ok_laws_heldState (k : Nat) (a c : Int) (r o : List Int) (m : Int) (hr : r.length ≤ 10000000000) (ho : o.length ≤ 10000000000) (h0 : 0 ≤ m) (h1 : m ≤ 10000000000) :
    callE PR C (k + 2) 43 [aState 0 a (marksI m r) (marksI (m + r.length) o) c, i64 m] [tI (marksI m r), tI (marksI (m + r.length) o)] = some ⟨i64 (m + r.length + o.length), [], [none, none]⟩ := by
  have q1 := fun k => ok_laws_heldIntS k (marksI m r) m (by rw [marksI_len]; omega) h0 (by omega) (fun j hj => marksI_rd _ _ j hj)
  have q2 := fun k => ok_laws_heldIntS k (marksI (m + r.length) o) (m + r.length) (by rw [marksI_len]; omega) (by omega) (by omega) (fun j hj => marksI_rd _ _ j hj)
  rw [marksI_len] at q1 q2
  simp only [aState, marksI_len]
  (refine callE_is (callE_w [ResultVar.tmp 4] rfl Try.func43 rfl (by decide +kernel) rfl (by simp) ?_); (conv => whnf))
  repeat' ((with_reducible (first | refine sCall.of (q1 _) ?_ | refine sCall.of (q2 _) ?_ | refine fG.pos (by first | with_reducible assumption | omega) ?_ | refine fG.neg (by first | with_reducible assumption | omega) ?_ | refine fG.split (fun _ => ?_) (fun _ => ?_) | refine fG.not ?_ | refine fG.yes (by with_reducible assumption) ?_ | refine fG.no (by with_reducible assumption) ?_ | refine fG.yes (flat_map (fun _ => rfl) _) ?_ | refine fG.bool (fun _ => ?_) (fun _ => ?_) | refine sW.i64 (by omega) ?_ | refine sW.u8 (by omega) ?_ | refine sI.mk (by first | with_reducible assumption | omega | (simp only [Nat.zero_add, Nat.add_zero, Nat.sub_zero, Int.toNat_natCast, Int.toNat_zero, Int.toNat_one, List.length_map, List.length_nil, Int.reduceToNat, Nat.reduceAdd, Nat.reduceSub, Int.sub_zero, Int.reduceAdd, Int.reduceSub, Nat.sub_self, Int.toNat_natCast_add_one, marks_len, bs_len, List.length_append, List.length_cons, List.length_set, List.length_replicate, List.length_range]; first | done | omega)) ?_ | refine fE.of rfl ?_ | refine fB.of (Nat.beq_refl _) ?_ | refine sN.eq (by first | (simp only [Nat.zero_add, Nat.add_zero, Nat.sub_zero, Int.toNat_natCast, Int.toNat_zero, Int.toNat_one, List.length_map, List.length_nil, Int.reduceToNat, Nat.reduceAdd, Nat.reduceSub, Int.sub_zero, Int.reduceAdd, Int.reduceSub, Nat.sub_self, Int.toNat_natCast_add_one, marks_len, bs_len]; rfl) | rfl) ?_ | refine fO.of (map_set_rd (by omega)) ?_ | refine fO.of (map_rd (by omega)) ?_ | refine sBool.eq (like_map (by first | with_reducible assumption | omega | (simp only [List.length_set]; omega))) ?_ | refine sR.eq (by first | (simp only [Nat.add_zero, Nat.zero_add, Nat.reduceAdd, List.drop_zero, List.take_succ_cons, List.take_nil, List.drop_succ_cons, List.drop_nil, List.take_zero, List.nil_append, List.append_nil, List.map_nil, drop_suf, take_pre, drop_map, List.take_length, take_len_set, take_len_app, List.set_set, List.length_map, rep_rKept, marks_take, set_rKept, set_rIns, rep_rIns, set_rEvent, rep_rEvent, snoc_rKept, snoc_rEvent, snoc_rIns, bytesT_bs, snoc_rI, snoc_rB, snoc_rBool, set_rI, set_rBool, rep_rI, rep_rBool, map_app]; rfl) | rfl) ?_ | refine fB.of (wide_map (fun _ => rfl) _) ?_ | refine fB.of (full_map (fun _ => rfl) _) ?_ | refine fB.of (full_map (fun x => full_rKept x) _) ?_ | refine fB.of (by first | rfl | (simp only [full_map, wide_map]; done)) ?_)) <;> (try (conv => whnf)))

theorem wts_one {α : Type} [Inhabited α] (wt : α → Nat) (l : List α) (j : Nat) (h : j < l.length) : wt (rd l j) ≤ wts wt l := by
  have h1 := wts_take wt l j h
  have h2 := wts_le wt l (j + 1)
  omega
set_option maxHeartbeats 8000000 in
theorem ok_laws_FnExactKeptOk (k : Nat) (l : List Ins) (es : List Event) (ks : List Kept) (hl : l.length ≤ 140737488355328) (he : es.length ≤ 140737488355328) (hk : ks.length ≤ 140737488355328) (hx : ∀ j : Nat, j < ks.length → (rd ks j).s.regs.length ≤ 140737488355328 ∧ (rd ks j).s.out.length ≤ 140737488355328) :
    callE PR C (k + 11) 5 [hIns 0 l, hEvent 1 es, hKept 2 ks] [tIns l, tEvent es, tKept ks] = some ⟨bl true, [], [none, none, none]⟩ := by
  have hs1 := fun k => ok_laws_szInsS k l 1048576 (by omega) (by omega) hl
  by_cases c1 : left 1048576 l.length < 0
  · (refine callE_is (callE_w [ResultVar.tmp 6] rfl Try.func5 rfl (by decide +kernel) rfl (by simp) ?_); (conv => whnf))
    repeat' ((with_reducible (first | refine sCall.of (hs1 _) ?_ | refine fG.pos (by first | with_reducible assumption | omega) ?_ | refine fG.neg (by first | with_reducible assumption | omega) ?_ | refine fG.split (fun _ => ?_) (fun _ => ?_) | refine fG.not ?_ | refine fG.yes (by with_reducible assumption) ?_ | refine fG.no (by with_reducible assumption) ?_ | refine fG.yes (flat_map (fun _ => rfl) _) ?_ | refine fG.bool (fun _ => ?_) (fun _ => ?_) | refine sW.i64 (by omega) ?_ | refine sW.u8 (by omega) ?_ | refine sI.mk (by first | with_reducible assumption | omega | (simp only [Nat.zero_add, Nat.add_zero, Nat.sub_zero, Int.toNat_natCast, Int.toNat_zero, Int.toNat_one, List.length_map, List.length_nil, Int.reduceToNat, Nat.reduceAdd, Nat.reduceSub, Int.sub_zero, Int.reduceAdd, Int.reduceSub, Nat.sub_self, Int.toNat_natCast_add_one, marks_len, bs_len, List.length_append, List.length_cons, List.length_set, List.length_replicate, List.length_range]; first | done | omega)) ?_ | refine fE.of rfl ?_ | refine fB.of (Nat.beq_refl _) ?_ | refine sN.eq (by first | (simp only [Nat.zero_add, Nat.add_zero, Nat.sub_zero, Int.toNat_natCast, Int.toNat_zero, Int.toNat_one, List.length_map, List.length_nil, Int.reduceToNat, Nat.reduceAdd, Nat.reduceSub, Int.sub_zero, Int.reduceAdd, Int.reduceSub, Nat.sub_self, Int.toNat_natCast_add_one, marks_len, bs_len]; rfl) | rfl) ?_ | refine fO.of (map_set_rd (by omega)) ?_ | refine fO.of (map_rd (by omega)) ?_ | refine sBool.eq (like_map (by first | with_reducible assumption | omega | (simp only [List.length_set]; omega))) ?_ | refine sR.eq (by first | (simp only [Nat.add_zero, Nat.zero_add, Nat.reduceAdd, List.drop_zero, List.take_succ_cons, List.take_nil, List.drop_succ_cons, List.drop_nil, List.take_zero, List.nil_append, List.append_nil, List.map_nil, drop_suf, take_pre, drop_map, List.take_length, take_len_set, take_len_app, List.set_set, List.length_map, rep_rKept, marks_take, set_rKept, set_rIns, rep_rIns, set_rEvent, rep_rEvent, snoc_rKept, snoc_rEvent, snoc_rIns, bytesT_bs, snoc_rI, snoc_rB, snoc_rBool, set_rI, set_rBool, rep_rI, rep_rBool, map_app]; rfl) | rfl) ?_ | refine fB.of (wide_map (fun _ => rfl) _) ?_ | refine fB.of (full_map (fun _ => rfl) _) ?_ | refine fB.of (full_map (fun x => full_rKept x) _) ?_ | refine fB.of (by first | rfl | (simp only [full_map, wide_map]; done)) ?_)) <;> (try (conv => whnf)))
  · obtain ⟨c2, c3⟩ := left_pos c1
    have hs2 := fun k => ok_laws_szEventS k es (left 1048576 l.length) (by omega) (by omega) he
    by_cases c4 : left (left 1048576 l.length) es.length < 0
    · (refine callE_is (callE_w [ResultVar.tmp 6] rfl Try.func5 rfl (by decide +kernel) rfl (by simp) ?_); (conv => whnf))
      repeat' ((with_reducible (first | refine sCall.of (hs1 _) ?_ | refine sCall.of (hs2 _) ?_ | refine fG.pos (by first | with_reducible assumption | omega) ?_ | refine fG.neg (by first | with_reducible assumption | omega) ?_ | refine fG.split (fun _ => ?_) (fun _ => ?_) | refine fG.not ?_ | refine fG.yes (by with_reducible assumption) ?_ | refine fG.no (by with_reducible assumption) ?_ | refine fG.yes (flat_map (fun _ => rfl) _) ?_ | refine fG.bool (fun _ => ?_) (fun _ => ?_) | refine sW.i64 (by omega) ?_ | refine sW.u8 (by omega) ?_ | refine sI.mk (by first | with_reducible assumption | omega | (simp only [Nat.zero_add, Nat.add_zero, Nat.sub_zero, Int.toNat_natCast, Int.toNat_zero, Int.toNat_one, List.length_map, List.length_nil, Int.reduceToNat, Nat.reduceAdd, Nat.reduceSub, Int.sub_zero, Int.reduceAdd, Int.reduceSub, Nat.sub_self, Int.toNat_natCast_add_one, marks_len, bs_len, List.length_append, List.length_cons, List.length_set, List.length_replicate, List.length_range]; first | done | omega)) ?_ | refine fE.of rfl ?_ | refine fB.of (Nat.beq_refl _) ?_ | refine sN.eq (by first | (simp only [Nat.zero_add, Nat.add_zero, Nat.sub_zero, Int.toNat_natCast, Int.toNat_zero, Int.toNat_one, List.length_map, List.length_nil, Int.reduceToNat, Nat.reduceAdd, Nat.reduceSub, Int.sub_zero, Int.reduceAdd, Int.reduceSub, Nat.sub_self, Int.toNat_natCast_add_one, marks_len, bs_len]; rfl) | rfl) ?_ | refine fO.of (map_set_rd (by omega)) ?_ | refine fO.of (map_rd (by omega)) ?_ | refine sBool.eq (like_map (by first | with_reducible assumption | omega | (simp only [List.length_set]; omega))) ?_ | refine sR.eq (by first | (simp only [Nat.add_zero, Nat.zero_add, Nat.reduceAdd, List.drop_zero, List.take_succ_cons, List.take_nil, List.drop_succ_cons, List.drop_nil, List.take_zero, List.nil_append, List.append_nil, List.map_nil, drop_suf, take_pre, drop_map, List.take_length, take_len_set, take_len_app, List.set_set, List.length_map, rep_rKept, marks_take, set_rKept, set_rIns, rep_rIns, set_rEvent, rep_rEvent, snoc_rKept, snoc_rEvent, snoc_rIns, bytesT_bs, snoc_rI, snoc_rB, snoc_rBool, set_rI, set_rBool, rep_rI, rep_rBool, map_app]; rfl) | rfl) ?_ | refine fB.of (wide_map (fun _ => rfl) _) ?_ | refine fB.of (full_map (fun _ => rfl) _) ?_ | refine fB.of (full_map (fun x => full_rKept x) _) ?_ | refine fB.of (by first | rfl | (simp only [full_map, wide_map]; done)) ?_)) <;> (try (conv => whnf)))
    · obtain ⟨c5, c6⟩ := left_pos c4
      have hs3 := fun k => ok_laws_szKeptS k ks (left (left 1048576 l.length) es.length) (by omega) (by omega) hk hx
      by_cases c7 : left (left (left 1048576 l.length) es.length) (ks.length + wts wS ks : Nat) < 0
      · (refine callE_is (callE_w [ResultVar.tmp 6] rfl Try.func5 rfl (by decide +kernel) rfl (by simp) ?_); (conv => whnf))
        repeat' ((with_reducible (first | refine sCall.of (hs1 _) ?_ | refine sCall.of (hs2 _) ?_ | refine sCall.of (hs3 _) ?_ | refine fG.pos (by first | with_reducible assumption | omega) ?_ | refine fG.neg (by first | with_reducible assumption | omega) ?_ | refine fG.split (fun _ => ?_) (fun _ => ?_) | refine fG.not ?_ | refine fG.yes (by with_reducible assumption) ?_ | refine fG.no (by with_reducible assumption) ?_ | refine fG.yes (flat_map (fun _ => rfl) _) ?_ | refine fG.bool (fun _ => ?_) (fun _ => ?_) | refine sW.i64 (by omega) ?_ | refine sW.u8 (by omega) ?_ | refine sI.mk (by first | with_reducible assumption | omega | (simp only [Nat.zero_add, Nat.add_zero, Nat.sub_zero, Int.toNat_natCast, Int.toNat_zero, Int.toNat_one, List.length_map, List.length_nil, Int.reduceToNat, Nat.reduceAdd, Nat.reduceSub, Int.sub_zero, Int.reduceAdd, Int.reduceSub, Nat.sub_self, Int.toNat_natCast_add_one, marks_len, bs_len, List.length_append, List.length_cons, List.length_set, List.length_replicate, List.length_range]; first | done | omega)) ?_ | refine fE.of rfl ?_ | refine fB.of (Nat.beq_refl _) ?_ | refine sN.eq (by first | (simp only [Nat.zero_add, Nat.add_zero, Nat.sub_zero, Int.toNat_natCast, Int.toNat_zero, Int.toNat_one, List.length_map, List.length_nil, Int.reduceToNat, Nat.reduceAdd, Nat.reduceSub, Int.sub_zero, Int.reduceAdd, Int.reduceSub, Nat.sub_self, Int.toNat_natCast_add_one, marks_len, bs_len]; rfl) | rfl) ?_ | refine fO.of (map_set_rd (by omega)) ?_ | refine fO.of (map_rd (by omega)) ?_ | refine sBool.eq (like_map (by first | with_reducible assumption | omega | (simp only [List.length_set]; omega))) ?_ | refine sR.eq (by first | (simp only [Nat.add_zero, Nat.zero_add, Nat.reduceAdd, List.drop_zero, List.take_succ_cons, List.take_nil, List.drop_succ_cons, List.drop_nil, List.take_zero, List.nil_append, List.append_nil, List.map_nil, drop_suf, take_pre, drop_map, List.take_length, take_len_set, take_len_app, List.set_set, List.length_map, rep_rKept, marks_take, set_rKept, set_rIns, rep_rIns, set_rEvent, rep_rEvent, snoc_rKept, snoc_rEvent, snoc_rIns, bytesT_bs, snoc_rI, snoc_rB, snoc_rBool, set_rI, set_rBool, rep_rI, rep_rBool, map_app]; rfl) | rfl) ?_ | refine fB.of (wide_map (fun _ => rfl) _) ?_ | refine fB.of (full_map (fun _ => rfl) _) ?_ | refine fB.of (full_map (fun x => full_rKept x) _) ?_ | refine fB.of (by first | rfl | (simp only [full_map, wide_map]; done)) ?_)) <;> (try (conv => whnf)))
      · obtain ⟨c8, c9⟩ := left_pos c7
        have hl' : l.length ≤ 100000000000 := by omega
        have he' : es.length ≤ 100000000000 := by omega
        have hk' : ks.length ≤ 100000000000 := by omega
        have hx' : ∀ j : Nat, j < ks.length → (rd ks j).s.regs.length ≤ 100000000000 ∧ (rd ks j).s.out.length ≤ 100000000000 := fun j hj => by
          have := wts_one wS ks j hj
          simp only [wS] at this
          constructor <;> omega
        have q1 := fun k => ok_laws_toInsS k l hl'
        have q2 := fun k => ok_laws_toEventS k es he'
        have q3 := fun k => ok_laws_toKeptS k ks hk' hx'
        have q4 := fun k => ok_spec_KeptOk k l es ks hl' he' ⟨hk', hx'⟩
        have q5 := fun k => ok_impl_KeptOk k l es ks hl' he' ⟨hk', hx'⟩
        have q6 := fun k => ok_laws_eqInsS k l hl'
        have q7 := fun k => ok_laws_eqEventS k es he'
        have q8 := fun k => ok_laws_eqKeptS k ks hk' hx'
        cases hb : keptOk l es ks with
        | false =>
          simp only [hb] at q4 q5
          clear hx hx'
          (refine callE_is (callE_w [ResultVar.tmp 6] rfl Try.func5 rfl (by decide +kernel) rfl (by simp) ?_); (conv => whnf))
          repeat' ((with_reducible (first | refine sCall.of (hs1 _) ?_ | refine sCall.of (hs2 _) ?_ | refine sCall.of (hs3 _) ?_ | refine sCall.of (q1 _) ?_ | refine sCall.of (q2 _) ?_ | refine sCall.of (q3 _) ?_ | refine sCall.of (q4 _) ?_ | refine sCall.of (q5 _) ?_ | refine sCall.of (q6 _) ?_ | refine sCall.of (q7 _) ?_ | refine sCall.of (q8 _) ?_ | refine fG.pos (by first | with_reducible assumption | omega) ?_ | refine fG.neg (by first | with_reducible assumption | omega) ?_ | refine fG.split (fun _ => ?_) (fun _ => ?_) | refine fG.not ?_ | refine fG.yes (by with_reducible assumption) ?_ | refine fG.no (by with_reducible assumption) ?_ | refine fG.yes (flat_map (fun _ => rfl) _) ?_ | refine fG.bool (fun _ => ?_) (fun _ => ?_) | refine sW.i64 (by omega) ?_ | refine sW.u8 (by omega) ?_ | refine sI.mk (by first | with_reducible assumption | omega | (simp only [Nat.zero_add, Nat.add_zero, Nat.sub_zero, Int.toNat_natCast, Int.toNat_zero, Int.toNat_one, List.length_map, List.length_nil, Int.reduceToNat, Nat.reduceAdd, Nat.reduceSub, Int.sub_zero, Int.reduceAdd, Int.reduceSub, Nat.sub_self, Int.toNat_natCast_add_one, marks_len, bs_len, List.length_append, List.length_cons, List.length_set, List.length_replicate, List.length_range]; first | done | omega)) ?_ | refine fE.of rfl ?_ | refine fB.of (Nat.beq_refl _) ?_ | refine sN.eq (by first | (simp only [Nat.zero_add, Nat.add_zero, Nat.sub_zero, Int.toNat_natCast, Int.toNat_zero, Int.toNat_one, List.length_map, List.length_nil, Int.reduceToNat, Nat.reduceAdd, Nat.reduceSub, Int.sub_zero, Int.reduceAdd, Int.reduceSub, Nat.sub_self, Int.toNat_natCast_add_one, marks_len, bs_len]; rfl) | rfl) ?_ | refine fO.of (map_set_rd (by omega)) ?_ | refine fO.of (map_rd (by omega)) ?_ | refine sBool.eq (like_map (by first | with_reducible assumption | omega | (simp only [List.length_set]; omega))) ?_ | refine sR.eq (by first | (simp only [Nat.add_zero, Nat.zero_add, Nat.reduceAdd, List.drop_zero, List.take_succ_cons, List.take_nil, List.drop_succ_cons, List.drop_nil, List.take_zero, List.nil_append, List.append_nil, List.map_nil, drop_suf, take_pre, drop_map, List.take_length, take_len_set, take_len_app, List.set_set, List.length_map, rep_rKept, marks_take, set_rKept, set_rIns, rep_rIns, set_rEvent, rep_rEvent, snoc_rKept, snoc_rEvent, snoc_rIns, bytesT_bs, snoc_rI, snoc_rB, snoc_rBool, set_rI, set_rBool, rep_rI, rep_rBool, map_app]; rfl) | rfl) ?_ | refine fB.of (wide_map (fun _ => rfl) _) ?_ | refine fB.of (full_map (fun _ => rfl) _) ?_ | refine fB.of (full_map (fun x => full_rKept x) _) ?_ | refine fB.of (by first | rfl | (simp only [full_map, wide_map]; done)) ?_)) <;> (try (conv => whnf)))
        | true =>
          simp only [hb] at q4 q5
          clear hx hx'
          (refine callE_is (callE_w [ResultVar.tmp 6] rfl Try.func5 rfl (by decide +kernel) rfl (by simp) ?_); (conv => whnf))
          repeat' ((with_reducible (first | refine sCall.of (hs1 _) ?_ | refine sCall.of (hs2 _) ?_ | refine sCall.of (hs3 _) ?_ | refine sCall.of (q1 _) ?_ | refine sCall.of (q2 _) ?_ | refine sCall.of (q3 _) ?_ | refine sCall.of (q4 _) ?_ | refine sCall.of (q5 _) ?_ | refine sCall.of (q6 _) ?_ | refine sCall.of (q7 _) ?_ | refine sCall.of (q8 _) ?_ | refine fG.pos (by first | with_reducible assumption | omega) ?_ | refine fG.neg (by first | with_reducible assumption | omega) ?_ | refine fG.split (fun _ => ?_) (fun _ => ?_) | refine fG.not ?_ | refine fG.yes (by with_reducible assumption) ?_ | refine fG.no (by with_reducible assumption) ?_ | refine fG.yes (flat_map (fun _ => rfl) _) ?_ | refine fG.bool (fun _ => ?_) (fun _ => ?_) | refine sW.i64 (by omega) ?_ | refine sW.u8 (by omega) ?_ | refine sI.mk (by first | with_reducible assumption | omega | (simp only [Nat.zero_add, Nat.add_zero, Nat.sub_zero, Int.toNat_natCast, Int.toNat_zero, Int.toNat_one, List.length_map, List.length_nil, Int.reduceToNat, Nat.reduceAdd, Nat.reduceSub, Int.sub_zero, Int.reduceAdd, Int.reduceSub, Nat.sub_self, Int.toNat_natCast_add_one, marks_len, bs_len, List.length_append, List.length_cons, List.length_set, List.length_replicate, List.length_range]; first | done | omega)) ?_ | refine fE.of rfl ?_ | refine fB.of (Nat.beq_refl _) ?_ | refine sN.eq (by first | (simp only [Nat.zero_add, Nat.add_zero, Nat.sub_zero, Int.toNat_natCast, Int.toNat_zero, Int.toNat_one, List.length_map, List.length_nil, Int.reduceToNat, Nat.reduceAdd, Nat.reduceSub, Int.sub_zero, Int.reduceAdd, Int.reduceSub, Nat.sub_self, Int.toNat_natCast_add_one, marks_len, bs_len]; rfl) | rfl) ?_ | refine fO.of (map_set_rd (by omega)) ?_ | refine fO.of (map_rd (by omega)) ?_ | refine sBool.eq (like_map (by first | with_reducible assumption | omega | (simp only [List.length_set]; omega))) ?_ | refine sR.eq (by first | (simp only [Nat.add_zero, Nat.zero_add, Nat.reduceAdd, List.drop_zero, List.take_succ_cons, List.take_nil, List.drop_succ_cons, List.drop_nil, List.take_zero, List.nil_append, List.append_nil, List.map_nil, drop_suf, take_pre, drop_map, List.take_length, take_len_set, take_len_app, List.set_set, List.length_map, rep_rKept, marks_take, set_rKept, set_rIns, rep_rIns, set_rEvent, rep_rEvent, snoc_rKept, snoc_rEvent, snoc_rIns, bytesT_bs, snoc_rI, snoc_rB, snoc_rBool, set_rI, set_rBool, rep_rI, rep_rBool, map_app]; rfl) | rfl) ?_ | refine fB.of (wide_map (fun _ => rfl) _) ?_ | refine fB.of (full_map (fun _ => rfl) _) ?_ | refine fB.of (full_map (fun x => full_rKept x) _) ?_ | refine fB.of (by first | rfl | (simp only [full_map, wide_map]; done)) ?_)) <;> (try (conv => whnf)))

end Go.Proofs.Ytfeenmfehgljgaa.Abs
namespace Go.Proofs.Ytfeenmfehgljgaa.Abs
open Go Go.Proofs
set_option linter.unusedVariables false
set_option linter.unusedSimpArgs false
attribute [local irreducible] callE
set_option maxHeartbeats 8000000 in
theorem ok_laws_FnExactAgain (k : Nat) (l : List Ins) (es : List Event) (ks : List Kept) (n : Int) (hl : l.length ≤ 140737488355328) (he : es.length ≤ 140737488355328) (hk : ks.length ≤ 140737488355328) (hx : ∀ j : Nat, j < ks.length → (rd ks j).s.regs.length ≤ 140737488355328 ∧ (rd ks j).s.out.length ≤ 140737488355328) :
    callE PR C (k + 13) 6 [hIns 0 l, hEvent 1 es, hKept 2 ks, i64 n] [tIns l, tEvent es, tKept ks] = some ⟨bl true, [], [none, none, none]⟩ := by
  have hs1 := fun k => ok_laws_szInsS k l 1048576 (by omega) (by omega) hl
  by_cases c1 : left 1048576 l.length < 0
  · (refine callE_is (callE_w [ResultVar.tmp 8] rfl Try.func6 rfl (by decide +kernel) rfl (by simp) ?_); (conv => whnf))
    repeat' ((with_reducible (first | refine sCall.of (hs1 _) ?_ | refine fG.pos (by first | with_reducible assumption | omega) ?_ | refine fG.neg (by first | with_reducible assumption | omega) ?_ | refine fG.split (fun _ => ?_) (fun _ => ?_) | refine fG.not ?_ | refine fG.yes (by with_reducible assumption) ?_ | refine fG.no (by with_reducible assumption) ?_ | refine fG.yes (flat_map (fun _ => rfl) _) ?_ | refine fG.bool (fun _ => ?_) (fun _ => ?_) | refine sW.i64 (by omega) ?_ | refine sW.u8 (by omega) ?_ | refine sI.mk (by first | with_reducible assumption | omega | (simp only [Nat.zero_add, Nat.add_zero, Nat.sub_zero, Int.toNat_natCast, Int.toNat_zero, Int.toNat_one, List.length_map, List.length_nil, Int.reduceToNat, Nat.reduceAdd, Nat.reduceSub, Int.sub_zero, Int.reduceAdd, Int.reduceSub, Nat.sub_self, Int.toNat_natCast_add_one, marks_len, bs_len, List.length_append, List.length_cons, List.length_set, List.length_replicate, List.length_range]; first | done | omega)) ?_ | refine fE.of rfl ?_ | refine fB.of (Nat.beq_refl _) ?_ | refine sN.eq (by first | (simp only [Nat.zero_add, Nat.add_zero, Nat.sub_zero, Int.toNat_natCast, Int.toNat_zero, Int.toNat_one, List.length_map, List.length_nil, Int.reduceToNat, Nat.reduceAdd, Nat.reduceSub, Int.sub_zero, Int.reduceAdd, Int.reduceSub, Nat.sub_self, Int.toNat_natCast_add_one, marks_len, bs_len]; rfl) | rfl) ?_ | refine fO.of (map_set_rd (by omega)) ?_ | refine fO.of (map_rd (by omega)) ?_ | refine sBool.eq (like_map (by first | with_reducible assumption | omega | (simp only [List.length_set]; omega))) ?_ | refine sR.eq (by first | (simp only [Nat.add_zero, Nat.zero_add, Nat.reduceAdd, List.drop_zero, List.take_succ_cons, List.take_nil, List.drop_succ_cons, List.drop_nil, List.take_zero, List.nil_append, List.append_nil, List.map_nil, drop_suf, take_pre, drop_map, List.take_length, take_len_set, take_len_app, List.set_set, List.length_map, rep_rKept, marks_take, set_rKept, set_rIns, rep_rIns, set_rEvent, rep_rEvent, snoc_rKept, snoc_rEvent, snoc_rIns, bytesT_bs, snoc_rI, snoc_rB, snoc_rBool, set_rI, set_rBool, rep_rI, rep_rBool, map_app]; rfl) | rfl) ?_ | refine fB.of (wide_map (fun _ => rfl) _) ?_ | refine fB.of (full_map (fun _ => rfl) _) ?_ | refine fB.of (full_map (fun x => full_rKept x) _) ?_ | refine fB.of (by first | rfl | (simp only [full_map, wide_map]; done)) ?_)) <;> (try (conv => whnf)))
  · obtain ⟨c2, c3⟩ := left_pos c1
    have hs2 := fun k => ok_laws_szEventS k es (left 1048576 l.length) (by omega) (by omega) he
    by_cases c4 : left (left 1048576 l.length) es.length < 0
    · (refine callE_is (callE_w [ResultVar.tmp 8] rfl Try.func6 rfl (by decide +kernel) rfl (by simp) ?_); (conv => whnf))
      repeat' ((with_reducible (first | refine sCall.of (hs1 _) ?_ | refine sCall.of (hs2 _) ?_ | refine fG.pos (by first | with_reducible assumption | omega) ?_ | refine fG.neg (by first | with_reducible assumption | omega) ?_ | refine fG.split (fun _ => ?_) (fun _ => ?_) | refine fG.not ?_ | refine fG.yes (by with_reducible assumption) ?_ | refine fG.no (by with_reducible assumption) ?_ | refine fG.yes (flat_map (fun _ => rfl) _) ?_ | refine fG.bool (fun _ => ?_) (fun _ => ?_) | refine sW.i64 (by omega) ?_ | refine sW.u8 (by omega) ?_ | refine sI.mk (by first | with_reducible assumption | omega | (simp only [Nat.zero_add, Nat.add_zero, Nat.sub_zero, Int.toNat_natCast, Int.toNat_zero, Int.toNat_one, List.length_map, List.length_nil, Int.reduceToNat, Nat.reduceAdd, Nat.reduceSub, Int.sub_zero, Int.reduceAdd, Int.reduceSub, Nat.sub_self, Int.toNat_natCast_add_one, marks_len, bs_len, List.length_append, List.length_cons, List.length_set, List.length_replicate, List.length_range]; first | done | omega)) ?_ | refine fE.of rfl ?_ | refine fB.of (Nat.beq_refl _) ?_ | refine sN.eq (by first | (simp only [Nat.zero_add, Nat.add_zero, Nat.sub_zero, Int.toNat_natCast, Int.toNat_zero, Int.toNat_one, List.length_map, List.length_nil, Int.reduceToNat, Nat.reduceAdd, Nat.reduceSub, Int.sub_zero, Int.reduceAdd, Int.reduceSub, Nat.sub_self, Int.toNat_natCast_add_one, marks_len, bs_len]; rfl) | rfl) ?_ | refine fO.of (map_set_rd (by omega)) ?_ | refine fO.of (map_rd (by omega)) ?_ | refine sBool.eq (like_map (by first | with_reducible assumption | omega | (simp only [List.length_set]; omega))) ?_ | refine sR.eq (by first | (simp only [Nat.add_zero, Nat.zero_add, Nat.reduceAdd, List.drop_zero, List.take_succ_cons, List.take_nil, List.drop_succ_cons, List.drop_nil, List.take_zero, List.nil_append, List.append_nil, List.map_nil, drop_suf, take_pre, drop_map, List.take_length, take_len_set, take_len_app, List.set_set, List.length_map, rep_rKept, marks_take, set_rKept, set_rIns, rep_rIns, set_rEvent, rep_rEvent, snoc_rKept, snoc_rEvent, snoc_rIns, bytesT_bs, snoc_rI, snoc_rB, snoc_rBool, set_rI, set_rBool, rep_rI, rep_rBool, map_app]; rfl) | rfl) ?_ | refine fB.of (wide_map (fun _ => rfl) _) ?_ | refine fB.of (full_map (fun _ => rfl) _) ?_ | refine fB.of (full_map (fun x => full_rKept x) _) ?_ | refine fB.of (by first | rfl | (simp only [full_map, wide_map]; done)) ?_)) <;> (try (conv => whnf)))
    · obtain ⟨c5, c6⟩ := left_pos c4
      have hs3 := fun k => ok_laws_szKeptS k ks (left (left 1048576 l.length) es.length) (by omega) (by omega) hk hx
      by_cases c7 : left (left (left 1048576 l.length) es.length) (ks.length + wts wS ks : Nat) < 0
      · (refine callE_is (callE_w [ResultVar.tmp 8] rfl Try.func6 rfl (by decide +kernel) rfl (by simp) ?_); (conv => whnf))
        repeat' ((with_reducible (first | refine sCall.of (hs1 _) ?_ | refine sCall.of (hs2 _) ?_ | refine sCall.of (hs3 _) ?_ | refine fG.pos (by first | with_reducible assumption | omega) ?_ | refine fG.neg (by first | with_reducible assumption | omega) ?_ | refine fG.split (fun _ => ?_) (fun _ => ?_) | refine fG.not ?_ | refine fG.yes (by with_reducible assumption) ?_ | refine fG.no (by with_reducible assumption) ?_ | refine fG.yes (flat_map (fun _ => rfl) _) ?_ | refine fG.bool (fun _ => ?_) (fun _ => ?_) | refine sW.i64 (by omega) ?_ | refine sW.u8 (by omega) ?_ | refine sI.mk (by first | with_reducible assumption | omega | (simp only [Nat.zero_add, Nat.add_zero, Nat.sub_zero, Int.toNat_natCast, Int.toNat_zero, Int.toNat_one, List.length_map, List.length_nil, Int.reduceToNat, Nat.reduceAdd, Nat.reduceSub, Int.sub_zero, Int.reduceAdd, Int.reduceSub, Nat.sub_self, Int.toNat_natCast_add_one, marks_len, bs_len, List.length_append, List.length_cons, List.length_set, List.length_replicate, List.length_range]; first | done | omega)) ?_ | refine fE.of rfl ?_ | refine fB.of (Nat.beq_refl _) ?_ | refine sN.eq (by first | (simp only [Nat.zero_add, Nat.add_zero, Nat.sub_zero, Int.toNat_natCast, Int.toNat_zero, Int.toNat_one, List.length_map, List.length_nil, Int.reduceToNat, Nat.reduceAdd, Nat.reduceSub, Int.sub_zero, Int.reduceAdd, Int.reduceSub, Nat.sub_self, Int.toNat_natCast_add_one, marks_len, bs_len]; rfl) | rfl) ?_ | refine fO.of (map_set_rd (by omega)) ?_ | refine fO.of (map_rd (by omega)) ?_ | refine sBool.eq (like_map (by first | with_reducible assumption | omega | (simp only [List.length_set]; omega))) ?_ | refine sR.eq (by first | (simp only [Nat.add_zero, Nat.zero_add, Nat.reduceAdd, List.drop_zero, List.take_succ_cons, List.take_nil, List.drop_succ_cons, List.drop_nil, List.take_zero, List.nil_append, List.append_nil, List.map_nil, drop_suf, take_pre, drop_map, List.take_length, take_len_set, take_len_app, List.set_set, List.length_map, rep_rKept, marks_take, set_rKept, set_rIns, rep_rIns, set_rEvent, rep_rEvent, snoc_rKept, snoc_rEvent, snoc_rIns, bytesT_bs, snoc_rI, snoc_rB, snoc_rBool, set_rI, set_rBool, rep_rI, rep_rBool, map_app]; rfl) | rfl) ?_ | refine fB.of (wide_map (fun _ => rfl) _) ?_ | refine fB.of (full_map (fun _ => rfl) _) ?_ | refine fB.of (full_map (fun x => full_rKept x) _) ?_ | refine fB.of (by first | rfl | (simp only [full_map, wide_map]; done)) ?_)) <;> (try (conv => whnf)))
      · obtain ⟨c8, c9⟩ := left_pos c7
        have hl' : l.length ≤ 100000000000 := by omega
        have he' : es.length ≤ 100000000000 := by omega
        have hk' : ks.length ≤ 100000000000 := by omega
        have hx' : ∀ j : Nat, j < ks.length → (rd ks j).s.regs.length ≤ 100000000000 ∧ (rd ks j).s.out.length ≤ 100000000000 := fun j hj => by
          have := wts_one wS ks j hj
          simp only [wS] at this
          constructor <;> omega
        have q1 := fun k => ok_laws_toInsS k l hl'
        have q2 := fun k => ok_laws_toEventS k es he'
        have q3 := fun k => ok_laws_toKeptS k ks hk' hx'
        have q4 := fun k => ok_spec_Again k l es ks n hl' he' ⟨hk', hx'⟩
        have q5 := fun k => ok_impl_Again k l es ks n hl' he' ⟨hk', hx'⟩
        have q6 := fun k => ok_laws_eqInsS k l hl'
        have q7 := fun k => ok_laws_eqEventS k es he'
        have q8 := fun k => ok_laws_eqKeptS k ks hk' hx'
        clear hx hx'
        (refine callE_is (callE_w [ResultVar.tmp 8] rfl Try.func6 rfl (by decide +kernel) rfl (by simp) ?_); (conv => whnf))
        repeat' ((with_reducible (first | refine sCall.of (hs1 _) ?_ | refine sCall.of (hs2 _) ?_ | refine sCall.of (hs3 _) ?_ | refine sCall.of (q1 _) ?_ | refine sCall.of (q2 _) ?_ | refine sCall.of (q3 _) ?_ | refine sCall.of (q4 _) ?_ | refine sCall.of (q5 _) ?_ | refine sCall.of (q6 _) ?_ | refine sCall.of (q7 _) ?_ | refine sCall.of (q8 _) ?_ | refine fG.pos (by first | with_reducible assumption | omega) ?_ | refine fG.neg (by first | with_reducible assumption | omega) ?_ | refine fG.split (fun _ => ?_) (fun _ => ?_) | refine fG.not ?_ | refine fG.yes (by with_reducible assumption) ?_ | refine fG.no (by with_reducible assumption) ?_ | refine fG.yes (flat_map (fun _ => rfl) _) ?_ | refine fG.bool (fun _ => ?_) (fun _ => ?_) | refine sW.i64 (by omega) ?_ | refine sW.u8 (by omega) ?_ | refine sI.mk (by first | with_reducible assumption | omega | (simp only [Nat.zero_add, Nat.add_zero, Nat.sub_zero, Int.toNat_natCast, Int.toNat_zero, Int.toNat_one, List.length_map, List.length_nil, Int.reduceToNat, Nat.reduceAdd, Nat.reduceSub, Int.sub_zero, Int.reduceAdd, Int.reduceSub, Nat.sub_self, Int.toNat_natCast_add_one, marks_len, bs_len, List.length_append, List.length_cons, List.length_set, List.length_replicate, List.length_range]; first | done | omega)) ?_ | refine fE.of rfl ?_ | refine fB.of (Nat.beq_refl _) ?_ | refine sN.eq (by first | (simp only [Nat.zero_add, Nat.add_zero, Nat.sub_zero, Int.toNat_natCast, Int.toNat_zero, Int.toNat_one, List.length_map, List.length_nil, Int.reduceToNat, Nat.reduceAdd, Nat.reduceSub, Int.sub_zero, Int.reduceAdd, Int.reduceSub, Nat.sub_self, Int.toNat_natCast_add_one, marks_len, bs_len]; rfl) | rfl) ?_ | refine fO.of (map_set_rd (by omega)) ?_ | refine fO.of (map_rd (by omega)) ?_ | refine sBool.eq (like_map (by first | with_reducible assumption | omega | (simp only [List.length_set]; omega))) ?_ | refine sR.eq (by first | (simp only [Nat.add_zero, Nat.zero_add, Nat.reduceAdd, List.drop_zero, List.take_succ_cons, List.take_nil, List.drop_succ_cons, List.drop_nil, List.take_zero, List.nil_append, List.append_nil, List.map_nil, drop_suf, take_pre, drop_map, List.take_length, take_len_set, take_len_app, List.set_set, List.length_map, rep_rKept, marks_take, set_rKept, set_rIns, rep_rIns, set_rEvent, rep_rEvent, snoc_rKept, snoc_rEvent, snoc_rIns, bytesT_bs, snoc_rI, snoc_rB, snoc_rBool, set_rI, set_rBool, rep_rI, rep_rBool, map_app]; rfl) | rfl) ?_ | refine fB.of (wide_map (fun _ => rfl) _) ?_ | refine fB.of (full_map (fun _ => rfl) _) ?_ | refine fB.of (full_map (fun x => full_rKept x) _) ?_ | refine fB.of (by first | rfl | (simp only [full_map, wide_map]; done)) ?_)) <;> (try (conv => whnf)))

theorem restoreSt_len (l : List Ins) (es : List Event) (ks : List Kept) (n : Int) : (restoreSt l es ks n).regs.length ≤ 4 ∧ (restoreSt l es ks n).out.length ≤ 60 := by
  unfold restoreSt
  split
  · exact stOf_len _ _
  · exact ⟨Nat.zero_le _, Nat.zero_le _⟩
theorem wts_wKept (ks : List Kept) : wts wKept ks = 3 * ks.length + wts wS ks := by
  induction ks with
  | nil => rfl
  | cons x ks ih => simp only [wts, ih, wKept, wS, List.length_cons]; omega
set_option maxHeartbeats 8000000 in
theorem ok_laws_FnExactRestore (k : Nat) (l : List Ins) (es : List Event) (ks : List Kept) (n : Int) (hl : l.length ≤ 140737488355328) (he : es.length ≤ 140737488355328) (hk : ks.length ≤ 140737488355328) (hx : ∀ j : Nat, j < ks.length → (rd ks j).s.regs.length ≤ 140737488355328 ∧ (rd ks j).s.out.length ≤ 140737488355328) :
    callE PR C (k + 13) 8 [hIns 0 l, hEvent 1 es, hKept 2 ks, i64 n] [tIns l, tEvent es, tKept ks] = some ⟨bl true, [], [none, none, none]⟩ := by
  have hs1 := fun k => ok_laws_szInsS k l 1048576 (by omega) (by omega) hl
  by_cases c1 : left 1048576 l.length < 0
  · (refine callE_is (callE_w [ResultVar.tmp 8] rfl Try.func8 rfl (by decide +kernel) rfl (by simp) ?_); (conv => whnf))
    repeat' ((with_reducible (first | refine sCall.of (hs1 _) ?_ | refine fG.pos (by first | with_reducible assumption | omega) ?_ | refine fG.neg (by first | with_reducible assumption | omega) ?_ | refine fG.split (fun _ => ?_) (fun _ => ?_) | refine fG.not ?_ | refine fG.yes (by with_reducible assumption) ?_ | refine fG.no (by with_reducible assumption) ?_ | refine fG.yes (flat_map (fun _ => rfl) _) ?_ | refine fG.bool (fun _ => ?_) (fun _ => ?_) | refine sW.i64 (by omega) ?_ | refine sW.u8 (by omega) ?_ | refine sI.mk (by first | with_reducible assumption | omega | (simp only [Nat.zero_add, Nat.add_zero, Nat.sub_zero, Int.toNat_natCast, Int.toNat_zero, Int.toNat_one, List.length_map, List.length_nil, Int.reduceToNat, Nat.reduceAdd, Nat.reduceSub, Int.sub_zero, Int.reduceAdd, Int.reduceSub, Nat.sub_self, Int.toNat_natCast_add_one, marks_len, bs_len, List.length_append, List.length_cons, List.length_set, List.length_replicate, List.length_range]; first | done | omega)) ?_ | refine fE.of rfl ?_ | refine fB.of (Nat.beq_refl _) ?_ | refine sN.eq (by first | (simp only [Nat.zero_add, Nat.add_zero, Nat.sub_zero, Int.toNat_natCast, Int.toNat_zero, Int.toNat_one, List.length_map, List.length_nil, Int.reduceToNat, Nat.reduceAdd, Nat.reduceSub, Int.sub_zero, Int.reduceAdd, Int.reduceSub, Nat.sub_self, Int.toNat_natCast_add_one, marks_len, bs_len]; rfl) | rfl) ?_ | refine fO.of (map_set_rd (by omega)) ?_ | refine fO.of (map_rd (by omega)) ?_ | refine sBool.eq (like_map (by first | with_reducible assumption | omega | (simp only [List.length_set]; omega))) ?_ | refine sR.eq (by first | (simp only [Nat.add_zero, Nat.zero_add, Nat.reduceAdd, List.drop_zero, List.take_succ_cons, List.take_nil, List.drop_succ_cons, List.drop_nil, List.take_zero, List.nil_append, List.append_nil, List.map_nil, drop_suf, take_pre, drop_map, List.take_length, take_len_set, take_len_app, List.set_set, List.length_map, rep_rKept, marks_take, set_rKept, set_rIns, rep_rIns, set_rEvent, rep_rEvent, snoc_rKept, snoc_rEvent, snoc_rIns, bytesT_bs, snoc_rI, snoc_rB, snoc_rBool, set_rI, set_rBool, rep_rI, rep_rBool, map_app]; rfl) | rfl) ?_ | refine fB.of (wide_map (fun _ => rfl) _) ?_ | refine fB.of (full_map (fun _ => rfl) _) ?_ | refine fB.of (full_map (fun x => full_rKept x) _) ?_ | refine fB.of (by first | rfl | (simp only [full_map, wide_map]; done)) ?_)) <;> (try (conv => whnf)))
  · obtain ⟨c2, c3⟩ := left_pos c1
    have hs2 := fun k => ok_laws_szEventS k es (left 1048576 l.length) (by omega) (by omega) he
    by_cases c4 : left (left 1048576 l.length) es.length < 0
    · (refine callE_is (callE_w [ResultVar.tmp 8] rfl Try.func8 rfl (by decide +kernel) rfl (by simp) ?_); (conv => whnf))
      repeat' ((with_reducible (first | refine sCall.of (hs1 _) ?_ | refine sCall.of (hs2 _) ?_ | refine fG.pos (by first | with_reducible assumption | omega) ?_ | refine fG.neg (by first | with_reducible assumption | omega) ?_ | refine fG.split (fun _ => ?_) (fun _ => ?_) | refine fG.not ?_ | refine fG.yes (by with_reducible assumption) ?_ | refine fG.no (by with_reducible assumption) ?_ | refine fG.yes (flat_map (fun _ => rfl) _) ?_ | refine fG.bool (fun _ => ?_) (fun _ => ?_) | refine sW.i64 (by omega) ?_ | refine sW.u8 (by omega) ?_ | refine sI.mk (by first | with_reducible assumption | omega | (simp only [Nat.zero_add, Nat.add_zero, Nat.sub_zero, Int.toNat_natCast, Int.toNat_zero, Int.toNat_one, List.length_map, List.length_nil, Int.reduceToNat, Nat.reduceAdd, Nat.reduceSub, Int.sub_zero, Int.reduceAdd, Int.reduceSub, Nat.sub_self, Int.toNat_natCast_add_one, marks_len, bs_len, List.length_append, List.length_cons, List.length_set, List.length_replicate, List.length_range]; first | done | omega)) ?_ | refine fE.of rfl ?_ | refine fB.of (Nat.beq_refl _) ?_ | refine sN.eq (by first | (simp only [Nat.zero_add, Nat.add_zero, Nat.sub_zero, Int.toNat_natCast, Int.toNat_zero, Int.toNat_one, List.length_map, List.length_nil, Int.reduceToNat, Nat.reduceAdd, Nat.reduceSub, Int.sub_zero, Int.reduceAdd, Int.reduceSub, Nat.sub_self, Int.toNat_natCast_add_one, marks_len, bs_len]; rfl) | rfl) ?_ | refine fO.of (map_set_rd (by omega)) ?_ | refine fO.of (map_rd (by omega)) ?_ | refine sBool.eq (like_map (by first | with_reducible assumption | omega | (simp only [List.length_set]; omega))) ?_ | refine sR.eq (by first | (simp only [Nat.add_zero, Nat.zero_add, Nat.reduceAdd, List.drop_zero, List.take_succ_cons, List.take_nil, List.drop_succ_cons, List.drop_nil, List.take_zero, List.nil_append, List.append_nil, List.map_nil, drop_suf, take_pre, drop_map, List.take_length, take_len_set, take_len_app, List.set_set, List.length_map, rep_rKept, marks_take, set_rKept, set_rIns, rep_rIns, set_rEvent, rep_rEvent, snoc_rKept, snoc_rEvent, snoc_rIns, bytesT_bs, snoc_rI, snoc_rB, snoc_rBool, set_rI, set_rBool, rep_rI, rep_rBool, map_app]; rfl) | rfl) ?_ | refine fB.of (wide_map (fun _ => rfl) _) ?_ | refine fB.of (full_map (fun _ => rfl) _) ?_ | refine fB.of (full_map (fun x => full_rKept x) _) ?_ | refine fB.of (by first | rfl | (simp only [full_map, wide_map]; done)) ?_)) <;> (try (conv => whnf)))
    · obtain ⟨c5, c6⟩ := left_pos c4
      have hs3 := fun k => ok_laws_szKeptS k ks (left (left 1048576 l.length) es.length) (by omega) (by omega) hk hx
      by_cases c7 : left (left (left 1048576 l.length) es.length) (ks.length + wts wS ks : Nat) < 0
      · (refine callE_is (callE_w [ResultVar.tmp 8] rfl Try.func8 rfl (by decide +kernel) rfl (by simp) ?_); (conv => whnf))
        repeat' ((with_reducible (first | refine sCall.of (hs1 _) ?_ | refine sCall.of (hs2 _) ?_ | refine sCall.of (hs3 _) ?_ | refine fG.pos (by first | with_reducible assumption | omega) ?_ | refine fG.neg (by first | with_reducible assumption | omega) ?_ | refine fG.split (fun _ => ?_) (fun _ => ?_) | refine fG.not ?_ | refine fG.yes (by with_reducible assumption) ?_ | refine fG.no (by with_reducible assumption) ?_ | refine fG.yes (flat_map (fun _ => rfl) _) ?_ | refine fG.bool (fun _ => ?_) (fun _ => ?_) | refine sW.i64 (by omega) ?_ | refine sW.u8 (by omega) ?_ | refine sI.mk (by first | with_reducible assumption | omega | (simp only [Nat.zero_add, Nat.add_zero, Nat.sub_zero, Int.toNat_natCast, Int.toNat_zero, Int.toNat_one, List.length_map, List.length_nil, Int.reduceToNat, Nat.reduceAdd, Nat.reduceSub, Int.sub_zero, Int.reduceAdd, Int.reduceSub, Nat.sub_self, Int.toNat_natCast_add_one, marks_len, bs_len, List.length_append, List.length_cons, List.length_set, List.length_replicate, List.length_range]; first | done | omega)) ?_ | refine fE.of rfl ?_ | refine fB.of (Nat.beq_refl _) ?_ | refine sN.eq (by first | (simp only [Nat.zero_add, Nat.add_zero, Nat.sub_zero, Int.toNat_natCast, Int.toNat_zero, Int.toNat_one, List.length_map, List.length_nil, Int.reduceToNat, Nat.reduceAdd, Nat.reduceSub, Int.sub_zero, Int.reduceAdd, Int.reduceSub, Nat.sub_self, Int.toNat_natCast_add_one, marks_len, bs_len]; rfl) | rfl) ?_ | refine fO.of (map_set_rd (by omega)) ?_ | refine fO.of (map_rd (by omega)) ?_ | refine sBool.eq (like_map (by first | with_reducible assumption | omega | (simp only [List.length_set]; omega))) ?_ | refine sR.eq (by first | (simp only [Nat.add_zero, Nat.zero_add, Nat.reduceAdd, List.drop_zero, List.take_succ_cons, List.take_nil, List.drop_succ_cons, List.drop_nil, List.take_zero, List.nil_append, List.append_nil, List.map_nil, drop_suf, take_pre, drop_map, List.take_length, take_len_set, take_len_app, List.set_set, List.length_map, rep_rKept, marks_take, set_rKept, set_rIns, rep_rIns, set_rEvent, rep_rEvent, snoc_rKept, snoc_rEvent, snoc_rIns, bytesT_bs, snoc_rI, snoc_rB, snoc_rBool, set_rI, set_rBool, rep_rI, rep_rBool, map_app]; rfl) | rfl) ?_ | refine fB.of (wide_map (fun _ => rfl) _) ?_ | refine fB.of (full_map (fun _ => rfl) _) ?_ | refine fB.of (full_map (fun x => full_rKept x) _) ?_ | refine fB.of (by first | rfl | (simp only [full_map, wide_map]; done)) ?_)) <;> (try (conv => whnf)))
      · obtain ⟨c8, c9⟩ := left_pos c7
        have hl' : l.length ≤ 100000000000 := by omega
        have he' : es.length ≤ 100000000000 := by omega
        have hk' : ks.length ≤ 100000000000 := by omega
        have hx' : ∀ j : Nat, j < ks.length → (rd ks j).s.regs.length ≤ 100000000000 ∧ (rd ks j).s.out.length ≤ 100000000000 := fun j hj => by
          have := wts_one wS ks j hj
          simp only [wS] at this
          constructor <;> omega
        have q1 := fun k => ok_laws_toInsS k l hl'
        have q2 := fun k => ok_laws_toEventS k es he'
        have q3 := fun k => ok_laws_toKeptS k ks hk' hx'
        have q4 := fun k => ok_spec_Restore k l es ks n hl' he' ⟨hk', hx'⟩
        have q5 := fun k => ok_impl_Restore k l es ks n hl' he' ⟨hk', hx'⟩
        have q6 := fun k => ok_laws_eqInsS k l hl'
        have q7 := fun k => ok_laws_eqEventS k es he'
        have q8 := fun k => ok_laws_eqKeptS k ks hk' hx'
        have hb := restoreSt_len l es ks n
        have hb1 := hb.1
        have hb2 := hb.2
        have hw1 : wts wKept ks ≤ 4194304 := by
          have := wts_wKept ks
          omega
        have q9 := fun k => ok_laws_eqState k (restoreSt l es ks n).at_ (restoreSt l es ks n).code (restoreSt l es ks n).regs (restoreSt l es ks n).out (by omega) (by omega)
        have q10 := fun k => ok_laws_markInsS k l 1 hl' (by omega) (by omega)
        have q11 := fun k => ok_laws_markEventS k es (1 + 5 * l.length) he' (by omega) (by omega)
        have q12 := fun k => ok_laws_markKeptS k ks (1 + 5 * l.length + 3 * es.length) hk' (by omega) (by omega) (fun j hj => by have := wts_one wS ks j hj; simp only [wS] at this; constructor <;> omega)
        have q13 := fun k => ok_laws_markState k (restoreSt l es ks n).at_ (restoreSt l es ks n).code (restoreSt l es ks n).regs (restoreSt l es ks n).out 1 (by omega) (by omega) (by omega) (by omega)
        have q14 := fun k => ok_laws_heldState k (restoreSt l es ks n).at_ (restoreSt l es ks n).code (restoreSt l es ks n).regs (restoreSt l es ks n).out 1 (by omega) (by omega) (by omega) (by omega)
        simp only [aState, marksI_len] at q14
        clear hx hx'
        (refine callE_is (callE_w [ResultVar.tmp 8] rfl Try.func8 rfl (by decide +kernel) rfl (by simp) ?_); (conv => whnf))
        repeat' ((with_reducible (first | refine sCall.of (hs1 _) ?_ | refine sCall.of (hs2 _) ?_ | refine sCall.of (hs3 _) ?_ | refine sCall.of (q1 _) ?_ | refine sCall.of (q2 _) ?_ | refine sCall.of (q3 _) ?_ | refine sCall.of (q4 _) ?_ | refine sCall.of (q5 _) ?_ | refine sCall.of (q6 _) ?_ | refine sCall.of (q7 _) ?_ | refine sCall.of (q8 _) ?_ | refine sCall.of (q9 _) ?_ | refine sCall.of (q10 _) ?_ | refine sCall.of (q11 _) ?_ | refine sCall.of (q12 _) ?_ | refine sCall.of (q13 _) ?_ | refine sCall.of (q14 _) ?_ | refine fG.pos (by first | with_reducible assumption | omega) ?_ | refine fG.neg (by first | with_reducible assumption | omega) ?_ | refine fG.split (fun _ => ?_) (fun _ => ?_) | refine fG.not ?_ | refine fG.yes (by with_reducible assumption) ?_ | refine fG.no (by with_reducible assumption) ?_ | refine fG.yes (flat_map (fun _ => rfl) _) ?_ | refine fG.bool (fun _ => ?_) (fun _ => ?_) | refine sW.i64 (by omega) ?_ | refine sW.u8 (by omega) ?_ | refine sI.mk (by first | with_reducible assumption | omega | (simp only [Nat.zero_add, Nat.add_zero, Nat.sub_zero, Int.toNat_natCast, Int.toNat_zero, Int.toNat_one, List.length_map, List.length_nil, Int.reduceToNat, Nat.reduceAdd, Nat.reduceSub, Int.sub_zero, Int.reduceAdd, Int.reduceSub, Nat.sub_self, Int.toNat_natCast_add_one, marks_len, bs_len, List.length_append, List.length_cons, List.length_set, List.length_replicate, List.length_range]; first | done | omega)) ?_ | refine fE.of rfl ?_ | refine fB.of (Nat.beq_refl _) ?_ | refine sN.eq (by first | (simp only [Nat.zero_add, Nat.add_zero, Nat.sub_zero, Int.toNat_natCast, Int.toNat_zero, Int.toNat_one, List.length_map, List.length_nil, Int.reduceToNat, Nat.reduceAdd, Nat.reduceSub, Int.sub_zero, Int.reduceAdd, Int.reduceSub, Nat.sub_self, Int.toNat_natCast_add_one, marks_len, bs_len]; rfl) | rfl) ?_ | refine fO.of (map_set_rd (by omega)) ?_ | refine fO.of (map_rd (by omega)) ?_ | refine sBool.eq (like_map (by first | with_reducible assumption | omega | (simp only [List.length_set]; omega))) ?_ | refine sR.eq (by first | (simp only [Nat.add_zero, Nat.zero_add, Nat.reduceAdd, List.drop_zero, List.take_succ_cons, List.take_nil, List.drop_succ_cons, List.drop_nil, List.take_zero, List.nil_append, List.append_nil, List.map_nil, drop_suf, take_pre, drop_map, List.take_length, take_len_set, take_len_app, List.set_set, List.length_map, rep_rKept, marks_take, set_rKept, set_rIns, rep_rIns, set_rEvent, rep_rEvent, snoc_rKept, snoc_rEvent, snoc_rIns, bytesT_bs, snoc_rI, snoc_rB, snoc_rBool, set_rI, set_rBool, rep_rI, rep_rBool, map_app]; rfl) | rfl) ?_ | refine fB.of (wide_map (fun _ => rfl) _) ?_ | refine fB.of (full_map (fun _ => rfl) _) ?_ | refine fB.of (full_map (fun x => full_rKept x) _) ?_ | refine fB.of (by first | rfl | (simp only [full_map, wide_map]; done)) ?_)) <;> (try (conv => whnf)))

end Go.Proofs.Ytfeenmfehgljgaa.Abs
namespace Go.Proofs.Ytfeenmfehgljgaa.Abs
open Go
set_option linter.unusedVariables false

/-- What is read at a type: as many cells, each of a tree that nobody writes; the trees have the property. -/
def Opens (P : Program) (t : TypeId) (n : Nat) (M : List T → Prop) : Prop :=
  ∀ (H : Type) (enc : TypeId × Value → H) (w : World) (base : Nat) (sp : Nat → Bool) (held : Bool) (fuel : Nat) (cs : List Value) (x : DataW H × List MemPlace),
    DataW.trod enc P w base sp held fuel t cs = some x → (∀ m ∈ x.1.weights P t, m ≤ reachBytes) →
      cs.length = n ∧ ∃ ts : List T, ts.length = n ∧ M ts ∧ ∀ (i : Nat) v t', cs[i]? = some v → ts[i]? = some t' → Ow (fun k => k < w.heap.size) w 0 v t' none_
theorem Opens.mono {P : Program} {t : TypeId} {n : Nat} {M M' : List T → Prop} (h : Opens P t n M) (hm : ∀ ts, M ts → M' ts) : Opens P t n M' := by
  intro H enc w base sp held fuel cs x hx hw
  obtain ⟨h1, ts, h2, h3, h4⟩ := h H enc w base sp held fuel cs x hx hw
  exact ⟨h1, ts, h2, hm _ h3, h4⟩
theorem one_ow {w : World} {v0 : Value} {t0 : T} (h : Ow (fun k => k < w.heap.size) w 0 v0 t0 none_) : ∀ (i : Nat) v t', [v0][i]? = some v → [t0][i]? = some t' → Ow (fun k => k < w.heap.size) w 0 v t' none_ := by
  rintro (_ | i) v t' h1 h2
  · simp at h1 h2; subst h1; subst h2; exact h
  · simp at h1
theorem Opens.int {P : Program} {t : TypeId} {k : IntKind} (ht : P.underlying t = some (.int k)) : Opens P t 1 (fun ts => ∃ n, (Lit.int k n).wf = true ∧ ts = [.v (.int k n)]) := by
  intro H enc w base sp held fuel cs x hx hw
  obtain ⟨n, rfl, rfl, h⟩ := DataW.trod_int ht hx
  exact ⟨rfl, _, rfl, ⟨n, h, rfl⟩, one_ow (.v rfl)⟩
theorem Opens.bool {P : Program} {t : TypeId} (ht : P.underlying t = some .bool) : Opens P t 1 (fun ts => ∃ b, ts = [.v (.bool b)]) := by
  intro H enc w base sp held fuel cs x hx hw
  obtain ⟨b, rfl, rfl⟩ := DataW.trod_bool ht hx
  exact ⟨rfl, _, rfl, ⟨b, rfl⟩, one_ow (.v rfl)⟩
theorem Opens.str {P : Program} {t : TypeId} (ht : P.underlying t = some .string) : Opens P t 1 (fun ts => ∃ s : ByteArray, s.size ≤ reachBytes ∧ ts = [.v (.string s)]) := by
  intro H enc w base sp held fuel cs x hx hw
  obtain ⟨s, rfl, rfl, h⟩ := DataW.trod_string ht hx
  refine ⟨rfl, _, rfl, ⟨s, ?_, rfl⟩, one_ow (.v rfl)⟩
  have := hw s.data.toList.length (by simp [DataW.weights])
  simpa using this
/-- The parts of a struct, from a place on. -/
def Parts (P : Program) : List Field → Nat → Nat → (List T → Prop) → Prop
  | [], _, n, M => n = 0 ∧ M []
  | f :: r, off, n, M => f.offset = off ∧ ∃ n1 n2 M1 M2, P.cellsOf f.type = n1 ∧ Opens P f.type n1 M1 ∧ Parts P r (off + n1) n2 M2 ∧ n = n1 + n2 ∧ ∀ a b, M1 a → M2 b → M (a ++ b)
theorem weights_part {P : Program} {H : Type} {ts : List TypeId} : ∀ {ds : List (DataW H)} {R : Nat}, (∀ m ∈ DataW.weightsEach P ts ds, m ≤ R) → ∀ (j : Nat) t d, ts[j]? = some t → ds[j]? = some d → ∀ m ∈ d.weights P t, m ≤ R :=
  fun h j t d ht hd m hm => h m (DataW.weights_mem_each ht hd m hm)
theorem Parts.opens {P : Program} {H : Type} {enc : TypeId × Value → H} {w : World} {base : Nat} {sp : Nat → Bool} {held : Bool} {fuel : Nat} {cs : List Value} : ∀ {fs : List Field} {off n : Nat} {M : List T → Prop}, Parts P fs off n M → off + n = cs.length →
    (∀ f ∈ fs, ∃ x, DataW.trod enc P w base sp held fuel f.type ((cs.drop f.offset).take (P.cellsOf f.type)) = some x ∧ (∀ m ∈ x.1.weights P f.type, m ≤ reachBytes)) →
    ∃ ts : List T, ts.length = n ∧ M ts ∧ ∀ (i : Nat) v t', cs[off + i]? = some v → ts[i]? = some t' → Ow (fun k => k < w.heap.size) w 0 v t' none_ := by
  intro fs
  induction fs with
  | nil =>
    intro off n M h hl _
    exact ⟨[], h.1.symm, h.2, fun i v t' _ h2 => by simp at h2⟩
  | cons f r ih =>
    intro off n M h hl hx
    obtain ⟨rfl, n1, n2, M1, M2, h1, h2, h3, rfl, h4⟩ := h
    obtain ⟨x, hx1, hx2⟩ := hx f (by simp)
    rw [h1] at hx1
    obtain ⟨k1, t1, k2, k3, k4⟩ := h2 H enc w base sp held fuel _ x hx1 hx2
    obtain ⟨t2, q1, q2, q3⟩ := ih h3 (by omega) fun g hg => hx g (by simp [hg])
    refine ⟨t1 ++ t2, by simp [k2, q1], h4 _ _ k3 q2, fun i v t' hv ht' => ?_⟩
    by_cases hi : i < n1
    · rw [List.getElem?_append_left (by omega)] at ht'
      exact k4 i v t' (by rw [List.getElem?_take, if_pos hi, List.getElem?_drop]; exact hv) ht'
    · rw [List.getElem?_append_right (by omega), k2] at ht'
      exact q3 (i - n1) v t' (by rw [show f.offset + n1 + (i - n1) = f.offset + i by omega]; exact hv) ht'
theorem Opens.struct {P : Program} {t : TypeId} {fs : Array Field} {n : Nat} {M : List T → Prop} (ht : P.underlying t = some (.struct fs)) (hc : P.cellsOf t = n) (hp : Parts P fs.toList 0 n M) : Opens P t n M := by
  intro H enc w base sp held fuel cs x hx hw
  obtain ⟨xs, m, _, rfl, hl, hlen, hf⟩ := DataW.trod_struct ht hx
  have hl' : cs.length = n := hl.trans hc
  obtain ⟨ts, h1, h2, h3⟩ := hp.opens (enc := enc) (w := w) (base := base) (sp := sp) (held := held) (fuel := m) (cs := cs) (by omega) (by
    intro f hfm
    obtain ⟨i, hi⟩ := List.getElem?_of_mem hfm
    have hi' : fs[i]? = some f := by simpa using hi
    have hlt : i < xs.length := by rw [hlen]; exact (Array.getElem?_eq_some_iff.1 hi').1
    have hy : xs[i]? = some xs[i] := List.getElem?_eq_getElem hlt
    refine ⟨xs[i], (hf i f hi').trans hy, ?_⟩
    refine weights_part (ts := fs.toList.map (·.type)) (ds := xs.map (·.1)) ?_ i f.type xs[i].1 (by simp [hi']) (by rw [List.getElem?_map, hy]; rfl)
    intro q hq
    refine hw q ?_
    simpa [DataW.weights, ht] using hq)
  exact ⟨hl', ts, h1, h2, fun i v t' hv ht' => h3 i v t' (by simpa using hv) ht'⟩
/-- As many whole numbers. -/
def IntsM (n : Nat) (ts : List T) : Prop := ∃ zs : List Int, zs.length = n ∧ ts = zs.map fun z => T.v (.int .i64 z)
theorem Parts.nil {P : Program} {off : Nat} : Parts P [] off 0 (IntsM 0) := ⟨rfl, [], rfl, rfl⟩
theorem Parts.int {P : Program} {f : Field} {r : List Field} {off n : Nat} (ho : f.offset = off) (hc : P.cellsOf f.type = 1) (ht : P.underlying f.type = some (.int .i64)) (h : Parts P r (off + 1) n (IntsM n)) :
    Parts P (f :: r) off (1 + n) (IntsM (1 + n)) := by
  refine ⟨ho, 1, n, _, _, hc, Opens.int ht, h, rfl, ?_⟩
  rintro a b ⟨z, _, rfl⟩ ⟨zs, hz, rfl⟩
  exact ⟨z :: zs, by simp [hz]; omega, rfl⟩
/-- Parts, each of a kind. -/
def Ms : List (List T → Prop) → List T → Prop
  | [], ts => ts = []
  | M :: r, ts => ∃ a b, ts = a ++ b ∧ M a ∧ Ms r b
theorem Parts.mnil {P : Program} {off : Nat} : Parts P [] off 0 (Ms []) := ⟨rfl, rfl⟩
theorem Parts.mcons {P : Program} {f : Field} {r : List Field} {off n1 n : Nat} {M : List T → Prop} {l : List (List T → Prop)} (ho : f.offset = off) (hc : P.cellsOf f.type = n1) (ht : Opens P f.type n1 M) (h : Parts P r (off + n1) n (Ms l)) :
    Parts P (f :: r) off (n1 + n) (Ms (M :: l)) :=
  ⟨ho, n1, n, _, _, hc, ht, h, rfl, fun a b ha hb => ⟨a, b, rfl, ha, hb⟩⟩

/-- Rows of a kind are a list's. -/
theorem rows_map {α : Type} {f : α → List T} {p : α → Prop} {rows : List (List T)} (h : ∀ r ∈ rows, ∃ x, p x ∧ r = f x) : ∃ l : List α, rows = l.map f ∧ ∀ x ∈ l, p x := by
  induction rows with
  | nil => exact ⟨[], rfl, by simp⟩
  | cons r rows ih =>
    obtain ⟨x, hx, rfl⟩ := h r (by simp)
    obtain ⟨l, rfl, hl⟩ := ih fun q hq => h q (by simp [hq])
    exact ⟨x :: l, rfl, by simpa using ⟨hx, hl⟩⟩
theorem weights_all {P : Program} {H : Type} {e : TypeId} {d : DataW H} : ∀ {l : List (DataW H)}, d ∈ l → ∀ m ∈ d.weights P e, m ∈ DataW.weightsAll P e l
  | a :: r, hd, m, hm => by
    simp only [DataW.weightsAll, List.mem_append]
    rcases List.mem_cons.1 hd with rfl | hd
    · exact .inl hm
    · exact .inr (weights_all hd m hm)
/-- A slice. -/
theorem Opens.slice {P : Program} {t e : TypeId} {sz B : Nat} {M : List T → Prop} (ht : P.underlying t = some (.slice e)) (hc : P.cellsOf e = sz) (hB : P.bytesOf e = B) (hsz : 0 < sz) (hE : Opens P e sz M) :
    Opens P t 1 (fun ts => ∃ rows, ts = [.sl sz rows] ∧ (∀ x ∈ rows, M x) ∧ rows.length * B ≤ reachBytes) := by
  intro H enc w base sp held fuel cs0 x hx hw
  rcases DataW.trod_slice ht hx with ⟨rfl, _⟩ | ⟨a, len, cap, elems, rest, n, _, rfl, rfl, _, hl, _, hlen, hel, _⟩
  · exact ⟨rfl, _, rfl, ⟨[], rfl, by simp, by simp⟩, one_ow .nil⟩
  · have hw1 : (elems.length + rest.length) * B ≤ reachBytes := by
      have := hw ((elems.length + rest.length) * P.bytesOf e) (by simp [DataW.weights, ht])
      rwa [hB] at this
    have hcell : ∀ i : Nat, ∃ q : List Value × List T, i < len → q.1.length = sz ∧ q.2.length = sz ∧ M q.2 ∧ (∀ j, j < sz → w.cell? ((a.add (i * sz)).add j) = q.1[j]?) ∧
        ∀ (j : Nat) v t', q.1[j]? = some v → q.2[j]? = some t' → Ow (fun k => k < w.heap.size) w 0 v t' none_ := by
      intro i
      by_cases hi : i < len
      · have hy : elems[i]? = some (elems[i]'(by omega)) := List.getElem?_eq_getElem (by omega)
        have h1 := hel i hi
        rw [hy, hc, Option.bind_eq_some_iff] at h1
        obtain ⟨cs, hcs, htr⟩ := h1
        obtain ⟨k1, ts, k2, k3, k4⟩ := hE H enc w base sp held n cs _ htr (by
          intro m hm
          refine hw m ?_
          have := weights_all (P := P) (e := e) (l := elems.map (·.1)) (List.mem_map_of_mem (List.getElem_mem (by omega : i < elems.length))) m hm
          simp [DataW.weights, ht, this])
        obtain ⟨_, g1, g2⟩ := World.cells?_some hcs
        exact ⟨(cs, ts), fun _ => ⟨k1, k2, k3, g2, k4⟩⟩
      · exact ⟨([], []), fun h => absurd h hi⟩
    obtain ⟨c, hc2⟩ := Classical.axiomOfChoice hcell
    have hblk : 0 < len → a.block < w.heap.size := by
      intro h0
      obtain ⟨k1, k2, k3, k4, k5⟩ := hc2 0 h0
      have h1 := k4 0 hsz
      have h2 : (c 0).1[0]? = some ((c 0).1[0]'(by omega)) := List.getElem?_eq_getElem (by omega)
      rw [h2] at h1
      by_cases hlt : a.block < w.heap.size
      · exact hlt
      · unfold World.cell? at h1
        rw [add_block, add_block, Array.getElem?_eq_none (by omega)] at h1
        simp at h1
    have hat : ∀ i j t', cellT ((List.range len).map fun i => (c i).2) i j = some t' → i < len ∧ (c i).2[j]? = some t' := by
      intro i j t' h'
      unfold cellT at h'
      rw [List.getElem?_map] at h'
      by_cases hi : i < len
      · have hr : (List.range len)[i]? = some i := by simp [hi]
        rw [hr] at h'
        exact ⟨hi, by simpa using h'⟩
      · have hr : (List.range len)[i]? = none := by simp; omega
        rw [hr] at h'
        simp at h'
    refine ⟨rfl, [.sl sz ((List.range len).map fun i => (c i).2)], rfl, ⟨_, rfl, ?_, ?_⟩, one_ow ?_⟩
    · intro x hx
      obtain ⟨i, hi, rfl⟩ := List.mem_map.1 hx
      exact (hc2 i (List.mem_range.1 hi)).2.2.1
    · rw [List.length_map, List.length_range]
      exact Nat.le_trans (Nat.mul_le_mul_right _ (by omega)) hw1
    · have hro := Ow.ro (Z := fun k => k < w.heap.size) (w := w) (a := a) (c := cap) (rows := (List.range len).map fun i => (c i).2) (sz := sz) (fun i j => (c i).1.getD j undef) (by simpa using hl)
        (by
          intro r hr
          obtain ⟨i, hi, rfl⟩ := List.mem_map.1 hr
          exact (hc2 i (List.mem_range.1 hi)).2.1) (fun hne => hblk (by
            rcases Nat.eq_zero_or_pos len with h0 | h0
            · subst h0; exact absurd rfl hne
            · exact h0))
        (by
          intro i j t' h'
          obtain ⟨hi, hj⟩ := hat i j t' h'
          obtain ⟨k1, k2, k3, k4, k5⟩ := hc2 i hi
          have hj' : j < sz := by rw [← k2]; exact (List.getElem?_eq_some_iff.1 hj).1
          rw [← Addr.add_add, k4 j hj', List.getElem?_eq_getElem (by omega)]
          simp [List.getD, show j < (c i).1.length by omega])
        (by
          intro i j t' h'
          obtain ⟨hi, hj⟩ := hat i j t' h'
          obtain ⟨k1, k2, k3, k4, k5⟩ := hc2 i hi
          have hj' : j < sz := by rw [← k2]; exact (List.getElem?_eq_some_iff.1 hj).1
          refine k5 j _ t' ?_ hj
          rw [List.getElem?_eq_getElem (by omega)]
          simp [List.getD, show j < (c i).1.length by omega])
      simpa using hro
/-- An argument of one cell. -/
theorem Opens.one {P : Program} {t : TypeId} {M : List T → Prop} (h : Opens P t 1 M) {H : Type} {enc : TypeId × Value → H} {w : World} {base : Nat} {sp : Nat → Bool} {held : Bool} {v : Value} {d : DataW H} {ps : List MemPlace}
    (hv : v.cells.toList = [v]) (hd : DataW.Trod enc P w base sp held t v d ps) (hw : ∀ m ∈ d.weights P t, m ≤ reachBytes) : ∃ t', M [t'] ∧ Ow (fun k => k < w.heap.size) w 0 v t' none_ := by
  obtain ⟨fuel, hf⟩ := hd
  rw [hv] at hf
  obtain ⟨_, ts, h1, h2, h3⟩ := h H enc w base sp held fuel _ _ hf hw
  obtain ⟨t', rfl⟩ := List.length_eq_one_iff.1 h1
  exact ⟨t', h2, h3 0 v t' rfl rfl⟩
end Go.Proofs.Ytfeenmfehgljgaa.Abs
namespace Go.Proofs.Ytfeenmfehgljgaa.Abs
open Go Go.RowKit
set_option linter.unusedVariables false

theorem Ow.slice_inv {Z : Fp} {w : World} {v : Value} {sz : Nat} {rows : List (List T)} {F : Fp} {l : Nat} (h : Ow Z w l v (.sl sz rows) F) :
    (v = .slice none 0 0 ∧ rows = []) ∨ ∃ a c, v = .slice (some a) rows.length c ∧ rows.length ≤ c := by
  cases h with
  | nil => exact .inl ⟨rfl, rfl⟩
  | ro xs hc hs hz hx ht => exact .inr ⟨_, _, rfl, hc⟩
  | own xs F hb hfr hc hoff hmax hs hx ht hF hnb hd => exact .inr ⟨_, _, rfl, hc⟩
theorem arg_slice {Z : Fp} {w : World} {ob : Objs} {ρ : Nat → Value} {o sz : Nat} {rows : List (List T)} {v : Value} (h1 : ob o = ⟨0, 0, false, .tree 0 (.sl sz rows)⟩) (h2 : ρ o = v) (h3 : Ow Z w 0 v (.sl sz rows) none_) :
    AVR w ob ρ (.h o 0 0 [] sz 0 rows.length) v := by
  have hin := h3.slice_inv
  refine .h ?_ ?_ fun _ => ?_
  · rw [h1]; exact ⟨Nat.le_refl _, fun _ h => absurd rfl h⟩
  · rcases hin with ⟨rfl, rfl⟩ | ⟨a, c, rfl, hc⟩
    · exact ⟨none, 0, rfl, Nat.le_refl _, fun _ => rfl⟩
    · exact ⟨some a, c, rfl, hc, fun h => by cases h⟩
  · rw [h1, h2]
    refine ⟨fun cells h => by (dsimp only at h; cases h), fun lvl t hc => ?_⟩
    dsimp only at hc
    cases hc
    refine ⟨v, rows, .here, by omega, ?_⟩
    rcases hin with ⟨rfl, rfl⟩ | ⟨a, c, rfl, hc⟩
    · exact .inl ⟨rfl, rfl, rfl, rfl⟩
    · refine .inr ⟨a, rows.length, c, 0, c, rfl, ?_, hc, by omega, Nat.le_refl _, fun _ => rfl⟩
      rw [Nat.zero_mul]
      cases a with
      | mk b off s => cases s <;> simp [Addr.add]
/-- A call from the outside. -/
theorem FnOk.outside {P : Program} {W : World} {f : FuncId} {args : List AV} {conts : List Cont} {r : Res} (h : FnOk P f args conts r) (vals : List Value)
    (ho : ∀ (i : Nat) c, conts[i]? = some c → ∃ t v, c = .tree 0 t ∧ vals[i]? = some v ∧ Ow (fun k => k < W.heap.size) W 0 v t none_) (vs : Array Value) (hs : vs.size = args.length)
    (hA : ∀ (i : Nat) x, args[i]? = some x → AVR W (obIn conts) (fun o => vals.getD (o - 1000000) undef) x (vs.getD i undef)) :
    Calls P f vs W (fun e w' => ∃ v, e = .returned v ∧ Below W.heap.size W w' ∧ ∃ ob' ρ', AVR w' ob' ρ' r.v v) := by
  have hI : OInv W none_ (obIn conts) W (fun o => vals.getD (o - 1000000) undef) (fun _ => none_) (fun k => k < W.heap.size) := by
    refine ⟨Keep.refl _ _, fun k hk _ => hk, fun k hk => hk, fun o k hk => hk.elim, fun o o' k hk => hk.elim, fun o k hk => hk.elim, fun o => ?_⟩
    unfold ObOk
    by_cases h1 : 1000000 ≤ o
    · simp only [obIn, h1, if_true]
      cases hc : conts[o - 1000000]? with
      | none =>
        have e : conts.getD (o - 1000000) .dead = .dead := by simp [List.getD, hc]
        rw [e]
        exact fun k hk => hk
      | some c =>
        obtain ⟨t, v, rfl, hv, how⟩ := ho _ _ hc
        have e : conts.getD (o - 1000000) .dead = .tree 0 t := by simp [List.getD, hc]
        have e2 : vals.getD (o - 1000000) undef = v := by simp [List.getD, hv]
        rw [e, e2]
        exact how
    · simp only [obIn, h1, if_false]
      exact fun k hk => hk
  have hr := h.run W none_ _ _ _ vs hI (fun k _ hk => hk) hs hA
  intro cs
  obtain ⟨e, w', fr, hR, hC, hfn, hl⟩ := hr cs
  refine ⟨e, w', fr, ?_, hC, hfn, hl⟩
  cases e with
  | returned v =>
    obtain ⟨ρ', φ', Z', hst, hav⟩ := hR
    exact ⟨v, rfl, ⟨hst.inv.keep.os, hst.inv.keep.tape, hst.inv.keep.output, hst.inv.keep.size, fun k hk => hst.inv.keep.block k hk id⟩, _, _, hav⟩
  | _ => exact hR.elim
theorem AVR.bool_inv {w : World} {ob : Objs} {ρ : Nat → Value} {b : Bool} {v : Value} (h : AVR w ob ρ (.s (.bool b)) v) : v = .bool b := by
  cases h; rfl
end Go.Proofs.Ytfeenmfehgljgaa.Abs
namespace Go.Proofs.Ytfeenmfehgljgaa.Abs
open Go Go.Proofs Go.RowKit
set_option linter.unusedVariables false
set_option linter.unusedSimpArgs false
attribute [local irreducible] callE
theorem ints_Ins {ts : List T} (h : IntsM 5 ts) : ∃ x : Ins, True ∧ ts = rIns x := by
  obtain ⟨zs, hz, rfl⟩ := h
  match zs, hz with
  | [a, b, c, d, e], _ => exact ⟨⟨a, b, c, d, e⟩, trivial, rfl⟩
theorem ints_Event {ts : List T} (h : IntsM 3 ts) : ∃ x : Event, True ∧ ts = rEvent x := by
  obtain ⟨zs, hz, rfl⟩ := h
  match zs, hz with
  | [a, b, c], _ => exact ⟨⟨a, b, c⟩, trivial, rfl⟩
set_option maxRecDepth 20000 in
theorem opens_Ins : Opens Try.prog 88 5 (fun ts => ∃ x : Ins, True ∧ ts = rIns x) :=
  (Opens.struct Try.underlying88 (by kernel_rfl) (.int rfl (by kernel_rfl) Try.underlying3 (.int rfl (by kernel_rfl) Try.underlying3 (.int rfl (by kernel_rfl) Try.underlying3 (.int rfl (by kernel_rfl) Try.underlying3 (.int rfl (by kernel_rfl) Try.underlying3 .nil)))))).mono fun _ => ints_Ins
set_option maxRecDepth 20000 in
theorem opens_Event : Opens Try.prog 92 3 (fun ts => ∃ x : Event, True ∧ ts = rEvent x) :=
  (Opens.struct Try.underlying92 (by kernel_rfl) (.int rfl (by kernel_rfl) Try.underlying3 (.int rfl (by kernel_rfl) Try.underlying3 (.int rfl (by kernel_rfl) Try.underlying3 .nil)))).mono fun _ => ints_Event
set_option maxRecDepth 20000 in
theorem opens_InsS : Opens Try.prog 47 1 (fun ts => ∃ l : List Ins, l.length ≤ 140737488355328 ∧ ts = [.sl 5 (l.map rIns)]) :=
  (Opens.slice (sz := 5) (B := 40) Try.underlying47 (by kernel_rfl) (by kernel_rfl) (by decide) opens_Ins).mono fun ts h => by
    obtain ⟨rows, rfl, h1, h2⟩ := h
    obtain ⟨l, rfl, hl⟩ := rows_map h1
    rw [List.length_map] at h2
    have := reachBytes_lt
    exact ⟨l, by omega, rfl⟩
set_option maxRecDepth 20000 in
theorem open_InsS {H : Type} {enc : TypeId × Value → H} {w : World} {base : Nat} {sp : Nat → Bool} {held : Bool} {v : Value} {d : DataW H} {ps : List MemPlace} {r : Reach} {b0 : Nat}
    (hval : Value.okWide Try.prog w r b0 47 v) (h : DataW.Trod enc Try.prog w base sp held 47 v d ps) (hw : ∀ m ∈ d.weights Try.prog 47, m ≤ reachBytes) :
    ∃ l : List Ins, l.length ≤ 140737488355328 ∧ Ow (fun k => k < w.heap.size) w 0 v (.sl 5 (l.map rIns)) none_ := by
  obtain ⟨a0, len0, cap0, rfl⟩ := Go.WideShapes.okWide_slice Try.underlying47 hval
  obtain ⟨t', ⟨l, h1, h2⟩, h3⟩ := opens_InsS.one rfl h hw
  cases h2
  exact ⟨l, h1, h3⟩
set_option maxRecDepth 20000 in
theorem opens_EventS : Opens Try.prog 48 1 (fun ts => ∃ l : List Event, l.length ≤ 140737488355328 ∧ ts = [.sl 3 (l.map rEvent)]) :=
  (Opens.slice (sz := 3) (B := 24) Try.underlying48 (by kernel_rfl) (by kernel_rfl) (by decide) opens_Event).mono fun ts h => by
    obtain ⟨rows, rfl, h1, h2⟩ := h
    obtain ⟨l, rfl, hl⟩ := rows_map h1
    rw [List.length_map] at h2
    have := reachBytes_lt
    exact ⟨l, by omega, rfl⟩
set_option maxRecDepth 20000 in
theorem open_EventS {H : Type} {enc : TypeId × Value → H} {w : World} {base : Nat} {sp : Nat → Bool} {held : Bool} {v : Value} {d : DataW H} {ps : List MemPlace} {r : Reach} {b0 : Nat}
    (hval : Value.okWide Try.prog w r b0 48 v) (h : DataW.Trod enc Try.prog w base sp held 48 v d ps) (hw : ∀ m ∈ d.weights Try.prog 48, m ≤ reachBytes) :
    ∃ l : List Event, l.length ≤ 140737488355328 ∧ Ow (fun k => k < w.heap.size) w 0 v (.sl 3 (l.map rEvent)) none_ := by
  obtain ⟨a0, len0, cap0, rfl⟩ := Go.WideShapes.okWide_slice Try.underlying48 hval
  obtain ⟨t', ⟨l, h1, h2⟩, h3⟩ := opens_EventS.one rfl h hw
  cases h2
  exact ⟨l, h1, h3⟩

set_option maxRecDepth 20000 in
theorem opens_ints : Opens Try.prog 37 1 (fun ts => ∃ l : List Int, l.length ≤ 140737488355328 ∧ ts = [.sl 1 (l.map rI)]) :=
  (Opens.slice (sz := 1) (B := 8) Try.underlying37 (by kernel_rfl) (by kernel_rfl) (by decide) (Opens.int Try.underlying3)).mono fun ts h => by
    obtain ⟨rows, rfl, h1, h2⟩ := h
    obtain ⟨l, rfl, _⟩ := rows_map (f := rI) (p := fun _ => True) (fun r hr => by obtain ⟨n, _, rfl⟩ := h1 r hr; exact ⟨n, trivial, rfl⟩)
    rw [List.length_map] at h2
    have := reachBytes_lt
    exact ⟨l, by omega, rfl⟩
def rState' (x : State) : List T := [.v (.int .i64 x.at_), .sl 1 (x.regs.map rI), .sl 1 (x.out.map rI), .v (.int .i64 x.code)]
set_option maxRecDepth 20000 in
theorem opens_State : Opens Try.prog 82 4 (fun ts => ∃ x : State, (x.regs.length ≤ 140737488355328 ∧ x.out.length ≤ 140737488355328) ∧ ts = rState' x) :=
  (Opens.struct Try.underlying82 (by kernel_rfl) (.mcons rfl (by kernel_rfl) (Opens.int Try.underlying3) (.mcons rfl (by kernel_rfl) opens_ints (.mcons rfl (by kernel_rfl) opens_ints (.mcons rfl (by kernel_rfl) (Opens.int Try.underlying3) .mnil))))).mono fun ts h => by
    obtain ⟨_, _, rfl, ⟨a, _, rfl⟩, _, _, rfl, ⟨r, hr, rfl⟩, _, _, rfl, ⟨o, ho, rfl⟩, _, _, rfl, ⟨c, _, rfl⟩, rfl⟩ := h
    exact ⟨⟨a, r, o, c⟩, ⟨hr, ho⟩, rfl⟩
set_option maxRecDepth 20000 in
theorem opens_Kept : Opens Try.prog 84 5 (fun ts => ∃ x : Kept, (x.s.regs.length ≤ 140737488355328 ∧ x.s.out.length ≤ 140737488355328) ∧ ts = rKept x) :=
  (Opens.struct Try.underlying84 (by kernel_rfl) (.mcons rfl (by kernel_rfl) (Opens.int Try.underlying3) (.mcons rfl (by kernel_rfl) opens_State .mnil))).mono fun ts h => by
    obtain ⟨_, _, rfl, ⟨a, _, rfl⟩, _, _, rfl, ⟨x, hx, rfl⟩, rfl⟩ := h
    exact ⟨⟨a, x⟩, hx, rfl⟩
set_option maxRecDepth 20000 in
theorem opens_KeptS : Opens Try.prog 49 1 (fun ts => ∃ l : List Kept, (l.length ≤ 140737488355328 ∧ ∀ j : Nat, j < l.length → (rd l j).s.regs.length ≤ 140737488355328 ∧ (rd l j).s.out.length ≤ 140737488355328) ∧ ts = [.sl 5 (l.map rKept)]) :=
  (Opens.slice (sz := 5) (B := 72) Try.underlying49 (by kernel_rfl) (by kernel_rfl) (by decide) opens_Kept).mono fun ts h => by
    obtain ⟨rows, rfl, h1, h2⟩ := h
    obtain ⟨l, rfl, hl⟩ := rows_map h1
    rw [List.length_map] at h2
    have := reachBytes_lt
    exact ⟨l, ⟨by omega, fun j hj => hl _ (rd_mem hj)⟩, rfl⟩
set_option maxRecDepth 20000 in
theorem open_KeptS {H : Type} {enc : TypeId × Value → H} {w : World} {base : Nat} {sp : Nat → Bool} {held : Bool} {v : Value} {d : DataW H} {ps : List MemPlace} {r : Reach} {b0 : Nat}
    (hval : Value.okWide Try.prog w r b0 49 v) (h : DataW.Trod enc Try.prog w base sp held 49 v d ps) (hw : ∀ m ∈ d.weights Try.prog 49, m ≤ reachBytes) :
    ∃ l : List Kept, (l.length ≤ 140737488355328 ∧ ∀ j : Nat, j < l.length → (rd l j).s.regs.length ≤ 140737488355328 ∧ (rd l j).s.out.length ≤ 140737488355328) ∧ Ow (fun k => k < w.heap.size) w 0 v (.sl 5 (l.map rKept)) none_ := by
  obtain ⟨a0, len0, cap0, rfl⟩ := Go.WideShapes.okWide_slice Try.underlying49 hval
  obtain ⟨t', ⟨l, h1, h2⟩, h3⟩ := opens_KeptS.one rfl h hw
  cases h2
  exact ⟨l, h1, h3⟩

/-- The law, of any input. -/
theorem walk_FnExactRestore {W : World} {v0 v1 v2 : Value} {l : List Ins} {es : List Event} {ks : List Kept} {n : Int} (h1 : l.length ≤ 140737488355328) (h2 : es.length ≤ 140737488355328) (h3 : ks.length ≤ 140737488355328 ∧ ∀ j : Nat, j < ks.length → (rd ks j).s.regs.length ≤ 140737488355328 ∧ (rd ks j).s.out.length ≤ 140737488355328)
    (o1 : Ow (fun k => k < W.heap.size) W 0 v0 (.sl 5 (l.map rIns)) none_) (o2 : Ow (fun k => k < W.heap.size) W 0 v1 (.sl 3 (es.map rEvent)) none_) (o3 : Ow (fun k => k < W.heap.size) W 0 v2 (.sl 5 (ks.map rKept)) none_) :
    Calls PR 8 #[v0, v1, v2, .int .i64 n] W (fun e w' => e = .returned (.bool true) ∧ Below W.heap.size W w') := by
  have hF := callE_sound (C := C) tys_ok prims_ok _ _ _ _ _ (ok_laws_FnExactRestore 0 l es ks n h1 h2 h3.1 h3.2)
  refine (hF.outside [v0, v1, v2] ?_ #[v0, v1, v2, .int .i64 n] rfl ?_).mono ?_
  · rintro (_ | _ | _ | i) c hc
    · cases hc; exact ⟨_, _, rfl, rfl, o1⟩
    · cases hc; exact ⟨_, _, rfl, rfl, o2⟩
    · cases hc; exact ⟨_, _, rfl, rfl, o3⟩
    · simp at hc
  · rintro (_ | _ | _ | _ | i) x hx
    · cases hx
      have := arg_slice (ob := obIn [tIns l, tEvent es, tKept ks]) (ρ := fun o => [v0, v1, v2].getD (o - 1000000) undef) (o := 1000000) (by rfl) (by rfl) o1
      rwa [List.length_map] at this
    · cases hx
      have := arg_slice (ob := obIn [tIns l, tEvent es, tKept ks]) (ρ := fun o => [v0, v1, v2].getD (o - 1000000) undef) (o := 1000001) (by rfl) (by rfl) o2
      rwa [List.length_map] at this
    · cases hx
      have := arg_slice (ob := obIn [tIns l, tEvent es, tKept ks]) (ρ := fun o => [v0, v1, v2].getD (o - 1000000) undef) (o := 1000002) (by rfl) (by rfl) o3
      rwa [List.length_map] at this
    · cases hx; exact .s rfl
    · simp at hx
  · rintro e w' ⟨v, rfl, hb, ob', ρ', hv⟩
    exact ⟨by rw [hv.bool_inv], hb⟩

end Go.Proofs.Ytfeenmfehgljgaa.Abs
namespace Go.Proofs.Ytfeenmfehgljgaa.fnExactRestore
open Go Go.Proofs Go.ChangeShapes Go.WideShapes Go.RowKit Go.Proofs.Ytfeenmfehgljgaa.Abs
set_option linter.unusedVariables false
theorem own : ownKnob Try.prog.godebug = none := by kernel_rfl
theorem laidOut : laidOutB Try.prog = true := by kernel_rfl
set_option maxRecDepth 100000 in
theorem lifted (os : Os) (started : os.Started) (H : Type) (enc : TypeId × Value → H) :
    ReturnsInHanded {} Try.checked os 8 .any (Rows.fnExactRestoreSpec.pre6 enc Try.prog Try.f8 Rows.fnExactRestoreRow.domain false) (Rows.fnExactRestoreSpec.post enc Try.prog Try.f8 false true false false) := by
  refine returnsInHanded_of_change_sized (C := Try.checked) own started (by kernel_rfl) Try.func8
    (ChangeSpec.witness6 (enc := enc) (C := Try.checked) false ⟨#[], #[.slice none 0 0, .slice none 0 0, .slice none 0 0, .int .i64 0], []⟩ 8 (by kernel_rfl) (by kernel_rfl) (by kernel_rfl) (by kernel_rfl)) ?_
  intro W base args ds gs before hval0 hW hcnd hsz0 _
  have hsz : (DataW.weightsEach Try.prog (Try.f8.params.toList ++ Rows.fnExactRestoreSpec.plain.varTypes Try.prog) (ds ++ gs)).all (· ≤ reachBytes) = true := hsz0
  have hval : ∀ (j : Nat) t v, Try.f8.params[j]? = some t → args[j]? = some v → Value.okWide Try.prog W .any base t v := hval0
  have hW' := hW
  obtain ⟨p, q, hA0, hV, rfl, hfz, hnd⟩ := hW
  have hA : DataW.TrodAll enc Try.prog W 0 (fun _ => true) true Try.f8.params.toList args.toList ds p := hA0
  rw [Try.params8] at hA hval hsz
  obtain ⟨v0, vs0, d0, ds0, p0, q0, hargs, rfl, rfl, h0, r0⟩ := trodAll_cons hA
  obtain ⟨v1, vs1, d1, ds1, p1, q1, rfl, rfl, rfl, h1, r1⟩ := trodAll_cons r0
  obtain ⟨v2, vs2, d2, ds2, p2, q2, rfl, rfl, rfl, h2, r2⟩ := trodAll_cons r1
  obtain ⟨v3, vs3, d3, ds3, p3, q3, rfl, rfl, rfl, h3, r3⟩ := trodAll_cons r2
  obtain ⟨rfl, rfl, rfl⟩ := trodAll_nil r3
  obtain rfl : args = #[v0, v1, v2, v3] := by cases args; simp_all
  obtain ⟨rfl, rfl⟩ := trodVars_none hV
  have hwt : ∀ (j : Nat) t d, [47, 48, 49, 3][j]? = some t → [d0, d1, d2, d3][j]? = some d → ∀ m ∈ d.weights Try.prog t, m ≤ reachBytes := by
    intro j t d ht hd m hm
    have := List.all_eq_true.1 hsz m (DataW.weights_mem_each (j := j) (t := t) (d := d) ht hd m hm)
    simpa using this
  have k0 := h0
  have lt0 : ∀ x ∈ p0, x.block < W.heap.size := by obtain ⟨m, hm⟩ := k0; exact DataW.trod_lt m _ _ _ hm
  obtain ⟨l0, s0, o0⟩ := open_InsS (hval 0 47 v0 rfl rfl) h0 (hwt 0 _ _ rfl rfl)
  have k1 := h1
  have lt1 : ∀ x ∈ p1, x.block < W.heap.size := by obtain ⟨m, hm⟩ := k1; exact DataW.trod_lt m _ _ _ hm
  obtain ⟨l1, s1, o1⟩ := open_EventS (hval 1 48 v1 rfl rfl) h1 (hwt 1 _ _ rfl rfl)
  have k2 := h2
  have lt2 : ∀ x ∈ p2, x.block < W.heap.size := by obtain ⟨m, hm⟩ := k2; exact DataW.trod_lt m _ _ _ hm
  obtain ⟨l2, s2, o2⟩ := open_KeptS (hval 2 49 v2 rfl rfl) h2 (hwt 2 _ _ rfl rfl)
  have k3 := h3
  have lt3 : ∀ x ∈ p3, x.block < W.heap.size := by obtain ⟨m, hm⟩ := k3; exact DataW.trod_lt m _ _ _ hm
  obtain ⟨a3, rfl, rfl, rfl, w3⟩ := open_int Try.underlying3 (hval 3 3 v3 rfl rfl) h3
  clear hA0 hval0 hsz0 hsz hwt
  refine (walk_FnExactRestore s0 s1 s2 o0 o1 o2).mono fun e W' ⟨he, bel⟩ => ?_
  subst he
  exact ⟨_, rfl, _, _, _, [], _, [], hW', trodAll_mk1 (shut_bool Try.underlying4 _), (trodAll_cons_mk (Below.trod laidOut (by kernel_rfl) (of_decide_eq_true (by kernel_rfl)) k0 bel lt0) (trodAll_cons_mk (Below.trod laidOut (by kernel_rfl) (of_decide_eq_true (by kernel_rfl)) k1 bel lt1) (trodAll_cons_mk (Below.trod laidOut (by kernel_rfl) (of_decide_eq_true (by kernel_rfl)) k2 bel lt2) (trodAll_cons_mk (shut_int Try.underlying3 w3) trodAll_mk0)))), rfl, bel.frame _, fun h => by cases h⟩
theorem over : Rows.fnExactRestoreRow.holds Try.pinned (OpenSpec.ofChange Rows.fnExactRestoreSpec) :=
  OpenClaim.holds_of_wide 8 Try.f8 rfl rfl rfl rfl rfl rfl rfl ⟨rfl, rfl, rfl, rfl, rfl⟩ rfl rfl rfl rfl rfl (by kernel_rfl) Try.func8 (by kernel_rfl)
    (of_decide_eq_true (by kernel_rfl)) (by unfold Func.isWrapper; first | (rw [if_pos (by decide +kernel)]; kernel_rfl) | (rw [if_neg (by decide +kernel)]; exact ⟨rfl, rfl⟩))
    (fun os started H enc _ => lifted os started H enc)
theorem proved : Rows.FnExactRestoreSaid := over
#print axioms proved
end Go.Proofs.Ytfeenmfehgljgaa.fnExactRestore
namespace Go.Proofs.Ytfeenmfehgljgaa
/-- The row, under a short name, for the claim. -/
theorem fnExactRestore_holds : Rows.FnExactRestoreSaid := fnExactRestore.proved
end Go.Proofs.Ytfeenmfehgljgaa

