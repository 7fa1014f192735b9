/- Part 5 of the words by which the law is followed: an interpreter over data trees, proved of the machine, and what functions of this program come to by it. No condition. -/
import Derived.Test.YtfeenmfehgljgaaJE4
namespace Go.Proofs.Ytfeenmfehgljgaa.Abs
open Go Go.Proofs
set_option linter.unusedVariables false
set_option linter.unusedSimpArgs false
attribute [local irreducible] callE
theorem replay_ok {l : List Ins} (hi : ∀ i, i < l.length → IOk l.length (rd l i)) (es : List Event) : ∀ {s s' : State}, SOk l.length s → replay l s es = some s' → SOk l.length s' := by
  induction es with
  | nil => intro s s' hs h; simp only [replay] at h; cases h; exact hs
  | cons e es ih =>
    intro s s' hs h
    simp only [replay] at h
    split at h
    · rename_i hc
      refine ih (did_ok hs (hi _ ?_) ?_) h
      · have := hs.at0; have := hs.at1; omega
      · exact hc.2
    · cases h
theorem stOf_len (l : List Ins) (es : List Event) : (stOf (replayAll l es)).regs.length ≤ 4 ∧ (stOf (replayAll l es)).out.length ≤ 60 := by
  unfold replayAll
  split
  · rename_i h
    cases hr : replay l newState es with
    | none => exact ⟨Nat.zero_le _, Nat.zero_le _⟩
    | some s =>
      have := replay_ok (fun i hi => progOk_iok h.1 hi) es (newState_ok (progOk_len h.1).1) hr
      exact ⟨Nat.le_of_eq this.regs, this.out⟩
  · exact ⟨Nat.zero_le _, Nat.zero_le _⟩
theorem keepAll_ok (l : List Ins) (es : List Event) : (keepAll l es).length ≤ 26 ∧ ∀ j : Nat, j < (keepAll l es).length → (rd (keepAll l es) j).s.regs.length ≤ 4 ∧ (rd (keepAll l es) j).s.out.length ≤ 60 := by
  unfold keepAll
  split
  · rename_i h
    have he : es.length ≤ 200 := by
      unfold replayAll at h
      split at h
      · rename_i hh; exact hh.2
      · cases h
    refine ⟨by simp; omega, fun j hj => ?_⟩
    simp only [List.length_map, List.length_range] at hj
    rw [show rd ((List.range (es.length / 8 + 1)).map (keptAt l es)) j = keptAt l es j by simp [rd, hj]]
    exact stOf_len l (es.take (8 * j))
  · exact ⟨by simp, fun j hj => by simp at hj⟩
theorem wts_bound {α : Type} [Inhabited α] (wt : α → Nat) (n : Nat) (l : List α) (h : ∀ j : Nat, j < l.length → wt (rd l j) ≤ n) : wts wt l ≤ n * l.length := by
  induction l with
  | nil => simp [wts]
  | cons x l ih =>
    have h1 : wt x ≤ n := h 0 (by simp)
    have h2 := ih fun j hj => by
      have := h (j + 1) (by simp; omega)
      simpa [rd] using this
    simp only [wts, List.length_cons, Nat.mul_add]
    omega
theorem keepAll_wts (l : List Ins) (es : List Event) : wts wKept (keepAll l es) ≤ 67 * 26 := by
  have h := keepAll_ok l es
  have := wts_bound wKept 67 (keepAll l es) fun j hj => by have := h.2 j hj; simp only [wKept]; omega
  omega

theorem marks_take {α : Type} (one : Int → α → α) (wt : α → Nat) (m : Int) (l : List α) : (marks one wt m l).take l.length = marks one wt m l := List.take_of_length_le (by rw [marks_len]; exact Nat.le_refl _)
theorem gI7 {p A : Prop} (h : A) (e : p := by first | with_reducible assumption | omega | (simp only [Nat.zero_add, Nat.add_zero, Nat.sub_zero, Int.toNat_natCast, Int.toNat_zero, Int.toNat_one, List.length_map, List.length_nil, Int.reduceToNat, Nat.reduceAdd, Nat.reduceSub, Int.sub_zero, Int.reduceAdd, Int.reduceSub, Nat.sub_self, Int.toNat_natCast_add_one, bs_len, List.length_append, List.length_cons, List.length_set, List.length_replicate, List.length_range]; first | done | omega)) : sI p A := sI.mk e h
theorem gNum7 {r r' : Nat} {F : Nat → Prop} (h : F r') (e : r = r' := by first | (simp only [Nat.zero_add, Nat.add_zero, Nat.sub_zero, Int.toNat_natCast, Int.toNat_zero, Int.toNat_one, List.length_map, List.length_nil, Int.reduceToNat, Nat.reduceAdd, Nat.reduceSub, Int.sub_zero, Int.reduceAdd, Int.reduceSub, Nat.sub_self, Int.toNat_natCast_add_one, bs_len]; rfl) | rfl) : sN r F := sN.eq e h
theorem gRow7 {r r' : List (List T)} {F : List (List T) → Prop} (h : F r') (e : r = r' := by first | (simp only [Nat.add_zero, Nat.zero_add, Nat.reduceAdd, List.drop_zero, List.take_succ_cons, List.take_nil, List.drop_succ_cons, List.drop_nil, List.take_zero, List.nil_append, List.append_nil, List.map_nil, drop_suf, take_pre, drop_map, List.take_length, take_len_set, take_len_app, List.set_set, List.length_map, marks_take, set_rKept, set_rIns, rep_rIns, set_rEvent, rep_rEvent, snoc_rKept, snoc_rEvent, snoc_rIns, bytesT_bs, snoc_rI, snoc_rB, snoc_rBool, set_rI, set_rBool, rep_rI, rep_rBool, map_app]; rfl) | rfl) : sR r F := sR.eq e h
theorem gI8 {p A : Prop} (h : A) (e : p := by first | with_reducible assumption | omega | (simp only [Nat.zero_add, Nat.add_zero, Nat.sub_zero, Int.toNat_natCast, Int.toNat_zero, Int.toNat_one, List.length_map, List.length_nil, Int.reduceToNat, Nat.reduceAdd, Nat.reduceSub, Int.sub_zero, Int.reduceAdd, Int.reduceSub, Nat.sub_self, Int.toNat_natCast_add_one, marks_len, bs_len, List.length_append, List.length_cons, List.length_set, List.length_replicate, List.length_range]; first | done | omega)) : sI p A := sI.mk e h
theorem gNum8 {r r' : Nat} {F : Nat → Prop} (h : F r') (e : r = r' := by first | (simp only [Nat.zero_add, Nat.add_zero, Nat.sub_zero, Int.toNat_natCast, Int.toNat_zero, Int.toNat_one, List.length_map, List.length_nil, Int.reduceToNat, Nat.reduceAdd, Nat.reduceSub, Int.sub_zero, Int.reduceAdd, Int.reduceSub, Nat.sub_self, Int.toNat_natCast_add_one, marks_len, bs_len]; rfl) | rfl) : sN r F := sN.eq e h
theorem gRow8 {r r' : List (List T)} {F : List (List T) → Prop} (h : F r') (e : r = r' := by first | (simp only [Nat.add_zero, Nat.zero_add, Nat.reduceAdd, List.drop_zero, List.take_succ_cons, List.take_nil, List.drop_succ_cons, List.drop_nil, List.take_zero, List.nil_append, List.append_nil, List.map_nil, drop_suf, take_pre, drop_map, List.take_length, take_len_set, take_len_app, List.set_set, List.length_map, marks_take, set_rKept, set_rIns, rep_rIns, set_rEvent, rep_rEvent, snoc_rKept, snoc_rEvent, snoc_rIns, bytesT_bs, snoc_rI, snoc_rB, snoc_rBool, set_rI, set_rBool, rep_rI, rep_rBool, map_app]; rfl) | rfl) : sR r F := sR.eq e h
theorem left_neg {m n : Int} (h : left m n < 0) (hm : m - n < 0 ∨ 0 ≤ m - n) : m < n := by
  unfold left at h; split at h <;> omega
theorem left_pos {m n : Int} (h : ¬ left m n < 0) : left m n = m - n ∧ n ≤ m := by
  unfold left at h ⊢; split at h
  · exact absurd (by decide) h
  · rename_i h2; rw [if_neg h2]; omega
theorem rep_rKept (n : Nat) : List.replicate n [T.v (.int .i64 0), .v (.int .i64 0), .sl 1 [], .sl 1 [], .v (.int .i64 0)] = (List.replicate n (default : Kept)).map rKept := by simp [rKept, default, instInhabitedKept, instInhabitedState]
theorem gI9 {p A : Prop} (h : A) (e : p := by first | with_reducible assumption | omega | (simp only [Nat.zero_add, Nat.add_zero, Nat.sub_zero, Int.toNat_natCast, Int.toNat_zero, Int.toNat_one, List.length_map, List.length_nil, Int.reduceToNat, Nat.reduceAdd, Nat.reduceSub, Int.sub_zero, Int.reduceAdd, Int.reduceSub, Nat.sub_self, Int.toNat_natCast_add_one, marks_len, bs_len, List.length_append, List.length_cons, List.length_set, List.length_replicate, List.length_range]; first | done | omega)) : sI p A := sI.mk e h
theorem gNum9 {r r' : Nat} {F : Nat → Prop} (h : F r') (e : r = r' := by first | (simp only [Nat.zero_add, Nat.add_zero, Nat.sub_zero, Int.toNat_natCast, Int.toNat_zero, Int.toNat_one, List.length_map, List.length_nil, Int.reduceToNat, Nat.reduceAdd, Nat.reduceSub, Int.sub_zero, Int.reduceAdd, Int.reduceSub, Nat.sub_self, Int.toNat_natCast_add_one, marks_len, bs_len]; rfl) | rfl) : sN r F := sN.eq e h
theorem gRow9 {r r' : List (List T)} {F : List (List T) → Prop} (h : F r') (e : r = r' := by first | (simp only [Nat.add_zero, Nat.zero_add, Nat.reduceAdd, List.drop_zero, List.take_succ_cons, List.take_nil, List.drop_succ_cons, List.drop_nil, List.take_zero, List.nil_append, List.append_nil, List.map_nil, drop_suf, take_pre, drop_map, List.take_length, take_len_set, take_len_app, List.set_set, List.length_map, rep_rKept, marks_take, set_rKept, set_rIns, rep_rIns, set_rEvent, rep_rEvent, snoc_rKept, snoc_rEvent, snoc_rIns, bytesT_bs, snoc_rI, snoc_rB, snoc_rBool, set_rI, set_rBool, rep_rI, rep_rBool, map_app]; rfl) | rfl) : sR r F := sR.eq e h

/-! ### More helpers of the laws: states, kept states -/
theorem left_left {m : Int} {x y : Nat} (h : ¬ left m x < 0) : left (left m x) y = left m ((x : Int) + y) := by
  obtain ⟨h1, h2⟩ := left_pos h
  rw [h1]
  unfold left
  rw [show m - (x : Int) - y = m - (x + y) by omega]
theorem left_more {m : Int} {x y : Nat} (h : left m x < 0) : left m ((x : Int) + y) = -1 := by
  unfold left at h ⊢
  split at h
  · rw [if_pos (by omega)]
  · omega
theorem left_m1 {m : Int} {x : Nat} (h : left m x < 0) : left m x = -1 := by
  unfold left at h ⊢
  split at h
  · rename_i h1; rw [if_pos h1]
  · omega
theorem ok_laws_szIntS (k : Nat) (l : List Int) (m : Int) (h0 : 0 ≤ m) (h1 : m ≤ 1048576) (hl : l.length ≤ 140737488355328) : callE PR C (k + 1) 106 [.h 1000000 0 0 [] 1 0 l.length, i64 m] [tI l] = some ⟨i64 (left m l.length), [], [none]⟩ := by
  (refine callE_is (callE_w [ResultVar.tmp 4] rfl Try.func106 rfl (by decide +kernel) rfl (by simp) ?_); (conv => whnf))
  repeat' ((with_reducible (first | refine gP ?_ | refine gN ?_ | refine fG.split (fun _ => ?_) (fun _ => ?_) | refine fG.not ?_ | refine gY ?_ | refine gF ?_ | refine fG.yes (flat_map (fun _ => rfl) _) ?_ | refine fG.bool (fun _ => ?_) (fun _ => ?_) | refine gS64 ?_ | refine gU8 ?_ | refine gI9 ?_ | refine fE.of rfl ?_ | refine gBq ?_ | refine gNum9 ?_ | refine gSet ?_ | refine gRd ?_ | refine gLk ?_ | refine gRow9 ?_ | refine fB.of (wide_map (fun _ => rfl) _) ?_ | refine fB.of (full_map (fun _ => rfl) _) ?_ | refine fB.of (full_map (fun x => full_rKept x) _) ?_ | refine gRf ?_)) <;> (try (conv => whnf)))
  all_goals (simp only [left, *, if_true, if_false]; done)
theorem ok_laws_szState (k : Nat) (a c : Int) (r o : List Int) (m : Int) (h0 : 0 ≤ m) (h1 : m ≤ 1048576) (hr : r.length ≤ 140737488355328) (ho : o.length ≤ 140737488355328) :
    callE PR C (k + 2) 84 [aState 0 a r o c, i64 m] [tI r, tI o] = some ⟨i64 (left m ((r.length : Int) + o.length)), [], [none, none]⟩ := by
  have q1 := fun k => ok_laws_szIntS k r m h0 h1 hr
  by_cases c1 : left m r.length < 0
  · rw [left_more c1]
    (refine callE_is (callE_w [ResultVar.tmp 4] rfl Try.func84 rfl (by decide +kernel) rfl (by simp) ?_); (conv => whnf))
    repeat' ((with_reducible (first | refine sCall.of (q1 _) ?_ | refine gP ?_ | refine gN ?_ | refine fG.split (fun _ => ?_) (fun _ => ?_) | refine fG.not ?_ | refine gY ?_ | refine gF ?_ | refine fG.yes (flat_map (fun _ => rfl) _) ?_ | refine fG.bool (fun _ => ?_) (fun _ => ?_) | refine gS64 ?_ | refine gU8 ?_ | refine gI9 ?_ | refine fE.of rfl ?_ | refine gBq ?_ | refine gNum9 ?_ | refine gSet ?_ | refine gRd ?_ | refine gLk ?_ | refine gRow9 ?_ | refine fB.of (wide_map (fun _ => rfl) _) ?_ | refine fB.of (full_map (fun _ => rfl) _) ?_ | refine fB.of (full_map (fun x => full_rKept x) _) ?_ | refine gRf ?_)) <;> (try (conv => whnf)))
  · obtain ⟨c2, c3⟩ := left_pos c1
    have q2 := fun k => ok_laws_szIntS k o (left m r.length) (by omega) (by omega) ho
    rw [left_left c1] at q2
    by_cases c4 : left m ((r.length : Int) + o.length) < 0
    · rw [show left m ((r.length : Int) + o.length) = -1 from by rw [← left_left c1]; exact left_m1 (by rw [left_left c1]; exact c4)]
      (refine callE_is (callE_w [ResultVar.tmp 4] rfl Try.func84 rfl (by decide +kernel) rfl (by simp) ?_); (conv => whnf))
      repeat' ((with_reducible (first | refine sCall.of (q1 _) ?_ | refine sCall.of (q2 _) ?_ | refine gP ?_ | refine gN ?_ | refine fG.split (fun _ => ?_) (fun _ => ?_) | refine fG.not ?_ | refine gY ?_ | refine gF ?_ | refine fG.yes (flat_map (fun _ => rfl) _) ?_ | refine fG.bool (fun _ => ?_) (fun _ => ?_) | refine gS64 ?_ | refine gU8 ?_ | refine gI9 ?_ | refine fE.of rfl ?_ | refine gBq ?_ | refine gNum9 ?_ | refine gSet ?_ | refine gRd ?_ | refine gLk ?_ | refine gRow9 ?_ | refine fB.of (wide_map (fun _ => rfl) _) ?_ | refine fB.of (full_map (fun _ => rfl) _) ?_ | refine fB.of (full_map (fun x => full_rKept x) _) ?_ | refine gRf ?_)) <;> (try (conv => whnf)))
    · (refine callE_is (callE_w [ResultVar.tmp 4] rfl Try.func84 rfl (by decide +kernel) rfl (by simp) ?_); (conv => whnf))
      repeat' ((with_reducible (first | refine sCall.of (q1 _) ?_ | refine sCall.of (q2 _) ?_ | refine gP ?_ | refine gN ?_ | refine fG.split (fun _ => ?_) (fun _ => ?_) | refine fG.not ?_ | refine gY ?_ | refine gF ?_ | refine fG.yes (flat_map (fun _ => rfl) _) ?_ | refine fG.bool (fun _ => ?_) (fun _ => ?_) | refine gS64 ?_ | refine gU8 ?_ | refine gI9 ?_ | refine fE.of rfl ?_ | refine gBq ?_ | refine gNum9 ?_ | refine gSet ?_ | refine gRd ?_ | refine gLk ?_ | refine gRow9 ?_ | refine fB.of (wide_map (fun _ => rfl) _) ?_ | refine fB.of (full_map (fun _ => rfl) _) ?_ | refine fB.of (full_map (fun x => full_rKept x) _) ?_ | refine gRf ?_)) <;> (try (conv => whnf)))
theorem ok_laws_szKept (k : Nat) (n a c : Int) (r o : List Int) (m : Int) (h0 : 0 ≤ m) (h1 : m ≤ 1048576) (hr : r.length ≤ 140737488355328) (ho : o.length ≤ 140737488355328) :
    callE PR C (k + 3) 58 [.ag [i64 n, i64 a, .h 1000000 0 0 [] 1 0 r.length, .h 1000001 0 0 [] 1 0 o.length, i64 c], i64 m] [tI r, tI o] = some ⟨i64 (left m ((r.length : Int) + o.length)), [], [none, none]⟩ := by
  have q1 := fun k => ok_laws_szState k a c r o m h0 h1 hr ho
  by_cases c4 : left m ((r.length : Int) + o.length) < 0
  · rw [show left m ((r.length : Int) + o.length) = -1 from by have := @left_m1 m (r.length + o.length); simp only [Int.natCast_add] at this; exact this c4] at q1 ⊢
    (refine callE_is (callE_w [ResultVar.tmp 4] rfl Try.func58 rfl (by decide +kernel) rfl (by simp) ?_); (conv => whnf))
    repeat' ((with_reducible (first | refine sCall.of (q1 _) ?_ | refine gP ?_ | refine gN ?_ | refine fG.split (fun _ => ?_) (fun _ => ?_) | refine fG.not ?_ | refine gY ?_ | refine gF ?_ | refine fG.yes (flat_map (fun _ => rfl) _) ?_ | refine fG.bool (fun _ => ?_) (fun _ => ?_) | refine gS64 ?_ | refine gU8 ?_ | refine gI9 ?_ | refine fE.of rfl ?_ | refine gBq ?_ | refine gNum9 ?_ | refine gSet ?_ | refine gRd ?_ | refine gLk ?_ | refine gRow9 ?_ | refine fB.of (wide_map (fun _ => rfl) _) ?_ | refine fB.of (full_map (fun _ => rfl) _) ?_ | refine fB.of (full_map (fun x => full_rKept x) _) ?_ | refine gRf ?_)) <;> (try (conv => whnf)))
  · (refine callE_is (callE_w [ResultVar.tmp 4] rfl Try.func58 rfl (by decide +kernel) rfl (by simp) ?_); (conv => whnf))
    repeat' ((with_reducible (first | refine sCall.of (q1 _) ?_ | refine gP ?_ | refine gN ?_ | refine fG.split (fun _ => ?_) (fun _ => ?_) | refine fG.not ?_ | refine gY ?_ | refine gF ?_ | refine fG.yes (flat_map (fun _ => rfl) _) ?_ | refine fG.bool (fun _ => ?_) (fun _ => ?_) | refine gS64 ?_ | refine gU8 ?_ | refine gI9 ?_ | refine fE.of rfl ?_ | refine gBq ?_ | refine gNum9 ?_ | refine gSet ?_ | refine gRd ?_ | refine gLk ?_ | refine gRow9 ?_ | refine fB.of (wide_map (fun _ => rfl) _) ?_ | refine fB.of (full_map (fun _ => rfl) _) ?_ | refine fB.of (full_map (fun x => full_rKept x) _) ?_ | refine gRf ?_)) <;> (try (conv => whnf)))
theorem ok_laws_toIntS (k : Nat) (l : List Int) (hl : l.length ≤ 100000000000) : callE PR C (k + 1) 107 [.h 1000000 0 0 [] 1 0 l.length] [tI l] = some ⟨.h 2000000 1 0 [] 1 0 l.length, [tI9 l], [none]⟩ := by
  (refine callE_is (callE_w [ResultVar.tmp 2] rfl Try.func107 rfl (by decide +kernel) rfl (by simp) ?_); (conv => whnf))
  repeat' ((with_reducible (first | refine gP ?_ | refine gN ?_ | refine fG.split (fun _ => ?_) (fun _ => ?_) | refine fG.not ?_ | refine gY ?_ | refine gF ?_ | refine fG.yes (flat_map (fun _ => rfl) _) ?_ | refine fG.bool (fun _ => ?_) (fun _ => ?_) | refine gS64 ?_ | refine gU8 ?_ | refine gI9 ?_ | refine fE.of rfl ?_ | refine gBq ?_ | refine gNum9 ?_ | refine gSet ?_ | refine gRd ?_ | refine gLk ?_ | refine gRow9 ?_ | refine fB.of (wide_map (fun _ => rfl) _) ?_ | refine fB.of (full_map (fun _ => rfl) _) ?_ | refine fB.of (full_map (fun x => full_rKept x) _) ?_ | refine gRf ?_)) <;> (try (conv => whnf)))
  refine loop_rule (ι := TL Int) (fun x => [(0, .h 1000000 0 0 [] 1 0 l.length), (3, .h 7 1 0 [] 1 0 l.length), (4, i64 (x.j : Nat))])
    (fun x => [(1000000, ⟨0, 0, false, tI l⟩), (7, ⟨1, x.g, x.d, tI9 x.l⟩)])
    (fun x => l.length - x.j) (fun x => x.j ≤ l.length ∧ x.l = fill l x.j) ⟨0, List.replicate l.length 0, 0, false⟩ (by (try dsimp only [cond_true, cond_false]); exact ⟨⟨rfl, rfl, rfl, trivial⟩, ⟨rfl, rfl, trivial⟩⟩) ⟨Nat.zero_le _, (fill_zero l).symm⟩ (by simp [C]; omega) ?_
  rintro ⟨j, out, g, d⟩ sl ob ⟨hj, hout⟩
  dsimp only at hj hout
  have hlen : out.length = l.length := by rw [hout, fill_len]
  (try dsimp only [cond_true, cond_false])
  (conv => whnf)
  repeat' ((with_reducible (first | refine gP ?_ | refine gN ?_ | refine fG.split (fun _ => ?_) (fun _ => ?_) | refine fG.not ?_ | refine gY ?_ | refine gF ?_ | refine fG.yes (flat_map (fun _ => rfl) _) ?_ | refine fG.bool (fun _ => ?_) (fun _ => ?_) | refine gS64 ?_ | refine gU8 ?_ | refine gI9 ?_ | refine fE.of rfl ?_ | refine gBq ?_ | refine gNum9 ?_ | refine gSet ?_ | refine gRd ?_ | refine gLk ?_ | refine gRow9 ?_ | refine fB.of (wide_map (fun _ => rfl) _) ?_ | refine fB.of (full_map (fun _ => rfl) _) ?_ | refine fB.of (full_map (fun x => full_rKept x) _) ?_ | refine gRf ?_)) <;> (try (conv => whnf)))
  case' refine_1 h =>
    refine ⟨⟨⟨j + 1, out.set j (rd l j), _, _⟩, (by (try dsimp only [cond_true, cond_false]); exact ⟨⟨rfl, rfl, rfl, trivial⟩, ⟨rfl, rfl, trivial⟩⟩), ?_, ?_⟩⟩
    · exact ⟨by show j + 1 ≤ _; omega, by show _ = _; rw [hout]; exact fill_set l j (by omega)⟩
    · show l.length - (j + 1) < l.length - j; omega
  case refine_2 h =>
    have : j = l.length := by omega
    rw [hout, this, fill_all, List.take_length]
set_option maxRecDepth 10000 in
theorem ok_laws_toState (k : Nat) (a c : Int) (r o : List Int) (hr : r.length ≤ 100000000000) (ho : o.length ≤ 100000000000) : callE PR C (k + 2) 85 [aState 0 a r o c] [tI r, tI o] = some ⟨nState 0 a r o c, [tI9 r, tI9 o], [none, none]⟩ := by
  (refine callE_is (callE_w [ResultVar.cell 2 39] rfl Try.func85 rfl (by decide +kernel) rfl (by simp) ?_); (conv => whnf))
  repeat' ((with_reducible (first | refine sCall.of (ok_laws_toIntS _ _ hr) ?_ | refine sCall.of (ok_laws_toIntS _ _ ho) ?_ | refine gP ?_ | refine gN ?_ | refine fG.split (fun _ => ?_) (fun _ => ?_) | refine fG.not ?_ | refine gY ?_ | refine gF ?_ | refine fG.yes (flat_map (fun _ => rfl) _) ?_ | refine fG.bool (fun _ => ?_) (fun _ => ?_) | refine gS64 ?_ | refine gU8 ?_ | refine gI9 ?_ | refine fE.of rfl ?_ | refine gBq ?_ | refine gNum9 ?_ | refine gSet ?_ | refine gRd ?_ | refine gLk ?_ | refine gRow9 ?_ | refine fB.of (wide_map (fun _ => rfl) _) ?_ | refine fB.of (full_map (fun _ => rfl) _) ?_ | refine fB.of (full_map (fun x => full_rKept x) _) ?_ | refine gRf ?_)) <;> (try (conv => whnf)))
set_option maxRecDepth 10000 in
theorem ok_laws_toKept (k : Nat) (n a c : Int) (r o : List Int) (hr : r.length ≤ 100000000000) (ho : o.length ≤ 100000000000) :
    callE PR C (k + 3) 62 [.ag [i64 n, i64 a, .h 1000000 0 0 [] 1 0 r.length, .h 1000001 0 0 [] 1 0 o.length, i64 c]] [tI r, tI o] = some ⟨.ag [i64 n, i64 a, .h 2000000 1 0 [] 1 0 r.length, .h 2000001 1 0 [] 1 0 o.length, i64 c], [tI9 r, tI9 o], [none, none]⟩ := by
  (refine callE_is (callE_w [ResultVar.cell 2 75] rfl Try.func62 rfl (by decide +kernel) rfl (by simp) ?_); (conv => whnf))
  repeat' ((with_reducible (first | refine sCall.of (ok_laws_toState _ _ _ _ _ hr ho) ?_ | refine gP ?_ | refine gN ?_ | refine fG.split (fun _ => ?_) (fun _ => ?_) | refine fG.not ?_ | refine gY ?_ | refine gF ?_ | refine fG.yes (flat_map (fun _ => rfl) _) ?_ | refine fG.bool (fun _ => ?_) (fun _ => ?_) | refine gS64 ?_ | refine gU8 ?_ | refine gI9 ?_ | refine fE.of rfl ?_ | refine gBq ?_ | refine gNum9 ?_ | refine gSet ?_ | refine gRd ?_ | refine gLk ?_ | refine gRow9 ?_ | refine fB.of (wide_map (fun _ => rfl) _) ?_ | refine fB.of (full_map (fun _ => rfl) _) ?_ | refine fB.of (full_map (fun x => full_rKept x) _) ?_ | refine gRf ?_)) <;> (try (conv => whnf)))

def wS (x : Kept) : Nat := x.s.regs.length + x.s.out.length
theorem ok_laws_szKeptS (k : Nat) (l : List Kept) (m : Int) (h0 : 0 ≤ m) (h1 : m ≤ 1048576) (hl : l.length ≤ 140737488355328) (hx : ∀ j : Nat, j < l.length → (rd l j).s.regs.length ≤ 140737488355328 ∧ (rd l j).s.out.length ≤ 140737488355328) :
    callE PR C (k + 4) 27 [hKept 0 l, i64 m] [tKept l] = some ⟨i64 (left m (l.length + wts wS l : Nat)), [], [none]⟩ := by
  by_cases c1 : m - l.length < 0
  · rw [show left m (l.length + wts wS l : Nat) = -1 from by unfold left; rw [if_pos (by omega)]]
    (refine callE_is (callE_w [ResultVar.tmp 4] rfl Try.func27 rfl (by decide +kernel) rfl (by simp) ?_); (conv => whnf))
    repeat' ((with_reducible (first | refine gP ?_ | refine gN ?_ | refine fG.split (fun _ => ?_) (fun _ => ?_) | refine fG.not ?_ | refine gY ?_ | refine gF ?_ | refine fG.yes (flat_map (fun _ => rfl) _) ?_ | refine fG.bool (fun _ => ?_) (fun _ => ?_) | refine gS64 ?_ | refine gU8 ?_ | refine gI9 ?_ | refine fE.of rfl ?_ | refine gBq ?_ | refine gNum9 ?_ | refine gSet ?_ | refine gRd ?_ | refine gLk ?_ | refine gRow9 ?_ | refine fB.of (wide_map (fun _ => rfl) _) ?_ | refine fB.of (full_map (fun _ => rfl) _) ?_ | refine fB.of (full_map (fun x => full_rKept x) _) ?_ | refine gRf ?_)) <;> (try (conv => whnf)))
  · (refine callE_is (callE_w [ResultVar.tmp 4] rfl Try.func27 rfl (by decide +kernel) rfl (by simp) ?_); (conv => whnf))
    repeat' ((with_reducible (first | refine gP ?_ | refine gN ?_ | refine fG.split (fun _ => ?_) (fun _ => ?_) | refine fG.not ?_ | refine gY ?_ | refine gF ?_ | refine fG.yes (flat_map (fun _ => rfl) _) ?_ | refine fG.bool (fun _ => ?_) (fun _ => ?_) | refine gS64 ?_ | refine gU8 ?_ | refine gI9 ?_ | refine fE.of rfl ?_ | refine gBq ?_ | refine gNum9 ?_ | refine gSet ?_ | refine gRd ?_ | refine gLk ?_ | refine gRow9 ?_ | refine fB.of (wide_map (fun _ => rfl) _) ?_ | refine fB.of (full_map (fun _ => rfl) _) ?_ | refine fB.of (full_map (fun x => full_rKept x) _) ?_ | refine gRf ?_)) <;> (try (conv => whnf)))
    refine loop_rule (ι := TH) (fun x => [(0, hKept 0 l), (1, i64 x.m), (5, i64 (x.j : Nat))])
      (fun x => [(1000000, ⟨0, 0, false, tKept l⟩)])
      (fun x => l.length - x.j) (fun x => x.j ≤ l.length ∧ x.m = m - l.length - wts wS (l.take x.j) ∧ 0 ≤ x.m) ⟨0, m - l.length⟩ (by (try dsimp only [cond_true, cond_false]); exact ⟨⟨rfl, rfl, rfl, trivial⟩, ⟨rfl, trivial⟩⟩) ⟨Nat.zero_le _, by simp [wts], by show 0 ≤ m - (l.length : Int); omega⟩ (by simp [C]; omega) ?_
    rintro ⟨j, n⟩ sl ob ⟨hj, hn, hn0⟩
    dsimp only at hj hn hn0
    have hn1 : n ≤ 1048576 := by omega
    (try dsimp only [cond_true, cond_false])
    (conv => whnf)
    by_cases hjl : j < l.length
    · have hx1 := (hx j hjl).1
      have hx2 := (hx j hjl).2
      have e := wts_take wS l j hjl
      have e2 := wts_le wS l (j + 1)
      have hq := fun k => ok_laws_szKept k (rd l j).n (rd l j).s.at_ (rd l j).s.code (rd l j).s.regs (rd l j).s.out n hn0 hn1 hx1 hx2
      simp only [wS] at e
      by_cases c2 : n - (((rd l j).s.regs.length : Int) + (rd l j).s.out.length) < 0
      · have e3 : left n (((rd l j).s.regs.length : Int) + (rd l j).s.out.length) = -1 := by unfold left; rw [if_pos c2]
        rw [e3] at hq
        rw [show left m (l.length + wts wS l : Nat) = -1 from by unfold left; rw [if_pos (by omega)]]
        repeat' ((with_reducible (first | refine sCall.of (hq _) ?_ | refine gP ?_ | refine gN ?_ | refine fG.split (fun _ => ?_) (fun _ => ?_) | refine fG.not ?_ | refine gY ?_ | refine gF ?_ | refine fG.yes (flat_map (fun _ => rfl) _) ?_ | refine fG.bool (fun _ => ?_) (fun _ => ?_) | refine gS64 ?_ | refine gU8 ?_ | refine gI9 ?_ | refine fE.of rfl ?_ | refine gBq ?_ | refine gNum9 ?_ | refine gSet ?_ | refine gRd ?_ | refine gLk ?_ | refine gRow9 ?_ | refine fB.of (wide_map (fun _ => rfl) _) ?_ | refine fB.of (full_map (fun _ => rfl) _) ?_ | refine fB.of (full_map (fun x => full_rKept x) _) ?_ | refine gRf ?_)) <;> (try (conv => whnf)))
      · have e3 : left n (((rd l j).s.regs.length : Int) + (rd l j).s.out.length) = n - (((rd l j).s.regs.length : Int) + (rd l j).s.out.length) := by unfold left; rw [if_neg c2]
        rw [e3] at hq
        repeat' ((with_reducible (first | refine sCall.of (hq _) ?_ | refine gP ?_ | refine gN ?_ | refine fG.split (fun _ => ?_) (fun _ => ?_) | refine fG.not ?_ | refine gY ?_ | refine gF ?_ | refine fG.yes (flat_map (fun _ => rfl) _) ?_ | refine fG.bool (fun _ => ?_) (fun _ => ?_) | refine gS64 ?_ | refine gU8 ?_ | refine gI9 ?_ | refine fE.of rfl ?_ | refine gBq ?_ | refine gNum9 ?_ | refine gSet ?_ | refine gRd ?_ | refine gLk ?_ | refine gRow9 ?_ | refine fB.of (wide_map (fun _ => rfl) _) ?_ | refine fB.of (full_map (fun _ => rfl) _) ?_ | refine fB.of (full_map (fun x => full_rKept x) _) ?_ | refine gRf ?_)) <;> (try (conv => whnf)))
        refine ⟨⟨⟨j + 1, n - (((rd l j).s.regs.length : Int) + (rd l j).s.out.length)⟩, (by (try dsimp only [cond_true, cond_false]); exact ⟨⟨rfl, rfl, rfl, trivial⟩, ⟨rfl, trivial⟩⟩), ?_, ?_⟩⟩
        · refine ⟨by show j + 1 ≤ _; omega, ?_, by show (0 : Int) ≤ n - (((rd l j).s.regs.length : Int) + (rd l j).s.out.length); omega⟩
          show n - (((rd l j).s.regs.length : Int) + (rd l j).s.out.length) = m - l.length - (wts wS (l.take (j + 1)) : Nat)
          omega
        · show l.length - (j + 1) < l.length - j; omega
    · have hjj : j = l.length := by omega
      rw [hjj, List.take_length] at hn
      rw [show left m (l.length + wts wS l : Nat) = n from by unfold left; rw [if_neg (by omega)]; omega]
      repeat' ((with_reducible (first | refine gP ?_ | refine gN ?_ | refine fG.split (fun _ => ?_) (fun _ => ?_) | refine fG.not ?_ | refine gY ?_ | refine gF ?_ | refine fG.yes (flat_map (fun _ => rfl) _) ?_ | refine fG.bool (fun _ => ?_) (fun _ => ?_) | refine gS64 ?_ | refine gU8 ?_ | refine gI9 ?_ | refine fE.of rfl ?_ | refine gBq ?_ | refine gNum9 ?_ | refine gSet ?_ | refine gRd ?_ | refine gLk ?_ | refine gRow9 ?_ | refine fB.of (wide_map (fun _ => rfl) _) ?_ | refine fB.of (full_map (fun _ => rfl) _) ?_ | refine fB.of (full_map (fun x => full_rKept x) _) ?_ | refine gRf ?_)) <;> (try (conv => whnf)))
theorem ok_laws_toKeptS (k : Nat) (l : List Kept) (hl : l.length ≤ 100000000000) (hx : ∀ j : Nat, j < l.length → (rd l j).s.regs.length ≤ 100000000000 ∧ (rd l j).s.out.length ≤ 100000000000) : callE PR C (k + 4) 31 [hKept 0 l] [tKept l] = some ⟨.h 2000000 1 0 [] 5 0 l.length, [tKept9 l], [none]⟩ := by
  (refine callE_is (callE_w [ResultVar.tmp 2] rfl Try.func31 rfl (by decide +kernel) rfl (by simp) ?_); (conv => whnf))
  repeat' ((with_reducible (first | refine gP ?_ | refine gN ?_ | refine fG.split (fun _ => ?_) (fun _ => ?_) | refine fG.not ?_ | refine gY ?_ | refine gF ?_ | refine fG.yes (flat_map (fun _ => rfl) _) ?_ | refine fG.bool (fun _ => ?_) (fun _ => ?_) | refine gS64 ?_ | refine gU8 ?_ | refine gI9 ?_ | refine fE.of rfl ?_ | refine gBq ?_ | refine gNum9 ?_ | refine gSet ?_ | refine gRd ?_ | refine gLk ?_ | refine gRow9 ?_ | refine fB.of (wide_map (fun _ => rfl) _) ?_ | refine fB.of (full_map (fun _ => rfl) _) ?_ | refine fB.of (full_map (fun x => full_rKept x) _) ?_ | refine gRf ?_)) <;> (try (conv => whnf)))
  refine loop_rule (ι := TL Kept) (fun x => [(0, hKept 0 l), (3, .h 7 1 0 [] 5 0 l.length), (4, i64 (x.j : Nat))])
    (fun x => [(1000000, ⟨0, 0, false, tKept l⟩), (7, ⟨1, x.g, x.d, tKept9 x.l⟩)])
    (fun x => l.length - x.j) (fun x => x.j ≤ l.length ∧ x.l = fill l x.j) ⟨0, List.replicate l.length default, 0, false⟩ (by (try dsimp only [cond_true, cond_false]); exact ⟨⟨rfl, rfl, rfl, trivial⟩, ⟨rfl, rfl, trivial⟩⟩) ⟨Nat.zero_le _, (fill_zero l).symm⟩ (by simp [C]; omega) ?_
  rintro ⟨j, out, g, d⟩ sl ob ⟨hj, hout⟩
  dsimp only at hj hout
  have hlen : out.length = l.length := by rw [hout, fill_len]
  (try dsimp only [cond_true, cond_false])
  (conv => whnf)
  by_cases hjl : j < l.length
  · have hx1 := (hx j hjl).1
    have hx2 := (hx j hjl).2
    have hq := fun k => ok_laws_toKept k (rd l j).n (rd l j).s.at_ (rd l j).s.code (rd l j).s.regs (rd l j).s.out hx1 hx2
    repeat' ((with_reducible (first | refine sCall.of (hq _) ?_ | refine gP ?_ | refine gN ?_ | refine fG.split (fun _ => ?_) (fun _ => ?_) | refine fG.not ?_ | refine gY ?_ | refine gF ?_ | refine fG.yes (flat_map (fun _ => rfl) _) ?_ | refine fG.bool (fun _ => ?_) (fun _ => ?_) | refine gS64 ?_ | refine gU8 ?_ | refine gI9 ?_ | refine fE.of rfl ?_ | refine gBq ?_ | refine gNum9 ?_ | refine gSet ?_ | refine gRd ?_ | refine gLk ?_ | refine gRow9 ?_ | refine fB.of (wide_map (fun _ => rfl) _) ?_ | refine fB.of (full_map (fun _ => rfl) _) ?_ | refine fB.of (full_map (fun x => full_rKept x) _) ?_ | refine gRf ?_)) <;> (try (conv => whnf)))
    refine ⟨⟨⟨j + 1, out.set j (rd l j), _, _⟩, (by (try dsimp only [cond_true, cond_false]); exact ⟨⟨rfl, rfl, rfl, trivial⟩, ⟨rfl, rfl, trivial⟩⟩), ?_, ?_⟩⟩
    · exact ⟨by show j + 1 ≤ _; omega, by show _ = _; rw [hout]; exact fill_set l j (by omega)⟩
    · show l.length - (j + 1) < l.length - j; omega
  · have : j = l.length := by omega
    repeat' ((with_reducible (first | refine gP ?_ | refine gN ?_ | refine fG.split (fun _ => ?_) (fun _ => ?_) | refine fG.not ?_ | refine gY ?_ | refine gF ?_ | refine fG.yes (flat_map (fun _ => rfl) _) ?_ | refine fG.bool (fun _ => ?_) (fun _ => ?_) | refine gS64 ?_ | refine gU8 ?_ | refine gI9 ?_ | refine fE.of rfl ?_ | refine gBq ?_ | refine gNum9 ?_ | refine gSet ?_ | refine gRd ?_ | refine gLk ?_ | refine gRow9 ?_ | refine fB.of (wide_map (fun _ => rfl) _) ?_ | refine fB.of (full_map (fun _ => rfl) _) ?_ | refine fB.of (full_map (fun x => full_rKept x) _) ?_ | refine gRf ?_)) <;> (try (conv => whnf)))
    rw [hout, this, fill_all, List.take_length]

end Go.Proofs.Ytfeenmfehgljgaa.Abs
namespace Go.Proofs.Ytfeenmfehgljgaa.Abs
open Go Go.Proofs
set_option linter.unusedVariables false
set_option linter.unusedSimpArgs false
attribute [local irreducible] callE
/-! ### Equal lists, equal states -/
theorem take_next {l m : List Int} {j : Nat} (h1 : j < l.length) (h2 : j < m.length) (h : l.take j = m.take j) (e : rd l j = rd m j) : l.take (j + 1) = m.take (j + 1) := by rw [take_rd h1, take_rd h2, h, e]
theorem take_all_eq {l m : List Int} (h1 : l.length = m.length) (h : l.take l.length = m.take l.length) : l = m := by rw [List.take_length, h1, List.take_length] at h; exact h
theorem ok_Equal_int (k : Nat) (r s : List Int) (hr : r.length ≤ 100000000000) (hs : s.length ≤ 100000000000) : callE PR C (k + 1) 82 [.h 1000000 0 0 [] 1 0 r.length, .h 1000001 0 0 [] 1 0 s.length] [tI r, tI s] = some ⟨bl (decide (r = s)), [], [none, none]⟩ := by
  by_cases h : r.length = s.length
  · (refine callE_is (callE_w [ResultVar.tmp 4] rfl Try.func82 rfl (by decide +kernel) rfl (by simp) ?_); (conv => whnf))
    repeat' ((with_reducible (first | refine gP ?_ | refine gN ?_ | refine fG.split (fun _ => ?_) (fun _ => ?_) | refine fG.not ?_ | refine gY ?_ | refine gF ?_ | refine fG.yes (flat_map (fun _ => rfl) _) ?_ | refine fG.bool (fun _ => ?_) (fun _ => ?_) | refine gS64 ?_ | refine gU8 ?_ | refine gI9 ?_ | refine fE.of rfl ?_ | refine gBq ?_ | refine gNum9 ?_ | refine gSet ?_ | refine gRd ?_ | refine gLk ?_ | refine gRow9 ?_ | refine fB.of (wide_map (fun _ => rfl) _) ?_ | refine fB.of (full_map (fun _ => rfl) _) ?_ | refine fB.of (full_map (fun x => full_rKept x) _) ?_ | refine gRf ?_ | refine sDraw.none (id := 6) (ty := tys) rfl (by decide +kernel) ?_)) <;> (try (conv => whnf)))
    refine loop_rule (ι := Nat) (fun j => [(0, .h 1000000 0 0 [] 1 0 r.length), (1, .h 1000001 0 0 [] 1 0 s.length), (12, i64 r.length), (13, i64 (j : Nat))])
      (fun x => [(1000000, ⟨0, 0, false, tI r⟩), (1000001, ⟨0, 0, false, tI s⟩)])
      (fun j => r.length - j) (fun j => j ≤ r.length ∧ r.take j = s.take j) 0 (by (try dsimp only [cond_true, cond_false]); exact ⟨⟨rfl, rfl, rfl, rfl, trivial⟩, ⟨rfl, rfl, trivial⟩⟩) ⟨Nat.zero_le _, rfl⟩ (by simp [C]; omega) ?_
    rintro j sl ob ⟨hj, ht⟩
    (try dsimp only [cond_true, cond_false])
    (conv => whnf)
    by_cases hjl : j < r.length
    · by_cases e : rd r j = rd s j
      · repeat' ((with_reducible (first | refine gP ?_ | refine gN ?_ | refine fG.split (fun _ => ?_) (fun _ => ?_) | refine fG.not ?_ | refine gY ?_ | refine gF ?_ | refine fG.yes (flat_map (fun _ => rfl) _) ?_ | refine fG.bool (fun _ => ?_) (fun _ => ?_) | refine gS64 ?_ | refine gU8 ?_ | refine gI9 ?_ | refine fE.of rfl ?_ | refine gBq ?_ | refine gNum9 ?_ | refine gSet ?_ | refine gRd ?_ | refine gLk ?_ | refine gRow9 ?_ | refine fB.of (wide_map (fun _ => rfl) _) ?_ | refine fB.of (full_map (fun _ => rfl) _) ?_ | refine fB.of (full_map (fun x => full_rKept x) _) ?_ | refine gRf ?_ | refine sDraw.none (id := 6) (ty := tys) rfl (by decide +kernel) ?_)) <;> (try (conv => whnf)))
        refine ⟨⟨j + 1, (by (try dsimp only [cond_true, cond_false]); exact ⟨⟨rfl, rfl, rfl, rfl, trivial⟩, ⟨rfl, rfl, trivial⟩⟩), ?_, ?_⟩⟩
        · exact ⟨by show j + 1 ≤ _; omega, take_next hjl (by omega) ht e⟩
        · show r.length - (j + 1) < r.length - j; omega
      · rw [decide_eq_false (fun hh : r = s => e (by rw [hh]))]
        repeat' ((with_reducible (first | refine gP ?_ | refine gN ?_ | refine fG.split (fun _ => ?_) (fun _ => ?_) | refine fG.not ?_ | refine gY ?_ | refine gF ?_ | refine fG.yes (flat_map (fun _ => rfl) _) ?_ | refine fG.bool (fun _ => ?_) (fun _ => ?_) | refine gS64 ?_ | refine gU8 ?_ | refine gI9 ?_ | refine fE.of rfl ?_ | refine gBq ?_ | refine gNum9 ?_ | refine gSet ?_ | refine gRd ?_ | refine gLk ?_ | refine gRow9 ?_ | refine fB.of (wide_map (fun _ => rfl) _) ?_ | refine fB.of (full_map (fun _ => rfl) _) ?_ | refine fB.of (full_map (fun x => full_rKept x) _) ?_ | refine gRf ?_ | refine sDraw.none (id := 6) (ty := tys) rfl (by decide +kernel) ?_)) <;> (try (conv => whnf)))
    · have hjj : j = r.length := by omega
      rw [decide_eq_true (take_all_eq h (by rw [← hjj]; exact ht))]
      repeat' ((with_reducible (first | refine gP ?_ | refine gN ?_ | refine fG.split (fun _ => ?_) (fun _ => ?_) | refine fG.not ?_ | refine gY ?_ | refine gF ?_ | refine fG.yes (flat_map (fun _ => rfl) _) ?_ | refine fG.bool (fun _ => ?_) (fun _ => ?_) | refine gS64 ?_ | refine gU8 ?_ | refine gI9 ?_ | refine fE.of rfl ?_ | refine gBq ?_ | refine gNum9 ?_ | refine gSet ?_ | refine gRd ?_ | refine gLk ?_ | refine gRow9 ?_ | refine fB.of (wide_map (fun _ => rfl) _) ?_ | refine fB.of (full_map (fun _ => rfl) _) ?_ | refine fB.of (full_map (fun x => full_rKept x) _) ?_ | refine gRf ?_ | refine sDraw.none (id := 6) (ty := tys) rfl (by decide +kernel) ?_)) <;> (try (conv => whnf)))
  · rw [decide_eq_false (fun hh : r = s => h (by rw [hh]))]
    (refine callE_is (callE_w [ResultVar.tmp 4] rfl Try.func82 rfl (by decide +kernel) rfl (by simp) ?_); (conv => whnf))
    repeat' ((with_reducible (first | refine gP ?_ | refine gN ?_ | refine fG.split (fun _ => ?_) (fun _ => ?_) | refine fG.not ?_ | refine gY ?_ | refine gF ?_ | refine fG.yes (flat_map (fun _ => rfl) _) ?_ | refine fG.bool (fun _ => ?_) (fun _ => ?_) | refine gS64 ?_ | refine gU8 ?_ | refine gI9 ?_ | refine fE.of rfl ?_ | refine gBq ?_ | refine gNum9 ?_ | refine gSet ?_ | refine gRd ?_ | refine gLk ?_ | refine gRow9 ?_ | refine fB.of (wide_map (fun _ => rfl) _) ?_ | refine fB.of (full_map (fun _ => rfl) _) ?_ | refine fB.of (full_map (fun x => full_rKept x) _) ?_ | refine gRf ?_ | refine sDraw.none (id := 6) (ty := tys) rfl (by decide +kernel) ?_)) <;> (try (conv => whnf)))
def sameS (a : Int) (r o : List Int) (c a2 : Int) (r2 o2 : List Int) (c2 : Int) : Bool := decide ((⟨a, r, o, c⟩ : State) = ⟨a2, r2, o2, c2⟩)
theorem sameS_eq (a : Int) (r o : List Int) (c a2 : Int) (r2 o2 : List Int) (c2 : Int) : sameS a r o c a2 r2 o2 c2 = (decide (a = a2) && (decide (c = c2) && (decide (r = r2) && decide (o = o2)))) := by
  unfold sameS
  rw [Bool.eq_iff_iff]
  simp only [decide_eq_true_eq, Bool.and_eq_true, State.mk.injEq]
  exact ⟨fun ⟨a, b, c, d⟩ => ⟨a, d, b, c⟩, fun ⟨a, d, b, c⟩ => ⟨a, b, c, d⟩⟩
theorem ok_impl_sameState (k : Nat) (a : Int) (r o : List Int) (c a2 : Int) (r2 o2 : List Int) (c2 : Int) (h1 : r.length ≤ 100000000000) (h2 : o.length ≤ 100000000000) (h3 : r2.length ≤ 100000000000) (h4 : o2.length ≤ 100000000000) :
    callE PR C (k + 2) 55 [aState 0 a r o c, aState 2 a2 r2 o2 c2] [tI r, tI o, tI r2, tI o2] = some ⟨bl (sameS a r o c a2 r2 o2 c2), [], [none, none, none, none]⟩ := by
  rw [sameS_eq]
  (refine callE_is (callE_w [ResultVar.tmp 4] rfl Try.func55 rfl (by decide +kernel) rfl (by simp) ?_); (conv => whnf))
  repeat' ((with_reducible (first | refine sCall.of (ok_Equal_int _ _ _ h1 h3) ?_ | refine sCall.of (ok_Equal_int _ _ _ h2 h4) ?_ | refine gP ?_ | refine gN ?_ | refine fG.split (fun _ => ?_) (fun _ => ?_) | refine fG.not ?_ | refine gY ?_ | refine gF ?_ | refine fG.yes (flat_map (fun _ => rfl) _) ?_ | refine fG.bool (fun _ => ?_) (fun _ => ?_) | refine gS64 ?_ | refine gU8 ?_ | refine gI9 ?_ | refine fE.of rfl ?_ | refine gBq ?_ | refine gNum9 ?_ | refine gSet ?_ | refine gRd ?_ | refine gLk ?_ | refine gRow9 ?_ | refine fB.of (wide_map (fun _ => rfl) _) ?_ | refine fB.of (full_map (fun _ => rfl) _) ?_ | refine fB.of (full_map (fun x => full_rKept x) _) ?_ | refine gRf ?_)) <;> (try (conv => whnf)))
  all_goals (simp [*]; done)

set_option maxHeartbeats 4000000 in
theorem ok_spec_l4SameState (k : Nat) (a : Int) (r o : List Int) (c a2 : Int) (r2 o2 : List Int) (c2 : Int) (h1 : r.length ≤ 100000000000) (h2 : o.length ≤ 100000000000) (h3 : r2.length ≤ 100000000000) (h4 : o2.length ≤ 100000000000) :
    callE PR C (k + 1) 59 [aState 0 a r o c, aState 2 a2 r2 o2 c2] [tI r, tI o, tI r2, tI o2] = some ⟨bl (sameS a r o c a2 r2 o2 c2), [], [none, none, none, none]⟩ := by
  have hno : ∀ q : ¬ ((⟨a, r, o, c⟩ : State) = ⟨a2, r2, o2, c2⟩), sameS a r o c a2 r2 o2 c2 = false := fun q => decide_eq_false q
  by_cases g1 : a = a2
  · by_cases g2 : c = c2
    · by_cases g3 : r.length = r2.length
      · by_cases g4 : o.length = o2.length
        · (refine callE_is (callE_w [ResultVar.tmp 4] rfl Try.func59 rfl (by decide +kernel) rfl (by simp) ?_); (conv => whnf))
          repeat' ((with_reducible (first | refine gP ?_ | refine gN ?_ | refine fG.split (fun _ => ?_) (fun _ => ?_) | refine fG.not ?_ | refine gY ?_ | refine gF ?_ | refine fG.yes (flat_map (fun _ => rfl) _) ?_ | refine fG.bool (fun _ => ?_) (fun _ => ?_) | refine gS64 ?_ | refine gU8 ?_ | refine gI9 ?_ | refine fE.of rfl ?_ | refine gBq ?_ | refine gNum9 ?_ | refine gSet ?_ | refine gRd ?_ | refine gLk ?_ | refine gRow9 ?_ | refine fB.of (wide_map (fun _ => rfl) _) ?_ | refine fB.of (full_map (fun _ => rfl) _) ?_ | refine fB.of (full_map (fun x => full_rKept x) _) ?_ | refine gRf ?_ | refine sDraw.none (id := 6) (ty := tys) rfl (by decide +kernel) ?_ | refine sDraw.none (id := 11) (ty := tys) rfl (by decide +kernel) ?_)) <;> (try (conv => whnf)))
          refine loop_rule (ι := Nat) (fun j => [(2, .pt 2 1 0 [] 0 0), (3, .pt 3 1 0 [] 0 0), (5, i64 (j : Nat))])
            (fun x => [(1000000, ⟨0, 0, false, tI r⟩), (1000001, ⟨0, 0, false, tI o⟩), (1000002, ⟨0, 0, false, tI r2⟩), (1000003, ⟨0, 0, false, tI o2⟩),
              (2, ⟨1, 0, false, .box [i64 a, .h 1000000 0 0 [] 1 0 r.length, .h 1000001 0 0 [] 1 0 o.length, i64 c]⟩), (3, ⟨1, 0, false, .box [i64 a2, .h 1000002 0 0 [] 1 0 r2.length, .h 1000003 0 0 [] 1 0 o2.length, i64 c2]⟩)])
            (fun j => r.length - j) (fun j => j ≤ r.length ∧ r.take j = r2.take j) 0 (by (try dsimp only [cond_true, cond_false]); exact ⟨⟨rfl, rfl, rfl, trivial⟩, ⟨rfl, rfl, rfl, rfl, rfl, rfl, trivial⟩⟩) ⟨Nat.zero_le _, rfl⟩ (by simp [C]; omega) ?_
          rintro j sl ob ⟨hj, ht⟩
          (try dsimp only [cond_true, cond_false])
          (conv => whnf)
          by_cases hjl : j < r.length
          · by_cases e : rd r j = rd r2 j
            · repeat' ((with_reducible (first | refine gP ?_ | refine gN ?_ | refine fG.split (fun _ => ?_) (fun _ => ?_) | refine fG.not ?_ | refine gY ?_ | refine gF ?_ | refine fG.yes (flat_map (fun _ => rfl) _) ?_ | refine fG.bool (fun _ => ?_) (fun _ => ?_) | refine gS64 ?_ | refine gU8 ?_ | refine gI9 ?_ | refine fE.of rfl ?_ | refine gBq ?_ | refine gNum9 ?_ | refine gSet ?_ | refine gRd ?_ | refine gLk ?_ | refine gRow9 ?_ | refine fB.of (wide_map (fun _ => rfl) _) ?_ | refine fB.of (full_map (fun _ => rfl) _) ?_ | refine fB.of (full_map (fun x => full_rKept x) _) ?_ | refine gRf ?_ | refine sDraw.none (id := 6) (ty := tys) rfl (by decide +kernel) ?_ | refine sDraw.none (id := 11) (ty := tys) rfl (by decide +kernel) ?_)) <;> (try (conv => whnf)))
              refine ⟨⟨j + 1, (by (try dsimp only [cond_true, cond_false]); exact ⟨⟨rfl, rfl, rfl, trivial⟩, ⟨rfl, rfl, rfl, rfl, rfl, rfl, trivial⟩⟩), ?_, ?_⟩⟩
              · exact ⟨by show j + 1 ≤ _; omega, take_next hjl (by omega) ht e⟩
              · show r.length - (j + 1) < r.length - j; omega
            · rw [hno fun hh => e (by cases hh; rfl)]
              repeat' ((with_reducible (first | refine gP ?_ | refine gN ?_ | refine fG.split (fun _ => ?_) (fun _ => ?_) | refine fG.not ?_ | refine gY ?_ | refine gF ?_ | refine fG.yes (flat_map (fun _ => rfl) _) ?_ | refine fG.bool (fun _ => ?_) (fun _ => ?_) | refine gS64 ?_ | refine gU8 ?_ | refine gI9 ?_ | refine fE.of rfl ?_ | refine gBq ?_ | refine gNum9 ?_ | refine gSet ?_ | refine gRd ?_ | refine gLk ?_ | refine gRow9 ?_ | refine fB.of (wide_map (fun _ => rfl) _) ?_ | refine fB.of (full_map (fun _ => rfl) _) ?_ | refine fB.of (full_map (fun x => full_rKept x) _) ?_ | refine gRf ?_ | refine sDraw.none (id := 6) (ty := tys) rfl (by decide +kernel) ?_ | refine sDraw.none (id := 11) (ty := tys) rfl (by decide +kernel) ?_)) <;> (try (conv => whnf)))
          · have hjj : j = r.length := by omega
            have er : r = r2 := take_all_eq g3 (by rw [← hjj]; exact ht)
            repeat' ((with_reducible (first | refine gP ?_ | refine gN ?_ | refine fG.split (fun _ => ?_) (fun _ => ?_) | refine fG.not ?_ | refine gY ?_ | refine gF ?_ | refine fG.yes (flat_map (fun _ => rfl) _) ?_ | refine fG.bool (fun _ => ?_) (fun _ => ?_) | refine gS64 ?_ | refine gU8 ?_ | refine gI9 ?_ | refine fE.of rfl ?_ | refine gBq ?_ | refine gNum9 ?_ | refine gSet ?_ | refine gRd ?_ | refine gLk ?_ | refine gRow9 ?_ | refine fB.of (wide_map (fun _ => rfl) _) ?_ | refine fB.of (full_map (fun _ => rfl) _) ?_ | refine fB.of (full_map (fun x => full_rKept x) _) ?_ | refine gRf ?_ | refine sDraw.none (id := 6) (ty := tys) rfl (by decide +kernel) ?_ | refine sDraw.none (id := 11) (ty := tys) rfl (by decide +kernel) ?_)) <;> (try (conv => whnf)))
            refine loop_rule (ι := Nat) (fun j => [(2, .pt 2 1 0 [] 0 0), (3, .pt 3 1 0 [] 0 0), (6, i64 (j : Nat))])
              (fun x => [(1000001, ⟨0, 0, false, tI o⟩), (1000003, ⟨0, 0, false, tI o2⟩), (1000000, ⟨0, 0, false, tI r⟩), (1000002, ⟨0, 0, false, tI r2⟩),
                (2, ⟨1, 0, false, .box [i64 a, .h 1000000 0 0 [] 1 0 r.length, .h 1000001 0 0 [] 1 0 o.length, i64 c]⟩), (3, ⟨1, 0, false, .box [i64 a2, .h 1000002 0 0 [] 1 0 r2.length, .h 1000003 0 0 [] 1 0 o2.length, i64 c2]⟩)])
              (fun j => o.length - j) (fun j => j ≤ o.length ∧ o.take j = o2.take j) 0 (by (try dsimp only [cond_true, cond_false]); exact ⟨⟨rfl, rfl, rfl, trivial⟩, ⟨rfl, rfl, rfl, rfl, rfl, rfl, trivial⟩⟩) ⟨Nat.zero_le _, rfl⟩ (by simp [C]; omega) ?_
            clear ht hj hjj hjl
            rintro j' sl' ob' ⟨hj, ht⟩
            (try dsimp only [cond_true, cond_false])
            (conv => whnf)
            by_cases hjl : j' < o.length
            · by_cases e : rd o j' = rd o2 j'
              · repeat' ((with_reducible (first | refine gP ?_ | refine gN ?_ | refine fG.split (fun _ => ?_) (fun _ => ?_) | refine fG.not ?_ | refine gY ?_ | refine gF ?_ | refine fG.yes (flat_map (fun _ => rfl) _) ?_ | refine fG.bool (fun _ => ?_) (fun _ => ?_) | refine gS64 ?_ | refine gU8 ?_ | refine gI9 ?_ | refine fE.of rfl ?_ | refine gBq ?_ | refine gNum9 ?_ | refine gSet ?_ | refine gRd ?_ | refine gLk ?_ | refine gRow9 ?_ | refine fB.of (wide_map (fun _ => rfl) _) ?_ | refine fB.of (full_map (fun _ => rfl) _) ?_ | refine fB.of (full_map (fun x => full_rKept x) _) ?_ | refine gRf ?_ | refine sDraw.none (id := 6) (ty := tys) rfl (by decide +kernel) ?_ | refine sDraw.none (id := 11) (ty := tys) rfl (by decide +kernel) ?_)) <;> (try (conv => whnf)))
                refine ⟨⟨j' + 1, (by (try dsimp only [cond_true, cond_false]); exact ⟨⟨rfl, rfl, rfl, trivial⟩, ⟨rfl, rfl, rfl, rfl, rfl, rfl, trivial⟩⟩), ?_, ?_⟩⟩
                · exact ⟨by show j' + 1 ≤ _; omega, take_next hjl (by omega) ht e⟩
                · show o.length - (j' + 1) < o.length - j'; omega
              · rw [hno fun hh => e (by cases hh; rfl)]
                repeat' ((with_reducible (first | refine gP ?_ | refine gN ?_ | refine fG.split (fun _ => ?_) (fun _ => ?_) | refine fG.not ?_ | refine gY ?_ | refine gF ?_ | refine fG.yes (flat_map (fun _ => rfl) _) ?_ | refine fG.bool (fun _ => ?_) (fun _ => ?_) | refine gS64 ?_ | refine gU8 ?_ | refine gI9 ?_ | refine fE.of rfl ?_ | refine gBq ?_ | refine gNum9 ?_ | refine gSet ?_ | refine gRd ?_ | refine gLk ?_ | refine gRow9 ?_ | refine fB.of (wide_map (fun _ => rfl) _) ?_ | refine fB.of (full_map (fun _ => rfl) _) ?_ | refine fB.of (full_map (fun x => full_rKept x) _) ?_ | refine gRf ?_ | refine sDraw.none (id := 6) (ty := tys) rfl (by decide +kernel) ?_ | refine sDraw.none (id := 11) (ty := tys) rfl (by decide +kernel) ?_)) <;> (try (conv => whnf)))
            · have hjj : j' = o.length := by omega
              have eo : o = o2 := take_all_eq g4 (by rw [← hjj]; exact ht)
              rw [show sameS a r o c a2 r2 o2 c2 = true from decide_eq_true (by rw [g1, g2, er, eo])]
              repeat' ((with_reducible (first | refine gP ?_ | refine gN ?_ | refine fG.split (fun _ => ?_) (fun _ => ?_) | refine fG.not ?_ | refine gY ?_ | refine gF ?_ | refine fG.yes (flat_map (fun _ => rfl) _) ?_ | refine fG.bool (fun _ => ?_) (fun _ => ?_) | refine gS64 ?_ | refine gU8 ?_ | refine gI9 ?_ | refine fE.of rfl ?_ | refine gBq ?_ | refine gNum9 ?_ | refine gSet ?_ | refine gRd ?_ | refine gLk ?_ | refine gRow9 ?_ | refine fB.of (wide_map (fun _ => rfl) _) ?_ | refine fB.of (full_map (fun _ => rfl) _) ?_ | refine fB.of (full_map (fun x => full_rKept x) _) ?_ | refine gRf ?_ | refine sDraw.none (id := 6) (ty := tys) rfl (by decide +kernel) ?_ | refine sDraw.none (id := 11) (ty := tys) rfl (by decide +kernel) ?_)) <;> (try (conv => whnf)))
        · rw [hno fun hh => g4 (by cases hh; rfl)]
          (refine callE_is (callE_w [ResultVar.tmp 4] rfl Try.func59 rfl (by decide +kernel) rfl (by simp) ?_); (conv => whnf))
          repeat' ((with_reducible (first | refine gP ?_ | refine gN ?_ | refine fG.split (fun _ => ?_) (fun _ => ?_) | refine fG.not ?_ | refine gY ?_ | refine gF ?_ | refine fG.yes (flat_map (fun _ => rfl) _) ?_ | refine fG.bool (fun _ => ?_) (fun _ => ?_) | refine gS64 ?_ | refine gU8 ?_ | refine gI9 ?_ | refine fE.of rfl ?_ | refine gBq ?_ | refine gNum9 ?_ | refine gSet ?_ | refine gRd ?_ | refine gLk ?_ | refine gRow9 ?_ | refine fB.of (wide_map (fun _ => rfl) _) ?_ | refine fB.of (full_map (fun _ => rfl) _) ?_ | refine fB.of (full_map (fun x => full_rKept x) _) ?_ | refine gRf ?_ | refine sDraw.none (id := 6) (ty := tys) rfl (by decide +kernel) ?_ | refine sDraw.none (id := 11) (ty := tys) rfl (by decide +kernel) ?_)) <;> (try (conv => whnf)))
      · rw [hno fun hh => g3 (by cases hh; rfl)]
        (refine callE_is (callE_w [ResultVar.tmp 4] rfl Try.func59 rfl (by decide +kernel) rfl (by simp) ?_); (conv => whnf))
        repeat' ((with_reducible (first | refine gP ?_ | refine gN ?_ | refine fG.split (fun _ => ?_) (fun _ => ?_) | refine fG.not ?_ | refine gY ?_ | refine gF ?_ | refine fG.yes (flat_map (fun _ => rfl) _) ?_ | refine fG.bool (fun _ => ?_) (fun _ => ?_) | refine gS64 ?_ | refine gU8 ?_ | refine gI9 ?_ | refine fE.of rfl ?_ | refine gBq ?_ | refine gNum9 ?_ | refine gSet ?_ | refine gRd ?_ | refine gLk ?_ | refine gRow9 ?_ | refine fB.of (wide_map (fun _ => rfl) _) ?_ | refine fB.of (full_map (fun _ => rfl) _) ?_ | refine fB.of (full_map (fun x => full_rKept x) _) ?_ | refine gRf ?_ | refine sDraw.none (id := 6) (ty := tys) rfl (by decide +kernel) ?_ | refine sDraw.none (id := 11) (ty := tys) rfl (by decide +kernel) ?_)) <;> (try (conv => whnf)))
    · rw [hno fun hh => g2 (by cases hh; rfl)]
      (refine callE_is (callE_w [ResultVar.tmp 4] rfl Try.func59 rfl (by decide +kernel) rfl (by simp) ?_); (conv => whnf))
      repeat' ((with_reducible (first | refine gP ?_ | refine gN ?_ | refine fG.split (fun _ => ?_) (fun _ => ?_) | refine fG.not ?_ | refine gY ?_ | refine gF ?_ | refine fG.yes (flat_map (fun _ => rfl) _) ?_ | refine fG.bool (fun _ => ?_) (fun _ => ?_) | refine gS64 ?_ | refine gU8 ?_ | refine gI9 ?_ | refine fE.of rfl ?_ | refine gBq ?_ | refine gNum9 ?_ | refine gSet ?_ | refine gRd ?_ | refine gLk ?_ | refine gRow9 ?_ | refine fB.of (wide_map (fun _ => rfl) _) ?_ | refine fB.of (full_map (fun _ => rfl) _) ?_ | refine fB.of (full_map (fun x => full_rKept x) _) ?_ | refine gRf ?_ | refine sDraw.none (id := 6) (ty := tys) rfl (by decide +kernel) ?_ | refine sDraw.none (id := 11) (ty := tys) rfl (by decide +kernel) ?_)) <;> (try (conv => whnf)))
  · rw [hno fun hh => g1 (by cases hh; rfl)]
    (refine callE_is (callE_w [ResultVar.tmp 4] rfl Try.func59 rfl (by decide +kernel) rfl (by simp) ?_); (conv => whnf))
    repeat' ((with_reducible (first | refine gP ?_ | refine gN ?_ | refine fG.split (fun _ => ?_) (fun _ => ?_) | refine fG.not ?_ | refine gY ?_ | refine gF ?_ | refine fG.yes (flat_map (fun _ => rfl) _) ?_ | refine fG.bool (fun _ => ?_) (fun _ => ?_) | refine gS64 ?_ | refine gU8 ?_ | refine gI9 ?_ | refine fE.of rfl ?_ | refine gBq ?_ | refine gNum9 ?_ | refine gSet ?_ | refine gRd ?_ | refine gLk ?_ | refine gRow9 ?_ | refine fB.of (wide_map (fun _ => rfl) _) ?_ | refine fB.of (full_map (fun _ => rfl) _) ?_ | refine fB.of (full_map (fun x => full_rKept x) _) ?_ | refine gRf ?_ | refine sDraw.none (id := 6) (ty := tys) rfl (by decide +kernel) ?_ | refine sDraw.none (id := 11) (ty := tys) rfl (by decide +kernel) ?_)) <;> (try (conv => whnf)))

/-! ### Kept states that are right -/
def keptOne (l : List Ins) (es : List Event) (ks : List Kept) (i : Nat) : Bool :=
  decide (0 ≤ (rd ks i).n ∧ (rd ks i).n ≤ es.length) && (decide (i = 0 ∨ (rd ks (i - 1)).n < (rd ks i).n) && decide (stOf (replayAll l (es.take (rd ks i).n.toNat)) = (rd ks i).s))
def keptOk (l : List Ins) (es : List Event) (ks : List Kept) : Bool :=
  (replayAll l es).isSome && (decide (0 < ks.length) && (decide ((rd ks 0).n = 0) && (List.range ks.length).all (keptOne l es ks)))
theorem keptOk_no {l : List Ins} {es : List Event} {ks : List Kept} {i : Nat} (hi : i < ks.length) (h : keptOne l es ks i = false) : keptOk l es ks = false := by
  have : (List.range ks.length).all (keptOne l es ks) = false := by
    rw [List.all_eq_false]
    exact ⟨i, List.mem_range.2 hi, by rw [h]; decide⟩
  simp only [keptOk, this, Bool.and_false]
theorem keptOk_yes {l : List Ins} {es : List Event} {ks : List Kept} (h1 : (replayAll l es).isSome = true) (h2 : 0 < ks.length) (h3 : (rd ks 0).n = 0) (h : ∀ i, i < ks.length → keptOne l es ks i = true) : keptOk l es ks = true := by
  have : (List.range ks.length).all (keptOne l es ks) = true := by
    rw [List.all_eq_true]
    exact fun i hi => h i (List.mem_range.1 hi)
  simp only [keptOk, this, h1, h2, h3, decide_true, Bool.and_self]
/-- Kept states that fit into memory. -/
def KFits (ks : List Kept) : Prop := ks.length ≤ 100000000000 ∧ ∀ j : Nat, j < ks.length → (rd ks j).s.regs.length ≤ 100000000000 ∧ (rd ks j).s.out.length ≤ 100000000000
theorem sameS_of {s t : State} (h : s = t) : sameS s.at_ s.regs s.out s.code t.at_ t.regs t.out t.code = true := decide_eq_true h
theorem sameS_not {s t : State} (h : ¬ s = t) : sameS s.at_ s.regs s.out s.code t.at_ t.regs t.out t.code = false := decide_eq_false h
structure KRnd where
  j : Nat
set_option maxHeartbeats 8000000 in
theorem ok_impl_KeptOk (k : Nat) (l : List Ins) (es : List Event) (ks : List Kept) (hl : l.length ≤ 100000000000) (he : es.length ≤ 100000000000) (hk : KFits ks) :
    callE PR C (k + 10) 21 [hIns 0 l, hEvent 1 es, hKept 2 ks] [tIns l, tEvent es, tKept ks] = some ⟨bl (keptOk l es ks), [], [none, none, none]⟩ := by
  have hk1 := hk.1
  cases hr : (replayAll l es).isSome with
  | false =>
    have hq := fun k => ok_impl_Replay' k l es hl he
    simp only [hr] at hq
    rw [show keptOk l es ks = false by simp only [keptOk, hr, Bool.false_and]]
    (refine callE_is (callE_w [ResultVar.tmp 6] rfl Try.func21 rfl (by decide +kernel) rfl (by simp) ?_); (conv => whnf))
    repeat' ((with_reducible (first | refine sCall.of (hq _) ?_ | refine gP ?_ | refine gN ?_ | refine fG.split (fun _ => ?_) (fun _ => ?_) | refine fG.not ?_ | refine gY ?_ | refine gF ?_ | refine fG.yes (flat_map (fun _ => rfl) _) ?_ | refine fG.bool (fun _ => ?_) (fun _ => ?_) | refine gS64 ?_ | refine gU8 ?_ | refine gI9 ?_ | refine fE.of rfl ?_ | refine gBq ?_ | refine gNum9 ?_ | refine gSet ?_ | refine gRd ?_ | refine gLk ?_ | refine gRow9 ?_ | refine fB.of (wide_map (fun _ => rfl) _) ?_ | refine fB.of (full_map (fun _ => rfl) _) ?_ | refine fB.of (full_map (fun x => full_rKept x) _) ?_ | refine gRf ?_ | refine sDraw.none (id := 7) (ty := tys) rfl (by decide +kernel) ?_)) <;> (try (conv => whnf)))
  | true =>
    have hq := fun k => ok_impl_Replay' k l es hl he
    simp only [hr] at hq
    by_cases g1 : 0 < ks.length
    · by_cases g2 : (rd ks 0).n = 0
      · (refine callE_is (callE_w [ResultVar.tmp 6] rfl Try.func21 rfl (by decide +kernel) rfl (by simp) ?_); (conv => whnf))
        repeat' ((with_reducible (first | refine sCall.of (hq _) ?_ | refine gP ?_ | refine gN ?_ | refine fG.split (fun _ => ?_) (fun _ => ?_) | refine fG.not ?_ | refine gY ?_ | refine gF ?_ | refine fG.yes (flat_map (fun _ => rfl) _) ?_ | refine fG.bool (fun _ => ?_) (fun _ => ?_) | refine gS64 ?_ | refine gU8 ?_ | refine gI9 ?_ | refine fE.of rfl ?_ | refine gBq ?_ | refine gNum9 ?_ | refine gSet ?_ | refine gRd ?_ | refine gLk ?_ | refine gRow9 ?_ | refine fB.of (wide_map (fun _ => rfl) _) ?_ | refine fB.of (full_map (fun _ => rfl) _) ?_ | refine fB.of (full_map (fun x => full_rKept x) _) ?_ | refine gRf ?_ | refine sDraw.none (id := 7) (ty := tys) rfl (by decide +kernel) ?_)) <;> (try (conv => whnf)))
        refine loop_rule (ι := KRnd) (fun x => [(0, hIns 0 l), (1, hEvent 1 es), (2, hKept 2 ks), (33, hKept 2 ks), (34, i64 ks.length), (35, i64 (x.j : Nat))])
          (fun x => [(1000000, ⟨0, 0, false, tIns l⟩), (1000001, ⟨0, 0, false, tEvent es⟩), (1000002, ⟨0, 0, false, tKept ks⟩)])
          (fun x => ks.length - x.j) (fun x => x.j ≤ ks.length ∧ ∀ i, i < x.j → keptOne l es ks i = true) ⟨0⟩ (by (try dsimp only [cond_true, cond_false]); exact ⟨⟨rfl, rfl, rfl, rfl, rfl, rfl, trivial⟩, ⟨rfl, rfl, rfl, trivial⟩⟩) ⟨Nat.zero_le _, by simp⟩ (by simp [C]; omega) ?_
        rintro ⟨j⟩ sl ob ⟨hj, hall⟩
        dsimp only at hj hall
        (try dsimp only [cond_true, cond_false])
        (conv => whnf)
        by_cases hjl : j < ks.length
        · have hx1 := (hk.2 j hjl).1
          have hx2 := (hk.2 j hjl).2
          by_cases g3 : 0 ≤ (rd ks j).n ∧ (rd ks j).n ≤ es.length
          · obtain ⟨g4, g5⟩ := g3
            by_cases g6 : j = 0 ∨ (rd ks (j - 1)).n < (rd ks j).n
            · obtain ⟨y1, y2⟩ := stOf_len l (es.take (rd ks j).n.toNat)
              have hin := fun k => ok_impl_in k (rd ks j).n 0 es.length
              rw [decide_eq_true (⟨g4, g5⟩ : 0 ≤ (rd ks j).n ∧ (rd ks j).n ≤ (es.length : Int))] at hin
              have hq2 := fun k => ok_impl_Replay' k l (es.take (rd ks j).n.toNat) hl (by simp; omega)
              have hs := fun k => ok_impl_sameState k (stOf (replayAll l (es.take (rd ks j).n.toNat))).at_ (stOf (replayAll l (es.take (rd ks j).n.toNat))).regs (stOf (replayAll l (es.take (rd ks j).n.toNat))).out (stOf (replayAll l (es.take (rd ks j).n.toNat))).code (rd ks j).s.at_ (rd ks j).s.regs (rd ks j).s.out (rd ks j).s.code (by omega) (by omega) hx1 hx2
              by_cases e : stOf (replayAll l (es.take (rd ks j).n.toNat)) = (rd ks j).s
              · have hone : keptOne l es ks j = true := by
                  unfold keptOne
                  rw [decide_eq_true (⟨g4, g5⟩ : 0 ≤ (rd ks j).n ∧ (rd ks j).n ≤ (es.length : Int)), decide_eq_true g6, decide_eq_true e]
                  rfl
                simp only [sameS_of e] at hs
                by_cases j0 : j = 0
                · repeat' ((with_reducible (first | refine sCall.of (hin _) ?_ | refine sCall.of (hq2 _) ?_ | refine sCall.of (hs _) ?_ | refine gP ?_ | refine gN ?_ | refine fG.split (fun _ => ?_) (fun _ => ?_) | refine fG.not ?_ | refine gY ?_ | refine gF ?_ | refine fG.yes (flat_map (fun _ => rfl) _) ?_ | refine fG.bool (fun _ => ?_) (fun _ => ?_) | refine gS64 ?_ | refine gU8 ?_ | refine gI9 ?_ | refine fE.of rfl ?_ | refine gBq ?_ | refine gNum9 ?_ | refine gSet ?_ | refine gRd ?_ | refine gLk ?_ | refine gRow9 ?_ | refine fB.of (wide_map (fun _ => rfl) _) ?_ | refine fB.of (full_map (fun _ => rfl) _) ?_ | refine fB.of (full_map (fun x => full_rKept x) _) ?_ | refine gRf ?_ | refine sDraw.none (id := 7) (ty := tys) rfl (by decide +kernel) ?_)) <;> (try (conv => whnf)))
                  refine ⟨⟨⟨j + 1⟩, (by (try dsimp only [cond_true, cond_false]); exact ⟨⟨rfl, rfl, rfl, rfl, rfl, rfl, trivial⟩, ⟨rfl, rfl, rfl, trivial⟩⟩), ?_, ?_⟩⟩
                  · exact ⟨by show j + 1 ≤ _; omega, fun i hi => by rcases Nat.lt_succ_iff_lt_or_eq.1 hi with h | h; exact hall i h; rw [h]; exact hone⟩
                  · show ks.length - (j + 1) < ks.length - j; omega
                · have g7 : (rd ks ((j : Int) - 1).toNat).n < (rd ks j).n := by
                    rw [show ((j : Int) - 1).toNat = j - 1 by omega]
                    rcases g6 with h | h
                    · exact absurd h j0
                    · exact h
                  repeat' ((with_reducible (first | refine sCall.of (hin _) ?_ | refine sCall.of (hq2 _) ?_ | refine sCall.of (hs _) ?_ | refine gP ?_ | refine gN ?_ | refine fG.split (fun _ => ?_) (fun _ => ?_) | refine fG.not ?_ | refine gY ?_ | refine gF ?_ | refine fG.yes (flat_map (fun _ => rfl) _) ?_ | refine fG.bool (fun _ => ?_) (fun _ => ?_) | refine gS64 ?_ | refine gU8 ?_ | refine gI9 ?_ | refine fE.of rfl ?_ | refine gBq ?_ | refine gNum9 ?_ | refine gSet ?_ | refine gRd ?_ | refine gLk ?_ | refine gRow9 ?_ | refine fB.of (wide_map (fun _ => rfl) _) ?_ | refine fB.of (full_map (fun _ => rfl) _) ?_ | refine fB.of (full_map (fun x => full_rKept x) _) ?_ | refine gRf ?_ | refine sDraw.none (id := 7) (ty := tys) rfl (by decide +kernel) ?_)) <;> (try (conv => whnf)))
                  refine ⟨⟨⟨j + 1⟩, (by (try dsimp only [cond_true, cond_false]); exact ⟨⟨rfl, rfl, rfl, rfl, rfl, rfl, trivial⟩, ⟨rfl, rfl, rfl, trivial⟩⟩), ?_, ?_⟩⟩
                  · exact ⟨by show j + 1 ≤ _; omega, fun i hi => by rcases Nat.lt_succ_iff_lt_or_eq.1 hi with h | h; exact hall i h; rw [h]; exact hone⟩
                  · show ks.length - (j + 1) < ks.length - j; omega
              · rw [keptOk_no hjl (by unfold keptOne; rw [decide_eq_false e, Bool.and_false, Bool.and_false])]
                simp only [sameS_not e] at hs
                by_cases j0 : j = 0
                · repeat' ((with_reducible (first | refine sCall.of (hin _) ?_ | refine sCall.of (hq2 _) ?_ | refine sCall.of (hs _) ?_ | refine gP ?_ | refine gN ?_ | refine fG.split (fun _ => ?_) (fun _ => ?_) | refine fG.not ?_ | refine gY ?_ | refine gF ?_ | refine fG.yes (flat_map (fun _ => rfl) _) ?_ | refine fG.bool (fun _ => ?_) (fun _ => ?_) | refine gS64 ?_ | refine gU8 ?_ | refine gI9 ?_ | refine fE.of rfl ?_ | refine gBq ?_ | refine gNum9 ?_ | refine gSet ?_ | refine gRd ?_ | refine gLk ?_ | refine gRow9 ?_ | refine fB.of (wide_map (fun _ => rfl) _) ?_ | refine fB.of (full_map (fun _ => rfl) _) ?_ | refine fB.of (full_map (fun x => full_rKept x) _) ?_ | refine gRf ?_ | refine sDraw.none (id := 7) (ty := tys) rfl (by decide +kernel) ?_)) <;> (try (conv => whnf)))
                · have g7 : (rd ks ((j : Int) - 1).toNat).n < (rd ks j).n := by
                    rw [show ((j : Int) - 1).toNat = j - 1 by omega]
                    rcases g6 with h | h
                    · exact absurd h j0
                    · exact h
                  repeat' ((with_reducible (first | refine sCall.of (hin _) ?_ | refine sCall.of (hq2 _) ?_ | refine sCall.of (hs _) ?_ | refine gP ?_ | refine gN ?_ | refine fG.split (fun _ => ?_) (fun _ => ?_) | refine fG.not ?_ | refine gY ?_ | refine gF ?_ | refine fG.yes (flat_map (fun _ => rfl) _) ?_ | refine fG.bool (fun _ => ?_) (fun _ => ?_) | refine gS64 ?_ | refine gU8 ?_ | refine gI9 ?_ | refine fE.of rfl ?_ | refine gBq ?_ | refine gNum9 ?_ | refine gSet ?_ | refine gRd ?_ | refine gLk ?_ | refine gRow9 ?_ | refine fB.of (wide_map (fun _ => rfl) _) ?_ | refine fB.of (full_map (fun _ => rfl) _) ?_ | refine fB.of (full_map (fun x => full_rKept x) _) ?_ | refine gRf ?_ | refine sDraw.none (id := 7) (ty := tys) rfl (by decide +kernel) ?_)) <;> (try (conv => whnf)))
            · rw [keptOk_no hjl (by unfold keptOne; rw [decide_eq_false g6, Bool.false_and, Bool.and_false])]
              have hin := fun k => ok_impl_in k (rd ks j).n 0 es.length
              rw [decide_eq_true (⟨g4, g5⟩ : 0 ≤ (rd ks j).n ∧ (rd ks j).n ≤ (es.length : Int))] at hin
              have j0 : ¬ j = 0 := fun h => g6 (.inl h)
              have g7 : (rd ks j).n ≤ (rd ks ((j : Int) - 1).toNat).n := by
                rw [show ((j : Int) - 1).toNat = j - 1 by omega]
                have := fun h => g6 (.inr h)
                omega
              repeat' ((with_reducible (first | refine sCall.of (hin _) ?_ | refine gP ?_ | refine gN ?_ | refine fG.split (fun _ => ?_) (fun _ => ?_) | refine fG.not ?_ | refine gY ?_ | refine gF ?_ | refine fG.yes (flat_map (fun _ => rfl) _) ?_ | refine fG.bool (fun _ => ?_) (fun _ => ?_) | refine gS64 ?_ | refine gU8 ?_ | refine gI9 ?_ | refine fE.of rfl ?_ | refine gBq ?_ | refine gNum9 ?_ | refine gSet ?_ | refine gRd ?_ | refine gLk ?_ | refine gRow9 ?_ | refine fB.of (wide_map (fun _ => rfl) _) ?_ | refine fB.of (full_map (fun _ => rfl) _) ?_ | refine fB.of (full_map (fun x => full_rKept x) _) ?_ | refine gRf ?_ | refine sDraw.none (id := 7) (ty := tys) rfl (by decide +kernel) ?_)) <;> (try (conv => whnf)))
          · rw [keptOk_no hjl (by unfold keptOne; rw [decide_eq_false g3, Bool.false_and])]
            have hin := fun k => ok_impl_in k (rd ks j).n 0 es.length
            rw [decide_eq_false g3] at hin
            repeat' ((with_reducible (first | refine sCall.of (hin _) ?_ | refine gP ?_ | refine gN ?_ | refine fG.split (fun _ => ?_) (fun _ => ?_) | refine fG.not ?_ | refine gY ?_ | refine gF ?_ | refine fG.yes (flat_map (fun _ => rfl) _) ?_ | refine fG.bool (fun _ => ?_) (fun _ => ?_) | refine gS64 ?_ | refine gU8 ?_ | refine gI9 ?_ | refine fE.of rfl ?_ | refine gBq ?_ | refine gNum9 ?_ | refine gSet ?_ | refine gRd ?_ | refine gLk ?_ | refine gRow9 ?_ | refine fB.of (wide_map (fun _ => rfl) _) ?_ | refine fB.of (full_map (fun _ => rfl) _) ?_ | refine fB.of (full_map (fun x => full_rKept x) _) ?_ | refine gRf ?_ | refine sDraw.none (id := 7) (ty := tys) rfl (by decide +kernel) ?_)) <;> (try (conv => whnf)))
        · have hjj : j = ks.length := by omega
          rw [keptOk_yes hr g1 g2 (by rw [← hjj]; exact hall)]
          repeat' ((with_reducible (first | refine gP ?_ | refine gN ?_ | refine fG.split (fun _ => ?_) (fun _ => ?_) | refine fG.not ?_ | refine gY ?_ | refine gF ?_ | refine fG.yes (flat_map (fun _ => rfl) _) ?_ | refine fG.bool (fun _ => ?_) (fun _ => ?_) | refine gS64 ?_ | refine gU8 ?_ | refine gI9 ?_ | refine fE.of rfl ?_ | refine gBq ?_ | refine gNum9 ?_ | refine gSet ?_ | refine gRd ?_ | refine gLk ?_ | refine gRow9 ?_ | refine fB.of (wide_map (fun _ => rfl) _) ?_ | refine fB.of (full_map (fun _ => rfl) _) ?_ | refine fB.of (full_map (fun x => full_rKept x) _) ?_ | refine gRf ?_ | refine sDraw.none (id := 7) (ty := tys) rfl (by decide +kernel) ?_)) <;> (try (conv => whnf)))
      · rw [show keptOk l es ks = false by simp only [keptOk, decide_eq_false g2, Bool.false_and, Bool.and_false]]
        (refine callE_is (callE_w [ResultVar.tmp 6] rfl Try.func21 rfl (by decide +kernel) rfl (by simp) ?_); (conv => whnf))
        repeat' ((with_reducible (first | refine sCall.of (hq _) ?_ | refine gP ?_ | refine gN ?_ | refine fG.split (fun _ => ?_) (fun _ => ?_) | refine fG.not ?_ | refine gY ?_ | refine gF ?_ | refine fG.yes (flat_map (fun _ => rfl) _) ?_ | refine fG.bool (fun _ => ?_) (fun _ => ?_) | refine gS64 ?_ | refine gU8 ?_ | refine gI9 ?_ | refine fE.of rfl ?_ | refine gBq ?_ | refine gNum9 ?_ | refine gSet ?_ | refine gRd ?_ | refine gLk ?_ | refine gRow9 ?_ | refine fB.of (wide_map (fun _ => rfl) _) ?_ | refine fB.of (full_map (fun _ => rfl) _) ?_ | refine fB.of (full_map (fun x => full_rKept x) _) ?_ | refine gRf ?_ | refine sDraw.none (id := 7) (ty := tys) rfl (by decide +kernel) ?_)) <;> (try (conv => whnf)))
    · rw [show keptOk l es ks = false by simp only [keptOk, decide_eq_false g1, Bool.false_and, Bool.and_false]]
      (refine callE_is (callE_w [ResultVar.tmp 6] rfl Try.func21 rfl (by decide +kernel) rfl (by simp) ?_); (conv => whnf))
      repeat' ((with_reducible (first | refine sCall.of (hq _) ?_ | refine gP ?_ | refine gN ?_ | refine fG.split (fun _ => ?_) (fun _ => ?_) | refine fG.not ?_ | refine gY ?_ | refine gF ?_ | refine fG.yes (flat_map (fun _ => rfl) _) ?_ | refine fG.bool (fun _ => ?_) (fun _ => ?_) | refine gS64 ?_ | refine gU8 ?_ | refine gI9 ?_ | refine fE.of rfl ?_ | refine gBq ?_ | refine gNum9 ?_ | refine gSet ?_ | refine gRd ?_ | refine gLk ?_ | refine gRow9 ?_ | refine fB.of (wide_map (fun _ => rfl) _) ?_ | refine fB.of (full_map (fun _ => rfl) _) ?_ | refine fB.of (full_map (fun x => full_rKept x) _) ?_ | refine gRf ?_ | refine sDraw.none (id := 7) (ty := tys) rfl (by decide +kernel) ?_)) <;> (try (conv => whnf)))

set_option maxHeartbeats 8000000 in
theorem ok_spec_KeptOk (k : Nat) (l : List Ins) (es : List Event) (ks : List Kept) (hl : l.length ≤ 100000000000) (he : es.length ≤ 100000000000) (hk : KFits ks) :
    callE PR C (k + 7) 28 [hIns 0 l, hEvent 1 es, hKept 2 ks] [tIns l, tEvent es, tKept ks] = some ⟨bl (keptOk l es ks), [], [none, none, none]⟩ := by
  have hk1 := hk.1
  cases hr : (replayAll l es).isSome with
  | false =>
    have hq := fun k => ok_spec_Replay' k l es hl he
    simp only [hr] at hq
    rw [show keptOk l es ks = false by simp only [keptOk, hr, Bool.false_and]]
    (refine callE_is (callE_w [ResultVar.tmp 6] rfl Try.func28 rfl (by decide +kernel) rfl (by simp) ?_); (conv => whnf))
    repeat' ((with_reducible (first | refine sCall.of (hq _) ?_ | refine gP ?_ | refine gN ?_ | refine fG.split (fun _ => ?_) (fun _ => ?_) | refine fG.not ?_ | refine gY ?_ | refine gF ?_ | refine fG.yes (flat_map (fun _ => rfl) _) ?_ | refine fG.bool (fun _ => ?_) (fun _ => ?_) | refine gS64 ?_ | refine gU8 ?_ | refine gI9 ?_ | refine fE.of rfl ?_ | refine gBq ?_ | refine gNum9 ?_ | refine gSet ?_ | refine gRd ?_ | refine gLk ?_ | refine gRow9 ?_ | refine fB.of (wide_map (fun _ => rfl) _) ?_ | refine fB.of (full_map (fun _ => rfl) _) ?_ | refine fB.of (full_map (fun x => full_rKept x) _) ?_ | refine gRf ?_ | refine sDraw.none (id := 7) (ty := tys) rfl (by decide +kernel) ?_ | refine sDraw.none (id := 10) (ty := tys) rfl (by decide +kernel) ?_)) <;> (try (conv => whnf)))
  | true =>
    have hq := fun k => ok_spec_Replay' k l es hl he
    simp only [hr] at hq
    by_cases g1 : 0 < ks.length
    · by_cases g2 : (rd ks 0).n = 0
      · (refine callE_is (callE_w [ResultVar.tmp 6] rfl Try.func28 rfl (by decide +kernel) rfl (by simp) ?_); (conv => whnf))
        repeat' ((with_reducible (first | refine sCall.of (hq _) ?_ | refine gP ?_ | refine gN ?_ | refine fG.split (fun _ => ?_) (fun _ => ?_) | refine fG.not ?_ | refine gY ?_ | refine gF ?_ | refine fG.yes (flat_map (fun _ => rfl) _) ?_ | refine fG.bool (fun _ => ?_) (fun _ => ?_) | refine gS64 ?_ | refine gU8 ?_ | refine gI9 ?_ | refine fE.of rfl ?_ | refine gBq ?_ | refine gNum9 ?_ | refine gSet ?_ | refine gRd ?_ | refine gLk ?_ | refine gRow9 ?_ | refine fB.of (wide_map (fun _ => rfl) _) ?_ | refine fB.of (full_map (fun _ => rfl) _) ?_ | refine fB.of (full_map (fun x => full_rKept x) _) ?_ | refine gRf ?_ | refine sDraw.none (id := 7) (ty := tys) rfl (by decide +kernel) ?_ | refine sDraw.none (id := 10) (ty := tys) rfl (by decide +kernel) ?_)) <;> (try (conv => whnf)))
        refine loop_rule (ι := KRnd) (fun x => [(0, hIns 0 l), (1, hEvent 1 es), (2, hKept 2 ks), (9, i64 (x.j : Nat))])
          (fun x => [(1000000, ⟨0, 0, false, tIns l⟩), (1000001, ⟨0, 0, false, tEvent es⟩), (1000002, ⟨0, 0, false, tKept ks⟩)])
          (fun x => ks.length - x.j) (fun x => x.j ≤ ks.length ∧ ∀ i, i < x.j → keptOne l es ks i = true) ⟨0⟩ (by (try dsimp only [cond_true, cond_false]); exact ⟨⟨rfl, rfl, rfl, rfl, trivial⟩, ⟨rfl, rfl, rfl, trivial⟩⟩) ⟨Nat.zero_le _, by simp⟩ (by simp [C]; omega) ?_
        rintro ⟨j⟩ sl ob ⟨hj, hall⟩
        dsimp only at hj hall
        (try dsimp only [cond_true, cond_false])
        (conv => whnf)
        by_cases hjl : j < ks.length
        · have hx1 := (hk.2 j hjl).1
          have hx2 := (hk.2 j hjl).2
          by_cases g3 : 0 ≤ (rd ks j).n ∧ (rd ks j).n ≤ es.length
          · obtain ⟨g4, g5⟩ := g3
            by_cases g6 : j = 0 ∨ (rd ks (j - 1)).n < (rd ks j).n
            · obtain ⟨y1, y2⟩ := stOf_len l (es.take (rd ks j).n.toNat)
              have hin := fun k => ok_spec_l1In k (rd ks j).n 0 es.length
              rw [decide_eq_true (⟨g4, g5⟩ : 0 ≤ (rd ks j).n ∧ (rd ks j).n ≤ (es.length : Int))] at hin
              have hq2 := fun k => ok_spec_Replay' k l (es.take (rd ks j).n.toNat) hl (by simp; omega)
              have hs := fun k => ok_spec_l4SameState k (stOf (replayAll l (es.take (rd ks j).n.toNat))).at_ (stOf (replayAll l (es.take (rd ks j).n.toNat))).regs (stOf (replayAll l (es.take (rd ks j).n.toNat))).out (stOf (replayAll l (es.take (rd ks j).n.toNat))).code (rd ks j).s.at_ (rd ks j).s.regs (rd ks j).s.out (rd ks j).s.code (by omega) (by omega) hx1 hx2
              by_cases e : stOf (replayAll l (es.take (rd ks j).n.toNat)) = (rd ks j).s
              · have hone : keptOne l es ks j = true := by
                  unfold keptOne
                  rw [decide_eq_true (⟨g4, g5⟩ : 0 ≤ (rd ks j).n ∧ (rd ks j).n ≤ (es.length : Int)), decide_eq_true g6, decide_eq_true e]
                  rfl
                simp only [sameS_of e] at hs
                by_cases j0 : j = 0
                · repeat' ((with_reducible (first | refine sCall.of (hin _) ?_ | refine sCall.of (hq2 _) ?_ | refine sCall.of (hs _) ?_ | refine gP ?_ | refine gN ?_ | refine fG.split (fun _ => ?_) (fun _ => ?_) | refine fG.not ?_ | refine gY ?_ | refine gF ?_ | refine fG.yes (flat_map (fun _ => rfl) _) ?_ | refine fG.bool (fun _ => ?_) (fun _ => ?_) | refine gS64 ?_ | refine gU8 ?_ | refine gI9 ?_ | refine fE.of rfl ?_ | refine gBq ?_ | refine gNum9 ?_ | refine gSet ?_ | refine gRd ?_ | refine gLk ?_ | refine gRow9 ?_ | refine fB.of (wide_map (fun _ => rfl) _) ?_ | refine fB.of (full_map (fun _ => rfl) _) ?_ | refine fB.of (full_map (fun x => full_rKept x) _) ?_ | refine gRf ?_ | refine sDraw.none (id := 7) (ty := tys) rfl (by decide +kernel) ?_ | refine sDraw.none (id := 10) (ty := tys) rfl (by decide +kernel) ?_)) <;> (try (conv => whnf)))
                  refine ⟨⟨⟨j + 1⟩, (by (try dsimp only [cond_true, cond_false]); exact ⟨⟨rfl, rfl, rfl, rfl, trivial⟩, ⟨rfl, rfl, rfl, trivial⟩⟩), ?_, ?_⟩⟩
                  · exact ⟨by show j + 1 ≤ _; omega, fun i hi => by rcases Nat.lt_succ_iff_lt_or_eq.1 hi with h | h; exact hall i h; rw [h]; exact hone⟩
                  · show ks.length - (j + 1) < ks.length - j; omega
                · have g7 : (rd ks ((j : Int) - 1).toNat).n < (rd ks j).n := by
                    rw [show ((j : Int) - 1).toNat = j - 1 by omega]
                    rcases g6 with h | h
                    · exact absurd h j0
                    · exact h
                  repeat' ((with_reducible (first | refine sCall.of (hin _) ?_ | refine sCall.of (hq2 _) ?_ | refine sCall.of (hs _) ?_ | refine gP ?_ | refine gN ?_ | refine fG.split (fun _ => ?_) (fun _ => ?_) | refine fG.not ?_ | refine gY ?_ | refine gF ?_ | refine fG.yes (flat_map (fun _ => rfl) _) ?_ | refine fG.bool (fun _ => ?_) (fun _ => ?_) | refine gS64 ?_ | refine gU8 ?_ | refine gI9 ?_ | refine fE.of rfl ?_ | refine gBq ?_ | refine gNum9 ?_ | refine gSet ?_ | refine gRd ?_ | refine gLk ?_ | refine gRow9 ?_ | refine fB.of (wide_map (fun _ => rfl) _) ?_ | refine fB.of (full_map (fun _ => rfl) _) ?_ | refine fB.of (full_map (fun x => full_rKept x) _) ?_ | refine gRf ?_ | refine sDraw.none (id := 7) (ty := tys) rfl (by decide +kernel) ?_ | refine sDraw.none (id := 10) (ty := tys) rfl (by decide +kernel) ?_)) <;> (try (conv => whnf)))
                  refine ⟨⟨⟨j + 1⟩, (by (try dsimp only [cond_true, cond_false]); exact ⟨⟨rfl, rfl, rfl, rfl, trivial⟩, ⟨rfl, rfl, rfl, trivial⟩⟩), ?_, ?_⟩⟩
                  · exact ⟨by show j + 1 ≤ _; omega, fun i hi => by rcases Nat.lt_succ_iff_lt_or_eq.1 hi with h | h; exact hall i h; rw [h]; exact hone⟩
                  · show ks.length - (j + 1) < ks.length - j; omega
              · rw [keptOk_no hjl (by unfold keptOne; rw [decide_eq_false e, Bool.and_false, Bool.and_false])]
                simp only [sameS_not e] at hs
                by_cases j0 : j = 0
                · repeat' ((with_reducible (first | refine sCall.of (hin _) ?_ | refine sCall.of (hq2 _) ?_ | refine sCall.of (hs _) ?_ | refine gP ?_ | refine gN ?_ | refine fG.split (fun _ => ?_) (fun _ => ?_) | refine fG.not ?_ | refine gY ?_ | refine gF ?_ | refine fG.yes (flat_map (fun _ => rfl) _) ?_ | refine fG.bool (fun _ => ?_) (fun _ => ?_) | refine gS64 ?_ | refine gU8 ?_ | refine gI9 ?_ | refine fE.of rfl ?_ | refine gBq ?_ | refine gNum9 ?_ | refine gSet ?_ | refine gRd ?_ | refine gLk ?_ | refine gRow9 ?_ | refine fB.of (wide_map (fun _ => rfl) _) ?_ | refine fB.of (full_map (fun _ => rfl) _) ?_ | refine fB.of (full_map (fun x => full_rKept x) _) ?_ | refine gRf ?_ | refine sDraw.none (id := 7) (ty := tys) rfl (by decide +kernel) ?_ | refine sDraw.none (id := 10) (ty := tys) rfl (by decide +kernel) ?_)) <;> (try (conv => whnf)))
                · have g7 : (rd ks ((j : Int) - 1).toNat).n < (rd ks j).n := by
                    rw [show ((j : Int) - 1).toNat = j - 1 by omega]
                    rcases g6 with h | h
                    · exact absurd h j0
                    · exact h
                  repeat' ((with_reducible (first | refine sCall.of (hin _) ?_ | refine sCall.of (hq2 _) ?_ | refine sCall.of (hs _) ?_ | refine gP ?_ | refine gN ?_ | refine fG.split (fun _ => ?_) (fun _ => ?_) | refine fG.not ?_ | refine gY ?_ | refine gF ?_ | refine fG.yes (flat_map (fun _ => rfl) _) ?_ | refine fG.bool (fun _ => ?_) (fun _ => ?_) | refine gS64 ?_ | refine gU8 ?_ | refine gI9 ?_ | refine fE.of rfl ?_ | refine gBq ?_ | refine gNum9 ?_ | refine gSet ?_ | refine gRd ?_ | refine gLk ?_ | refine gRow9 ?_ | refine fB.of (wide_map (fun _ => rfl) _) ?_ | refine fB.of (full_map (fun _ => rfl) _) ?_ | refine fB.of (full_map (fun x => full_rKept x) _) ?_ | refine gRf ?_ | refine sDraw.none (id := 7) (ty := tys) rfl (by decide +kernel) ?_ | refine sDraw.none (id := 10) (ty := tys) rfl (by decide +kernel) ?_)) <;> (try (conv => whnf)))
            · rw [keptOk_no hjl (by unfold keptOne; rw [decide_eq_false g6, Bool.false_and, Bool.and_false])]
              have hin := fun k => ok_spec_l1In k (rd ks j).n 0 es.length
              rw [decide_eq_true (⟨g4, g5⟩ : 0 ≤ (rd ks j).n ∧ (rd ks j).n ≤ (es.length : Int))] at hin
              have j0 : ¬ j = 0 := fun h => g6 (.inl h)
              have g7 : (rd ks j).n ≤ (rd ks ((j : Int) - 1).toNat).n := by
                rw [show ((j : Int) - 1).toNat = j - 1 by omega]
                have := fun h => g6 (.inr h)
                omega
              repeat' ((with_reducible (first | refine sCall.of (hin _) ?_ | refine gP ?_ | refine gN ?_ | refine fG.split (fun _ => ?_) (fun _ => ?_) | refine fG.not ?_ | refine gY ?_ | refine gF ?_ | refine fG.yes (flat_map (fun _ => rfl) _) ?_ | refine fG.bool (fun _ => ?_) (fun _ => ?_) | refine gS64 ?_ | refine gU8 ?_ | refine gI9 ?_ | refine fE.of rfl ?_ | refine gBq ?_ | refine gNum9 ?_ | refine gSet ?_ | refine gRd ?_ | refine gLk ?_ | refine gRow9 ?_ | refine fB.of (wide_map (fun _ => rfl) _) ?_ | refine fB.of (full_map (fun _ => rfl) _) ?_ | refine fB.of (full_map (fun x => full_rKept x) _) ?_ | refine gRf ?_ | refine sDraw.none (id := 7) (ty := tys) rfl (by decide +kernel) ?_ | refine sDraw.none (id := 10) (ty := tys) rfl (by decide +kernel) ?_)) <;> (try (conv => whnf)))
          · rw [keptOk_no hjl (by unfold keptOne; rw [decide_eq_false g3, Bool.false_and])]
            have hin := fun k => ok_spec_l1In k (rd ks j).n 0 es.length
            rw [decide_eq_false g3] at hin
            repeat' ((with_reducible (first | refine sCall.of (hin _) ?_ | refine gP ?_ | refine gN ?_ | refine fG.split (fun _ => ?_) (fun _ => ?_) | refine fG.not ?_ | refine gY ?_ | refine gF ?_ | refine fG.yes (flat_map (fun _ => rfl) _) ?_ | refine fG.bool (fun _ => ?_) (fun _ => ?_) | refine gS64 ?_ | refine gU8 ?_ | refine gI9 ?_ | refine fE.of rfl ?_ | refine gBq ?_ | refine gNum9 ?_ | refine gSet ?_ | refine gRd ?_ | refine gLk ?_ | refine gRow9 ?_ | refine fB.of (wide_map (fun _ => rfl) _) ?_ | refine fB.of (full_map (fun _ => rfl) _) ?_ | refine fB.of (full_map (fun x => full_rKept x) _) ?_ | refine gRf ?_ | refine sDraw.none (id := 7) (ty := tys) rfl (by decide +kernel) ?_ | refine sDraw.none (id := 10) (ty := tys) rfl (by decide +kernel) ?_)) <;> (try (conv => whnf)))
        · have hjj : j = ks.length := by omega
          rw [keptOk_yes hr g1 g2 (by rw [← hjj]; exact hall)]
          repeat' ((with_reducible (first | refine gP ?_ | refine gN ?_ | refine fG.split (fun _ => ?_) (fun _ => ?_) | refine fG.not ?_ | refine gY ?_ | refine gF ?_ | refine fG.yes (flat_map (fun _ => rfl) _) ?_ | refine fG.bool (fun _ => ?_) (fun _ => ?_) | refine gS64 ?_ | refine gU8 ?_ | refine gI9 ?_ | refine fE.of rfl ?_ | refine gBq ?_ | refine gNum9 ?_ | refine gSet ?_ | refine gRd ?_ | refine gLk ?_ | refine gRow9 ?_ | refine fB.of (wide_map (fun _ => rfl) _) ?_ | refine fB.of (full_map (fun _ => rfl) _) ?_ | refine fB.of (full_map (fun x => full_rKept x) _) ?_ | refine gRf ?_ | refine sDraw.none (id := 7) (ty := tys) rfl (by decide +kernel) ?_ | refine sDraw.none (id := 10) (ty := tys) rfl (by decide +kernel) ?_)) <;> (try (conv => whnf)))
      · rw [show keptOk l es ks = false by simp only [keptOk, decide_eq_false g2, Bool.false_and, Bool.and_false]]
        (refine callE_is (callE_w [ResultVar.tmp 6] rfl Try.func28 rfl (by decide +kernel) rfl (by simp) ?_); (conv => whnf))
        repeat' ((with_reducible (first | refine sCall.of (hq _) ?_ | refine gP ?_ | refine gN ?_ | refine fG.split (fun _ => ?_) (fun _ => ?_) | refine fG.not ?_ | refine gY ?_ | refine gF ?_ | refine fG.yes (flat_map (fun _ => rfl) _) ?_ | refine fG.bool (fun _ => ?_) (fun _ => ?_) | refine gS64 ?_ | refine gU8 ?_ | refine gI9 ?_ | refine fE.of rfl ?_ | refine gBq ?_ | refine gNum9 ?_ | refine gSet ?_ | refine gRd ?_ | refine gLk ?_ | refine gRow9 ?_ | refine fB.of (wide_map (fun _ => rfl) _) ?_ | refine fB.of (full_map (fun _ => rfl) _) ?_ | refine fB.of (full_map (fun x => full_rKept x) _) ?_ | refine gRf ?_ | refine sDraw.none (id := 7) (ty := tys) rfl (by decide +kernel) ?_ | refine sDraw.none (id := 10) (ty := tys) rfl (by decide +kernel) ?_)) <;> (try (conv => whnf)))
    · rw [show keptOk l es ks = false by simp only [keptOk, decide_eq_false g1, Bool.false_and, Bool.and_false]]
      (refine callE_is (callE_w [ResultVar.tmp 6] rfl Try.func28 rfl (by decide +kernel) rfl (by simp) ?_); (conv => whnf))
      repeat' ((with_reducible (first | refine sCall.of (hq _) ?_ | refine gP ?_ | refine gN ?_ | refine fG.split (fun _ => ?_) (fun _ => ?_) | refine fG.not ?_ | refine gY ?_ | refine gF ?_ | refine fG.yes (flat_map (fun _ => rfl) _) ?_ | refine fG.bool (fun _ => ?_) (fun _ => ?_) | refine gS64 ?_ | refine gU8 ?_ | refine gI9 ?_ | refine fE.of rfl ?_ | refine gBq ?_ | refine gNum9 ?_ | refine gSet ?_ | refine gRd ?_ | refine gLk ?_ | refine gRow9 ?_ | refine fB.of (wide_map (fun _ => rfl) _) ?_ | refine fB.of (full_map (fun _ => rfl) _) ?_ | refine fB.of (full_map (fun x => full_rKept x) _) ?_ | refine gRf ?_ | refine sDraw.none (id := 7) (ty := tys) rfl (by decide +kernel) ?_ | refine sDraw.none (id := 10) (ty := tys) rfl (by decide +kernel) ?_)) <;> (try (conv => whnf)))

end Go.Proofs.Ytfeenmfehgljgaa.Abs
namespace Go.Proofs.Ytfeenmfehgljgaa.Abs
open Go Go.Proofs
set_option linter.unusedVariables false
set_option linter.unusedSimpArgs false
attribute [local irreducible] callE
/-! ### Restored states -/
theorem replay_append (l : List Ins) (a b : List Event) : ∀ s, replay l s (a ++ b) = (replay l s a).bind fun s' => replay l s' b := by
  induction a with
  | nil => intro s; rfl
  | cons e a ih =>
    intro s
    simp only [List.cons_append, replay]
    split
    · exact ih _
    · rfl
theorem replayAll_some {l : List Ins} {es : List Event} (h : (replayAll l es).isSome = true) : progOk l 4 = true ∧ es.length ≤ 200 := by
  unfold replayAll at h
  split at h
  · assumption
  · cases h
/-- What is behind the first events of a replay that stands. -/
theorem replay_take {l : List Ins} {es : List Event} (h : (replayAll l es).isSome = true) (n : Nat) : replay l newState (es.take n) = some (stOf (replayAll l (es.take n))) ∧ SOk l.length (stOf (replayAll l (es.take n))) := by
  obtain ⟨h1, h2⟩ := replayAll_some h
  have e1 : replayAll l es = replay l newState es := by unfold replayAll; rw [if_pos ⟨h1, h2⟩]
  have e2 : replayAll l (es.take n) = replay l newState (es.take n) := by unfold replayAll; rw [if_pos ⟨h1, by simp; omega⟩]
  rw [e1] at h
  have e3 : replay l newState es = (replay l newState (es.take n)).bind fun s' => replay l s' (es.drop n) := by rw [← replay_append, List.take_append_drop]
  cases hr : replay l newState (es.take n) with
  | none => rw [e3, hr] at h; cases h
  | some s =>
    rw [e2, hr]
    exact ⟨rfl, replay_ok (fun i hi => progOk_iok h1 hi) _ (newState_ok (progOk_len h1).1) hr⟩
/-- From the state behind a events to that behind n. -/
theorem replay_from {l : List Ins} {es : List Event} (h : (replayAll l es).isSome = true) {a n : Nat} (han : a ≤ n) : replay l (stOf (replayAll l (es.take a))) ((es.take n).drop a) = some (stOf (replayAll l (es.take n))) := by
  have h1 := (replay_take h a).1
  have h2 := (replay_take h n).1
  have e : es.take n = es.take a ++ (es.take n).drop a := by
    conv => lhs; rw [← List.take_append_drop a (es.take n)]
    rw [List.take_take, Nat.min_eq_left han]
  have h3 : replay l newState (es.take a ++ (es.take n).drop a) = some (stOf (replayAll l (es.take n))) := by rw [← e]; exact h2
  rw [replay_append, h1] at h3
  exact h3
theorem keptOk_facts {l : List Ins} {es : List Event} {ks : List Kept} (h : keptOk l es ks = true) : (replayAll l es).isSome = true ∧ 0 < ks.length ∧ (rd ks 0).n = 0 ∧ ∀ i, i < ks.length → keptOne l es ks i = true := by
  simp only [keptOk, Bool.and_eq_true, decide_eq_true_eq, List.all_eq_true, List.mem_range] at h
  exact ⟨h.1, h.2.1, h.2.2.1, h.2.2.2⟩
theorem keptOne_facts {l : List Ins} {es : List Event} {ks : List Kept} {i : Nat} (h : keptOne l es ks i = true) : 0 ≤ (rd ks i).n ∧ (rd ks i).n ≤ es.length ∧ stOf (replayAll l (es.take (rd ks i).n.toNat)) = (rd ks i).s := by
  simp only [keptOne, Bool.and_eq_true, decide_eq_true_eq] at h
  exact ⟨h.1.1, h.1.2, h.2.2⟩
/-- Which of the first kept states is the last that is no later than n. -/
def lastAt (ks : List Kept) (n : Int) : Nat → Nat
  | 0 => 0
  | j + 1 => if (rd ks j).n ≤ n then j else lastAt ks n j
theorem lastAt_lt (ks : List Kept) (n : Int) (h : 0 < ks.length) : ∀ j, j ≤ ks.length → lastAt ks n j < ks.length := by
  intro j
  induction j with
  | zero => intro _; exact h
  | succ j ih =>
    intro hj
    simp only [lastAt]
    split
    · omega
    · exact ih (by omega)
theorem lastAt_le (ks : List Kept) (n : Int) (h : (rd ks 0).n = 0) (hn : 0 ≤ n) : ∀ j, (rd ks (lastAt ks n j)).n ≤ n := by
  intro j
  induction j with
  | zero => simp only [lastAt]; omega
  | succ j ih =>
    simp only [lastAt]
    split
    · assumption
    · exact ih
/-- The kept state that is begun from. -/
def lastK (ks : List Kept) (n : Int) : Kept := rd ks (lastAt ks n ks.length)
/-- What is restored: a state, and how much is done again. -/
def restoreSt (l : List Ins) (es : List Event) (ks : List Kept) (n : Int) : State := if keptOk l es ks = true ∧ 0 ≤ n ∧ n ≤ es.length then stOf (replayAll l (es.take n.toNat)) else default
def restoreN (l : List Ins) (es : List Event) (ks : List Kept) (n : Int) : Int := if keptOk l es ks = true ∧ 0 ≤ n ∧ n ≤ es.length then n - (lastK ks n).n else -1

theorem restore_no {l : List Ins} {es : List Event} {ks : List Kept} {n : Int} (h : ¬ (keptOk l es ks = true ∧ 0 ≤ n ∧ n ≤ es.length)) : restoreSt l es ks n = default ∧ restoreN l es ks n = -1 := by
  unfold restoreSt restoreN
  rw [if_neg h, if_neg h]; exact ⟨rfl, rfl⟩
theorem restore_yes {l : List Ins} {es : List Event} {ks : List Kept} {n : Int} (h1 : keptOk l es ks = true) (h2 : 0 ≤ n) (h3 : n ≤ es.length) : restoreSt l es ks n = stOf (replayAll l (es.take n.toNat)) ∧ restoreN l es ks n = n - (lastK ks n).n := by
  unfold restoreSt restoreN
  rw [if_pos ⟨h1, h2, h3⟩, if_pos ⟨h1, h2, h3⟩]; exact ⟨rfl, rfl⟩
structure RS where
  j : Nat
  i : Nat
set_option maxHeartbeats 8000000 in
theorem ok_impl_Restore (k : Nat) (l : List Ins) (es : List Event) (ks : List Kept) (n : Int) (hl : l.length ≤ 100000000000) (he : es.length ≤ 100000000000) (hk : KFits ks) :
    callE PR C (k + 11) 22 [hIns 0 l, hEvent 1 es, hKept 2 ks, i64 n] [tIns l, tEvent es, tKept ks] =
      some ⟨.tu [nSt 0 (restoreSt l es ks n), i64 (restoreN l es ks n)], [tI9 (restoreSt l es ks n).regs, tI9 (restoreSt l es ks n).out], [none, none, none]⟩ := by
  have hk1 := hk.1
  have hq := fun k => ok_impl_KeptOk k l es ks hl he hk
  have hin := fun k => ok_impl_in k n 0 es.length
  cases hb : keptOk l es ks with
  | false =>
    obtain ⟨e1, e2⟩ := @restore_no l es ks n (by rw [hb]; simp)
    rw [e1, e2]
    simp only [hb] at hq
    (refine callE_is (callE_w [ResultVar.cell 8 39, ResultVar.tmp 9] rfl Try.func22 rfl (by decide +kernel) rfl (by simp) ?_); (conv => whnf))
    repeat' ((with_reducible (first | refine sCall.of (hq _) ?_ | refine sCall.of (hin _) ?_ | refine gP ?_ | refine gN ?_ | refine fG.split (fun _ => ?_) (fun _ => ?_) | refine fG.not ?_ | refine gY ?_ | refine gF ?_ | refine fG.yes (flat_map (fun _ => rfl) _) ?_ | refine fG.bool (fun _ => ?_) (fun _ => ?_) | refine gS64 ?_ | refine gU8 ?_ | refine gI9 ?_ | refine fE.of rfl ?_ | refine gBq ?_ | refine gNum9 ?_ | refine gSet ?_ | refine gRd ?_ | refine gLk ?_ | refine gRow9 ?_ | refine fB.of (wide_map (fun _ => rfl) _) ?_ | refine fB.of (full_map (fun _ => rfl) _) ?_ | refine fB.of (full_map (fun x => full_rKept x) _) ?_ | refine gRf ?_ | refine sDraw.mk' (id := 10) [(3, 6), (2, 13), (3, 13), (6, 13), (9, 13)] (ty := tys) rfl (by decide +kernel) ?_ | refine sDraw.mk' (id := 11) [(3, 5)] (ty := tys) rfl (by decide +kernel) ?_)) <;> (try (conv => whnf)))
    all_goals rfl
  | true =>
    simp only [hb] at hq
    by_cases g : 0 ≤ n ∧ n ≤ es.length
    · obtain ⟨e1, e2⟩ := restore_yes hb g.1 g.2
      rw [e1, e2]
      rw [decide_eq_true g] at hin
      obtain ⟨f1, f2, f3, f4⟩ := keptOk_facts hb
      (refine callE_is (callE_w [ResultVar.cell 8 39, ResultVar.tmp 9] rfl Try.func22 rfl (by decide +kernel) rfl (by simp) ?_); (conv => whnf))
      repeat' ((with_reducible (first | refine sCall.of (hq _) ?_ | refine sCall.of (hin _) ?_ | refine gP ?_ | refine gN ?_ | refine fG.split (fun _ => ?_) (fun _ => ?_) | refine fG.not ?_ | refine gY ?_ | refine gF ?_ | refine fG.yes (flat_map (fun _ => rfl) _) ?_ | refine fG.bool (fun _ => ?_) (fun _ => ?_) | refine gS64 ?_ | refine gU8 ?_ | refine gI9 ?_ | refine fE.of rfl ?_ | refine gBq ?_ | refine gNum9 ?_ | refine gSet ?_ | refine gRd ?_ | refine gLk ?_ | refine gRow9 ?_ | refine fB.of (wide_map (fun _ => rfl) _) ?_ | refine fB.of (full_map (fun _ => rfl) _) ?_ | refine fB.of (full_map (fun x => full_rKept x) _) ?_ | refine gRf ?_ | refine sDraw.mk' (id := 10) [(3, 6), (2, 13), (3, 13), (6, 13), (9, 13)] (ty := tys) rfl (by decide +kernel) ?_ | refine sDraw.mk' (id := 11) [(3, 5)] (ty := tys) rfl (by decide +kernel) ?_)) <;> (try (conv => whnf)))
      refine loop_rule (ι := RS) (fun x => [(0, hIns 0 l), (1, hEvent 1 es), (3, i64 n), (8, .pt 8 1 0 [] 0 0), (10, .pt 10 1 0 [] 0 0), (31, hKept 2 ks), (32, i64 ks.length), (33, i64 (x.j : Nat))])
        (fun x => [(1000000, ⟨0, 0, false, tIns l⟩), (1000001, ⟨0, 0, false, tEvent es⟩), (1000002, ⟨0, 0, false, tKept ks⟩), (8, ⟨1, 0, false, .box [i64 0, .nl 1, .nl 1, i64 0]⟩),
          (10, ⟨1, 0, true, .box [i64 (rd ks x.i).n, i64 (rd ks x.i).s.at_, .h 1000002 0 0 [(x.i, 2)] 1 0 ((rd ks x.i).s.regs.map rI).length, .h 1000002 0 0 [(x.i, 3)] 1 0 ((rd ks x.i).s.out.map rI).length, i64 (rd ks x.i).s.code]⟩)])
        (fun x => ks.length - x.j) (fun x => x.j ≤ ks.length ∧ x.i = lastAt ks n x.j) ⟨0, 0⟩ (by (try dsimp only [cond_true, cond_false]); exact ⟨⟨rfl, rfl, rfl, rfl, rfl, rfl, rfl, rfl, trivial⟩, ⟨rfl, rfl, rfl, rfl, rfl, trivial⟩⟩) ⟨Nat.zero_le _, rfl⟩ (by simp [C]; omega) ?_
      rintro ⟨j, i⟩ sl ob ⟨hj, hi⟩
      dsimp only at hj hi
      (try dsimp only [cond_true, cond_false])
      (conv => whnf)
      by_cases hjl : j < ks.length
      · by_cases g2 : (rd ks j).n ≤ n
        · repeat' ((with_reducible (first | refine gP ?_ | refine gN ?_ | refine fG.split (fun _ => ?_) (fun _ => ?_) | refine fG.not ?_ | refine gY ?_ | refine gF ?_ | refine fG.yes (flat_map (fun _ => rfl) _) ?_ | refine fG.bool (fun _ => ?_) (fun _ => ?_) | refine gS64 ?_ | refine gU8 ?_ | refine gI9 ?_ | refine fE.of rfl ?_ | refine gBq ?_ | refine gNum9 ?_ | refine gSet ?_ | refine gRd ?_ | refine gLk ?_ | refine gRow9 ?_ | refine fB.of (wide_map (fun _ => rfl) _) ?_ | refine fB.of (full_map (fun _ => rfl) _) ?_ | refine fB.of (full_map (fun x => full_rKept x) _) ?_ | refine gRf ?_ | refine sDraw.mk' (id := 10) [(3, 6), (2, 13), (3, 13), (6, 13), (9, 13)] (ty := tys) rfl (by decide +kernel) ?_ | refine sDraw.mk' (id := 11) [(3, 5)] (ty := tys) rfl (by decide +kernel) ?_)) <;> (try (conv => whnf)))
          refine ⟨⟨⟨j + 1, j⟩, (by (try dsimp only [cond_true, cond_false]); exact ⟨⟨rfl, rfl, rfl, rfl, rfl, rfl, rfl, rfl, trivial⟩, ⟨rfl, rfl, rfl, rfl, rfl, trivial⟩⟩), ?_, ?_⟩⟩
          · exact ⟨by show j + 1 ≤ _; omega, by show j = lastAt ks n (j + 1); simp only [lastAt, g2, if_true]⟩
          · show ks.length - (j + 1) < ks.length - j; omega
        · repeat' ((with_reducible (first | refine gP ?_ | refine gN ?_ | refine fG.split (fun _ => ?_) (fun _ => ?_) | refine fG.not ?_ | refine gY ?_ | refine gF ?_ | refine fG.yes (flat_map (fun _ => rfl) _) ?_ | refine fG.bool (fun _ => ?_) (fun _ => ?_) | refine gS64 ?_ | refine gU8 ?_ | refine gI9 ?_ | refine fE.of rfl ?_ | refine gBq ?_ | refine gNum9 ?_ | refine gSet ?_ | refine gRd ?_ | refine gLk ?_ | refine gRow9 ?_ | refine fB.of (wide_map (fun _ => rfl) _) ?_ | refine fB.of (full_map (fun _ => rfl) _) ?_ | refine fB.of (full_map (fun x => full_rKept x) _) ?_ | refine gRf ?_ | refine sDraw.mk' (id := 10) [(3, 6), (2, 13), (3, 13), (6, 13), (9, 13)] (ty := tys) rfl (by decide +kernel) ?_ | refine sDraw.mk' (id := 11) [(3, 5)] (ty := tys) rfl (by decide +kernel) ?_)) <;> (try (conv => whnf)))
          refine ⟨⟨⟨j + 1, i⟩, (by (try dsimp only [cond_true, cond_false]); exact ⟨⟨rfl, rfl, rfl, rfl, rfl, rfl, rfl, rfl, trivial⟩, ⟨rfl, rfl, rfl, rfl, rfl, trivial⟩⟩), ?_, ?_⟩⟩
          · exact ⟨by show j + 1 ≤ _; omega, by show i = lastAt ks n (j + 1); simp only [lastAt, g2, if_false]; exact hi⟩
          · show ks.length - (j + 1) < ks.length - j; omega
      · have hjj : j = ks.length := by omega
        rw [hjj] at hi
        have hil : i < ks.length := by rw [hi]; exact lastAt_lt ks n f2 _ (Nat.le_refl _)
        have hin : (rd ks i).n ≤ n := by rw [hi]; exact lastAt_le ks n f3 g.1 _
        obtain ⟨z1, z2, z3⟩ := keptOne_facts (f4 i hil)
        rw [show lastK ks n = rd ks i by unfold lastK; rw [hi]]
        have hrep := replay_from f1 (show (rd ks i).n.toNat ≤ n.toNat by omega)
        rw [z3] at hrep
        have hcl := fun k => ok_impl_cloneState k (rd ks i).s.at_ (rd ks i).s.regs (rd ks i).s.out (rd ks i).s.code (hk.2 i hil).1 (hk.2 i hil).2
        have hok := (replay_take f1 (rd ks i).n.toNat).2
        rw [z3] at hok
        have hrep' : replay l ⟨(rd ks i).s.at_, (rd ks i).s.regs, (rd ks i).s.out, (rd ks i).s.code⟩ ((es.drop (rd ks i).n.toNat).take (n.toNat - (rd ks i).n.toNat)) = some (stOf (replayAll l (es.take n.toNat))) := by rw [← List.drop_take]; exact hrep
        have hrp := fun k => ok_impl_replayed k l (rd ks i).s.at_ (rd ks i).s.regs (rd ks i).s.out (rd ks i).s.code ((es.drop (rd ks i).n.toNat).take (n.toNat - (rd ks i).n.toNat)) hl (by simp; omega) hok (fun i hi => progOk_iok (replayAll_some f1).1 hi)
        have hb1 := hok.regs
        have hb2 := hok.out
        by_cases h0 : ((es.drop (rd ks i).n.toNat).take (n.toNat - (rd ks i).n.toNat)).length = 0
        · simp only [replayedRes, hrep', h0, if_true] at hrp
          rw [replay_nil_or hrep' h0]
          repeat' ((with_reducible (first | refine sCall.of (hcl _) ?_ | refine sCall.of (hrp _) ?_ | refine gP ?_ | refine gN ?_ | refine fG.split (fun _ => ?_) (fun _ => ?_) | refine fG.not ?_ | refine gY ?_ | refine gF ?_ | refine fG.yes (flat_map (fun _ => rfl) _) ?_ | refine fG.bool (fun _ => ?_) (fun _ => ?_) | refine gS64 ?_ | refine gU8 ?_ | refine gI9 ?_ | refine fE.of rfl ?_ | refine gBq ?_ | refine gNum9 ?_ | refine gSet ?_ | refine gRd ?_ | refine gLk ?_ | refine gRow9 ?_ | refine fB.of (wide_map (fun _ => rfl) _) ?_ | refine fB.of (full_map (fun _ => rfl) _) ?_ | refine fB.of (full_map (fun x => full_rKept x) _) ?_ | refine gRf ?_ | refine sDraw.mk' (id := 10) [(3, 6), (2, 13), (3, 13), (6, 13), (9, 13)] (ty := tys) rfl (by decide +kernel) ?_ | refine sDraw.mk' (id := 11) [(3, 5)] (ty := tys) rfl (by decide +kernel) ?_)) <;> (try (conv => whnf)))
        · simp only [replayedRes, hrep', h0, if_false] at hrp
          have hb3 := (stOf_len l (es.take n.toNat)).1
          have hb4 := (stOf_len l (es.take n.toNat)).2
          repeat' ((with_reducible (first | refine sCall.of (hcl _) ?_ | refine sCall.of (hrp _) ?_ | refine gP ?_ | refine gN ?_ | refine fG.split (fun _ => ?_) (fun _ => ?_) | refine fG.not ?_ | refine gY ?_ | refine gF ?_ | refine fG.yes (flat_map (fun _ => rfl) _) ?_ | refine fG.bool (fun _ => ?_) (fun _ => ?_) | refine gS64 ?_ | refine gU8 ?_ | refine gI9 ?_ | refine fE.of rfl ?_ | refine gBq ?_ | refine gNum9 ?_ | refine gSet ?_ | refine gRd ?_ | refine gLk ?_ | refine gRow9 ?_ | refine fB.of (wide_map (fun _ => rfl) _) ?_ | refine fB.of (full_map (fun _ => rfl) _) ?_ | refine fB.of (full_map (fun x => full_rKept x) _) ?_ | refine gRf ?_ | refine sDraw.mk' (id := 10) [(3, 6), (2, 13), (3, 13), (6, 13), (9, 13)] (ty := tys) rfl (by decide +kernel) ?_ | refine sDraw.mk' (id := 11) [(3, 5)] (ty := tys) rfl (by decide +kernel) ?_)) <;> (try (conv => whnf)))
    · obtain ⟨e1, e2⟩ := @restore_no l es ks n (by rw [hb]; exact fun h => g h.2)
      rw [e1, e2]
      rw [decide_eq_false g] at hin
      (refine callE_is (callE_w [ResultVar.cell 8 39, ResultVar.tmp 9] rfl Try.func22 rfl (by decide +kernel) rfl (by simp) ?_); (conv => whnf))
      repeat' ((with_reducible (first | refine sCall.of (hq _) ?_ | refine sCall.of (hin _) ?_ | refine gP ?_ | refine gN ?_ | refine fG.split (fun _ => ?_) (fun _ => ?_) | refine fG.not ?_ | refine gY ?_ | refine gF ?_ | refine fG.yes (flat_map (fun _ => rfl) _) ?_ | refine fG.bool (fun _ => ?_) (fun _ => ?_) | refine gS64 ?_ | refine gU8 ?_ | refine gI9 ?_ | refine fE.of rfl ?_ | refine gBq ?_ | refine gNum9 ?_ | refine gSet ?_ | refine gRd ?_ | refine gLk ?_ | refine gRow9 ?_ | refine fB.of (wide_map (fun _ => rfl) _) ?_ | refine fB.of (full_map (fun _ => rfl) _) ?_ | refine fB.of (full_map (fun x => full_rKept x) _) ?_ | refine gRf ?_ | refine sDraw.mk' (id := 10) [(3, 6), (2, 13), (3, 13), (6, 13), (9, 13)] (ty := tys) rfl (by decide +kernel) ?_ | refine sDraw.mk' (id := 11) [(3, 5)] (ty := tys) rfl (by decide +kernel) ?_)) <;> (try (conv => whnf)))
      all_goals rfl

theorem replay_one {l : List Ins} {es : List Event} (h : (replayAll l es).isSome = true) {m : Nat} (hm : m < es.length) :
    (stOf (replayAll l (es.take m))).code = 0 ∧ comes (rd es m) (next l (stOf (replayAll l (es.take m)))) = true ∧ did l (stOf (replayAll l (es.take m))) (rd es m) = stOf (replayAll l (es.take (m + 1))) := by
  have h1 := replay_from h (Nat.le_succ m)
  have e : (es.take (m + 1)).drop m = [rd es m] := by
    have hm1 : m = (es.take m).length := by simp; omega
    rw [take_rd hm]
    conv => lhs; arg 1; rw [hm1]
    rw [List.drop_left]
  rw [e] at h1
  simp only [replay] at h1
  split at h1
  · rename_i hc
    exact ⟨hc.1, hc.2, Option.some.inj h1⟩
  · cases h1
structure R2 where
  m : Int
  s : State
  f : Bool
  b1 : Nat
  b2 : Nat
  b0 : Nat
set_option maxHeartbeats 16000000 in
theorem ok_spec_Restore (k : Nat) (l : List Ins) (es : List Event) (ks : List Kept) (n : Int) (hl : l.length ≤ 100000000000) (he : es.length ≤ 100000000000) (hk : KFits ks) :
    callE PR C (k + 8) 37 [hIns 0 l, hEvent 1 es, hKept 2 ks, i64 n] [tIns l, tEvent es, tKept ks] =
      some ⟨.tu [nSt 0 (restoreSt l es ks n), i64 (restoreN l es ks n)], [tI9 (restoreSt l es ks n).regs, tI9 (restoreSt l es ks n).out], [none, none, none]⟩ := by
  have hk1 := hk.1
  have hq := fun k => ok_spec_KeptOk k l es ks hl he hk
  have hin := fun k => ok_spec_l1In k n 0 es.length
  cases hb : keptOk l es ks with
  | false =>
    obtain ⟨e1, e2⟩ := @restore_no l es ks n (by rw [hb]; simp)
    rw [e1, e2]
    simp only [hb] at hq
    (refine callE_is (callE_w [ResultVar.cell 8 39, ResultVar.tmp 9] rfl Try.func37 rfl (by decide +kernel) rfl (by simp) ?_); (conv => whnf))
    repeat' ((with_reducible (first | refine sCall.of (hq _) ?_ | refine sCall.of (hin _) ?_ | refine gP ?_ | refine gN ?_ | refine fG.split (fun _ => ?_) (fun _ => ?_) | refine fG.not ?_ | refine gY ?_ | refine gF ?_ | refine fG.yes (flat_map (fun _ => rfl) _) ?_ | refine fG.bool (fun _ => ?_) (fun _ => ?_) | refine gS64 ?_ | refine gU8 ?_ | refine gI9 ?_ | refine fE.of rfl ?_ | refine gBq ?_ | refine gNum9 ?_ | refine gSet ?_ | refine gRd ?_ | refine gLk ?_ | refine gRow9 ?_ | refine fB.of (wide_map (fun _ => rfl) _) ?_ | refine fB.of (full_map (fun _ => rfl) _) ?_ | refine fB.of (full_map (fun x => full_rKept x) _) ?_ | refine gRf ?_ | refine sDraw.none (id := 13) (ty := tys) rfl (by decide +kernel) ?_ | refine sDraw.mk' (id := 14) [(6, 8)] (ty := tys) rfl (by decide +kernel) ?_)) <;> (try (conv => whnf)))
    all_goals rfl
  | true =>
    simp only [hb] at hq
    by_cases g : 0 ≤ n ∧ n ≤ es.length
    · obtain ⟨e1, e2⟩ := restore_yes hb g.1 g.2
      rw [e1, e2]
      rw [decide_eq_true g] at hin
      obtain ⟨f1, f2, f3, f4⟩ := keptOk_facts hb
      (refine callE_is (callE_w [ResultVar.cell 8 39, ResultVar.tmp 9] rfl Try.func37 rfl (by decide +kernel) rfl (by simp) ?_); (conv => whnf))
      repeat' ((with_reducible (first | refine sCall.of (hq _) ?_ | refine sCall.of (hin _) ?_ | refine gP ?_ | refine gN ?_ | refine fG.split (fun _ => ?_) (fun _ => ?_) | refine fG.not ?_ | refine gY ?_ | refine gF ?_ | refine fG.yes (flat_map (fun _ => rfl) _) ?_ | refine fG.bool (fun _ => ?_) (fun _ => ?_) | refine gS64 ?_ | refine gU8 ?_ | refine gI9 ?_ | refine fE.of rfl ?_ | refine gBq ?_ | refine gNum9 ?_ | refine gSet ?_ | refine gRd ?_ | refine gLk ?_ | refine gRow9 ?_ | refine fB.of (wide_map (fun _ => rfl) _) ?_ | refine fB.of (full_map (fun _ => rfl) _) ?_ | refine fB.of (full_map (fun x => full_rKept x) _) ?_ | refine gRf ?_ | refine sDraw.none (id := 13) (ty := tys) rfl (by decide +kernel) ?_ | refine sDraw.mk' (id := 14) [(6, 8)] (ty := tys) rfl (by decide +kernel) ?_)) <;> (try (conv => whnf)))
      refine loop_rule (ι := RS) (fun x => [(0, hIns 0 l), (1, hEvent 1 es), (2, hKept 2 ks), (3, i64 n), (8, .pt 8 1 0 [] 0 0), (10, i64 (x.i : Nat)), (11, i64 (x.j : Nat))])
        (fun x => [(1000000, ⟨0, 0, false, tIns l⟩), (1000001, ⟨0, 0, false, tEvent es⟩), (1000002, ⟨0, 0, false, tKept ks⟩), (8, ⟨1, 0, false, .box [i64 0, .nl 1, .nl 1, i64 0]⟩)])
        (fun x => ks.length - x.j) (fun x => x.j ≤ ks.length ∧ x.i = lastAt ks n x.j) ⟨0, 0⟩ (by (try dsimp only [cond_true, cond_false]); exact ⟨⟨rfl, rfl, rfl, rfl, rfl, rfl, rfl, trivial⟩, ⟨rfl, rfl, rfl, rfl, trivial⟩⟩) ⟨Nat.zero_le _, rfl⟩ (by simp [C]; omega) ?_
      rintro ⟨j, i⟩ sl ob ⟨hj, hi⟩
      dsimp only at hj hi
      (try dsimp only [cond_true, cond_false])
      (conv => whnf)
      by_cases hjl : j < ks.length
      · by_cases g2 : (rd ks j).n ≤ n
        · repeat' ((with_reducible (first | refine gP ?_ | refine gN ?_ | refine fG.split (fun _ => ?_) (fun _ => ?_) | refine fG.not ?_ | refine gY ?_ | refine gF ?_ | refine fG.yes (flat_map (fun _ => rfl) _) ?_ | refine fG.bool (fun _ => ?_) (fun _ => ?_) | refine gS64 ?_ | refine gU8 ?_ | refine gI9 ?_ | refine fE.of rfl ?_ | refine gBq ?_ | refine gNum9 ?_ | refine gSet ?_ | refine gRd ?_ | refine gLk ?_ | refine gRow9 ?_ | refine fB.of (wide_map (fun _ => rfl) _) ?_ | refine fB.of (full_map (fun _ => rfl) _) ?_ | refine fB.of (full_map (fun x => full_rKept x) _) ?_ | refine gRf ?_ | refine sDraw.none (id := 13) (ty := tys) rfl (by decide +kernel) ?_ | refine sDraw.mk' (id := 14) [(6, 8)] (ty := tys) rfl (by decide +kernel) ?_)) <;> (try (conv => whnf)))
          refine ⟨⟨⟨j + 1, j⟩, (by (try dsimp only [cond_true, cond_false]); exact ⟨⟨rfl, rfl, rfl, rfl, rfl, rfl, rfl, trivial⟩, ⟨rfl, rfl, rfl, rfl, trivial⟩⟩), ?_, ?_⟩⟩
          · exact ⟨by show j + 1 ≤ _; omega, by show j = lastAt ks n (j + 1); simp only [lastAt, g2, if_true]⟩
          · show ks.length - (j + 1) < ks.length - j; omega
        · repeat' ((with_reducible (first | refine gP ?_ | refine gN ?_ | refine fG.split (fun _ => ?_) (fun _ => ?_) | refine fG.not ?_ | refine gY ?_ | refine gF ?_ | refine fG.yes (flat_map (fun _ => rfl) _) ?_ | refine fG.bool (fun _ => ?_) (fun _ => ?_) | refine gS64 ?_ | refine gU8 ?_ | refine gI9 ?_ | refine fE.of rfl ?_ | refine gBq ?_ | refine gNum9 ?_ | refine gSet ?_ | refine gRd ?_ | refine gLk ?_ | refine gRow9 ?_ | refine fB.of (wide_map (fun _ => rfl) _) ?_ | refine fB.of (full_map (fun _ => rfl) _) ?_ | refine fB.of (full_map (fun x => full_rKept x) _) ?_ | refine gRf ?_ | refine sDraw.none (id := 13) (ty := tys) rfl (by decide +kernel) ?_ | refine sDraw.mk' (id := 14) [(6, 8)] (ty := tys) rfl (by decide +kernel) ?_)) <;> (try (conv => whnf)))
          refine ⟨⟨⟨j + 1, i⟩, (by (try dsimp only [cond_true, cond_false]); exact ⟨⟨rfl, rfl, rfl, rfl, rfl, rfl, rfl, trivial⟩, ⟨rfl, rfl, rfl, rfl, trivial⟩⟩), ?_, ?_⟩⟩
          · exact ⟨by show j + 1 ≤ _; omega, by show i = lastAt ks n (j + 1); simp only [lastAt, g2, if_false]; exact hi⟩
          · show ks.length - (j + 1) < ks.length - j; omega
      · have hjj : j = ks.length := by omega
        rw [hjj] at hi
        have hil : i < ks.length := by rw [hi]; exact lastAt_lt ks n f2 _ (Nat.le_refl _)
        have hin : (rd ks i).n ≤ n := by rw [hi]; exact lastAt_le ks n f3 g.1 _
        obtain ⟨z1, z2, z3⟩ := keptOne_facts (f4 i hil)
        rw [show lastK ks n = rd ks i by unfold lastK; rw [hi]]
        have hcl := fun k => ok_spec_l2Copy k (rd ks i).s.at_ (rd ks i).s.regs (rd ks i).s.out (rd ks i).s.code (hk.2 i hil).1 (hk.2 i hil).2
        repeat' ((with_reducible (first | refine sCall.of (hcl _) ?_ | refine gP ?_ | refine gN ?_ | refine fG.split (fun _ => ?_) (fun _ => ?_) | refine fG.not ?_ | refine gY ?_ | refine gF ?_ | refine fG.yes (flat_map (fun _ => rfl) _) ?_ | refine fG.bool (fun _ => ?_) (fun _ => ?_) | refine gS64 ?_ | refine gU8 ?_ | refine gI9 ?_ | refine fE.of rfl ?_ | refine gBq ?_ | refine gNum9 ?_ | refine gSet ?_ | refine gRd ?_ | refine gLk ?_ | refine gRow9 ?_ | refine fB.of (wide_map (fun _ => rfl) _) ?_ | refine fB.of (full_map (fun _ => rfl) _) ?_ | refine fB.of (full_map (fun x => full_rKept x) _) ?_ | refine gRf ?_ | refine sDraw.none (id := 13) (ty := tys) rfl (by decide +kernel) ?_ | refine sDraw.mk' (id := 14) [(6, 8)] (ty := tys) rfl (by decide +kernel) ?_)) <;> (try (conv => whnf)))
        refine loop_rule (ι := R2) (fun x => [(0, hIns 0 l), (1, hEvent 1 es), (2, hKept 2 ks), (3, i64 n), (8, .pt 8 1 0 [] 0 0), (10, i64 (i : Nat)), (12, .pt 12 x.b0 0 [] 0 0), (13, i64 x.m)])
          (fun x => [(1000000, ⟨0, 0, false, tIns l⟩), (1000001, ⟨0, 0, false, tEvent es⟩), (1000002, ⟨0, 0, false, tKept ks⟩), (8, ⟨1, 0, false, .box [i64 0, .nl 1, .nl 1, i64 0]⟩),
            (12, ⟨x.b0, 0, true, .box [i64 x.s.at_, .h (bif x.f then 10046 else 10064) x.b1 0 [] 1 0 x.s.regs.length, .h (bif x.f then 20046 else 20064) x.b2 0 [] 1 0 x.s.out.length, i64 x.s.code]⟩), ((bif x.f then 10046 else 10064), ⟨x.b1, 0, false, tI9 x.s.regs⟩), ((bif x.f then 20046 else 20064), ⟨x.b2, 0, false, tI9 x.s.out⟩)])
          (fun x => (n - x.m).toNat) (fun x => (rd ks i).n ≤ x.m ∧ x.m ≤ n ∧ x.s = stOf (replayAll l (es.take x.m.toNat)))
          ⟨(rd ks i).n, (rd ks i).s, true, _, _, _⟩ (by (try dsimp only [cond_true, cond_false]); exact ⟨⟨rfl, rfl, rfl, rfl, rfl, rfl, rfl, rfl, trivial⟩, ⟨rfl, rfl, rfl, rfl, rfl, rfl, rfl, trivial⟩⟩) ⟨Int.le_refl _, hin, z3.symm⟩ (by simp [C]; omega) ?_
        rintro ⟨m, s, f, b1, b2, b0⟩ sl' ob' ⟨hm1, hm2, hms⟩
        dsimp only at hm1 hm2 hms
        have hs1 : SOk l.length s := by rw [hms]; exact (replay_take f1 m.toNat).2
        have hat0 := hs1.at0
        have hat1 := hs1.at1
        have hb1 := hs1.regs
        have hb2 := hs1.out
        by_cases hlt : m < n
        · obtain ⟨y1, y2, y3⟩ := replay_one f1 (show m.toNat < es.length by omega)
          rw [← hms] at y1 y2 y3
          have hdo := fun k => ok_spec_l2Do k l s.at_ s.regs s.out s.code (rd es m.toNat) hl hs1 (progOk_iok (replayAll_some f1).1 (by omega))
          simp only [doRes_true (show comes (rd es m.toNat) (next l ⟨s.at_, s.regs, s.out, s.code⟩) = true from y2)] at hdo
          cases f
          all_goals (try dsimp only [cond_true, cond_false])
          all_goals (conv => whnf)
          all_goals repeat' ((with_reducible (first | refine sCall.of (hdo _) ?_ | refine gP ?_ | refine gN ?_ | refine fG.split (fun _ => ?_) (fun _ => ?_) | refine fG.not ?_ | refine gY ?_ | refine gF ?_ | refine fG.yes (flat_map (fun _ => rfl) _) ?_ | refine fG.bool (fun _ => ?_) (fun _ => ?_) | refine gS64 ?_ | refine gU8 ?_ | refine gI9 ?_ | refine fE.of rfl ?_ | refine gBq ?_ | refine gNum9 ?_ | refine gSet ?_ | refine gRd ?_ | refine gLk ?_ | refine gRow9 ?_ | refine fB.of (wide_map (fun _ => rfl) _) ?_ | refine fB.of (full_map (fun _ => rfl) _) ?_ | refine fB.of (full_map (fun x => full_rKept x) _) ?_ | refine gRf ?_ | refine sDraw.none (id := 13) (ty := tys) rfl (by decide +kernel) ?_ | refine sDraw.mk' (id := 14) [(6, 8)] (ty := tys) rfl (by decide +kernel) ?_)) <;> (try (conv => whnf)))
          all_goals
            refine ⟨⟨⟨m + 1, did l s (rd es m.toNat), false, _, _, _⟩, (by (try dsimp only [cond_true, cond_false]); exact ⟨⟨rfl, rfl, rfl, rfl, rfl, rfl, rfl, rfl, trivial⟩, ⟨rfl, rfl, rfl, rfl, rfl, rfl, rfl, trivial⟩⟩), ?_, ?_⟩⟩
            · exact ⟨by show _ ≤ m + 1; omega, by show m + 1 ≤ n; omega, by show did l s (rd es m.toNat) = stOf (replayAll l (es.take (m + 1).toNat)); rw [y3, show (m + 1).toNat = m.toNat + 1 by omega]⟩
            · show (n - (m + 1)).toNat < (n - m).toNat; omega
        · have hmn : m = n := by omega
          rw [hmn] at hms
          rw [← hms]
          cases f
          all_goals (try dsimp only [cond_true, cond_false])
          all_goals (conv => whnf)
          all_goals repeat' ((with_reducible (first | refine gP ?_ | refine gN ?_ | refine fG.split (fun _ => ?_) (fun _ => ?_) | refine fG.not ?_ | refine gY ?_ | refine gF ?_ | refine fG.yes (flat_map (fun _ => rfl) _) ?_ | refine fG.bool (fun _ => ?_) (fun _ => ?_) | refine gS64 ?_ | refine gU8 ?_ | refine gI9 ?_ | refine fE.of rfl ?_ | refine gBq ?_ | refine gNum9 ?_ | refine gSet ?_ | refine gRd ?_ | refine gLk ?_ | refine gRow9 ?_ | refine fB.of (wide_map (fun _ => rfl) _) ?_ | refine fB.of (full_map (fun _ => rfl) _) ?_ | refine fB.of (full_map (fun x => full_rKept x) _) ?_ | refine gRf ?_ | refine sDraw.none (id := 13) (ty := tys) rfl (by decide +kernel) ?_ | refine sDraw.mk' (id := 14) [(6, 8)] (ty := tys) rfl (by decide +kernel) ?_)) <;> (try (conv => whnf)))
          all_goals rfl
    · obtain ⟨e1, e2⟩ := @restore_no l es ks n (by rw [hb]; exact fun h => g h.2)
      rw [e1, e2]
      rw [decide_eq_false g] at hin
      (refine callE_is (callE_w [ResultVar.cell 8 39, ResultVar.tmp 9] rfl Try.func37 rfl (by decide +kernel) rfl (by simp) ?_); (conv => whnf))
      repeat' ((with_reducible (first | refine sCall.of (hq _) ?_ | refine sCall.of (hin _) ?_ | refine gP ?_ | refine gN ?_ | refine fG.split (fun _ => ?_) (fun _ => ?_) | refine fG.not ?_ | refine gY ?_ | refine gF ?_ | refine fG.yes (flat_map (fun _ => rfl) _) ?_ | refine fG.bool (fun _ => ?_) (fun _ => ?_) | refine gS64 ?_ | refine gU8 ?_ | refine gI9 ?_ | refine fE.of rfl ?_ | refine gBq ?_ | refine gNum9 ?_ | refine gSet ?_ | refine gRd ?_ | refine gLk ?_ | refine gRow9 ?_ | refine fB.of (wide_map (fun _ => rfl) _) ?_ | refine fB.of (full_map (fun _ => rfl) _) ?_ | refine fB.of (full_map (fun x => full_rKept x) _) ?_ | refine gRf ?_ | refine sDraw.none (id := 13) (ty := tys) rfl (by decide +kernel) ?_ | refine sDraw.mk' (id := 14) [(6, 8)] (ty := tys) rfl (by decide +kernel) ?_)) <;> (try (conv => whnf)))
      all_goals rfl

end Go.Proofs.Ytfeenmfehgljgaa.Abs
namespace Go.Proofs.Ytfeenmfehgljgaa.Abs
open Go Go.Proofs
set_option linter.unusedVariables false
set_option linter.unusedSimpArgs false
attribute [local irreducible] callE
theorem ok_impl_Again (k : Nat) (l : List Ins) (es : List Event) (ks : List Kept) (n : Int) (hl : l.length ≤ 100000000000) (he : es.length ≤ 100000000000) (hk : KFits ks) :
    callE PR C (k + 12) 24 [hIns 0 l, hEvent 1 es, hKept 2 ks, i64 n] [tIns l, tEvent es, tKept ks] = some ⟨i64 (restoreN l es ks n), [], [none, none, none]⟩ := by
  have hk1 := hk.1
  have hq := fun k => ok_impl_Restore k l es ks n hl he hk
  (refine callE_is (callE_w [ResultVar.tmp 8] rfl Try.func24 rfl (by decide +kernel) rfl (by simp) ?_); (conv => whnf))
  repeat' ((with_reducible (first | refine sCall.of (hq _) ?_ | refine gP ?_ | refine gN ?_ | refine fG.split (fun _ => ?_) (fun _ => ?_) | refine fG.not ?_ | refine gY ?_ | refine gF ?_ | refine fG.yes (flat_map (fun _ => rfl) _) ?_ | refine fG.bool (fun _ => ?_) (fun _ => ?_) | refine gS64 ?_ | refine gU8 ?_ | refine gI9 ?_ | refine fE.of rfl ?_ | refine gBq ?_ | refine gNum9 ?_ | refine gSet ?_ | refine gRd ?_ | refine gLk ?_ | refine gRow9 ?_ | refine fB.of (wide_map (fun _ => rfl) _) ?_ | refine fB.of (full_map (fun _ => rfl) _) ?_ | refine fB.of (full_map (fun x => full_rKept x) _) ?_ | refine gRf ?_)) <;> (try (conv => whnf)))
theorem ok_spec_Again (k : Nat) (l : List Ins) (es : List Event) (ks : List Kept) (n : Int) (hl : l.length ≤ 100000000000) (he : es.length ≤ 100000000000) (hk : KFits ks) :
    callE PR C (k + 9) 35 [hIns 0 l, hEvent 1 es, hKept 2 ks, i64 n] [tIns l, tEvent es, tKept ks] = some ⟨i64 (restoreN l es ks n), [], [none, none, none]⟩ := by
  have hk1 := hk.1
  have hq := fun k => ok_spec_Restore k l es ks n hl he hk
  (refine callE_is (callE_w [ResultVar.tmp 8] rfl Try.func35 rfl (by decide +kernel) rfl (by simp) ?_); (conv => whnf))
  repeat' ((with_reducible (first | refine sCall.of (hq _) ?_ | refine gP ?_ | refine gN ?_ | refine fG.split (fun _ => ?_) (fun _ => ?_) | refine fG.not ?_ | refine gY ?_ | refine gF ?_ | refine fG.yes (flat_map (fun _ => rfl) _) ?_ | refine fG.bool (fun _ => ?_) (fun _ => ?_) | refine gS64 ?_ | refine gU8 ?_ | refine gI9 ?_ | refine fE.of rfl ?_ | refine gBq ?_ | refine gNum9 ?_ | refine gSet ?_ | refine gRd ?_ | refine gLk ?_ | refine gRow9 ?_ | refine fB.of (wide_map (fun _ => rfl) _) ?_ | refine fB.of (full_map (fun _ => rfl) _) ?_ | refine fB.of (full_map (fun x => full_rKept x) _) ?_ | refine gRf ?_)) <;> (try (conv => whnf)))

theorem ok_laws_markIntS9 (k : Nat) (l : List Int) (m : Int) (hl : l.length ≤ 100000000000) (h0 : 0 ≤ m) (h1 : m ≤ 100000000000) : callE PR C (k + 1) 70 [.h 1000000 0 0 [] 1 0 l.length, i64 m] [tI9 l] = some ⟨i64 (m + l.length), [], [some (tI9 (marksI m l))]⟩ := by
  (refine callE_is (callE_w [ResultVar.tmp 4] rfl Try.func70 rfl (by decide +kernel) rfl (by simp) ?_); (conv => whnf))
  repeat' ((with_reducible (first | refine gP ?_ | refine gN ?_ | refine fG.split (fun _ => ?_) (fun _ => ?_) | refine fG.not ?_ | refine gY ?_ | refine gF ?_ | refine fG.yes (flat_map (fun _ => rfl) _) ?_ | refine fG.bool (fun _ => ?_) (fun _ => ?_) | refine gS64 ?_ | refine gU8 ?_ | refine gI9 ?_ | refine fE.of rfl ?_ | refine gBq ?_ | refine gNum9 ?_ | refine gSet ?_ | refine gRd ?_ | refine gLk ?_ | refine gRow9 ?_ | refine fB.of (wide_map (fun _ => rfl) _) ?_ | refine fB.of (full_map (fun _ => rfl) _) ?_ | refine fB.of (full_map (fun x => full_rKept x) _) ?_ | refine gRf ?_)) <;> (try (conv => whnf)))
  refine loop_rule (ι := TM Int) (fun x => [(0, .h 1000000 0 0 [] 1 0 l.length), (1, i64 x.m), (5, i64 (x.j : Nat))])
    (fun x => [(1000000, ⟨0, x.g, x.d, tI9 x.l⟩)])
    (fun x => l.length - x.j) (fun x => x.j ≤ l.length ∧ x.l = half mInt wInt m l x.j ∧ x.m = m + x.j) ⟨0, m, l, 0, false⟩ (by (try dsimp only [cond_true, cond_false]); exact ⟨⟨rfl, rfl, rfl, trivial⟩, ⟨rfl, trivial⟩⟩) ⟨Nat.zero_le _, (half_zero _ _ m l).symm, by simp⟩ (by simp [C]; omega) ?_
  rintro ⟨j, n, out, g, d⟩ sl ob ⟨hj, hout, hn⟩
  dsimp only at hj hout hn
  have hlen : out.length = l.length := by rw [hout, half_len]
  (try dsimp only [cond_true, cond_false])
  (conv => whnf)
  repeat' ((with_reducible (first | refine gP ?_ | refine gN ?_ | refine fG.split (fun _ => ?_) (fun _ => ?_) | refine fG.not ?_ | refine gY ?_ | refine gF ?_ | refine fG.yes (flat_map (fun _ => rfl) _) ?_ | refine fG.bool (fun _ => ?_) (fun _ => ?_) | refine gS64 ?_ | refine gU8 ?_ | refine gI9 ?_ | refine fE.of rfl ?_ | refine gBq ?_ | refine gNum9 ?_ | refine gSet ?_ | refine gRd ?_ | refine gLk ?_ | refine gRow9 ?_ | refine fB.of (wide_map (fun _ => rfl) _) ?_ | refine fB.of (full_map (fun _ => rfl) _) ?_ | refine fB.of (full_map (fun x => full_rKept x) _) ?_ | refine gRf ?_)) <;> (try (conv => whnf)))
  case' refine_1 h =>
    refine ⟨⟨⟨j + 1, n + 1, out.set j n, _, _⟩, (by (try dsimp only [cond_true, cond_false]); exact ⟨⟨rfl, rfl, rfl, trivial⟩, ⟨rfl, trivial⟩⟩), ?_, ?_⟩⟩
    · refine ⟨by show j + 1 ≤ _; omega, ?_, by show _ = _; push_cast; omega⟩
      show _ = _
      rw [← half_set _ _ m l j (by omega), hout, hn]
      simp only [wts_wInt, List.length_take, mInt, show min j l.length = j by omega]
    · show l.length - (j + 1) < l.length - j; omega
  case refine_2 h =>
    have : j = l.length := by omega
    rw [hout, hn, this, half_all]
theorem ok_laws_markState (k : Nat) (a c : Int) (r o : List Int) (m : Int) (hr : r.length ≤ 10000000000) (ho : o.length ≤ 10000000000) (h0 : 0 ≤ m) (h1 : m ≤ 10000000000) :
    callE PR C (k + 2) 42 [aState 0 a r o c, i64 m] [tI9 r, tI9 o] = some ⟨i64 (m + r.length + o.length), [], [some (tI9 (marksI m r)), some (tI9 (marksI (m + r.length) o))]⟩ := by
  have q1 := fun k => ok_laws_markIntS9 k r m (by omega) h0 (by omega)
  have q2 := fun k => ok_laws_markIntS9 k o (m + r.length) (by omega) (by omega) (by omega)
  have q3 := marksI_len m r
  have q4 := marksI_len (m + r.length) o
  (refine callE_is (callE_w [ResultVar.tmp 4] rfl Try.func42 rfl (by decide +kernel) rfl (by simp) ?_); (conv => whnf))
  repeat' ((with_reducible (first | refine sCall.of (q1 _) ?_ | refine sCall.of (q2 _) ?_ | refine gP ?_ | refine gN ?_ | refine fG.split (fun _ => ?_) (fun _ => ?_) | refine fG.not ?_ | refine gY ?_ | refine gF ?_ | refine fG.yes (flat_map (fun _ => rfl) _) ?_ | refine fG.bool (fun _ => ?_) (fun _ => ?_) | refine gS64 ?_ | refine gU8 ?_ | refine gI9 ?_ | refine fE.of rfl ?_ | refine gBq ?_ | refine gNum9 ?_ | refine gSet ?_ | refine gRd ?_ | refine gLk ?_ | refine gRow9 ?_ | refine fB.of (wide_map (fun _ => rfl) _) ?_ | refine fB.of (full_map (fun _ => rfl) _) ?_ | refine fB.of (full_map (fun x => full_rKept x) _) ?_ | refine gRf ?_)) <;> (try (conv => whnf)))
theorem ok_laws_heldState (k : Nat) (a c : Int) (r o : List Int) (m : Int) (hr : r.length ≤ 10000000000) (ho : o.length ≤ 10000000000) (h0 : 0 ≤ m) (h1 : m ≤ 10000000000) :
    callE PR C (k + 2) 43 [aState 0 a (marksI m r) (marksI (m + r.length) o) c, i64 m] [tI (marksI m r), tI (marksI (m + r.length) o)] = some ⟨i64 (m + r.length + o.length), [], [none, none]⟩ := by
  have q1 := fun k => ok_laws_heldIntS k (marksI m r) m (by rw [marksI_len]; omega) h0 (by omega) (fun j hj => marksI_rd _ _ j hj)
  have q2 := fun k => ok_laws_heldIntS k (marksI (m + r.length) o) (m + r.length) (by rw [marksI_len]; omega) (by omega) (by omega) (fun j hj => marksI_rd _ _ j hj)
  rw [marksI_len] at q1 q2
  simp only [aState, marksI_len]
  (refine callE_is (callE_w [ResultVar.tmp 4] rfl Try.func43 rfl (by decide +kernel) rfl (by simp) ?_); (conv => whnf))
  repeat' ((with_reducible (first | refine sCall.of (q1 _) ?_ | refine sCall.of (q2 _) ?_ | refine gP ?_ | refine gN ?_ | refine fG.split (fun _ => ?_) (fun _ => ?_) | refine fG.not ?_ | refine gY ?_ | refine gF ?_ | refine fG.yes (flat_map (fun _ => rfl) _) ?_ | refine fG.bool (fun _ => ?_) (fun _ => ?_) | refine gS64 ?_ | refine gU8 ?_ | refine gI9 ?_ | refine fE.of rfl ?_ | refine gBq ?_ | refine gNum9 ?_ | refine gSet ?_ | refine gRd ?_ | refine gLk ?_ | refine gRow9 ?_ | refine fB.of (wide_map (fun _ => rfl) _) ?_ | refine fB.of (full_map (fun _ => rfl) _) ?_ | refine fB.of (full_map (fun x => full_rKept x) _) ?_ | refine gRf ?_)) <;> (try (conv => whnf)))

theorem wts_one {α : Type} [Inhabited α] (wt : α → Nat) (l : List α) (j : Nat) (h : j < l.length) : wt (rd l j) ≤ wts wt l := by
  have h1 := wts_take wt l j h
  have h2 := wts_le wt l (j + 1)
  omega
set_option maxHeartbeats 8000000 in
theorem ok_laws_FnExactKeptOk (k : Nat) (l : List Ins) (es : List Event) (ks : List Kept) (hl : l.length ≤ 140737488355328) (he : es.length ≤ 140737488355328) (hk : ks.length ≤ 140737488355328) (hx : ∀ j : Nat, j < ks.length → (rd ks j).s.regs.length ≤ 140737488355328 ∧ (rd ks j).s.out.length ≤ 140737488355328) :
    callE PR C (k + 11) 5 [hIns 0 l, hEvent 1 es, hKept 2 ks] [tIns l, tEvent es, tKept ks] = some ⟨bl true, [], [none, none, none]⟩ := by
  have hs1 := fun k => ok_laws_szInsS k l 1048576 (by omega) (by omega) hl
  by_cases c1 : left 1048576 l.length < 0
  · (refine callE_is (callE_w [ResultVar.tmp 6] rfl Try.func5 rfl (by decide +kernel) rfl (by simp) ?_); (conv => whnf))
    repeat' ((with_reducible (first | refine sCall.of (hs1 _) ?_ | refine gP ?_ | refine gN ?_ | refine fG.split (fun _ => ?_) (fun _ => ?_) | refine fG.not ?_ | refine gY ?_ | refine gF ?_ | refine fG.yes (flat_map (fun _ => rfl) _) ?_ | refine fG.bool (fun _ => ?_) (fun _ => ?_) | refine gS64 ?_ | refine gU8 ?_ | refine gI9 ?_ | refine fE.of rfl ?_ | refine gBq ?_ | refine gNum9 ?_ | refine gSet ?_ | refine gRd ?_ | refine gLk ?_ | refine gRow9 ?_ | refine fB.of (wide_map (fun _ => rfl) _) ?_ | refine fB.of (full_map (fun _ => rfl) _) ?_ | refine fB.of (full_map (fun x => full_rKept x) _) ?_ | refine gRf ?_)) <;> (try (conv => whnf)))
  · obtain ⟨c2, c3⟩ := left_pos c1
    have hs2 := fun k => ok_laws_szEventS k es (left 1048576 l.length) (by omega) (by omega) he
    by_cases c4 : left (left 1048576 l.length) es.length < 0
    · (refine callE_is (callE_w [ResultVar.tmp 6] rfl Try.func5 rfl (by decide +kernel) rfl (by simp) ?_); (conv => whnf))
      repeat' ((with_reducible (first | refine sCall.of (hs1 _) ?_ | refine sCall.of (hs2 _) ?_ | refine gP ?_ | refine gN ?_ | refine fG.split (fun _ => ?_) (fun _ => ?_) | refine fG.not ?_ | refine gY ?_ | refine gF ?_ | refine fG.yes (flat_map (fun _ => rfl) _) ?_ | refine fG.bool (fun _ => ?_) (fun _ => ?_) | refine gS64 ?_ | refine gU8 ?_ | refine gI9 ?_ | refine fE.of rfl ?_ | refine gBq ?_ | refine gNum9 ?_ | refine gSet ?_ | refine gRd ?_ | refine gLk ?_ | refine gRow9 ?_ | refine fB.of (wide_map (fun _ => rfl) _) ?_ | refine fB.of (full_map (fun _ => rfl) _) ?_ | refine fB.of (full_map (fun x => full_rKept x) _) ?_ | refine gRf ?_)) <;> (try (conv => whnf)))
    · obtain ⟨c5, c6⟩ := left_pos c4
      have hs3 := fun k => ok_laws_szKeptS k ks (left (left 1048576 l.length) es.length) (by omega) (by omega) hk hx
      by_cases c7 : left (left (left 1048576 l.length) es.length) (ks.length + wts wS ks : Nat) < 0
      · (refine callE_is (callE_w [ResultVar.tmp 6] rfl Try.func5 rfl (by decide +kernel) rfl (by simp) ?_); (conv => whnf))
        repeat' ((with_reducible (first | refine sCall.of (hs1 _) ?_ | refine sCall.of (hs2 _) ?_ | refine sCall.of (hs3 _) ?_ | refine gP ?_ | refine gN ?_ | refine fG.split (fun _ => ?_) (fun _ => ?_) | refine fG.not ?_ | refine gY ?_ | refine gF ?_ | refine fG.yes (flat_map (fun _ => rfl) _) ?_ | refine fG.bool (fun _ => ?_) (fun _ => ?_) | refine gS64 ?_ | refine gU8 ?_ | refine gI9 ?_ | refine fE.of rfl ?_ | refine gBq ?_ | refine gNum9 ?_ | refine gSet ?_ | refine gRd ?_ | refine gLk ?_ | refine gRow9 ?_ | refine fB.of (wide_map (fun _ => rfl) _) ?_ | refine fB.of (full_map (fun _ => rfl) _) ?_ | refine fB.of (full_map (fun x => full_rKept x) _) ?_ | refine gRf ?_)) <;> (try (conv => whnf)))
      · obtain ⟨c8, c9⟩ := left_pos c7
        have hl' : l.length ≤ 100000000000 := by omega
        have he' : es.length ≤ 100000000000 := by omega
        have hk' : ks.length ≤ 100000000000 := by omega
        have hx' : ∀ j : Nat, j < ks.length → (rd ks j).s.regs.length ≤ 100000000000 ∧ (rd ks j).s.out.length ≤ 100000000000 := fun j hj => by
          have := wts_one wS ks j hj
          simp only [wS] at this
          constructor <;> omega
        have q1 := fun k => ok_laws_toInsS k l hl'
        have q2 := fun k => ok_laws_toEventS k es he'
        have q3 := fun k => ok_laws_toKeptS k ks hk' hx'
        have q4 := fun k => ok_spec_KeptOk k l es ks hl' he' ⟨hk', hx'⟩
        have q5 := fun k => ok_impl_KeptOk k l es ks hl' he' ⟨hk', hx'⟩
        have q6 := fun k => ok_laws_eqInsS k l hl'
        have q7 := fun k => ok_laws_eqEventS k es he'
        have q8 := fun k => ok_laws_eqKeptS k ks hk' hx'
        cases hb : keptOk l es ks with
        | false =>
          simp only [hb] at q4 q5
          clear hx hx'
          (refine callE_is (callE_w [ResultVar.tmp 6] rfl Try.func5 rfl (by decide +kernel) rfl (by simp) ?_); (conv => whnf))
          repeat' ((with_reducible (first | refine sCall.of (hs1 _) ?_ | refine sCall.of (hs2 _) ?_ | refine sCall.of (hs3 _) ?_ | refine sCall.of (q1 _) ?_ | refine sCall.of (q2 _) ?_ | refine sCall.of (q3 _) ?_ | refine sCall.of (q4 _) ?_ | refine sCall.of (q5 _) ?_ | refine sCall.of (q6 _) ?_ | refine sCall.of (q7 _) ?_ | refine sCall.of (q8 _) ?_ | refine gP ?_ | refine gN ?_ | refine fG.split (fun _ => ?_) (fun _ => ?_) | refine fG.not ?_ | refine gY ?_ | refine gF ?_ | refine fG.yes (flat_map (fun _ => rfl) _) ?_ | refine fG.bool (fun _ => ?_) (fun _ => ?_) | refine gS64 ?_ | refine gU8 ?_ | refine gI9 ?_ | refine fE.of rfl ?_ | refine gBq ?_ | refine gNum9 ?_ | refine gSet ?_ | refine gRd ?_ | refine gLk ?_ | refine gRow9 ?_ | refine fB.of (wide_map (fun _ => rfl) _) ?_ | refine fB.of (full_map (fun _ => rfl) _) ?_ | refine fB.of (full_map (fun x => full_rKept x) _) ?_ | refine gRf ?_)) <;> (try (conv => whnf)))
        | true =>
          simp only [hb] at q4 q5
          clear hx hx'
          (refine callE_is (callE_w [ResultVar.tmp 6] rfl Try.func5 rfl (by decide +kernel) rfl (by simp) ?_); (conv => whnf))
          repeat' ((with_reducible (first | refine sCall.of (hs1 _) ?_ | refine sCall.of (hs2 _) ?_ | refine sCall.of (hs3 _) ?_ | refine sCall.of (q1 _) ?_ | refine sCall.of (q2 _) ?_ | refine sCall.of (q3 _) ?_ | refine sCall.of (q4 _) ?_ | refine sCall.of (q5 _) ?_ | refine sCall.of (q6 _) ?_ | refine sCall.of (q7 _) ?_ | refine sCall.of (q8 _) ?_ | refine gP ?_ | refine gN ?_ | refine fG.split (fun _ => ?_) (fun _ => ?_) | refine fG.not ?_ | refine gY ?_ | refine gF ?_ | refine fG.yes (flat_map (fun _ => rfl) _) ?_ | refine fG.bool (fun _ => ?_) (fun _ => ?_) | refine gS64 ?_ | refine gU8 ?_ | refine gI9 ?_ | refine fE.of rfl ?_ | refine gBq ?_ | refine gNum9 ?_ | refine gSet ?_ | refine gRd ?_ | refine gLk ?_ | refine gRow9 ?_ | refine fB.of (wide_map (fun _ => rfl) _) ?_ | refine fB.of (full_map (fun _ => rfl) _) ?_ | refine fB.of (full_map (fun x => full_rKept x) _) ?_ | refine gRf ?_)) <;> (try (conv => whnf)))

end Go.Proofs.Ytfeenmfehgljgaa.Abs
namespace Go.Proofs.Ytfeenmfehgljgaa.Abs
open Go Go.Proofs
set_option linter.unusedVariables false
set_option linter.unusedSimpArgs false
attribute [local irreducible] callE
set_option maxHeartbeats 8000000 in
theorem ok_laws_FnExactAgain (k : Nat) (l : List Ins) (es : List Event) (ks : List Kept) (n : Int) (hl : l.length ≤ 140737488355328) (he : es.length ≤ 140737488355328) (hk : ks.length ≤ 140737488355328) (hx : ∀ j : Nat, j < ks.length → (rd ks j).s.regs.length ≤ 140737488355328 ∧ (rd ks j).s.out.length ≤ 140737488355328) :
    callE PR C (k + 13) 6 [hIns 0 l, hEvent 1 es, hKept 2 ks, i64 n] [tIns l, tEvent es, tKept ks] = some ⟨bl true, [], [none, none, none]⟩ := by
  have hs1 := fun k => ok_laws_szInsS k l 1048576 (by omega) (by omega) hl
  by_cases c1 : left 1048576 l.length < 0
  · (refine callE_is (callE_w [ResultVar.tmp 8] rfl Try.func6 rfl (by decide +kernel) rfl (by simp) ?_); (conv => whnf))
    repeat' ((with_reducible (first | refine sCall.of (hs1 _) ?_ | refine gP ?_ | refine gN ?_ | refine fG.split (fun _ => ?_) (fun _ => ?_) | refine fG.not ?_ | refine gY ?_ | refine gF ?_ | refine fG.yes (flat_map (fun _ => rfl) _) ?_ | refine fG.bool (fun _ => ?_) (fun _ => ?_) | refine gS64 ?_ | refine gU8 ?_ | refine gI9 ?_ | refine fE.of rfl ?_ | refine gBq ?_ | refine gNum9 ?_ | refine gSet ?_ | refine gRd ?_ | refine gLk ?_ | refine gRow9 ?_ | refine fB.of (wide_map (fun _ => rfl) _) ?_ | refine fB.of (full_map (fun _ => rfl) _) ?_ | refine fB.of (full_map (fun x => full_rKept x) _) ?_ | refine gRf ?_)) <;> (try (conv => whnf)))
  · obtain ⟨c2, c3⟩ := left_pos c1
    have hs2 := fun k => ok_laws_szEventS k es (left 1048576 l.length) (by omega) (by omega) he
    by_cases c4 : left (left 1048576 l.length) es.length < 0
    · (refine callE_is (callE_w [ResultVar.tmp 8] rfl Try.func6 rfl (by decide +kernel) rfl (by simp) ?_); (conv => whnf))
      repeat' ((with_reducible (first | refine sCall.of (hs1 _) ?_ | refine sCall.of (hs2 _) ?_ | refine gP ?_ | refine gN ?_ | refine fG.split (fun _ => ?_) (fun _ => ?_) | refine fG.not ?_ | refine gY ?_ | refine gF ?_ | refine fG.yes (flat_map (fun _ => rfl) _) ?_ | refine fG.bool (fun _ => ?_) (fun _ => ?_) | refine gS64 ?_ | refine gU8 ?_ | refine gI9 ?_ | refine fE.of rfl ?_ | refine gBq ?_ | refine gNum9 ?_ | refine gSet ?_ | refine gRd ?_ | refine gLk ?_ | refine gRow9 ?_ | refine fB.of (wide_map (fun _ => rfl) _) ?_ | refine fB.of (full_map (fun _ => rfl) _) ?_ | refine fB.of (full_map (fun x => full_rKept x) _) ?_ | refine gRf ?_)) <;> (try (conv => whnf)))
    · obtain ⟨c5, c6⟩ := left_pos c4
      have hs3 := fun k => ok_laws_szKeptS k ks (left (left 1048576 l.length) es.length) (by omega) (by omega) hk hx
      by_cases c7 : left (left (left 1048576 l.length) es.length) (ks.length + wts wS ks : Nat) < 0
      · (refine callE_is (callE_w [ResultVar.tmp 8] rfl Try.func6 rfl (by decide +kernel) rfl (by simp) ?_); (conv => whnf))
        repeat' ((with_reducible (first | refine sCall.of (hs1 _) ?_ | refine sCall.of (hs2 _) ?_ | refine sCall.of (hs3 _) ?_ | refine gP ?_ | refine gN ?_ | refine fG.split (fun _ => ?_) (fun _ => ?_) | refine fG.not ?_ | refine gY ?_ | refine gF ?_ | refine fG.yes (flat_map (fun _ => rfl) _) ?_ | refine fG.bool (fun _ => ?_) (fun _ => ?_) | refine gS64 ?_ | refine gU8 ?_ | refine gI9 ?_ | refine fE.of rfl ?_ | refine gBq ?_ | refine gNum9 ?_ | refine gSet ?_ | refine gRd ?_ | refine gLk ?_ | refine gRow9 ?_ | refine fB.of (wide_map (fun _ => rfl) _) ?_ | refine fB.of (full_map (fun _ => rfl) _) ?_ | refine fB.of (full_map (fun x => full_rKept x) _) ?_ | refine gRf ?_)) <;> (try (conv => whnf)))
      · obtain ⟨c8, c9⟩ := left_pos c7
        have hl' : l.length ≤ 100000000000 := by omega
        have he' : es.length ≤ 100000000000 := by omega
        have hk' : ks.length ≤ 100000000000 := by omega
        have hx' : ∀ j : Nat, j < ks.length → (rd ks j).s.regs.length ≤ 100000000000 ∧ (rd ks j).s.out.length ≤ 100000000000 := fun j hj => by
          have := wts_one wS ks j hj
          simp only [wS] at this
          constructor <;> omega
        have q1 := fun k => ok_laws_toInsS k l hl'
        have q2 := fun k => ok_laws_toEventS k es he'
        have q3 := fun k => ok_laws_toKeptS k ks hk' hx'
        have q4 := fun k => ok_spec_Again k l es ks n hl' he' ⟨hk', hx'⟩
        have q5 := fun k => ok_impl_Again k l es ks n hl' he' ⟨hk', hx'⟩
        have q6 := fun k => ok_laws_eqInsS k l hl'
        have q7 := fun k => ok_laws_eqEventS k es he'
        have q8 := fun k => ok_laws_eqKeptS k ks hk' hx'
        clear hx hx'
        (refine callE_is (callE_w [ResultVar.tmp 8] rfl Try.func6 rfl (by decide +kernel) rfl (by simp) ?_); (conv => whnf))
        repeat' ((with_reducible (first | refine sCall.of (hs1 _) ?_ | refine sCall.of (hs2 _) ?_ | refine sCall.of (hs3 _) ?_ | refine sCall.of (q1 _) ?_ | refine sCall.of (q2 _) ?_ | refine sCall.of (q3 _) ?_ | refine sCall.of (q4 _) ?_ | refine sCall.of (q5 _) ?_ | refine sCall.of (q6 _) ?_ | refine sCall.of (q7 _) ?_ | refine sCall.of (q8 _) ?_ | refine gP ?_ | refine gN ?_ | refine fG.split (fun _ => ?_) (fun _ => ?_) | refine fG.not ?_ | refine gY ?_ | refine gF ?_ | refine fG.yes (flat_map (fun _ => rfl) _) ?_ | refine fG.bool (fun _ => ?_) (fun _ => ?_) | refine gS64 ?_ | refine gU8 ?_ | refine gI9 ?_ | refine fE.of rfl ?_ | refine gBq ?_ | refine gNum9 ?_ | refine gSet ?_ | refine gRd ?_ | refine gLk ?_ | refine gRow9 ?_ | refine fB.of (wide_map (fun _ => rfl) _) ?_ | refine fB.of (full_map (fun _ => rfl) _) ?_ | refine fB.of (full_map (fun x => full_rKept x) _) ?_ | refine gRf ?_)) <;> (try (conv => whnf)))

theorem restoreSt_len (l : List Ins) (es : List Event) (ks : List Kept) (n : Int) : (restoreSt l es ks n).regs.length ≤ 4 ∧ (restoreSt l es ks n).out.length ≤ 60 := by
  unfold restoreSt
  split
  · exact stOf_len _ _
  · exact ⟨Nat.zero_le _, Nat.zero_le _⟩
theorem wts_wKept (ks : List Kept) : wts wKept ks = 3 * ks.length + wts wS ks := by
  induction ks with
  | nil => rfl
  | cons x ks ih => simp only [wts, ih, wKept, wS, List.length_cons]; omega
set_option maxHeartbeats 8000000 in
theorem ok_laws_FnExactRestore (k : Nat) (l : List Ins) (es : List Event) (ks : List Kept) (n : Int) (hl : l.length ≤ 140737488355328) (he : es.length ≤ 140737488355328) (hk : ks.length ≤ 140737488355328) (hx : ∀ j : Nat, j < ks.length → (rd ks j).s.regs.length ≤ 140737488355328 ∧ (rd ks j).s.out.length ≤ 140737488355328) :
    callE PR C (k + 13) 8 [hIns 0 l, hEvent 1 es, hKept 2 ks, i64 n] [tIns l, tEvent es, tKept ks] = some ⟨bl true, [], [none, none, none]⟩ := by
  have hs1 := fun k => ok_laws_szInsS k l 1048576 (by omega) (by omega) hl
  by_cases c1 : left 1048576 l.length < 0
  · (refine callE_is (callE_w [ResultVar.tmp 8] rfl Try.func8 rfl (by decide +kernel) rfl (by simp) ?_); (conv => whnf))
    repeat' ((with_reducible (first | refine sCall.of (hs1 _) ?_ | refine gP ?_ | refine gN ?_ | refine fG.split (fun _ => ?_) (fun _ => ?_) | refine fG.not ?_ | refine gY ?_ | refine gF ?_ | refine fG.yes (flat_map (fun _ => rfl) _) ?_ | refine fG.bool (fun _ => ?_) (fun _ => ?_) | refine gS64 ?_ | refine gU8 ?_ | refine gI9 ?_ | refine fE.of rfl ?_ | refine gBq ?_ | refine gNum9 ?_ | refine gSet ?_ | refine gRd ?_ | refine gLk ?_ | refine gRow9 ?_ | refine fB.of (wide_map (fun _ => rfl) _) ?_ | refine fB.of (full_map (fun _ => rfl) _) ?_ | refine fB.of (full_map (fun x => full_rKept x) _) ?_ | refine gRf ?_)) <;> (try (conv => whnf)))
  · obtain ⟨c2, c3⟩ := left_pos c1
    have hs2 := fun k => ok_laws_szEventS k es (left 1048576 l.length) (by omega) (by omega) he
    by_cases c4 : left (left 1048576 l.length) es.length < 0
    · (refine callE_is (callE_w [ResultVar.tmp 8] rfl Try.func8 rfl (by decide +kernel) rfl (by simp) ?_); (conv => whnf))
      repeat' ((with_reducible (first | refine sCall.of (hs1 _) ?_ | refine sCall.of (hs2 _) ?_ | refine gP ?_ | refine gN ?_ | refine fG.split (fun _ => ?_) (fun _ => ?_) | refine fG.not ?_ | refine gY ?_ | refine gF ?_ | refine fG.yes (flat_map (fun _ => rfl) _) ?_ | refine fG.bool (fun _ => ?_) (fun _ => ?_) | refine gS64 ?_ | refine gU8 ?_ | refine gI9 ?_ | refine fE.of rfl ?_ | refine gBq ?_ | refine gNum9 ?_ | refine gSet ?_ | refine gRd ?_ | refine gLk ?_ | refine gRow9 ?_ | refine fB.of (wide_map (fun _ => rfl) _) ?_ | refine fB.of (full_map (fun _ => rfl) _) ?_ | refine fB.of (full_map (fun x => full_rKept x) _) ?_ | refine gRf ?_)) <;> (try (conv => whnf)))
    · obtain ⟨c5, c6⟩ := left_pos c4
      have hs3 := fun k => ok_laws_szKeptS k ks (left (left 1048576 l.length) es.length) (by omega) (by omega) hk hx
      by_cases c7 : left (left (left 1048576 l.length) es.length) (ks.length + wts wS ks : Nat) < 0
      · (refine callE_is (callE_w [ResultVar.tmp 8] rfl Try.func8 rfl (by decide +kernel) rfl (by simp) ?_); (conv => whnf))
        repeat' ((with_reducible (first | refine sCall.of (hs1 _) ?_ | refine sCall.of (hs2 _) ?_ | refine sCall.of (hs3 _) ?_ | refine gP ?_ | refine gN ?_ | refine fG.split (fun _ => ?_) (fun _ => ?_) | refine fG.not ?_ | refine gY ?_ | refine gF ?_ | refine fG.yes (flat_map (fun _ => rfl) _) ?_ | refine fG.bool (fun _ => ?_) (fun _ => ?_) | refine gS64 ?_ | refine gU8 ?_ | refine gI9 ?_ | refine fE.of rfl ?_ | refine gBq ?_ | refine gNum9 ?_ | refine gSet ?_ | refine gRd ?_ | refine gLk ?_ | refine gRow9 ?_ | refine fB.of (wide_map (fun _ => rfl) _) ?_ | refine fB.of (full_map (fun _ => rfl) _) ?_ | refine fB.of (full_map (fun x => full_rKept x) _) ?_ | refine gRf ?_)) <;> (try (conv => whnf)))
      · obtain ⟨c8, c9⟩ := left_pos c7
        have hl' : l.length ≤ 100000000000 := by omega
        have he' : es.length ≤ 100000000000 := by omega
        have hk' : ks.length ≤ 100000000000 := by omega
        have hx' : ∀ j : Nat, j < ks.length → (rd ks j).s.regs.length ≤ 100000000000 ∧ (rd ks j).s.out.length ≤ 100000000000 := fun j hj => by
          have := wts_one wS ks j hj
          simp only [wS] at this
          constructor <;> omega
        have q1 := fun k => ok_laws_toInsS k l hl'
        have q2 := fun k => ok_laws_toEventS k es he'
        have q3 := fun k => ok_laws_toKeptS k ks hk' hx'
        have q4 := fun k => ok_spec_Restore k l es ks n hl' he' ⟨hk', hx'⟩
        have q5 := fun k => ok_impl_Restore k l es ks n hl' he' ⟨hk', hx'⟩
        have q6 := fun k => ok_laws_eqInsS k l hl'
        have q7 := fun k => ok_laws_eqEventS k es he'
        have q8 := fun k => ok_laws_eqKeptS k ks hk' hx'
        have hb := restoreSt_len l es ks n
        have hb1 := hb.1
        have hb2 := hb.2
        have hw1 : wts wKept ks ≤ 4194304 := by
          have := wts_wKept ks
          omega
        have q9 := fun k => ok_laws_eqState k (restoreSt l es ks n).at_ (restoreSt l es ks n).code (restoreSt l es ks n).regs (restoreSt l es ks n).out (by omega) (by omega)
        have q10 := fun k => ok_laws_markInsS k l 1 hl' (by omega) (by omega)
        have q11 := fun k => ok_laws_markEventS k es (1 + 5 * l.length) he' (by omega) (by omega)
        have q12 := fun k => ok_laws_markKeptS k ks (1 + 5 * l.length + 3 * es.length) hk' (by omega) (by omega) (fun j hj => by have := wts_one wS ks j hj; simp only [wS] at this; constructor <;> omega)
        have q13 := fun k => ok_laws_markState k (restoreSt l es ks n).at_ (restoreSt l es ks n).code (restoreSt l es ks n).regs (restoreSt l es ks n).out 1 (by omega) (by omega) (by omega) (by omega)
        have q14 := fun k => ok_laws_heldState k (restoreSt l es ks n).at_ (restoreSt l es ks n).code (restoreSt l es ks n).regs (restoreSt l es ks n).out 1 (by omega) (by omega) (by omega) (by omega)
        simp only [aState, marksI_len] at q14
        clear hx hx'
        (refine callE_is (callE_w [ResultVar.tmp 8] rfl Try.func8 rfl (by decide +kernel) rfl (by simp) ?_); (conv => whnf))
        repeat' ((with_reducible (first | refine sCall.of (hs1 _) ?_ | refine sCall.of (hs2 _) ?_ | refine sCall.of (hs3 _) ?_ | refine sCall.of (q1 _) ?_ | refine sCall.of (q2 _) ?_ | refine sCall.of (q3 _) ?_ | refine sCall.of (q4 _) ?_ | refine sCall.of (q5 _) ?_ | refine sCall.of (q6 _) ?_ | refine sCall.of (q7 _) ?_ | refine sCall.of (q8 _) ?_ | refine sCall.of (q9 _) ?_ | refine sCall.of (q10 _) ?_ | refine sCall.of (q11 _) ?_ | refine sCall.of (q12 _) ?_ | refine sCall.of (q13 _) ?_ | refine sCall.of (q14 _) ?_ | refine gP ?_ | refine gN ?_ | refine fG.split (fun _ => ?_) (fun _ => ?_) | refine fG.not ?_ | refine gY ?_ | refine gF ?_ | refine fG.yes (flat_map (fun _ => rfl) _) ?_ | refine fG.bool (fun _ => ?_) (fun _ => ?_) | refine gS64 ?_ | refine gU8 ?_ | refine gI9 ?_ | refine fE.of rfl ?_ | refine gBq ?_ | refine gNum9 ?_ | refine gSet ?_ | refine gRd ?_ | refine gLk ?_ | refine gRow9 ?_ | refine fB.of (wide_map (fun _ => rfl) _) ?_ | refine fB.of (full_map (fun _ => rfl) _) ?_ | refine fB.of (full_map (fun x => full_rKept x) _) ?_ | refine gRf ?_)) <;> (try (conv => whnf)))

end Go.Proofs.Ytfeenmfehgljgaa.Abs
namespace Go.Proofs.Ytfeenmfehgljgaa.Abs
open Go Go.Proofs
set_option linter.unusedVariables false
set_option linter.unusedSimpArgs false
attribute [local irreducible] callE
theorem i64_and255 (n : Int) : Go.bits .and .i64 n 255 = n % 256 := by
  have h127 : (BitVec.ofInt 64 255).toNat = 2 ^ 8 - 1 := by decide
  have key : (BitVec.ofInt 64 n &&& BitVec.ofInt 64 255).toNat = (n % ((2 ^ 64 : Nat) : Int)).toNat % 2 ^ 8 := by
    rw [BitVec.toNat_and, BitVec.toNat_ofInt, h127, Nat.and_two_pow_sub_one_eq_mod]
  show IntKind.i64.wrap ((BitVec.ofInt 64 n &&& BitVec.ofInt 64 255).toNat : Nat) = n % 256
  rw [key, IntKind.wrap_i64]
  omega
theorem i64_and30 (n : Int) : Go.bits .and .i64 n 1073741823 = n % 1073741824 := by
  have h127 : (BitVec.ofInt 64 1073741823).toNat = 2 ^ 30 - 1 := by decide
  have key : (BitVec.ofInt 64 n &&& BitVec.ofInt 64 1073741823).toNat = (n % ((2 ^ 64 : Nat) : Int)).toNat % 2 ^ 30 := by
    rw [BitVec.toNat_and, BitVec.toNat_ofInt, h127, Nat.and_two_pow_sub_one_eq_mod]
  show IntKind.i64.wrap ((BitVec.ofInt 64 n &&& BitVec.ofInt 64 1073741823).toNat : Nat) = n % 1073741824
  rw [key, IntKind.wrap_i64]
  omega
theorem sZ.all {r : Int} {F : Int → Prop} (h : ∀ n, F n) : sZ r F := ⟨h r⟩
theorem sW.all {k : IntKind} {r : Int} {F : Int → Prop} (h : ∀ n, F n) : sW k r F := ⟨h _⟩

/-! ### Drawing -/
abbrev tB (b : List Int) : Cont := .tree 0 (.sl 1 (b.map rB))
set_option maxRecDepth 20000 in
theorem ok_spec_l1New (k : Nat) (b : List Int) (hl : b.length ≤ 100000000000) (hb : ∀ v ∈ b, 0 ≤ v ∧ v < 256) :
    Told (callE PR C (k + 1) 44 [.h 1000000 0 0 [] 1 0 b.length] [tB b]) (fun r => ∃ h : Int, r = ⟨.pt 2000000 1 0 [] 0 0, [.box [.h 1000000 0 0 [] 1 0 b.length, i64 0, i64 h]], [none]⟩) := by
  (refine callE_w [ResultVar.tmp 2] rfl Try.func44 rfl (by decide +kernel) rfl (by simp) ?_; (conv => whnf))
  repeat' ((with_reducible (first | refine gP ?_ | refine gN ?_ | refine fG.split (fun _ => ?_) (fun _ => ?_) | refine fG.not ?_ | refine gY ?_ | refine gF ?_ | refine fG.yes (flat_map (fun _ => rfl) _) ?_ | refine fG.bool (fun _ => ?_) (fun _ => ?_) | refine gS64 ?_ | refine gU8 ?_ | refine gI9 ?_ | refine fE.of rfl ?_ | refine gBq ?_ | refine gNum9 ?_ | refine gSet ?_ | refine gRd ?_ | refine gLk ?_ | refine gRow9 ?_ | refine fB.of (wide_map (fun _ => rfl) _) ?_ | refine fB.of (full_map (fun _ => rfl) _) ?_ | refine fB.of (full_map (fun x => full_rKept x) _) ?_ | refine gRf ?_)) <;> (try (conv => whnf)))
  refine loop_rule (ι := TH) (fun x => [(0, .h 1000000 0 0 [] 1 0 b.length), (3, i64 x.m), (4, i64 (x.j : Nat))])
    (fun x => [(1000000, ⟨0, 0, false, tB b⟩)])
    (fun x => b.length - x.j) (fun x => x.j ≤ b.length ∧ 0 ≤ x.m ∧ x.m ≤ 2000000000000) ⟨0, 17259 + (b.length : Int)⟩ (by (try dsimp only [cond_true, cond_false]); exact ⟨⟨rfl, rfl, rfl, trivial⟩, ⟨rfl, trivial⟩⟩) ⟨Nat.zero_le _, by show (0 : Int) ≤ 17259 + (b.length : Int); omega, by show 17259 + (b.length : Int) ≤ 2000000000000; omega⟩ (by simp [C]; omega) ?_
  rintro ⟨j, m⟩ sl ob ⟨hj, h0, h1⟩
  dsimp only at hj h0 h1
  (try dsimp only [cond_true, cond_false])
  (conv => whnf)
  by_cases hjl : j < b.length
  · have hmem := hb _ (rd_mem hjl)
    repeat' ((with_reducible (first | refine gP ?_ | refine gN ?_ | refine fG.split (fun _ => ?_) (fun _ => ?_) | refine fG.not ?_ | refine gY ?_ | refine gF ?_ | refine fG.yes (flat_map (fun _ => rfl) _) ?_ | refine fG.bool (fun _ => ?_) (fun _ => ?_) | refine gS64 ?_ | refine gU8 ?_ | refine gI9 ?_ | refine fE.of rfl ?_ | refine gBq ?_ | refine gNum9 ?_ | refine gSet ?_ | refine gRd ?_ | refine gLk ?_ | refine gRow9 ?_ | refine fB.of (wide_map (fun _ => rfl) _) ?_ | refine fB.of (full_map (fun _ => rfl) _) ?_ | refine fB.of (full_map (fun x => full_rKept x) _) ?_ | refine gRf ?_ | refine sZ.eq (i64_and255 _) ?_ | refine sZ.eq (i64_and30 _) ?_)) <;> (try (conv => whnf)))
    case' refine_1 h =>
      refine ⟨⟨⟨j + 1, (m * 131 + rd b j + 7) % 1073741824⟩, (by (try dsimp only [cond_true, cond_false]); exact ⟨⟨rfl, rfl, rfl, trivial⟩, ⟨rfl, trivial⟩⟩), ?_, ?_⟩⟩
      · exact ⟨by show j + 1 ≤ _; omega, by show (0 : Int) ≤ (m * 131 + rd b j + 7) % 1073741824; omega, by show (m * 131 + rd b j + 7) % 1073741824 ≤ (2000000000000 : Int); omega⟩
      · show b.length - (j + 1) < b.length - j; omega
    all_goals exact ⟨_, rfl⟩
  · repeat' ((with_reducible (first | refine gP ?_ | refine gN ?_ | refine fG.split (fun _ => ?_) (fun _ => ?_) | refine fG.not ?_ | refine gY ?_ | refine gF ?_ | refine fG.yes (flat_map (fun _ => rfl) _) ?_ | refine fG.bool (fun _ => ?_) (fun _ => ?_) | refine gS64 ?_ | refine gU8 ?_ | refine gI9 ?_ | refine fE.of rfl ?_ | refine gBq ?_ | refine gNum9 ?_ | refine gSet ?_ | refine gRd ?_ | refine gLk ?_ | refine gRow9 ?_ | refine fB.of (wide_map (fun _ => rfl) _) ?_ | refine fB.of (full_map (fun _ => rfl) _) ?_ | refine fB.of (full_map (fun x => full_rKept x) _) ?_ | refine gRf ?_)) <;> (try (conv => whnf)))
    exact ⟨_, rfl⟩
/-- The cursor's answer. -/
def Cur (b : List Int) (lo hi : Int) (r : Res) : Prop := ∃ (x i h : Int), lo ≤ x ∧ x ≤ hi ∧ 0 ≤ i ∧ i ≤ b.length ∧ r = ⟨i64 x, [], [none, some (.box [.h 1000000 0 0 [] 1 0 b.length, i64 i, i64 h])]⟩
theorem ok_spec_l1Byte (k : Nat) (b : List Int) (i h : Int) (hl : b.length ≤ 100000000000) (hb : ∀ v ∈ b, 0 ≤ v ∧ v < 256) (h0 : 0 ≤ i) (h1 : i ≤ b.length) :
    Told (callE PR C (k + 1) 49 [.pt 1000001 0 0 [] 0 0] [tB b, .box [.h 1000000 0 0 [] 1 0 b.length, i64 i, i64 h]]) (Cur b 0 255) := by
  by_cases hc : i < b.length
  · have hmem := hb _ (rd_mem (l := b) (n := i.toNat) (by omega))
    (refine callE_w [ResultVar.tmp 2] rfl Try.func49 rfl (by decide +kernel) rfl (by simp) ?_; (conv => whnf))
    repeat' ((with_reducible (first | refine gP ?_ | refine gN ?_ | refine fG.split (fun _ => ?_) (fun _ => ?_) | refine fG.not ?_ | refine gY ?_ | refine gF ?_ | refine fG.yes (flat_map (fun _ => rfl) _) ?_ | refine fG.bool (fun _ => ?_) (fun _ => ?_) | refine gS64 ?_ | refine gU8 ?_ | refine gI9 ?_ | refine fE.of rfl ?_ | refine gBq ?_ | refine gNum9 ?_ | refine gSet ?_ | refine gRd ?_ | refine gLk ?_ | refine gRow9 ?_ | refine fB.of (wide_map (fun _ => rfl) _) ?_ | refine fB.of (full_map (fun _ => rfl) _) ?_ | refine fB.of (full_map (fun x => full_rKept x) _) ?_ | refine gRf ?_ | refine sZ.eq (i64_and255 _) ?_ | refine sZ.eq (i64_and30 _) ?_ | refine sZ.all (fun _ => ?_) | refine sW.all (fun _ => ?_) | refine sDraw.none (id := 2) (ty := tys) rfl (by decide +kernel) ?_ | refine sDraw.none (id := 3) (ty := tys) rfl (by decide +kernel) ?_ | refine sDraw.none (id := 4) (ty := tys) rfl (by decide +kernel) ?_)) <;> (try (conv => whnf)))
    exact ⟨_, _, _, by omega, by omega, by omega, by omega, rfl⟩
  · (refine callE_w [ResultVar.tmp 2] rfl Try.func49 rfl (by decide +kernel) rfl (by simp) ?_; (conv => whnf))
    repeat' ((with_reducible (first | refine gP ?_ | refine gN ?_ | refine fG.split (fun _ => ?_) (fun _ => ?_) | refine fG.not ?_ | refine gY ?_ | refine gF ?_ | refine fG.yes (flat_map (fun _ => rfl) _) ?_ | refine fG.bool (fun _ => ?_) (fun _ => ?_) | refine gS64 ?_ | refine gU8 ?_ | refine gI9 ?_ | refine fE.of rfl ?_ | refine gBq ?_ | refine gNum9 ?_ | refine gSet ?_ | refine gRd ?_ | refine gLk ?_ | refine gRow9 ?_ | refine fB.of (wide_map (fun _ => rfl) _) ?_ | refine fB.of (full_map (fun _ => rfl) _) ?_ | refine fB.of (full_map (fun x => full_rKept x) _) ?_ | refine gRf ?_ | refine sZ.eq (i64_and255 _) ?_ | refine sZ.eq (i64_and30 _) ?_ | refine sZ.all (fun _ => ?_) | refine sW.all (fun _ => ?_) | refine sDraw.none (id := 2) (ty := tys) rfl (by decide +kernel) ?_ | refine sDraw.none (id := 3) (ty := tys) rfl (by decide +kernel) ?_ | refine sDraw.none (id := 4) (ty := tys) rfl (by decide +kernel) ?_)) <;> (try (conv => whnf)))
    exact ⟨_, _, _, by omega, by omega, by omega, by omega, rfl⟩
set_option maxRecDepth 20000 in
theorem ok_spec_l1Below (k : Nat) (b : List Int) (i h n : Int) (hl : b.length ≤ 100000000000) (hb : ∀ v ∈ b, 0 ≤ v ∧ v < 256) (h0 : 0 ≤ i) (h1 : i ≤ b.length) (hn : n ≤ 100000000001) :
    Told (callE PR C (k + 2) 46 [.pt 1000001 0 0 [] 0 0, i64 n] [tB b, .box [.h 1000000 0 0 [] 1 0 b.length, i64 i, i64 h]]) (Cur b 0 (if n ≤ 0 then 0 else n - 1)) := by
  by_cases c0 : n ≤ 0
  · rw [if_pos c0]
    (refine callE_w [ResultVar.tmp 4] rfl Try.func46 rfl (by decide +kernel) rfl (by simp) ?_; (conv => whnf))
    repeat' ((with_reducible (first | refine gP ?_ | refine gN ?_ | refine fG.split (fun _ => ?_) (fun _ => ?_) | refine fG.not ?_ | refine gY ?_ | refine gF ?_ | refine fG.yes (flat_map (fun _ => rfl) _) ?_ | refine fG.bool (fun _ => ?_) (fun _ => ?_) | refine gS64 ?_ | refine gU8 ?_ | refine gI9 ?_ | refine fE.of rfl ?_ | refine gBq ?_ | refine gNum9 ?_ | refine gSet ?_ | refine gRd ?_ | refine gLk ?_ | refine gRow9 ?_ | refine fB.of (wide_map (fun _ => rfl) _) ?_ | refine fB.of (full_map (fun _ => rfl) _) ?_ | refine fB.of (full_map (fun x => full_rKept x) _) ?_ | refine gRf ?_)) <;> (try (conv => whnf)))
    exact ⟨_, _, _, by omega, by omega, by omega, by omega, rfl⟩
  · rw [if_neg c0]
    by_cases c1 : n ≤ 256
    · (refine callE_w [ResultVar.tmp 4] rfl Try.func46 rfl (by decide +kernel) rfl (by simp) ?_; (conv => whnf))
      repeat' ((with_reducible (first | (refine sCall.ex (ok_spec_l1Byte k b i h hl hb h0 h1) ?_) | refine gP ?_ | refine gN ?_ | refine fG.split (fun _ => ?_) (fun _ => ?_) | refine fG.not ?_ | refine gY ?_ | refine gF ?_ | refine fG.yes (flat_map (fun _ => rfl) _) ?_ | refine fG.bool (fun _ => ?_) (fun _ => ?_) | refine gS64 ?_ | refine gU8 ?_ | refine gI9 ?_ | refine fE.of rfl ?_ | refine gBq ?_ | refine gNum9 ?_ | refine gSet ?_ | refine gRd ?_ | refine gLk ?_ | refine gRow9 ?_ | refine fB.of (wide_map (fun _ => rfl) _) ?_ | refine fB.of (full_map (fun _ => rfl) _) ?_ | refine fB.of (full_map (fun x => full_rKept x) _) ?_ | refine gRf ?_)) <;> (try (conv => whnf)))
      rintro _ ⟨x1, i1, h1', ha, hb1, hc, hd, rfl⟩
      have e1 : x1.tmod n = x1 % n := Int.tmod_eq_emod_of_nonneg ha
      have e2 := Int.emod_nonneg x1 (by omega : n ≠ 0)
      have e3 := Int.emod_lt_of_pos x1 (by omega : 0 < n)
      (conv => whnf)
      repeat' ((with_reducible (first | refine gP ?_ | refine gN ?_ | refine fG.split (fun _ => ?_) (fun _ => ?_) | refine fG.not ?_ | refine gY ?_ | refine gF ?_ | refine fG.yes (flat_map (fun _ => rfl) _) ?_ | refine fG.bool (fun _ => ?_) (fun _ => ?_) | refine gS64 ?_ | refine gU8 ?_ | refine gI9 ?_ | refine fE.of rfl ?_ | refine gBq ?_ | refine gNum9 ?_ | refine gSet ?_ | refine gRd ?_ | refine gLk ?_ | refine gRow9 ?_ | refine fB.of (wide_map (fun _ => rfl) _) ?_ | refine fB.of (full_map (fun _ => rfl) _) ?_ | refine fB.of (full_map (fun x => full_rKept x) _) ?_ | refine gRf ?_)) <;> (try (conv => whnf)))
      refine sZ.eq e1 ?_
      (conv => whnf)
      repeat' ((with_reducible (first | refine gP ?_ | refine gN ?_ | refine fG.split (fun _ => ?_) (fun _ => ?_) | refine fG.not ?_ | refine gY ?_ | refine gF ?_ | refine fG.yes (flat_map (fun _ => rfl) _) ?_ | refine fG.bool (fun _ => ?_) (fun _ => ?_) | refine gS64 ?_ | refine gU8 ?_ | refine gI9 ?_ | refine fE.of rfl ?_ | refine gBq ?_ | refine gNum9 ?_ | refine gSet ?_ | refine gRd ?_ | refine gLk ?_ | refine gRow9 ?_ | refine fB.of (wide_map (fun _ => rfl) _) ?_ | refine fB.of (full_map (fun _ => rfl) _) ?_ | refine fB.of (full_map (fun x => full_rKept x) _) ?_ | refine gRf ?_)) <;> (try (conv => whnf)))
      exact ⟨_, _, _, e2, Int.le_sub_one_of_lt e3, hc, hd, rfl⟩
    · (refine callE_w [ResultVar.tmp 4] rfl Try.func46 rfl (by decide +kernel) rfl (by simp) ?_; (conv => whnf))
      repeat' ((with_reducible (first | (refine sCall.ex (ok_spec_l1Byte k b i h hl hb h0 h1) ?_) | refine gP ?_ | refine gN ?_ | refine fG.split (fun _ => ?_) (fun _ => ?_) | refine fG.not ?_ | refine gY ?_ | refine gF ?_ | refine fG.yes (flat_map (fun _ => rfl) _) ?_ | refine fG.bool (fun _ => ?_) (fun _ => ?_) | refine gS64 ?_ | refine gU8 ?_ | refine gI9 ?_ | refine fE.of rfl ?_ | refine gBq ?_ | refine gNum9 ?_ | refine gSet ?_ | refine gRd ?_ | refine gLk ?_ | refine gRow9 ?_ | refine fB.of (wide_map (fun _ => rfl) _) ?_ | refine fB.of (full_map (fun _ => rfl) _) ?_ | refine fB.of (full_map (fun x => full_rKept x) _) ?_ | refine gRf ?_)) <;> (try (conv => whnf)))
      rintro _ ⟨x1, i1, h1', ha, hb1, hc, hd, rfl⟩
      (conv => whnf)
      repeat' ((with_reducible (first | (refine sCall.ex (ok_spec_l1Byte k b i1 _ hl hb hc hd) ?_) | refine gP ?_ | refine gN ?_ | refine fG.split (fun _ => ?_) (fun _ => ?_) | refine fG.not ?_ | refine gY ?_ | refine gF ?_ | refine fG.yes (flat_map (fun _ => rfl) _) ?_ | refine fG.bool (fun _ => ?_) (fun _ => ?_) | refine gS64 ?_ | refine gU8 ?_ | refine gI9 ?_ | refine fE.of rfl ?_ | refine gBq ?_ | refine gNum9 ?_ | refine gSet ?_ | refine gRd ?_ | refine gLk ?_ | refine gRow9 ?_ | refine fB.of (wide_map (fun _ => rfl) _) ?_ | refine fB.of (full_map (fun _ => rfl) _) ?_ | refine fB.of (full_map (fun x => full_rKept x) _) ?_ | refine gRf ?_)) <;> (try (conv => whnf)))
      rintro _ ⟨x2, i2, h2', ha2, hb2, hc2, hd2, rfl⟩
      (conv => whnf)
      repeat' ((with_reducible (first | (refine sCall.ex (ok_spec_l1Byte k b i2 _ hl hb hc2 hd2) ?_) | refine gP ?_ | refine gN ?_ | refine fG.split (fun _ => ?_) (fun _ => ?_) | refine fG.not ?_ | refine gY ?_ | refine gF ?_ | refine fG.yes (flat_map (fun _ => rfl) _) ?_ | refine fG.bool (fun _ => ?_) (fun _ => ?_) | refine gS64 ?_ | refine gU8 ?_ | refine gI9 ?_ | refine fE.of rfl ?_ | refine gBq ?_ | refine gNum9 ?_ | refine gSet ?_ | refine gRd ?_ | refine gLk ?_ | refine gRow9 ?_ | refine fB.of (wide_map (fun _ => rfl) _) ?_ | refine fB.of (full_map (fun _ => rfl) _) ?_ | refine fB.of (full_map (fun x => full_rKept x) _) ?_ | refine gRf ?_)) <;> (try (conv => whnf)))
      rintro _ ⟨x3, i3, h3', ha3, hb3, hc3, hd3, rfl⟩
      (conv => whnf)
      repeat' ((with_reducible (first | (refine sCall.ex (ok_spec_l1Byte k b i3 _ hl hb hc3 hd3) ?_) | refine gP ?_ | refine gN ?_ | refine fG.split (fun _ => ?_) (fun _ => ?_) | refine fG.not ?_ | refine gY ?_ | refine gF ?_ | refine fG.yes (flat_map (fun _ => rfl) _) ?_ | refine fG.bool (fun _ => ?_) (fun _ => ?_) | refine gS64 ?_ | refine gU8 ?_ | refine gI9 ?_ | refine fE.of rfl ?_ | refine gBq ?_ | refine gNum9 ?_ | refine gSet ?_ | refine gRd ?_ | refine gLk ?_ | refine gRow9 ?_ | refine fB.of (wide_map (fun _ => rfl) _) ?_ | refine fB.of (full_map (fun _ => rfl) _) ?_ | refine fB.of (full_map (fun x => full_rKept x) _) ?_ | refine gRf ?_)) <;> (try (conv => whnf)))
      rintro _ ⟨x4, i4, h4', ha4, hb4, hc4, hd4, rfl⟩
      have e1 : (x1 * 16777216 + x2 * 65536 + x3 * 256 + x4).tmod n = (x1 * 16777216 + x2 * 65536 + x3 * 256 + x4) % n := Int.tmod_eq_emod_of_nonneg (by omega)
      have e2 := Int.emod_nonneg (x1 * 16777216 + x2 * 65536 + x3 * 256 + x4) (by omega : n ≠ 0)
      have e3 := Int.emod_lt_of_pos (x1 * 16777216 + x2 * 65536 + x3 * 256 + x4) (by omega : 0 < n)
      (conv => whnf)
      repeat' ((with_reducible (first | refine gP ?_ | refine gN ?_ | refine fG.split (fun _ => ?_) (fun _ => ?_) | refine fG.not ?_ | refine gY ?_ | refine gF ?_ | refine fG.yes (flat_map (fun _ => rfl) _) ?_ | refine fG.bool (fun _ => ?_) (fun _ => ?_) | refine gS64 ?_ | refine gU8 ?_ | refine gI9 ?_ | refine fE.of rfl ?_ | refine gBq ?_ | refine gNum9 ?_ | refine gSet ?_ | refine gRd ?_ | refine gLk ?_ | refine gRow9 ?_ | refine fB.of (wide_map (fun _ => rfl) _) ?_ | refine fB.of (full_map (fun _ => rfl) _) ?_ | refine fB.of (full_map (fun x => full_rKept x) _) ?_ | refine gRf ?_)) <;> (try (conv => whnf)))
      refine sZ.eq e1 ?_
      (conv => whnf)
      repeat' ((with_reducible (first | refine gP ?_ | refine gN ?_ | refine fG.split (fun _ => ?_) (fun _ => ?_) | refine fG.not ?_ | refine gY ?_ | refine gF ?_ | refine fG.yes (flat_map (fun _ => rfl) _) ?_ | refine fG.bool (fun _ => ?_) (fun _ => ?_) | refine gS64 ?_ | refine gU8 ?_ | refine gI9 ?_ | refine fE.of rfl ?_ | refine gBq ?_ | refine gNum9 ?_ | refine gSet ?_ | refine gRd ?_ | refine gLk ?_ | refine gRow9 ?_ | refine fB.of (wide_map (fun _ => rfl) _) ?_ | refine fB.of (full_map (fun _ => rfl) _) ?_ | refine fB.of (full_map (fun x => full_rKept x) _) ?_ | refine gRf ?_)) <;> (try (conv => whnf)))
      exact ⟨_, _, _, e2, Int.le_sub_one_of_lt e3, hc4, hd4, rfl⟩

abbrev tCur (b : List Int) (i h : Int) : Cont := .box [.h 1000000 0 0 [] 1 0 b.length, i64 i, i64 h]
/-- Bytes that a cursor goes through. -/
structure Bytes (b : List Int) : Prop where
  len : b.length ≤ 100000000000
  num : ∀ v ∈ b, 0 ≤ v ∧ v < 256
theorem sCall.cur {x : Option Res} {b : List Int} {lo hi : Int} {F : Res → Prop} (e : Told x (Cur b lo hi)) (h : ∀ x i h : Int, lo ≤ x → x ≤ hi → 0 ≤ i → i ≤ b.length → F ⟨i64 x, [], [none, some (tCur b i h)]⟩) : sCall x F :=
  sCall.ex e fun r hr => by obtain ⟨x, i, h', h1, h2, h3, h4, rfl⟩ := hr; exact h x i h' h1 h2 h3 h4
theorem ok_Below (k : Nat) (b : List Int) (i h n : Int) (hb : Bytes b) (h0 : 0 ≤ i := by assumption) (h1 : i ≤ b.length := by assumption) (hn0 : 0 < n := by omega) (hn : n ≤ 100000000001 := by omega) :
    Told (callE PR C (k + 2) 46 [.pt 1000001 0 0 [] 0 0, i64 n] [tB b, tCur b i h]) (Cur b 0 (n - 1)) := by
  have := ok_spec_l1Below k b i h n hb.len hb.num h0 h1 hn
  rwa [if_neg (by omega)] at this
theorem ok_spec_l1Once (k : Nat) (b : List Int) (i h n : Int) (hb : Bytes b) (h0 : 0 ≤ i := by assumption) (h1 : i ≤ b.length := by assumption) (hn0 : 0 < n := by omega) (hn : n ≤ 100000000001 := by omega) :
    Told (callE PR C (k + 3) 92 [.pt 1000001 0 0 [] 0 0, i64 n] [tB b, tCur b i h]) (fun r => ∃ (x : Bool) (i h : Int), 0 ≤ i ∧ i ≤ b.length ∧ r = ⟨bl x, [], [none, some (tCur b i h)]⟩) := by
  (refine callE_w [ResultVar.tmp 4] rfl Try.func92 rfl (by decide +kernel) rfl (by simp) ?_; (conv => whnf))
  repeat' ((with_reducible (first | refine sCall.cur (ok_Below _ _ _ _ _ hb) (fun _ _ _ _ _ _ _ => ?_) | refine gP ?_ | refine gN ?_ | refine fG.split (fun _ => ?_) (fun _ => ?_) | refine fG.not ?_ | refine gY ?_ | refine gF ?_ | refine fG.yes (flat_map (fun _ => rfl) _) ?_ | refine fG.bool (fun _ => ?_) (fun _ => ?_) | refine gS64 ?_ | refine gU8 ?_ | refine gI9 ?_ | refine fE.of rfl ?_ | refine gBq ?_ | refine gNum9 ?_ | refine gSet ?_ | refine gRd ?_ | refine gLk ?_ | refine gRow9 ?_ | refine fB.of (wide_map (fun _ => rfl) _) ?_ | refine fB.of (full_map (fun _ => rfl) _) ?_ | refine fB.of (full_map (fun x => full_rKept x) _) ?_ | refine gRf ?_)) <;> (try (conv => whnf)))
  exact ⟨_, _, _, by assumption, by assumption, rfl⟩
theorem ok_spec_l1PickInt (k : Nat) (b : List Int) (i h : Int) (l : List Int) (hb : Bytes b) (hl0 : 0 < l.length) (hl : l.length ≤ 100000000000) (h0 : 0 ≤ i := by assumption) (h1 : i ≤ b.length := by assumption) :
    Told (callE PR C (k + 3) 45 [.pt 1000001 0 0 [] 0 0, .h 1000002 0 0 [] 1 0 l.length] [tB b, tCur b i h, tI l]) (fun r => ∃ x i h : Int, x ∈ l ∧ 0 ≤ i ∧ i ≤ b.length ∧ r = ⟨i64 x, [], [none, some (tCur b i h), none]⟩) := by
  have hbl := hb.len
  (refine callE_w [ResultVar.tmp 4] rfl Try.func45 rfl (by decide +kernel) rfl (by simp) ?_; (conv => whnf))
  repeat' ((with_reducible (first | refine sCall.cur (ok_Below _ _ _ _ _ hb) (fun _ _ _ _ _ _ _ => ?_) | refine gP ?_ | refine gN ?_ | refine fG.split (fun _ => ?_) (fun _ => ?_) | refine fG.not ?_ | refine gY ?_ | refine gF ?_ | refine fG.yes (flat_map (fun _ => rfl) _) ?_ | refine fG.bool (fun _ => ?_) (fun _ => ?_) | refine gS64 ?_ | refine gU8 ?_ | refine gI9 ?_ | refine fE.of rfl ?_ | refine gBq ?_ | refine gNum9 ?_ | refine gSet ?_ | refine gRd ?_ | refine gLk ?_ | refine gRow9 ?_ | refine fB.of (wide_map (fun _ => rfl) _) ?_ | refine fB.of (full_map (fun _ => rfl) _) ?_ | refine fB.of (full_map (fun x => full_rKept x) _) ?_ | refine gRf ?_)) <;> (try (conv => whnf)))
  exact ⟨_, _, _, rd_mem (by omega), by assumption, by assumption, rfl⟩
theorem sCall.curB {x : Option Res} {b : List Int} {F : Res → Prop} (e : Told x (fun r => ∃ (x : Bool) (i h : Int), 0 ≤ i ∧ i ≤ b.length ∧ r = ⟨bl x, [], [none, some (tCur b i h)]⟩)) (h : ∀ (x : Bool) (i h : Int), 0 ≤ i → i ≤ b.length → F ⟨bl x, [], [none, some (tCur b i h)]⟩) : sCall x F :=
  sCall.ex e fun r hr => by obtain ⟨x, i, h', h3, h4, rfl⟩ := hr; exact h x i h' h3 h4

end Go.Proofs.Ytfeenmfehgljgaa.Abs
namespace Go.Proofs.Ytfeenmfehgljgaa.Abs
open Go Go.Proofs
set_option linter.unusedVariables false
set_option linter.unusedSimpArgs false
attribute [local irreducible] callE
set_option maxRecDepth 20000 in
set_option maxHeartbeats 8000000 in
theorem ok_spec_l1DrawIns (k : Nat) (b : List Int) (i h m p : Int) (hb : Bytes b) (hm : 0 < m := by omega) (hm2 : m ≤ 100000000001 := by omega) (hp : 0 < p := by omega) (hp2 : p ≤ 100000000001 := by omega) (h0 : 0 ≤ i := by assumption) (h1 : i ≤ b.length := by assumption) :
    Told (callE PR C (k + 4) 108 [.pt 1000001 0 0 [] 0 0, i64 m, i64 p] [tB b, tCur b i h]) (fun r => ∃ o q a c n i h : Int, 0 ≤ i ∧ i ≤ b.length ∧ r = ⟨.ag [i64 o, i64 q, i64 a, i64 c, i64 n], [], [none, some (tCur b i h)]⟩) := by
  have hbl := hb.len
  (refine callE_w [ResultVar.cell 6 86] rfl Try.func108 rfl (by decide +kernel) rfl (by simp) ?_; (conv => whnf))
  repeat' ((with_reducible (first | refine sCall.cur (ok_Below _ _ _ _ _ hb) (fun _ _ _ _ _ _ _ => ?_) | refine sCall.curB (ok_spec_l1Once _ _ _ _ _ hb) (fun _ _ _ _ _ => ?_) | refine gP ?_ | refine gN ?_ | refine fG.split (fun _ => ?_) (fun _ => ?_) | refine fG.not ?_ | refine gY ?_ | refine gF ?_ | refine fG.yes (flat_map (fun _ => rfl) _) ?_ | refine fG.bool (fun _ => ?_) (fun _ => ?_) | refine gS64 ?_ | refine gU8 ?_ | refine gI9 ?_ | refine fE.of rfl ?_ | refine gBq ?_ | refine gNum9 ?_ | refine gSet ?_ | refine gRd ?_ | refine gLk ?_ | refine gRow9 ?_ | refine fB.of (wide_map (fun _ => rfl) _) ?_ | refine fB.of (full_map (fun _ => rfl) _) ?_ | refine fB.of (full_map (fun x => full_rKept x) _) ?_ | refine gRf ?_)) <;> (try (conv => whnf)))
  all_goals exact ⟨_, _, _, _, _, _, _, by assumption, by assumption, rfl⟩

theorem one_rIns (a b c d e : Int) : [[T.v (.int .i64 a), .v (.int .i64 b), .v (.int .i64 c), .v (.int .i64 d), .v (.int .i64 e)]] = [(⟨a, b, c, d, e⟩ : Ins)].map rIns := rfl
theorem cons_rIns (l : List Ins) (a b c d e : Int) : [T.v (.int .i64 a), .v (.int .i64 b), .v (.int .i64 c), .v (.int .i64 d), .v (.int .i64 e)] :: l.map rIns = ((⟨a, b, c, d, e⟩ : Ins) :: l).map rIns := rfl
theorem one_rI (a : Int) : [[T.v (.int .i64 a)]] = [a].map rI := rfl
theorem cons_rI (l : List Int) (a : Int) : [T.v (.int .i64 a)] :: l.map rI = (a :: l).map rI := rfl
theorem gI10 {p A : Prop} (h : A) (e : p := by first | with_reducible assumption | omega | (simp only [Nat.zero_add, Nat.add_zero, Nat.sub_zero, Int.toNat_natCast, Int.toNat_zero, Int.toNat_one, List.length_map, List.length_nil, Int.reduceToNat, Nat.reduceAdd, Nat.reduceSub, Int.sub_zero, Int.reduceAdd, Int.reduceSub, Nat.sub_self, Int.toNat_natCast_add_one, marks_len, bs_len, List.length_append, List.length_cons, List.length_set, List.length_replicate, List.length_range]; first | done | omega)) : sI p A := sI.mk e h
theorem gNum10 {r r' : Nat} {F : Nat → Prop} (h : F r') (e : r = r' := by first | (simp only [Nat.zero_add, Nat.add_zero, Nat.sub_zero, Int.toNat_natCast, Int.toNat_zero, Int.toNat_one, List.length_map, List.length_nil, Int.reduceToNat, Nat.reduceAdd, Nat.reduceSub, Int.sub_zero, Int.reduceAdd, Int.reduceSub, Nat.sub_self, Int.toNat_natCast_add_one, marks_len, bs_len]; rfl) | rfl) : sN r F := sN.eq e h
theorem gRow10 {r r' : List (List T)} {F : List (List T) → Prop} (h : F r') (e : r = r' := by first | (simp only [Nat.add_zero, Nat.zero_add, Nat.reduceAdd, List.drop_zero, List.take_succ_cons, List.take_nil, List.drop_succ_cons, List.drop_nil, List.take_zero, List.nil_append, List.append_nil, List.map_nil, drop_suf, take_pre, drop_map, List.take_length, take_len_set, take_len_app, List.set_set, List.length_map, one_rIns, cons_rIns, one_rI, cons_rI, rep_rKept, marks_take, set_rKept, set_rIns, rep_rIns, set_rEvent, rep_rEvent, snoc_rKept, snoc_rEvent, snoc_rIns, bytesT_bs, snoc_rI, snoc_rB, snoc_rBool, set_rI, set_rBool, rep_rI, rep_rBool, map_app]; rfl) | rfl) : sR r F := sR.eq e h
/-- A drawn program. -/
def DrawnIns (b : List Int) (m n : Nat) (r : Res) : Prop := ∃ (l : List Ins) (i h : Int), m ≤ l.length ∧ l.length ≤ n ∧ 0 ≤ i ∧ i ≤ b.length ∧ r = ⟨.h 2000000 1 0 [] 5 0 l.length, [tIns9 l], [none, some (tCur b i h)]⟩
structure DP where
  j : Nat
  l : List Ins
  o : Nat
  bb : Nat
  i : Int
  h : Int
theorem sCall.ins {x : Option Res} {b : List Int} {F : Res → Prop} (e : Told x (fun r => ∃ o q a c n i h : Int, 0 ≤ i ∧ i ≤ b.length ∧ r = ⟨.ag [i64 o, i64 q, i64 a, i64 c, i64 n], [], [none, some (tCur b i h)]⟩)) (h : ∀ o q a c n i h : Int, 0 ≤ i → i ≤ b.length → F ⟨.ag [i64 o, i64 q, i64 a, i64 c, i64 n], [], [none, some (tCur b i h)]⟩) : sCall x F :=
  sCall.ex e fun r hr => by obtain ⟨o, q, a, c, n, i, h', h3, h4, rfl⟩ := hr; exact h o q a c n i h' h3 h4
theorem sCall.pick {x : Option Res} {b l : List Int} {F : Res → Prop} (e : Told x (fun r => ∃ x i h : Int, x ∈ l ∧ 0 ≤ i ∧ i ≤ b.length ∧ r = ⟨i64 x, [], [none, some (tCur b i h), none]⟩)) (h : ∀ x i h : Int, x ∈ l → 0 ≤ i → i ≤ b.length → F ⟨i64 x, [], [none, some (tCur b i h), none]⟩) : sCall x F :=
  sCall.ex e fun r hr => by obtain ⟨x, i, h', h2, h3, h4, rfl⟩ := hr; exact h x i h' h2 h3 h4
theorem ok_PickInt (k : Nat) (b : List Int) (i h : Int) (l : List Int) (hb : Bytes b) (hl0 : 0 < l.length := by simp) (hl : l.length ≤ 100000000000 := by simp) (h0 : 0 ≤ i := by assumption) (h1 : i ≤ b.length := by assumption) :
    Told (callE PR C (k + 3) 45 [.pt 1000001 0 0 [] 0 0, .h 1000002 0 0 [] 1 0 l.length] [tB b, tCur b i h, tI l]) (fun r => ∃ x i h : Int, x ∈ l ∧ 0 ≤ i ∧ i ≤ b.length ∧ r = ⟨i64 x, [], [none, some (tCur b i h), none]⟩) := ok_spec_l1PickInt k b i h l hb hl0 hl h0 h1
theorem drawn_mk {b : List Int} {m n' n : Nat} {l : List Ins} {i h : Int} (e : l.length = n) (h1 : m ≤ n) (h2 : n ≤ n') (h3 : 0 ≤ i) (h4 : i ≤ b.length) : DrawnIns b m n' ⟨.h 2000000 1 0 [] 5 0 n, [tIns9 l], [none, some (tCur b i h)]⟩ := by
  subst e
  exact ⟨l, i, h, h1, h2, h3, h4, rfl⟩

set_option maxRecDepth 20000 in
set_option maxHeartbeats 8000000 in
theorem ok_spec_l1DrawProg (k : Nat) (b : List Int) (i h p q : Int) (hb : Bytes b) (hp : 0 < p := by omega) (hp2 : p ≤ 100000000001 := by omega) (hq : 0 ≤ q := by omega) (hq2 : q ≤ 100000000001 := by omega) (h0 : 0 ≤ i := by assumption) (h1 : i ≤ b.length := by assumption) :
    Told (callE PR C (k + 5) 91 [.pt 1000001 0 0 [] 0 0, i64 p, i64 q] [tB b, tCur b i h]) (DrawnIns b 4 11) := by
  have hbl := hb.len
  (refine callE_w [ResultVar.tmp 6] rfl Try.func91 rfl (by decide +kernel) rfl (by simp) ?_; (conv => whnf))
  repeat' ((with_reducible (first | refine sCall.cur (ok_Below _ _ _ _ _ hb) (fun _ _ _ _ _ _ _ => ?_) | refine gP ?_ | refine gN ?_ | refine fG.split (fun _ => ?_) (fun _ => ?_) | refine fG.not ?_ | refine gY ?_ | refine gF ?_ | refine fG.yes (flat_map (fun _ => rfl) _) ?_ | refine fG.bool (fun _ => ?_) (fun _ => ?_) | refine gS64 ?_ | refine gU8 ?_ | refine gI10 ?_ | refine fE.of rfl ?_ | refine gBq ?_ | refine gNum10 ?_ | refine gSet ?_ | refine gRd ?_ | refine gLk ?_ | refine gRow10 ?_ | refine fB.of (wide_map (fun _ => rfl) _) ?_ | refine fB.of (full_map (fun _ => rfl) _) ?_ | refine fB.of (full_map (fun x => full_rKept x) _) ?_ | refine gRf ?_ | refine sZ.eq (i64_and255 _) ?_ | refine sZ.eq (i64_and30 _) ?_ | refine sZ.all (fun _ => ?_) | refine sW.all (fun _ => ?_))) <;> (try (conv => whnf)))
  case' refine_1 | refine_2.refine_1 | refine_2.refine_2.refine_1 =>
    exact drawn_mk rfl (by decide) (by decide) (by assumption) (by assumption)
  case refine_2.refine_2.refine_2 =>
    rename_i x i0 h0' ha hb' hc hd
    refine loop_rule (ι := DP) (fun y => [(0, .pt 1000001 0 0 [] 0 0), (1, i64 p), (8, i64 (3 + x)), (9, .h y.o y.bb 0 [] 5 0 y.l.length), (10, i64 (y.j : Nat))])
      (fun y => [(1000000, ⟨0, 0, false, tB b⟩), (1000001, ⟨0, 0, true, tCur b y.i y.h⟩), (y.o, ⟨y.bb, 0, false, tIns9 y.l⟩)])
      (fun y => (3 + x - y.j).toNat) (fun y => (y.j : Int) ≤ 3 + x ∧ y.l.length = y.j ∧ 0 ≤ y.i ∧ y.i ≤ b.length ∧ (y.o = 56 ∨ y.o = 69)) ⟨0, [], 56, _, i0, h0'⟩ (by (try dsimp only [cond_true, cond_false]); exact ⟨⟨rfl, rfl, rfl, rfl, rfl, trivial⟩, ⟨rfl, rfl, rfl, trivial⟩⟩) ⟨by show (0 : Int) ≤ 3 + x; omega, rfl, hc, hd, .inl rfl⟩ (by simp [C]; omega) ?_
    rintro ⟨j, out, o, bb, i1, h1'⟩ sl ob ⟨hj, hlen, hi0, hi1, ho⟩
    dsimp only at hj hlen hi0 hi1 ho
    by_cases hjl : (j : Int) < 3 + x
    · rcases ho with rfl | rfl
      all_goals (try dsimp only [cond_true, cond_false])
      all_goals (conv => whnf)
      all_goals repeat' ((with_reducible (first | refine sCall.ins (ok_spec_l1DrawIns _ _ _ _ _ _ hb) (fun _ _ _ _ _ _ _ _ _ => ?_) | refine gP ?_ | refine gN ?_ | refine fG.split (fun _ => ?_) (fun _ => ?_) | refine fG.not ?_ | refine gY ?_ | refine gF ?_ | refine fG.yes (flat_map (fun _ => rfl) _) ?_ | refine fG.bool (fun _ => ?_) (fun _ => ?_) | refine gS64 ?_ | refine gU8 ?_ | refine gI10 ?_ | refine fE.of rfl ?_ | refine gBq ?_ | refine gNum10 ?_ | refine gSet ?_ | refine gRd ?_ | refine gLk ?_ | refine gRow10 ?_ | refine fB.of (wide_map (fun _ => rfl) _) ?_ | refine fB.of (full_map (fun _ => rfl) _) ?_ | refine fB.of (full_map (fun x => full_rKept x) _) ?_ | refine gRf ?_ | refine sZ.eq (i64_and255 _) ?_ | refine sZ.eq (i64_and30 _) ?_ | refine sZ.all (fun _ => ?_) | refine sW.all (fun _ => ?_))) <;> (try (conv => whnf)))
      all_goals
        rename_i o1 q1 a1 c1 n1 i2 h2 e1 e2
        refine ⟨⟨⟨j + 1, out ++ [⟨o1, q1, a1, c1, n1⟩], 69, _, i2, h2⟩, (by (try dsimp only [cond_true, cond_false]); exact ⟨⟨rfl, rfl, rfl, rfl, rfl, trivial⟩, ⟨rfl, rfl, rfl, trivial⟩⟩), ?_, ?_⟩⟩
        · exact ⟨by show ((j + 1 : Nat) : Int) ≤ 3 + x; omega, by show (out ++ [_]).length = j + 1; simp [hlen], e1, e2, .inr rfl⟩
        · show (3 + x - ((j + 1 : Nat) : Int)).toNat < (3 + x - j).toNat; omega
    · rcases ho with rfl | rfl
      all_goals (try dsimp only [cond_true, cond_false])
      all_goals (conv => whnf)
      all_goals repeat' ((with_reducible (first | refine sCall.pick (ok_PickInt _ _ _ _ _ hb) (fun _ _ _ _ _ _ => ?_) | refine gP ?_ | refine gN ?_ | refine fG.split (fun _ => ?_) (fun _ => ?_) | refine fG.not ?_ | refine gY ?_ | refine gF ?_ | refine fG.yes (flat_map (fun _ => rfl) _) ?_ | refine fG.bool (fun _ => ?_) (fun _ => ?_) | refine gS64 ?_ | refine gU8 ?_ | refine gI10 ?_ | refine fE.of rfl ?_ | refine gBq ?_ | refine gNum10 ?_ | refine gSet ?_ | refine gRd ?_ | refine gLk ?_ | refine gRow10 ?_ | refine fB.of (wide_map (fun _ => rfl) _) ?_ | refine fB.of (full_map (fun _ => rfl) _) ?_ | refine fB.of (full_map (fun x => full_rKept x) _) ?_ | refine gRf ?_ | refine sZ.eq (i64_and255 _) ?_ | refine sZ.eq (i64_and30 _) ?_ | refine sZ.all (fun _ => ?_) | refine sW.all (fun _ => ?_))) <;> (try (conv => whnf)))
      all_goals
        refine drawn_mk rfl ?_ ?_ (by assumption) (by assumption)
        · simp only [List.length_append, List.length_cons, List.length_nil, hlen]; omega
        · simp only [List.length_append, List.length_cons, List.length_nil, hlen]; omega

set_option maxRecDepth 20000 in
set_option maxHeartbeats 8000000 in
theorem ok_spec_l1Spoil (k : Nat) (b : List Int) (i h o q a c n : Int) (hb : Bytes b) (h0 : 0 ≤ i := by assumption) (h1 : i ≤ b.length := by assumption) :
    Told (callE PR C (k + 4) 93 [.pt 1000001 0 0 [] 0 0, .ag [i64 o, i64 q, i64 a, i64 c, i64 n]] [tB b, tCur b i h]) (fun r => ∃ o q a c n i h : Int, 0 ≤ i ∧ i ≤ b.length ∧ r = ⟨.ag [i64 o, i64 q, i64 a, i64 c, i64 n], [], [none, some (tCur b i h)]⟩) := by
  have hbl := hb.len
  (refine callE_w [ResultVar.cell 4 86] rfl Try.func93 rfl (by decide +kernel) rfl (by simp) ?_; (conv => whnf))
  repeat' ((with_reducible (first | refine sCall.cur (ok_Below _ _ _ _ _ hb) (fun _ _ _ _ _ _ _ => ?_) | refine sCall.pick (ok_PickInt _ _ _ _ _ hb) (fun _ _ _ _ _ _ => ?_) | refine gP ?_ | refine gN ?_ | refine fG.split (fun _ => ?_) (fun _ => ?_) | refine fG.not ?_ | refine gY ?_ | refine gF ?_ | refine fG.yes (flat_map (fun _ => rfl) _) ?_ | refine fG.bool (fun _ => ?_) (fun _ => ?_) | refine gS64 ?_ | refine gU8 ?_ | refine gI10 ?_ | refine fE.of rfl ?_ | refine gBq ?_ | refine gNum10 ?_ | refine gSet ?_ | refine gRd ?_ | refine gLk ?_ | refine gRow10 ?_ | refine fB.of (wide_map (fun _ => rfl) _) ?_ | refine fB.of (full_map (fun _ => rfl) _) ?_ | refine fB.of (full_map (fun x => full_rKept x) _) ?_ | refine gRf ?_ | refine sZ.eq (i64_and255 _) ?_ | refine sZ.eq (i64_and30 _) ?_ | refine sZ.all (fun _ => ?_) | refine sW.all (fun _ => ?_))) <;> (try (conv => whnf)))
  all_goals exact ⟨_, _, _, _, _, _, _, by assumption, by assumption, rfl⟩

theorem sCall.prog {x : Option Res} {b : List Int} {m n : Nat} {F : Res → Prop} (e : Told x (DrawnIns b m n)) (h : ∀ (l : List Ins) (i h : Int), m ≤ l.length → l.length ≤ n → 0 ≤ i → i ≤ b.length → F ⟨.h 2000000 1 0 [] 5 0 l.length, [tIns9 l], [none, some (tCur b i h)]⟩) : sCall x F :=
  sCall.ex e fun r hr => by obtain ⟨l, i, h', h1, h2, h3, h4, rfl⟩ := hr; exact h l i h' h1 h2 h3 h4
structure DA where
  l : List Ins
  n : Nat
  o : Nat
  bb : Nat
  g : Nat
  d : Bool
  i : Int
  h : Int
set_option maxRecDepth 20000 in
set_option maxHeartbeats 8000000 in
theorem ok_spec_l1DrawAny (k : Nat) (b : List Int) (i h : Int) (hb : Bytes b) (h0 : 0 ≤ i := by assumption) (h1 : i ≤ b.length := by assumption) :
    Told (callE PR C (k + 6) 72 [.pt 1000001 0 0 [] 0 0] [tB b, tCur b i h]) (DrawnIns b 1 40) := by
  have hbl := hb.len
  (refine callE_w [ResultVar.tmp 2] rfl Try.func72 rfl (by decide +kernel) rfl (by simp) ?_; (conv => whnf))
  repeat' ((with_reducible (first | refine sCall.cur (ok_Below _ _ _ _ _ hb) (fun _ _ _ _ _ _ _ => ?_) | refine sCall.prog (ok_spec_l1DrawProg _ _ _ _ _ _ hb) (fun _ _ _ _ _ _ _ => ?_) | refine sCall.curB (ok_spec_l1Once _ _ _ _ _ hb) (fun _ _ _ _ _ => ?_) | refine sCall.ins (ok_spec_l1Spoil _ _ _ _ _ _ _ _ _ hb) (fun _ _ _ _ _ _ _ _ _ => ?_) | refine gP ?_ | refine gN ?_ | refine fG.split (fun _ => ?_) (fun _ => ?_) | refine fG.not ?_ | refine gY ?_ | refine gF ?_ | refine fG.yes (flat_map (fun _ => rfl) _) ?_ | refine fG.bool (fun _ => ?_) (fun _ => ?_) | refine gS64 ?_ | refine gU8 ?_ | refine gI10 ?_ | refine fE.of rfl ?_ | refine gBq ?_ | refine gNum10 ?_ | refine gSet ?_ | refine gRd ?_ | refine gLk ?_ | refine gRow10 ?_ | refine fB.of (wide_map (fun _ => rfl) _) ?_ | refine fB.of (full_map (fun _ => rfl) _) ?_ | refine fB.of (full_map (fun x => full_rKept x) _) ?_ | refine gRf ?_ | refine sZ.eq (i64_and255 _) ?_ | refine sZ.eq (i64_and30 _) ?_ | refine sZ.all (fun _ => ?_) | refine sW.all (fun _ => ?_))) <;> (try (conv => whnf)))
  case' refine_1.refine_2 | refine_2.refine_2 =>
    exact drawn_mk (by simp) (by omega) (by omega) (by assumption) (by assumption)
  all_goals
    refine loop_rule (ι := DA) (fun y => [(0, .pt 1000001 0 0 [] 0 0), (3, .h y.o y.bb 0 [] 5 0 y.n)])
      (fun y => [(1000000, ⟨0, 0, false, tB b⟩), (1000001, ⟨0, 0, true, tCur b y.i y.h⟩), (y.o, ⟨y.bb, y.g, y.d, tIns9 y.l⟩)])
      (fun y => 31 - y.n) (fun y => y.n = y.l.length ∧ 1 ≤ y.n ∧ y.n ≤ 31 ∧ 0 ≤ y.i ∧ y.i ≤ b.length ∧ (y.o = 10008 ∨ y.o = 35)) ⟨_, _, 10008, _, _, _, _, _⟩ (by (try dsimp only [cond_true, cond_false]); exact ⟨⟨rfl, rfl, trivial⟩, ⟨rfl, rfl, rfl, trivial⟩⟩) ⟨by simp, by show 1 ≤ List.length _; omega, by show List.length _ ≤ 31; omega, by assumption, by assumption, .inl rfl⟩ (by simp [C]; omega) ?_
    rintro ⟨out, n, o, bb, g, d, i1, h1'⟩ sl ob ⟨hn, hn1, hn2, hi0, hi1, ho⟩
    dsimp only at hn hn1 hn2 hi0 hi1 ho
    subst hn
    rcases ho with rfl | rfl
    all_goals (try dsimp only [cond_true, cond_false])
    all_goals (conv => whnf)
    all_goals repeat' ((with_reducible (first | refine sCall.cur (ok_Below _ _ _ _ _ hb) (fun _ _ _ _ _ _ _ => ?_) | refine gP ?_ | refine gN ?_ | refine fG.split (fun _ => ?_) (fun _ => ?_) | refine fG.not ?_ | refine gY ?_ | refine gF ?_ | refine fG.yes (flat_map (fun _ => rfl) _) ?_ | refine fG.bool (fun _ => ?_) (fun _ => ?_) | refine gS64 ?_ | refine gU8 ?_ | refine gI10 ?_ | refine fE.of rfl ?_ | refine gBq ?_ | refine gNum10 ?_ | refine gSet ?_ | refine gRd ?_ | refine gLk ?_ | refine gRow10 ?_ | refine fB.of (wide_map (fun _ => rfl) _) ?_ | refine fB.of (full_map (fun _ => rfl) _) ?_ | refine fB.of (full_map (fun x => full_rKept x) _) ?_ | refine gRf ?_ | refine sZ.eq (i64_and255 _) ?_ | refine sZ.eq (i64_and30 _) ?_ | refine sZ.all (fun _ => ?_) | refine sW.all (fun _ => ?_))) <;> (try (conv => whnf)))
    case' inl.refine_1 | inr.refine_1 =>
      rename_i x i2 h2 e1 e2 e3 e4 e5
      refine ⟨⟨⟨out ++ [⟨11, 0, 0, 0, 0⟩], _, 35, _, _, _, i2, h2⟩, (by (try dsimp only [cond_true, cond_false]); exact ⟨⟨rfl, rfl, trivial⟩, ⟨rfl, rfl, rfl, trivial⟩⟩), ?_, ?_⟩⟩
      · exact ⟨by first | rfl | simp, by show 1 ≤ List.length _; simp, by show List.length _ ≤ 31; simp; omega, e3, e4, .inr rfl⟩
      · show 31 - List.length _ < 31 - out.length; simp; omega
    all_goals exact drawn_mk rfl (by omega) (by omega) (by assumption) (by assumption)

end Go.Proofs.Ytfeenmfehgljgaa.Abs
namespace Go.Proofs.Ytfeenmfehgljgaa.Abs
open Go Go.Proofs
set_option linter.unusedVariables false
set_option linter.unusedSimpArgs false
attribute [local irreducible] callE
/-- Which states are right. -/
def stateOk (n : Nat) (s : State) : Bool := decide (s.regs.length = 4) && (decide (0 ≤ s.code ∧ s.code ≤ 2) && (decide (0 ≤ s.at_ ∧ s.at_ ≤ (n : Int) - 1) && (decide (s.out.length ≤ 60) && (s.regs.all numOk && s.out.all numOk))))
theorem all_no {l : List Int} {j : Nat} (h : j < l.length) (e : numOk (rd l j) = false) : l.all numOk = false := by
  rw [List.all_eq_false]
  exact ⟨rd l j, rd_mem h, by rw [e]; decide⟩
theorem all_yes {l : List Int} (h : ∀ i, i < l.length → numOk (rd l i) = true) : l.all numOk = true := by
  rw [List.all_eq_true]
  intro x hx
  obtain ⟨i, hi, rfl⟩ := List.mem_iff_getElem.1 hx
  have := h i hi
  simpa [rd, hi] using this
set_option maxHeartbeats 4000000 in
theorem ok_spec_StateOk (k : Nat) (l : List Ins) (a : Int) (r o : List Int) (c : Int) (hl : l.length ≤ 100000000000) (hr : r.length ≤ 100000000000) (ho : o.length ≤ 100000000000) :
    callE PR C (k + 3) 111 [hIns 0 l, aState 1 a r o c] [tIns l, tI r, tI o] = some ⟨bl (stateOk l.length ⟨a, r, o, c⟩), [], [none, none, none]⟩ := by
  have q1 := fun k => ok_spec_l1In k c 0 2
  have q2 := fun k => ok_spec_l1In k a 0 ((l.length : Int) - 1)
  by_cases g1 : r.length = 4
  · by_cases g2 : 0 ≤ c ∧ c ≤ 2
    · by_cases g3 : 0 ≤ a ∧ a ≤ (l.length : Int) - 1
      · by_cases g4 : o.length ≤ 60
        · rw [decide_eq_true g2] at q1
          rw [decide_eq_true g3] at q2
          rw [show stateOk l.length ⟨a, r, o, c⟩ = (r.all numOk && o.all numOk) by simp only [stateOk, decide_eq_true g1, decide_eq_true g2, decide_eq_true g3, decide_eq_true g4, Bool.true_and]]
          (refine callE_is (callE_w [ResultVar.tmp 4] rfl Try.func111 rfl (by decide +kernel) rfl (by simp) ?_); (conv => whnf))
          repeat' ((with_reducible (first | refine sCall.of (q1 _) ?_ | refine sCall.of (q2 _) ?_ | refine gP ?_ | refine gN ?_ | refine fG.split (fun _ => ?_) (fun _ => ?_) | refine fG.not ?_ | refine gY ?_ | refine gF ?_ | refine fG.yes (flat_map (fun _ => rfl) _) ?_ | refine fG.bool (fun _ => ?_) (fun _ => ?_) | refine gS64 ?_ | refine gU8 ?_ | refine gI10 ?_ | refine fE.of rfl ?_ | refine gBq ?_ | refine gNum10 ?_ | refine gSet ?_ | refine gRd ?_ | refine gLk ?_ | refine gRow10 ?_ | refine fB.of (wide_map (fun _ => rfl) _) ?_ | refine fB.of (full_map (fun _ => rfl) _) ?_ | refine fB.of (full_map (fun x => full_rKept x) _) ?_ | refine gRf ?_)) <;> (try (conv => whnf)))
          refine loop_rule (ι := Nat) (fun j => [(3, .pt 3 1 0 [] 0 0), (5, i64 (j : Nat))])
            (fun x => [(1000001, ⟨0, 0, false, tI r⟩), (1000002, ⟨0, 0, false, tI o⟩), (1000000, ⟨0, 0, false, tIns l⟩), (3, ⟨1, 0, false, .box [i64 a, .h 1000001 0 0 [] 1 0 r.length, .h 1000002 0 0 [] 1 0 o.length, i64 c]⟩)])
            (fun j => 4 - j) (fun j => j ≤ 4 ∧ ∀ i, i < j → numOk (rd r i) = true) 0 (by (try dsimp only [cond_true, cond_false]); exact ⟨⟨rfl, rfl, trivial⟩, ⟨rfl, rfl, rfl, rfl, trivial⟩⟩) ⟨Nat.zero_le _, by simp⟩ (by simp [C]) ?_
          rintro j sl ob ⟨hj, ht⟩
          (try dsimp only [cond_true, cond_false])
          (conv => whnf)
          by_cases hjl : j < 4
          · cases e : numOk (rd r j) with
            | true =>
              have q3 : ∀ k, callE PR C (k + 2) 87 [i64 (rd r j)] [] = some ⟨bl (numOk (rd r j)), [], []⟩ := fun k => ok_spec_l1Num k (rd r j)
              rw [e] at q3
              repeat' ((with_reducible (first | refine sCall.of (q3 _) ?_ | refine gP ?_ | refine gN ?_ | refine fG.split (fun _ => ?_) (fun _ => ?_) | refine fG.not ?_ | refine gY ?_ | refine gF ?_ | refine fG.yes (flat_map (fun _ => rfl) _) ?_ | refine fG.bool (fun _ => ?_) (fun _ => ?_) | refine gS64 ?_ | refine gU8 ?_ | refine gI10 ?_ | refine fE.of rfl ?_ | refine gBq ?_ | refine gNum10 ?_ | refine gSet ?_ | refine gRd ?_ | refine gLk ?_ | refine gRow10 ?_ | refine fB.of (wide_map (fun _ => rfl) _) ?_ | refine fB.of (full_map (fun _ => rfl) _) ?_ | refine fB.of (full_map (fun x => full_rKept x) _) ?_ | refine gRf ?_)) <;> (try (conv => whnf)))
              refine ⟨⟨j + 1, (by (try dsimp only [cond_true, cond_false]); exact ⟨⟨rfl, rfl, trivial⟩, ⟨rfl, rfl, rfl, rfl, trivial⟩⟩), ?_, ?_⟩⟩
              · exact ⟨by show j + 1 ≤ _; omega, fun i hi => by rcases Nat.lt_succ_iff_lt_or_eq.1 hi with h | h; exact ht i h; rw [h]; exact e⟩
              · show 4 - (j + 1) < 4 - j; omega
            | false =>
              have q3 : ∀ k, callE PR C (k + 2) 87 [i64 (rd r j)] [] = some ⟨bl (numOk (rd r j)), [], []⟩ := fun k => ok_spec_l1Num k (rd r j)
              rw [e] at q3
              rw [all_no (by omega) e, Bool.false_and]
              repeat' ((with_reducible (first | refine sCall.of (q3 _) ?_ | refine gP ?_ | refine gN ?_ | refine fG.split (fun _ => ?_) (fun _ => ?_) | refine fG.not ?_ | refine gY ?_ | refine gF ?_ | refine fG.yes (flat_map (fun _ => rfl) _) ?_ | refine fG.bool (fun _ => ?_) (fun _ => ?_) | refine gS64 ?_ | refine gU8 ?_ | refine gI10 ?_ | refine fE.of rfl ?_ | refine gBq ?_ | refine gNum10 ?_ | refine gSet ?_ | refine gRd ?_ | refine gLk ?_ | refine gRow10 ?_ | refine fB.of (wide_map (fun _ => rfl) _) ?_ | refine fB.of (full_map (fun _ => rfl) _) ?_ | refine fB.of (full_map (fun x => full_rKept x) _) ?_ | refine gRf ?_)) <;> (try (conv => whnf)))
          · rw [all_yes (l := r) (fun i hi => ht i (by omega)), Bool.true_and]
            repeat' ((with_reducible (first | refine gP ?_ | refine gN ?_ | refine fG.split (fun _ => ?_) (fun _ => ?_) | refine fG.not ?_ | refine gY ?_ | refine gF ?_ | refine fG.yes (flat_map (fun _ => rfl) _) ?_ | refine fG.bool (fun _ => ?_) (fun _ => ?_) | refine gS64 ?_ | refine gU8 ?_ | refine gI10 ?_ | refine fE.of rfl ?_ | refine gBq ?_ | refine gNum10 ?_ | refine gSet ?_ | refine gRd ?_ | refine gLk ?_ | refine gRow10 ?_ | refine fB.of (wide_map (fun _ => rfl) _) ?_ | refine fB.of (full_map (fun _ => rfl) _) ?_ | refine fB.of (full_map (fun x => full_rKept x) _) ?_ | refine gRf ?_)) <;> (try (conv => whnf)))
            refine loop_rule (ι := Nat) (fun j => [(3, .pt 3 1 0 [] 0 0), (6, i64 (j : Nat))])
              (fun x => [(1000002, ⟨0, 0, false, tI o⟩), (1000001, ⟨0, 0, false, tI r⟩), (1000000, ⟨0, 0, false, tIns l⟩), (3, ⟨1, 0, false, .box [i64 a, .h 1000001 0 0 [] 1 0 r.length, .h 1000002 0 0 [] 1 0 o.length, i64 c]⟩)])
              (fun j => o.length - j) (fun j => j ≤ o.length ∧ ∀ i, i < j → numOk (rd o i) = true) 0 (by (try dsimp only [cond_true, cond_false]); exact ⟨⟨rfl, rfl, trivial⟩, ⟨rfl, rfl, rfl, rfl, trivial⟩⟩) ⟨Nat.zero_le _, by simp⟩ (by simp [C]; omega) ?_
            clear ht hj hjl
            rintro j' sl' ob' ⟨hj, ht⟩
            (try dsimp only [cond_true, cond_false])
            (conv => whnf)
            by_cases hjl : j' < o.length
            · cases e : numOk (rd o j') with
              | true =>
                have q3 : ∀ k, callE PR C (k + 2) 87 [i64 (rd o j')] [] = some ⟨bl (numOk (rd o j')), [], []⟩ := fun k => ok_spec_l1Num k (rd o j')
                rw [e] at q3
                repeat' ((with_reducible (first | refine sCall.of (q3 _) ?_ | refine gP ?_ | refine gN ?_ | refine fG.split (fun _ => ?_) (fun _ => ?_) | refine fG.not ?_ | refine gY ?_ | refine gF ?_ | refine fG.yes (flat_map (fun _ => rfl) _) ?_ | refine fG.bool (fun _ => ?_) (fun _ => ?_) | refine gS64 ?_ | refine gU8 ?_ | refine gI10 ?_ | refine fE.of rfl ?_ | refine gBq ?_ | refine gNum10 ?_ | refine gSet ?_ | refine gRd ?_ | refine gLk ?_ | refine gRow10 ?_ | refine fB.of (wide_map (fun _ => rfl) _) ?_ | refine fB.of (full_map (fun _ => rfl) _) ?_ | refine fB.of (full_map (fun x => full_rKept x) _) ?_ | refine gRf ?_)) <;> (try (conv => whnf)))
                refine ⟨⟨j' + 1, (by (try dsimp only [cond_true, cond_false]); exact ⟨⟨rfl, rfl, trivial⟩, ⟨rfl, rfl, rfl, rfl, trivial⟩⟩), ?_, ?_⟩⟩
                · exact ⟨by show j' + 1 ≤ _; omega, fun i hi => by rcases Nat.lt_succ_iff_lt_or_eq.1 hi with h | h; exact ht i h; rw [h]; exact e⟩
                · show o.length - (j' + 1) < o.length - j'; omega
              | false =>
                have q3 : ∀ k, callE PR C (k + 2) 87 [i64 (rd o j')] [] = some ⟨bl (numOk (rd o j')), [], []⟩ := fun k => ok_spec_l1Num k (rd o j')
                rw [e] at q3
                rw [all_no hjl e]
                repeat' ((with_reducible (first | refine sCall.of (q3 _) ?_ | refine gP ?_ | refine gN ?_ | refine fG.split (fun _ => ?_) (fun _ => ?_) | refine fG.not ?_ | refine gY ?_ | refine gF ?_ | refine fG.yes (flat_map (fun _ => rfl) _) ?_ | refine fG.bool (fun _ => ?_) (fun _ => ?_) | refine gS64 ?_ | refine gU8 ?_ | refine gI10 ?_ | refine fE.of rfl ?_ | refine gBq ?_ | refine gNum10 ?_ | refine gSet ?_ | refine gRd ?_ | refine gLk ?_ | refine gRow10 ?_ | refine fB.of (wide_map (fun _ => rfl) _) ?_ | refine fB.of (full_map (fun _ => rfl) _) ?_ | refine fB.of (full_map (fun x => full_rKept x) _) ?_ | refine gRf ?_)) <;> (try (conv => whnf)))
            · rw [all_yes (l := o) (fun i hi => ht i (by omega))]
              repeat' ((with_reducible (first | refine gP ?_ | refine gN ?_ | refine fG.split (fun _ => ?_) (fun _ => ?_) | refine fG.not ?_ | refine gY ?_ | refine gF ?_ | refine fG.yes (flat_map (fun _ => rfl) _) ?_ | refine fG.bool (fun _ => ?_) (fun _ => ?_) | refine gS64 ?_ | refine gU8 ?_ | refine gI10 ?_ | refine fE.of rfl ?_ | refine gBq ?_ | refine gNum10 ?_ | refine gSet ?_ | refine gRd ?_ | refine gLk ?_ | refine gRow10 ?_ | refine fB.of (wide_map (fun _ => rfl) _) ?_ | refine fB.of (full_map (fun _ => rfl) _) ?_ | refine fB.of (full_map (fun x => full_rKept x) _) ?_ | refine gRf ?_)) <;> (try (conv => whnf)))
        · rw [show stateOk l.length ⟨a, r, o, c⟩ = false by simp only [stateOk, decide_eq_false g4, Bool.false_and, Bool.and_false]]
          rw [decide_eq_true g2] at q1
          rw [decide_eq_true g3] at q2
          (refine callE_is (callE_w [ResultVar.tmp 4] rfl Try.func111 rfl (by decide +kernel) rfl (by simp) ?_); (conv => whnf))
          repeat' ((with_reducible (first | refine sCall.of (q1 _) ?_ | refine sCall.of (q2 _) ?_ | refine gP ?_ | refine gN ?_ | refine fG.split (fun _ => ?_) (fun _ => ?_) | refine fG.not ?_ | refine gY ?_ | refine gF ?_ | refine fG.yes (flat_map (fun _ => rfl) _) ?_ | refine fG.bool (fun _ => ?_) (fun _ => ?_) | refine gS64 ?_ | refine gU8 ?_ | refine gI10 ?_ | refine fE.of rfl ?_ | refine gBq ?_ | refine gNum10 ?_ | refine gSet ?_ | refine gRd ?_ | refine gLk ?_ | refine gRow10 ?_ | refine fB.of (wide_map (fun _ => rfl) _) ?_ | refine fB.of (full_map (fun _ => rfl) _) ?_ | refine fB.of (full_map (fun x => full_rKept x) _) ?_ | refine gRf ?_)) <;> (try (conv => whnf)))
      · rw [show stateOk l.length ⟨a, r, o, c⟩ = false by simp only [stateOk, decide_eq_false g3, Bool.false_and, Bool.and_false]]
        rw [decide_eq_true g2] at q1
        rw [decide_eq_false g3] at q2
        (refine callE_is (callE_w [ResultVar.tmp 4] rfl Try.func111 rfl (by decide +kernel) rfl (by simp) ?_); (conv => whnf))
        repeat' ((with_reducible (first | refine sCall.of (q1 _) ?_ | refine sCall.of (q2 _) ?_ | refine gP ?_ | refine gN ?_ | refine fG.split (fun _ => ?_) (fun _ => ?_) | refine fG.not ?_ | refine gY ?_ | refine gF ?_ | refine fG.yes (flat_map (fun _ => rfl) _) ?_ | refine fG.bool (fun _ => ?_) (fun _ => ?_) | refine gS64 ?_ | refine gU8 ?_ | refine gI10 ?_ | refine fE.of rfl ?_ | refine gBq ?_ | refine gNum10 ?_ | refine gSet ?_ | refine gRd ?_ | refine gLk ?_ | refine gRow10 ?_ | refine fB.of (wide_map (fun _ => rfl) _) ?_ | refine fB.of (full_map (fun _ => rfl) _) ?_ | refine fB.of (full_map (fun x => full_rKept x) _) ?_ | refine gRf ?_)) <;> (try (conv => whnf)))
    · rw [show stateOk l.length ⟨a, r, o, c⟩ = false by simp only [stateOk, decide_eq_false g2, Bool.false_and, Bool.and_false]]
      rw [decide_eq_false g2] at q1
      (refine callE_is (callE_w [ResultVar.tmp 4] rfl Try.func111 rfl (by decide +kernel) rfl (by simp) ?_); (conv => whnf))
      repeat' ((with_reducible (first | refine sCall.of (q1 _) ?_ | refine gP ?_ | refine gN ?_ | refine fG.split (fun _ => ?_) (fun _ => ?_) | refine fG.not ?_ | refine gY ?_ | refine gF ?_ | refine fG.yes (flat_map (fun _ => rfl) _) ?_ | refine fG.bool (fun _ => ?_) (fun _ => ?_) | refine gS64 ?_ | refine gU8 ?_ | refine gI10 ?_ | refine fE.of rfl ?_ | refine gBq ?_ | refine gNum10 ?_ | refine gSet ?_ | refine gRd ?_ | refine gLk ?_ | refine gRow10 ?_ | refine fB.of (wide_map (fun _ => rfl) _) ?_ | refine fB.of (full_map (fun _ => rfl) _) ?_ | refine fB.of (full_map (fun x => full_rKept x) _) ?_ | refine gRf ?_)) <;> (try (conv => whnf)))
  · rw [show stateOk l.length ⟨a, r, o, c⟩ = false by simp only [stateOk, decide_eq_false g1, Bool.false_and]]
    (refine callE_is (callE_w [ResultVar.tmp 4] rfl Try.func111 rfl (by decide +kernel) rfl (by simp) ?_); (conv => whnf))
    repeat' ((with_reducible (first | refine gP ?_ | refine gN ?_ | refine fG.split (fun _ => ?_) (fun _ => ?_) | refine fG.not ?_ | refine gY ?_ | refine gF ?_ | refine fG.yes (flat_map (fun _ => rfl) _) ?_ | refine fG.bool (fun _ => ?_) (fun _ => ?_) | refine gS64 ?_ | refine gU8 ?_ | refine gI10 ?_ | refine fE.of rfl ?_ | refine gBq ?_ | refine gNum10 ?_ | refine gSet ?_ | refine gRd ?_ | refine gLk ?_ | refine gRow10 ?_ | refine fB.of (wide_map (fun _ => rfl) _) ?_ | refine fB.of (full_map (fun _ => rfl) _) ?_ | refine fB.of (full_map (fun x => full_rKept x) _) ?_ | refine gRf ?_)) <;> (try (conv => whnf)))

def rightOk (l : List Ins) (s : State) : Bool := progOk l 4 && (stateOk l.length s && decide (s.code = 0))
theorem stateOk_sok {l : List Ins} {s : State} (h1 : stateOk l.length s = true) : SOk l.length s := by
  simp only [stateOk, Bool.and_eq_true, decide_eq_true_eq, List.all_eq_true] at h1
  obtain ⟨a1, a2, a3, a4, a5, a6⟩ := h1
  refine ⟨a3.1, by omega, a1, a4, fun i hi => ?_⟩
  have := a5 _ (rd_mem (l := s.regs) (n := i) (by omega))
  simpa [numOk] using this
theorem ok_spec_l2Right (k : Nat) (l : List Ins) (a : Int) (r o : List Int) (c : Int) (hl : l.length ≤ 100000000000) (hr : r.length ≤ 100000000000) (ho : o.length ≤ 100000000000) :
    callE PR C (k + 6) 109 [hIns 0 l, aState 1 a r o c] [tIns l, tI r, tI o] = some ⟨bl (rightOk l ⟨a, r, o, c⟩), [], [none, none, none]⟩ := by
  have q1 := fun k => ok_spec_ProgOk k l 4 hl (by omega) (by omega)
  have q2 := fun k => ok_spec_StateOk k l a r o c hl hr ho
  unfold rightOk
  cases e1 : progOk l 4 with
  | false =>
    simp only [e1] at q1
    (refine callE_is (callE_w [ResultVar.tmp 4] rfl Try.func109 rfl (by decide +kernel) rfl (by simp) ?_); (conv => whnf))
    repeat' ((with_reducible (first | refine sCall.of (q1 _) ?_ | refine sCall.of (q2 _) ?_ | refine gP ?_ | refine gN ?_ | refine fG.split (fun _ => ?_) (fun _ => ?_) | refine fG.not ?_ | refine gY ?_ | refine gF ?_ | refine fG.yes (flat_map (fun _ => rfl) _) ?_ | refine fG.bool (fun _ => ?_) (fun _ => ?_) | refine gS64 ?_ | refine gU8 ?_ | refine gI10 ?_ | refine fE.of rfl ?_ | refine gBq ?_ | refine gNum10 ?_ | refine gSet ?_ | refine gRd ?_ | refine gLk ?_ | refine gRow10 ?_ | refine fB.of (wide_map (fun _ => rfl) _) ?_ | refine fB.of (full_map (fun _ => rfl) _) ?_ | refine fB.of (full_map (fun x => full_rKept x) _) ?_ | refine gRf ?_)) <;> (try (conv => whnf)))
    all_goals simp
  | true =>
    simp only [e1] at q1
    cases e2 : stateOk l.length ⟨a, r, o, c⟩ with
    | false =>
      simp only [e2] at q2
      (refine callE_is (callE_w [ResultVar.tmp 4] rfl Try.func109 rfl (by decide +kernel) rfl (by simp) ?_); (conv => whnf))
      repeat' ((with_reducible (first | refine sCall.of (q1 _) ?_ | refine sCall.of (q2 _) ?_ | refine gP ?_ | refine gN ?_ | refine fG.split (fun _ => ?_) (fun _ => ?_) | refine fG.not ?_ | refine gY ?_ | refine gF ?_ | refine fG.yes (flat_map (fun _ => rfl) _) ?_ | refine fG.bool (fun _ => ?_) (fun _ => ?_) | refine gS64 ?_ | refine gU8 ?_ | refine gI10 ?_ | refine fE.of rfl ?_ | refine gBq ?_ | refine gNum10 ?_ | refine gSet ?_ | refine gRd ?_ | refine gLk ?_ | refine gRow10 ?_ | refine fB.of (wide_map (fun _ => rfl) _) ?_ | refine fB.of (full_map (fun _ => rfl) _) ?_ | refine fB.of (full_map (fun x => full_rKept x) _) ?_ | refine gRf ?_)) <;> (try (conv => whnf)))
      all_goals simp
    | true =>
      simp only [e2] at q2
      (refine callE_is (callE_w [ResultVar.tmp 4] rfl Try.func109 rfl (by decide +kernel) rfl (by simp) ?_); (conv => whnf))
      repeat' ((with_reducible (first | refine sCall.of (q1 _) ?_ | refine sCall.of (q2 _) ?_ | refine gP ?_ | refine gN ?_ | refine fG.split (fun _ => ?_) (fun _ => ?_) | refine fG.not ?_ | refine gY ?_ | refine gF ?_ | refine fG.yes (flat_map (fun _ => rfl) _) ?_ | refine fG.bool (fun _ => ?_) (fun _ => ?_) | refine gS64 ?_ | refine gU8 ?_ | refine gI10 ?_ | refine fE.of rfl ?_ | refine gBq ?_ | refine gNum10 ?_ | refine gSet ?_ | refine gRd ?_ | refine gLk ?_ | refine gRow10 ?_ | refine fB.of (wide_map (fun _ => rfl) _) ?_ | refine fB.of (full_map (fun _ => rfl) _) ?_ | refine fB.of (full_map (fun x => full_rKept x) _) ?_ | refine gRf ?_)) <;> (try (conv => whnf)))
      all_goals simp

end Go.Proofs.Ytfeenmfehgljgaa.Abs
