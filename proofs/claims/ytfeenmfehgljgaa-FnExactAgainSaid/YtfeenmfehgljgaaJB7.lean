/- FnExactAgain returns true for every input, and leaves its arguments as they read. Conditions: none beside the row's own. -/
import Derived.ChangeSame
import Derived.SizedLaws
import Derived.DataReads
import Derived.Carry
import Derived.WideShapes
import Derived.KernelRfl
import Derived.Test.YtfeenmfehgljgaaRows
import Derived.WalkKit
import Derived.ProofKit
import Derived.OpenShut
import Derived.ShutString
import Derived.ChangeOld
import Derived.Below
import Derived.Test.YtfeenmfehgljgaaJB6
namespace Go.Proofs.Ytfeenmfehgljgaa.Abs
open Go Go.Proofs
set_option linter.unusedVariables false
set_option linter.unusedSimpArgs false
attribute [local irreducible] callE
set_option maxHeartbeats 8000000 in
theorem ok_laws_FnExactAgain (k : Nat) (l : List Ins) (es : List Event) (ks : List Kept) (n : Int) (hl : l.length ≤ 140737488355328) (he : es.length ≤ 140737488355328) (hk : ks.length ≤ 140737488355328) (hx : ∀ j : Nat, j < ks.length → (rd ks j).s.regs.length ≤ 140737488355328 ∧ (rd ks j).s.out.length ≤ 140737488355328) :
    callE PR C (k + 13) 6 [hIns 0 l, hEvent 1 es, hKept 2 ks, i64 n] [tIns l, tEvent es, tKept ks] = some ⟨bl true, [], [none, none, none]⟩ := by
  have hs1 := fun k => ok_laws_szInsS k l 1048576 (by omega) (by omega) hl
  by_cases c1 : left 1048576 l.length < 0
  · (refine callE_is (callE_w [ResultVar.tmp 8] rfl Try.func6 rfl (by decide +kernel) rfl (by simp) ?_); (conv => whnf))
    repeat' ((with_reducible (first | refine sCall.of (hs1 _) ?_ | refine fG.pos (by first | with_reducible assumption | omega) ?_ | refine fG.neg (by first | with_reducible assumption | omega) ?_ | refine fG.split (fun _ => ?_) (fun _ => ?_) | refine fG.not ?_ | refine fG.yes (by with_reducible assumption) ?_ | refine fG.no (by with_reducible assumption) ?_ | refine fG.yes (flat_map (fun _ => rfl) _) ?_ | refine fG.bool (fun _ => ?_) (fun _ => ?_) | refine sW.i64 (by omega) ?_ | refine sW.u8 (by omega) ?_ | refine sI.mk (by first | with_reducible assumption | omega | (simp only [Nat.zero_add, Nat.add_zero, Nat.sub_zero, Int.toNat_natCast, Int.toNat_zero, Int.toNat_one, List.length_map, List.length_nil, Int.reduceToNat, Nat.reduceAdd, Nat.reduceSub, Int.sub_zero, Int.reduceAdd, Int.reduceSub, Nat.sub_self, Int.toNat_natCast_add_one, marks_len, bs_len, List.length_append, List.length_cons, List.length_set, List.length_replicate, List.length_range]; first | done | omega)) ?_ | refine fE.of rfl ?_ | refine fB.of (Nat.beq_refl _) ?_ | refine sN.eq (by first | (simp only [Nat.zero_add, Nat.add_zero, Nat.sub_zero, Int.toNat_natCast, Int.toNat_zero, Int.toNat_one, List.length_map, List.length_nil, Int.reduceToNat, Nat.reduceAdd, Nat.reduceSub, Int.sub_zero, Int.reduceAdd, Int.reduceSub, Nat.sub_self, Int.toNat_natCast_add_one, marks_len, bs_len]; rfl) | rfl) ?_ | refine fO.of (map_set_rd (by omega)) ?_ | refine fO.of (map_rd (by omega)) ?_ | refine sBool.eq (like_map (by first | with_reducible assumption | omega | (simp only [List.length_set]; omega))) ?_ | refine sR.eq (by first | (simp only [Nat.add_zero, Nat.zero_add, Nat.reduceAdd, List.drop_zero, List.take_succ_cons, List.take_nil, List.drop_succ_cons, List.drop_nil, List.take_zero, List.nil_append, List.append_nil, List.map_nil, drop_suf, take_pre, drop_map, List.take_length, take_len_set, take_len_app, List.set_set, List.length_map, rep_rKept, marks_take, set_rKept, set_rIns, rep_rIns, set_rEvent, rep_rEvent, snoc_rKept, snoc_rEvent, snoc_rIns, bytesT_bs, snoc_rI, snoc_rB, snoc_rBool, set_rI, set_rBool, rep_rI, rep_rBool, map_app]; rfl) | rfl) ?_ | refine fB.of (wide_map (fun _ => rfl) _) ?_ | refine fB.of (full_map (fun _ => rfl) _) ?_ | refine fB.of (full_map (fun x => full_rKept x) _) ?_ | refine fB.of (by first | rfl | (simp only [full_map, wide_map]; done)) ?_)) <;> (try (conv => whnf)))
  · obtain ⟨c2, c3⟩ := left_pos c1
    have hs2 := fun k => ok_laws_szEventS k es (left 1048576 l.length) (by omega) (by omega) he
    by_cases c4 : left (left 1048576 l.length) es.length < 0
    · (refine callE_is (callE_w [ResultVar.tmp 8] rfl Try.func6 rfl (by decide +kernel) rfl (by simp) ?_); (conv => whnf))
      repeat' ((with_reducible (first | refine sCall.of (hs1 _) ?_ | refine sCall.of (hs2 _) ?_ | refine fG.pos (by first | with_reducible assumption | omega) ?_ | refine fG.neg (by first | with_reducible assumption | omega) ?_ | refine fG.split (fun _ => ?_) (fun _ => ?_) | refine fG.not ?_ | refine fG.yes (by with_reducible assumption) ?_ | refine fG.no (by with_reducible assumption) ?_ | refine fG.yes (flat_map (fun _ => rfl) _) ?_ | refine fG.bool (fun _ => ?_) (fun _ => ?_) | refine sW.i64 (by omega) ?_ | refine sW.u8 (by omega) ?_ | refine sI.mk (by first | with_reducible assumption | omega | (simp only [Nat.zero_add, Nat.add_zero, Nat.sub_zero, Int.toNat_natCast, Int.toNat_zero, Int.toNat_one, List.length_map, List.length_nil, Int.reduceToNat, Nat.reduceAdd, Nat.reduceSub, Int.sub_zero, Int.reduceAdd, Int.reduceSub, Nat.sub_self, Int.toNat_natCast_add_one, marks_len, bs_len, List.length_append, List.length_cons, List.length_set, List.length_replicate, List.length_range]; first | done | omega)) ?_ | refine fE.of rfl ?_ | refine fB.of (Nat.beq_refl _) ?_ | refine sN.eq (by first | (simp only [Nat.zero_add, Nat.add_zero, Nat.sub_zero, Int.toNat_natCast, Int.toNat_zero, Int.toNat_one, List.length_map, List.length_nil, Int.reduceToNat, Nat.reduceAdd, Nat.reduceSub, Int.sub_zero, Int.reduceAdd, Int.reduceSub, Nat.sub_self, Int.toNat_natCast_add_one, marks_len, bs_len]; rfl) | rfl) ?_ | refine fO.of (map_set_rd (by omega)) ?_ | refine fO.of (map_rd (by omega)) ?_ | refine sBool.eq (like_map (by first | with_reducible assumption | omega | (simp only [List.length_set]; omega))) ?_ | refine sR.eq (by first | (simp only [Nat.add_zero, Nat.zero_add, Nat.reduceAdd, List.drop_zero, List.take_succ_cons, List.take_nil, List.drop_succ_cons, List.drop_nil, List.take_zero, List.nil_append, List.append_nil, List.map_nil, drop_suf, take_pre, drop_map, List.take_length, take_len_set, take_len_app, List.set_set, List.length_map, rep_rKept, marks_take, set_rKept, set_rIns, rep_rIns, set_rEvent, rep_rEvent, snoc_rKept, snoc_rEvent, snoc_rIns, bytesT_bs, snoc_rI, snoc_rB, snoc_rBool, set_rI, set_rBool, rep_rI, rep_rBool, map_app]; rfl) | rfl) ?_ | refine fB.of (wide_map (fun _ => rfl) _) ?_ | refine fB.of (full_map (fun _ => rfl) _) ?_ | refine fB.of (full_map (fun x => full_rKept x) _) ?_ | refine fB.of (by first | rfl | (simp only [full_map, wide_map]; done)) ?_)) <;> (try (conv => whnf)))
    · obtain ⟨c5, c6⟩ := left_pos c4
      have hs3 := fun k => ok_laws_szKeptS k ks (left (left 1048576 l.length) es.length) (by omega) (by omega) hk hx
      by_cases c7 : left (left (left 1048576 l.length) es.length) (ks.length + wts wS ks : Nat) < 0
      · (refine callE_is (callE_w [ResultVar.tmp 8] rfl Try.func6 rfl (by decide +kernel) rfl (by simp) ?_); (conv => whnf))
        repeat' ((with_reducible (first | refine sCall.of (hs1 _) ?_ | refine sCall.of (hs2 _) ?_ | refine sCall.of (hs3 _) ?_ | refine fG.pos (by first | with_reducible assumption | omega) ?_ | refine fG.neg (by first | with_reducible assumption | omega) ?_ | refine fG.split (fun _ => ?_) (fun _ => ?_) | refine fG.not ?_ | refine fG.yes (by with_reducible assumption) ?_ | refine fG.no (by with_reducible assumption) ?_ | refine fG.yes (flat_map (fun _ => rfl) _) ?_ | refine fG.bool (fun _ => ?_) (fun _ => ?_) | refine sW.i64 (by omega) ?_ | refine sW.u8 (by omega) ?_ | refine sI.mk (by first | with_reducible assumption | omega | (simp only [Nat.zero_add, Nat.add_zero, Nat.sub_zero, Int.toNat_natCast, Int.toNat_zero, Int.toNat_one, List.length_map, List.length_nil, Int.reduceToNat, Nat.reduceAdd, Nat.reduceSub, Int.sub_zero, Int.reduceAdd, Int.reduceSub, Nat.sub_self, Int.toNat_natCast_add_one, marks_len, bs_len, List.length_append, List.length_cons, List.length_set, List.length_replicate, List.length_range]; first | done | omega)) ?_ | refine fE.of rfl ?_ | refine fB.of (Nat.beq_refl _) ?_ | refine sN.eq (by first | (simp only [Nat.zero_add, Nat.add_zero, Nat.sub_zero, Int.toNat_natCast, Int.toNat_zero, Int.toNat_one, List.length_map, List.length_nil, Int.reduceToNat, Nat.reduceAdd, Nat.reduceSub, Int.sub_zero, Int.reduceAdd, Int.reduceSub, Nat.sub_self, Int.toNat_natCast_add_one, marks_len, bs_len]; rfl) | rfl) ?_ | refine fO.of (map_set_rd (by omega)) ?_ | refine fO.of (map_rd (by omega)) ?_ | refine sBool.eq (like_map (by first | with_reducible assumption | omega | (simp only [List.length_set]; omega))) ?_ | refine sR.eq (by first | (simp only [Nat.add_zero, Nat.zero_add, Nat.reduceAdd, List.drop_zero, List.take_succ_cons, List.take_nil, List.drop_succ_cons, List.drop_nil, List.take_zero, List.nil_append, List.append_nil, List.map_nil, drop_suf, take_pre, drop_map, List.take_length, take_len_set, take_len_app, List.set_set, List.length_map, rep_rKept, marks_take, set_rKept, set_rIns, rep_rIns, set_rEvent, rep_rEvent, snoc_rKept, snoc_rEvent, snoc_rIns, bytesT_bs, snoc_rI, snoc_rB, snoc_rBool, set_rI, set_rBool, rep_rI, rep_rBool, map_app]; rfl) | rfl) ?_ | refine fB.of (wide_map (fun _ => rfl) _) ?_ | refine fB.of (full_map (fun _ => rfl) _) ?_ | refine fB.of (full_map (fun x => full_rKept x) _) ?_ | refine fB.of (by first | rfl | (simp only [full_map, wide_map]; done)) ?_)) <;> (try (conv => whnf)))
      · obtain ⟨c8, c9⟩ := left_pos c7
        have hl' : l.length ≤ 100000000000 := by omega
        have he' : es.length ≤ 100000000000 := by omega
        have hk' : ks.length ≤ 100000000000 := by omega
        have hx' : ∀ j : Nat, j < ks.length → (rd ks j).s.regs.length ≤ 100000000000 ∧ (rd ks j).s.out.length ≤ 100000000000 := fun j hj => by
          have := wts_one wS ks j hj
          simp only [wS] at this
          constructor <;> omega
        have q1 := fun k => ok_laws_toInsS k l hl'
        have q2 := fun k => ok_laws_toEventS k es he'
        have q3 := fun k => ok_laws_toKeptS k ks hk' hx'
        have q4 := fun k => ok_spec_Again k l es ks n hl' he' ⟨hk', hx'⟩
        have q5 := fun k => ok_impl_Again k l es ks n hl' he' ⟨hk', hx'⟩
        have q6 := fun k => ok_laws_eqInsS k l hl'
        have q7 := fun k => ok_laws_eqEventS k es he'
        have q8 := fun k => ok_laws_eqKeptS k ks hk' hx'
        clear hx hx'
        (refine callE_is (callE_w [ResultVar.tmp 8] rfl Try.func6 rfl (by decide +kernel) rfl (by simp) ?_); (conv => whnf))
        repeat' ((with_reducible (first | refine sCall.of (hs1 _) ?_ | refine sCall.of (hs2 _) ?_ | refine sCall.of (hs3 _) ?_ | refine sCall.of (q1 _) ?_ | refine sCall.of (q2 _) ?_ | refine sCall.of (q3 _) ?_ | refine sCall.of (q4 _) ?_ | refine sCall.of (q5 _) ?_ | refine sCall.of (q6 _) ?_ | refine sCall.of (q7 _) ?_ | refine sCall.of (q8 _) ?_ | refine fG.pos (by first | with_reducible assumption | omega) ?_ | refine fG.neg (by first | with_reducible assumption | omega) ?_ | refine fG.split (fun _ => ?_) (fun _ => ?_) | refine fG.not ?_ | refine fG.yes (by with_reducible assumption) ?_ | refine fG.no (by with_reducible assumption) ?_ | refine fG.yes (flat_map (fun _ => rfl) _) ?_ | refine fG.bool (fun _ => ?_) (fun _ => ?_) | refine sW.i64 (by omega) ?_ | refine sW.u8 (by omega) ?_ | refine sI.mk (by first | with_reducible assumption | omega | (simp only [Nat.zero_add, Nat.add_zero, Nat.sub_zero, Int.toNat_natCast, Int.toNat_zero, Int.toNat_one, List.length_map, List.length_nil, Int.reduceToNat, Nat.reduceAdd, Nat.reduceSub, Int.sub_zero, Int.reduceAdd, Int.reduceSub, Nat.sub_self, Int.toNat_natCast_add_one, marks_len, bs_len, List.length_append, List.length_cons, List.length_set, List.length_replicate, List.length_range]; first | done | omega)) ?_ | refine fE.of rfl ?_ | refine fB.of (Nat.beq_refl _) ?_ | refine sN.eq (by first | (simp only [Nat.zero_add, Nat.add_zero, Nat.sub_zero, Int.toNat_natCast, Int.toNat_zero, Int.toNat_one, List.length_map, List.length_nil, Int.reduceToNat, Nat.reduceAdd, Nat.reduceSub, Int.sub_zero, Int.reduceAdd, Int.reduceSub, Nat.sub_self, Int.toNat_natCast_add_one, marks_len, bs_len]; rfl) | rfl) ?_ | refine fO.of (map_set_rd (by omega)) ?_ | refine fO.of (map_rd (by omega)) ?_ | refine sBool.eq (like_map (by first | with_reducible assumption | omega | (simp only [List.length_set]; omega))) ?_ | refine sR.eq (by first | (simp only [Nat.add_zero, Nat.zero_add, Nat.reduceAdd, List.drop_zero, List.take_succ_cons, List.take_nil, List.drop_succ_cons, List.drop_nil, List.take_zero, List.nil_append, List.append_nil, List.map_nil, drop_suf, take_pre, drop_map, List.take_length, take_len_set, take_len_app, List.set_set, List.length_map, rep_rKept, marks_take, set_rKept, set_rIns, rep_rIns, set_rEvent, rep_rEvent, snoc_rKept, snoc_rEvent, snoc_rIns, bytesT_bs, snoc_rI, snoc_rB, snoc_rBool, set_rI, set_rBool, rep_rI, rep_rBool, map_app]; rfl) | rfl) ?_ | refine fB.of (wide_map (fun _ => rfl) _) ?_ | refine fB.of (full_map (fun _ => rfl) _) ?_ | refine fB.of (full_map (fun x => full_rKept x) _) ?_ | refine fB.of (by first | rfl | (simp only [full_map, wide_map]; done)) ?_)) <;> (try (conv => whnf)))

theorem restoreSt_len (l : List Ins) (es : List Event) (ks : List Kept) (n : Int) : (restoreSt l es ks n).regs.length ≤ 4 ∧ (restoreSt l es ks n).out.length ≤ 60 := by
  unfold restoreSt
  split
  · exact stOf_len _ _
  · exact ⟨Nat.zero_le _, Nat.zero_le _⟩
theorem wts_wKept (ks : List Kept) : wts wKept ks = 3 * ks.length + wts wS ks := by
  induction ks with
  | nil => rfl
  | cons x ks ih => simp only [wts, ih, wKept, wS, List.length_cons]; omega
set_option maxHeartbeats 8000000 in
theorem ok_laws_FnExactRestore (k : Nat) (l : List Ins) (es : List Event) (ks : List Kept) (n : Int) (hl : l.length ≤ 140737488355328) (he : es.length ≤ 140737488355328) (hk : ks.length ≤ 140737488355328) (hx : ∀ j : Nat, j < ks.length → (rd ks j).s.regs.length ≤ 140737488355328 ∧ (rd ks j).s.out.length ≤ 140737488355328) :
    callE PR C (k + 13) 8 [hIns 0 l, hEvent 1 es, hKept 2 ks, i64 n] [tIns l, tEvent es, tKept ks] = some ⟨bl true, [], [none, none, none]⟩ := by
  have hs1 := fun k => ok_laws_szInsS k l 1048576 (by omega) (by omega) hl
  by_cases c1 : left 1048576 l.length < 0
  · (refine callE_is (callE_w [ResultVar.tmp 8] rfl Try.func8 rfl (by decide +kernel) rfl (by simp) ?_); (conv => whnf))
    repeat' ((with_reducible (first | refine sCall.of (hs1 _) ?_ | refine fG.pos (by first | with_reducible assumption | omega) ?_ | refine fG.neg (by first | with_reducible assumption | omega) ?_ | refine fG.split (fun _ => ?_) (fun _ => ?_) | refine fG.not ?_ | refine fG.yes (by with_reducible assumption) ?_ | refine fG.no (by with_reducible assumption) ?_ | refine fG.yes (flat_map (fun _ => rfl) _) ?_ | refine fG.bool (fun _ => ?_) (fun _ => ?_) | refine sW.i64 (by omega) ?_ | refine sW.u8 (by omega) ?_ | refine sI.mk (by first | with_reducible assumption | omega | (simp only [Nat.zero_add, Nat.add_zero, Nat.sub_zero, Int.toNat_natCast, Int.toNat_zero, Int.toNat_one, List.length_map, List.length_nil, Int.reduceToNat, Nat.reduceAdd, Nat.reduceSub, Int.sub_zero, Int.reduceAdd, Int.reduceSub, Nat.sub_self, Int.toNat_natCast_add_one, marks_len, bs_len, List.length_append, List.length_cons, List.length_set, List.length_replicate, List.length_range]; first | done | omega)) ?_ | refine fE.of rfl ?_ | refine fB.of (Nat.beq_refl _) ?_ | refine sN.eq (by first | (simp only [Nat.zero_add, Nat.add_zero, Nat.sub_zero, Int.toNat_natCast, Int.toNat_zero, Int.toNat_one, List.length_map, List.length_nil, Int.reduceToNat, Nat.reduceAdd, Nat.reduceSub, Int.sub_zero, Int.reduceAdd, Int.reduceSub, Nat.sub_self, Int.toNat_natCast_add_one, marks_len, bs_len]; rfl) | rfl) ?_ | refine fO.of (map_set_rd (by omega)) ?_ | refine fO.of (map_rd (by omega)) ?_ | refine sBool.eq (like_map (by first | with_reducible assumption | omega | (simp only [List.length_set]; omega))) ?_ | refine sR.eq (by first | (simp only [Nat.add_zero, Nat.zero_add, Nat.reduceAdd, List.drop_zero, List.take_succ_cons, List.take_nil, List.drop_succ_cons, List.drop_nil, List.take_zero, List.nil_append, List.append_nil, List.map_nil, drop_suf, take_pre, drop_map, List.take_length, take_len_set, take_len_app, List.set_set, List.length_map, rep_rKept, marks_take, set_rKept, set_rIns, rep_rIns, set_rEvent, rep_rEvent, snoc_rKept, snoc_rEvent, snoc_rIns, bytesT_bs, snoc_rI, snoc_rB, snoc_rBool, set_rI, set_rBool, rep_rI, rep_rBool, map_app]; rfl) | rfl) ?_ | refine fB.of (wide_map (fun _ => rfl) _) ?_ | refine fB.of (full_map (fun _ => rfl) _) ?_ | refine fB.of (full_map (fun x => full_rKept x) _) ?_ | refine fB.of (by first | rfl | (simp only [full_map, wide_map]; done)) ?_)) <;> (try (conv => whnf)))
  · obtain ⟨c2, c3⟩ := left_pos c1
    have hs2 := fun k => ok_laws_szEventS k es (left 1048576 l.length) (by omega) (by omega) he
    by_cases c4 : left (left 1048576 l.length) es.length < 0
    · (refine callE_is (callE_w [ResultVar.tmp 8] rfl Try.func8 rfl (by decide +kernel) rfl (by simp) ?_); (conv => whnf))
      repeat' ((with_reducible (first | refine sCall.of (hs1 _) ?_ | refine sCall.of (hs2 _) ?_ | refine fG.pos (by first | with_reducible assumption | omega) ?_ | refine fG.neg (by first | with_reducible assumption | omega) ?_ | refine fG.split (fun _ => ?_) (fun _ => ?_) | refine fG.not ?_ | refine fG.yes (by with_reducible assumption) ?_ | refine fG.no (by with_reducible assumption) ?_ | refine fG.yes (flat_map (fun _ => rfl) _) ?_ | refine fG.bool (fun _ => ?_) (fun _ => ?_) | refine sW.i64 (by omega) ?_ | refine sW.u8 (by omega) ?_ | refine sI.mk (by first | with_reducible assumption | omega | (simp only [Nat.zero_add, Nat.add_zero, Nat.sub_zero, Int.toNat_natCast, Int.toNat_zero, Int.toNat_one, List.length_map, List.length_nil, Int.reduceToNat, Nat.reduceAdd, Nat.reduceSub, Int.sub_zero, Int.reduceAdd, Int.reduceSub, Nat.sub_self, Int.toNat_natCast_add_one, marks_len, bs_len, List.length_append, List.length_cons, List.length_set, List.length_replicate, List.length_range]; first | done | omega)) ?_ | refine fE.of rfl ?_ | refine fB.of (Nat.beq_refl _) ?_ | refine sN.eq (by first | (simp only [Nat.zero_add, Nat.add_zero, Nat.sub_zero, Int.toNat_natCast, Int.toNat_zero, Int.toNat_one, List.length_map, List.length_nil, Int.reduceToNat, Nat.reduceAdd, Nat.reduceSub, Int.sub_zero, Int.reduceAdd, Int.reduceSub, Nat.sub_self, Int.toNat_natCast_add_one, marks_len, bs_len]; rfl) | rfl) ?_ | refine fO.of (map_set_rd (by omega)) ?_ | refine fO.of (map_rd (by omega)) ?_ | refine sBool.eq (like_map (by first | with_reducible assumption | omega | (simp only [List.length_set]; omega))) ?_ | refine sR.eq (by first | (simp only [Nat.add_zero, Nat.zero_add, Nat.reduceAdd, List.drop_zero, List.take_succ_cons, List.take_nil, List.drop_succ_cons, List.drop_nil, List.take_zero, List.nil_append, List.append_nil, List.map_nil, drop_suf, take_pre, drop_map, List.take_length, take_len_set, take_len_app, List.set_set, List.length_map, rep_rKept, marks_take, set_rKept, set_rIns, rep_rIns, set_rEvent, rep_rEvent, snoc_rKept, snoc_rEvent, snoc_rIns, bytesT_bs, snoc_rI, snoc_rB, snoc_rBool, set_rI, set_rBool, rep_rI, rep_rBool, map_app]; rfl) | rfl) ?_ | refine fB.of (wide_map (fun _ => rfl) _) ?_ | refine fB.of (full_map (fun _ => rfl) _) ?_ | refine fB.of (full_map (fun x => full_rKept x) _) ?_ | refine fB.of (by first | rfl | (simp only [full_map, wide_map]; done)) ?_)) <;> (try (conv => whnf)))
    · obtain ⟨c5, c6⟩ := left_pos c4
      have hs3 := fun k => ok_laws_szKeptS k ks (left (left 1048576 l.length) es.length) (by omega) (by omega) hk hx
      by_cases c7 : left (left (left 1048576 l.length) es.length) (ks.length + wts wS ks : Nat) < 0
      · (refine callE_is (callE_w [ResultVar.tmp 8] rfl Try.func8 rfl (by decide +kernel) rfl (by simp) ?_); (conv => whnf))
        repeat' ((with_reducible (first | refine sCall.of (hs1 _) ?_ | refine sCall.of (hs2 _) ?_ | refine sCall.of (hs3 _) ?_ | refine fG.pos (by first | with_reducible assumption | omega) ?_ | refine fG.neg (by first | with_reducible assumption | omega) ?_ | refine fG.split (fun _ => ?_) (fun _ => ?_) | refine fG.not ?_ | refine fG.yes (by with_reducible assumption) ?_ | refine fG.no (by with_reducible assumption) ?_ | refine fG.yes (flat_map (fun _ => rfl) _) ?_ | refine fG.bool (fun _ => ?_) (fun _ => ?_) | refine sW.i64 (by omega) ?_ | refine sW.u8 (by omega) ?_ | refine sI.mk (by first | with_reducible assumption | omega | (simp only [Nat.zero_add, Nat.add_zero, Nat.sub_zero, Int.toNat_natCast, Int.toNat_zero, Int.toNat_one, List.length_map, List.length_nil, Int.reduceToNat, Nat.reduceAdd, Nat.reduceSub, Int.sub_zero, Int.reduceAdd, Int.reduceSub, Nat.sub_self, Int.toNat_natCast_add_one, marks_len, bs_len, List.length_append, List.length_cons, List.length_set, List.length_replicate, List.length_range]; first | done | omega)) ?_ | refine fE.of rfl ?_ | refine fB.of (Nat.beq_refl _) ?_ | refine sN.eq (by first | (simp only [Nat.zero_add, Nat.add_zero, Nat.sub_zero, Int.toNat_natCast, Int.toNat_zero, Int.toNat_one, List.length_map, List.length_nil, Int.reduceToNat, Nat.reduceAdd, Nat.reduceSub, Int.sub_zero, Int.reduceAdd, Int.reduceSub, Nat.sub_self, Int.toNat_natCast_add_one, marks_len, bs_len]; rfl) | rfl) ?_ | refine fO.of (map_set_rd (by omega)) ?_ | refine fO.of (map_rd (by omega)) ?_ | refine sBool.eq (like_map (by first | with_reducible assumption | omega | (simp only [List.length_set]; omega))) ?_ | refine sR.eq (by first | (simp only [Nat.add_zero, Nat.zero_add, Nat.reduceAdd, List.drop_zero, List.take_succ_cons, List.take_nil, List.drop_succ_cons, List.drop_nil, List.take_zero, List.nil_append, List.append_nil, List.map_nil, drop_suf, take_pre, drop_map, List.take_length, take_len_set, take_len_app, List.set_set, List.length_map, rep_rKept, marks_take, set_rKept, set_rIns, rep_rIns, set_rEvent, rep_rEvent, snoc_rKept, snoc_rEvent, snoc_rIns, bytesT_bs, snoc_rI, snoc_rB, snoc_rBool, set_rI, set_rBool, rep_rI, rep_rBool, map_app]; rfl) | rfl) ?_ | refine fB.of (wide_map (fun _ => rfl) _) ?_ | refine fB.of (full_map (fun _ => rfl) _) ?_ | refine fB.of (full_map (fun x => full_rKept x) _) ?_ | refine fB.of (by first | rfl | (simp only [full_map, wide_map]; done)) ?_)) <;> (try (conv => whnf)))
      · obtain ⟨c8, c9⟩ := left_pos c7
        have hl' : l.length ≤ 100000000000 := by omega
        have he' : es.length ≤ 100000000000 := by omega
        have hk' : ks.length ≤ 100000000000 := by omega
        have hx' : ∀ j : Nat, j < ks.length → (rd ks j).s.regs.length ≤ 100000000000 ∧ (rd ks j).s.out.length ≤ 100000000000 := fun j hj => by
          have := wts_one wS ks j hj
          simp only [wS] at this
          constructor <;> omega
        have q1 := fun k => ok_laws_toInsS k l hl'
        have q2 := fun k => ok_laws_toEventS k es he'
        have q3 := fun k => ok_laws_toKeptS k ks hk' hx'
        have q4 := fun k => ok_spec_Restore k l es ks n hl' he' ⟨hk', hx'⟩
        have q5 := fun k => ok_impl_Restore k l es ks n hl' he' ⟨hk', hx'⟩
        have q6 := fun k => ok_laws_eqInsS k l hl'
        have q7 := fun k => ok_laws_eqEventS k es he'
        have q8 := fun k => ok_laws_eqKeptS k ks hk' hx'
        have hb := restoreSt_len l es ks n
        have hb1 := hb.1
        have hb2 := hb.2
        have hw1 : wts wKept ks ≤ 4194304 := by
          have := wts_wKept ks
          omega
        have q9 := fun k => ok_laws_eqState k (restoreSt l es ks n).at_ (restoreSt l es ks n).code (restoreSt l es ks n).regs (restoreSt l es ks n).out (by omega) (by omega)
        have q10 := fun k => ok_laws_markInsS k l 1 hl' (by omega) (by omega)
        have q11 := fun k => ok_laws_markEventS k es (1 + 5 * l.length) he' (by omega) (by omega)
        have q12 := fun k => ok_laws_markKeptS k ks (1 + 5 * l.length + 3 * es.length) hk' (by omega) (by omega) (fun j hj => by have := wts_one wS ks j hj; simp only [wS] at this; constructor <;> omega)
        have q13 := fun k => ok_laws_markState k (restoreSt l es ks n).at_ (restoreSt l es ks n).code (restoreSt l es ks n).regs (restoreSt l es ks n).out 1 (by omega) (by omega) (by omega) (by omega)
        have q14 := fun k => ok_laws_heldState k (restoreSt l es ks n).at_ (restoreSt l es ks n).code (restoreSt l es ks n).regs (restoreSt l es ks n).out 1 (by omega) (by omega) (by omega) (by omega)
        simp only [aState, marksI_len] at q14
        clear hx hx'
        (refine callE_is (callE_w [ResultVar.tmp 8] rfl Try.func8 rfl (by decide +kernel) rfl (by simp) ?_); (conv => whnf))
        repeat' ((with_reducible (first | refine sCall.of (hs1 _) ?_ | refine sCall.of (hs2 _) ?_ | refine sCall.of (hs3 _) ?_ | refine sCall.of (q1 _) ?_ | refine sCall.of (q2 _) ?_ | refine sCall.of (q3 _) ?_ | refine sCall.of (q4 _) ?_ | refine sCall.of (q5 _) ?_ | refine sCall.of (q6 _) ?_ | refine sCall.of (q7 _) ?_ | refine sCall.of (q8 _) ?_ | refine sCall.of (q9 _) ?_ | refine sCall.of (q10 _) ?_ | refine sCall.of (q11 _) ?_ | refine sCall.of (q12 _) ?_ | refine sCall.of (q13 _) ?_ | refine sCall.of (q14 _) ?_ | refine fG.pos (by first | with_reducible assumption | omega) ?_ | refine fG.neg (by first | with_reducible assumption | omega) ?_ | refine fG.split (fun _ => ?_) (fun _ => ?_) | refine fG.not ?_ | refine fG.yes (by with_reducible assumption) ?_ | refine fG.no (by with_reducible assumption) ?_ | refine fG.yes (flat_map (fun _ => rfl) _) ?_ | refine fG.bool (fun _ => ?_) (fun _ => ?_) | refine sW.i64 (by omega) ?_ | refine sW.u8 (by omega) ?_ | refine sI.mk (by first | with_reducible assumption | omega | (simp only [Nat.zero_add, Nat.add_zero, Nat.sub_zero, Int.toNat_natCast, Int.toNat_zero, Int.toNat_one, List.length_map, List.length_nil, Int.reduceToNat, Nat.reduceAdd, Nat.reduceSub, Int.sub_zero, Int.reduceAdd, Int.reduceSub, Nat.sub_self, Int.toNat_natCast_add_one, marks_len, bs_len, List.length_append, List.length_cons, List.length_set, List.length_replicate, List.length_range]; first | done | omega)) ?_ | refine fE.of rfl ?_ | refine fB.of (Nat.beq_refl _) ?_ | refine sN.eq (by first | (simp only [Nat.zero_add, Nat.add_zero, Nat.sub_zero, Int.toNat_natCast, Int.toNat_zero, Int.toNat_one, List.length_map, List.length_nil, Int.reduceToNat, Nat.reduceAdd, Nat.reduceSub, Int.sub_zero, Int.reduceAdd, Int.reduceSub, Nat.sub_self, Int.toNat_natCast_add_one, marks_len, bs_len]; rfl) | rfl) ?_ | refine fO.of (map_set_rd (by omega)) ?_ | refine fO.of (map_rd (by omega)) ?_ | refine sBool.eq (like_map (by first | with_reducible assumption | omega | (simp only [List.length_set]; omega))) ?_ | refine sR.eq (by first | (simp only [Nat.add_zero, Nat.zero_add, Nat.reduceAdd, List.drop_zero, List.take_succ_cons, List.take_nil, List.drop_succ_cons, List.drop_nil, List.take_zero, List.nil_append, List.append_nil, List.map_nil, drop_suf, take_pre, drop_map, List.take_length, take_len_set, take_len_app, List.set_set, List.length_map, rep_rKept, marks_take, set_rKept, set_rIns, rep_rIns, set_rEvent, rep_rEvent, snoc_rKept, snoc_rEvent, snoc_rIns, bytesT_bs, snoc_rI, snoc_rB, snoc_rBool, set_rI, set_rBool, rep_rI, rep_rBool, map_app]; rfl) | rfl) ?_ | refine fB.of (wide_map (fun _ => rfl) _) ?_ | refine fB.of (full_map (fun _ => rfl) _) ?_ | refine fB.of (full_map (fun x => full_rKept x) _) ?_ | refine fB.of (by first | rfl | (simp only [full_map, wide_map]; done)) ?_)) <;> (try (conv => whnf)))

end Go.Proofs.Ytfeenmfehgljgaa.Abs
namespace Go.Proofs.Ytfeenmfehgljgaa.Abs
open Go
set_option linter.unusedVariables false

/-- What is read at a type: as many cells, each of a tree that nobody writes; the trees have the property. -/
def Opens (P : Program) (t : TypeId) (n : Nat) (M : List T → Prop) : Prop :=
  ∀ (H : Type) (enc : TypeId × Value → H) (w : World) (base : Nat) (sp : Nat → Bool) (held : Bool) (fuel : Nat) (cs : List Value) (x : DataW H × List MemPlace),
    DataW.trod enc P w base sp held fuel t cs = some x → (∀ m ∈ x.1.weights P t, m ≤ reachBytes) →
      cs.length = n ∧ ∃ ts : List T, ts.length = n ∧ M ts ∧ ∀ (i : Nat) v t', cs[i]? = some v → ts[i]? = some t' → Ow (fun k => k < w.heap.size) w 0 v t' none_
theorem Opens.mono {P : Program} {t : TypeId} {n : Nat} {M M' : List T → Prop} (h : Opens P t n M) (hm : ∀ ts, M ts → M' ts) : Opens P t n M' := by
  intro H enc w base sp held fuel cs x hx hw
  obtain ⟨h1, ts, h2, h3, h4⟩ := h H enc w base sp held fuel cs x hx hw
  exact ⟨h1, ts, h2, hm _ h3, h4⟩
theorem one_ow {w : World} {v0 : Value} {t0 : T} (h : Ow (fun k => k < w.heap.size) w 0 v0 t0 none_) : ∀ (i : Nat) v t', [v0][i]? = some v → [t0][i]? = some t' → Ow (fun k => k < w.heap.size) w 0 v t' none_ := by
  rintro (_ | i) v t' h1 h2
  · simp at h1 h2; subst h1; subst h2; exact h
  · simp at h1
theorem Opens.int {P : Program} {t : TypeId} {k : IntKind} (ht : P.underlying t = some (.int k)) : Opens P t 1 (fun ts => ∃ n, (Lit.int k n).wf = true ∧ ts = [.v (.int k n)]) := by
  intro H enc w base sp held fuel cs x hx hw
  obtain ⟨n, rfl, rfl, h⟩ := DataW.trod_int ht hx
  exact ⟨rfl, _, rfl, ⟨n, h, rfl⟩, one_ow (.v rfl)⟩
theorem Opens.bool {P : Program} {t : TypeId} (ht : P.underlying t = some .bool) : Opens P t 1 (fun ts => ∃ b, ts = [.v (.bool b)]) := by
  intro H enc w base sp held fuel cs x hx hw
  obtain ⟨b, rfl, rfl⟩ := DataW.trod_bool ht hx
  exact ⟨rfl, _, rfl, ⟨b, rfl⟩, one_ow (.v rfl)⟩
theorem Opens.str {P : Program} {t : TypeId} (ht : P.underlying t = some .string) : Opens P t 1 (fun ts => ∃ s : ByteArray, s.size ≤ reachBytes ∧ ts = [.v (.string s)]) := by
  intro H enc w base sp held fuel cs x hx hw
  obtain ⟨s, rfl, rfl, h⟩ := DataW.trod_string ht hx
  refine ⟨rfl, _, rfl, ⟨s, ?_, rfl⟩, one_ow (.v rfl)⟩
  have := hw s.data.toList.length (by simp [DataW.weights])
  simpa using this
/-- The parts of a struct, from a place on. -/
def Parts (P : Program) : List Field → Nat → Nat → (List T → Prop) → Prop
  | [], _, n, M => n = 0 ∧ M []
  | f :: r, off, n, M => f.offset = off ∧ ∃ n1 n2 M1 M2, P.cellsOf f.type = n1 ∧ Opens P f.type n1 M1 ∧ Parts P r (off + n1) n2 M2 ∧ n = n1 + n2 ∧ ∀ a b, M1 a → M2 b → M (a ++ b)
theorem weights_part {P : Program} {H : Type} {ts : List TypeId} : ∀ {ds : List (DataW H)} {R : Nat}, (∀ m ∈ DataW.weightsEach P ts ds, m ≤ R) → ∀ (j : Nat) t d, ts[j]? = some t → ds[j]? = some d → ∀ m ∈ d.weights P t, m ≤ R :=
  fun h j t d ht hd m hm => h m (DataW.weights_mem_each ht hd m hm)
theorem Parts.opens {P : Program} {H : Type} {enc : TypeId × Value → H} {w : World} {base : Nat} {sp : Nat → Bool} {held : Bool} {fuel : Nat} {cs : List Value} : ∀ {fs : List Field} {off n : Nat} {M : List T → Prop}, Parts P fs off n M → off + n = cs.length →
    (∀ f ∈ fs, ∃ x, DataW.trod enc P w base sp held fuel f.type ((cs.drop f.offset).take (P.cellsOf f.type)) = some x ∧ (∀ m ∈ x.1.weights P f.type, m ≤ reachBytes)) →
    ∃ ts : List T, ts.length = n ∧ M ts ∧ ∀ (i : Nat) v t', cs[off + i]? = some v → ts[i]? = some t' → Ow (fun k => k < w.heap.size) w 0 v t' none_ := by
  intro fs
  induction fs with
  | nil =>
    intro off n M h hl _
    exact ⟨[], h.1.symm, h.2, fun i v t' _ h2 => by simp at h2⟩
  | cons f r ih =>
    intro off n M h hl hx
    obtain ⟨rfl, n1, n2, M1, M2, h1, h2, h3, rfl, h4⟩ := h
    obtain ⟨x, hx1, hx2⟩ := hx f (by simp)
    rw [h1] at hx1
    obtain ⟨k1, t1, k2, k3, k4⟩ := h2 H enc w base sp held fuel _ x hx1 hx2
    obtain ⟨t2, q1, q2, q3⟩ := ih h3 (by omega) fun g hg => hx g (by simp [hg])
    refine ⟨t1 ++ t2, by simp [k2, q1], h4 _ _ k3 q2, fun i v t' hv ht' => ?_⟩
    by_cases hi : i < n1
    · rw [List.getElem?_append_left (by omega)] at ht'
      exact k4 i v t' (by rw [List.getElem?_take, if_pos hi, List.getElem?_drop]; exact hv) ht'
    · rw [List.getElem?_append_right (by omega), k2] at ht'
      exact q3 (i - n1) v t' (by rw [show f.offset + n1 + (i - n1) = f.offset + i by omega]; exact hv) ht'
theorem Opens.struct {P : Program} {t : TypeId} {fs : Array Field} {n : Nat} {M : List T → Prop} (ht : P.underlying t = some (.struct fs)) (hc : P.cellsOf t = n) (hp : Parts P fs.toList 0 n M) : Opens P t n M := by
  intro H enc w base sp held fuel cs x hx hw
  obtain ⟨xs, m, _, rfl, hl, hlen, hf⟩ := DataW.trod_struct ht hx
  have hl' : cs.length = n := hl.trans hc
  obtain ⟨ts, h1, h2, h3⟩ := hp.opens (enc := enc) (w := w) (base := base) (sp := sp) (held := held) (fuel := m) (cs := cs) (by omega) (by
    intro f hfm
    obtain ⟨i, hi⟩ := List.getElem?_of_mem hfm
    have hi' : fs[i]? = some f := by simpa using hi
    have hlt : i < xs.length := by rw [hlen]; exact (Array.getElem?_eq_some_iff.1 hi').1
    have hy : xs[i]? = some xs[i] := List.getElem?_eq_getElem hlt
    refine ⟨xs[i], (hf i f hi').trans hy, ?_⟩
    refine weights_part (ts := fs.toList.map (·.type)) (ds := xs.map (·.1)) ?_ i f.type xs[i].1 (by simp [hi']) (by rw [List.getElem?_map, hy]; rfl)
    intro q hq
    refine hw q ?_
    simpa [DataW.weights, ht] using hq)
  exact ⟨hl', ts, h1, h2, fun i v t' hv ht' => h3 i v t' (by simpa using hv) ht'⟩
/-- As many whole numbers. -/
def IntsM (n : Nat) (ts : List T) : Prop := ∃ zs : List Int, zs.length = n ∧ ts = zs.map fun z => T.v (.int .i64 z)
theorem Parts.nil {P : Program} {off : Nat} : Parts P [] off 0 (IntsM 0) := ⟨rfl, [], rfl, rfl⟩
theorem Parts.int {P : Program} {f : Field} {r : List Field} {off n : Nat} (ho : f.offset = off) (hc : P.cellsOf f.type = 1) (ht : P.underlying f.type = some (.int .i64)) (h : Parts P r (off + 1) n (IntsM n)) :
    Parts P (f :: r) off (1 + n) (IntsM (1 + n)) := by
  refine ⟨ho, 1, n, _, _, hc, Opens.int ht, h, rfl, ?_⟩
  rintro a b ⟨z, _, rfl⟩ ⟨zs, hz, rfl⟩
  exact ⟨z :: zs, by simp [hz]; omega, rfl⟩
/-- Parts, each of a kind. -/
def Ms : List (List T → Prop) → List T → Prop
  | [], ts => ts = []
  | M :: r, ts => ∃ a b, ts = a ++ b ∧ M a ∧ Ms r b
theorem Parts.mnil {P : Program} {off : Nat} : Parts P [] off 0 (Ms []) := ⟨rfl, rfl⟩
theorem Parts.mcons {P : Program} {f : Field} {r : List Field} {off n1 n : Nat} {M : List T → Prop} {l : List (List T → Prop)} (ho : f.offset = off) (hc : P.cellsOf f.type = n1) (ht : Opens P f.type n1 M) (h : Parts P r (off + n1) n (Ms l)) :
    Parts P (f :: r) off (n1 + n) (Ms (M :: l)) :=
  ⟨ho, n1, n, _, _, hc, ht, h, rfl, fun a b ha hb => ⟨a, b, rfl, ha, hb⟩⟩

/-- Rows of a kind are a list's. -/
theorem rows_map {α : Type} {f : α → List T} {p : α → Prop} {rows : List (List T)} (h : ∀ r ∈ rows, ∃ x, p x ∧ r = f x) : ∃ l : List α, rows = l.map f ∧ ∀ x ∈ l, p x := by
  induction rows with
  | nil => exact ⟨[], rfl, by simp⟩
  | cons r rows ih =>
    obtain ⟨x, hx, rfl⟩ := h r (by simp)
    obtain ⟨l, rfl, hl⟩ := ih fun q hq => h q (by simp [hq])
    exact ⟨x :: l, rfl, by simpa using ⟨hx, hl⟩⟩
theorem weights_all {P : Program} {H : Type} {e : TypeId} {d : DataW H} : ∀ {l : List (DataW H)}, d ∈ l → ∀ m ∈ d.weights P e, m ∈ DataW.weightsAll P e l
  | a :: r, hd, m, hm => by
    simp only [DataW.weightsAll, List.mem_append]
    rcases List.mem_cons.1 hd with rfl | hd
    · exact .inl hm
    · exact .inr (weights_all hd m hm)
/-- A slice. -/
theorem Opens.slice {P : Program} {t e : TypeId} {sz B : Nat} {M : List T → Prop} (ht : P.underlying t = some (.slice e)) (hc : P.cellsOf e = sz) (hB : P.bytesOf e = B) (hsz : 0 < sz) (hE : Opens P e sz M) :
    Opens P t 1 (fun ts => ∃ rows, ts = [.sl sz rows] ∧ (∀ x ∈ rows, M x) ∧ rows.length * B ≤ reachBytes) := by
  intro H enc w base sp held fuel cs0 x hx hw
  rcases DataW.trod_slice ht hx with ⟨rfl, _⟩ | ⟨a, len, cap, elems, rest, n, _, rfl, rfl, _, hl, _, hlen, hel, _⟩
  · exact ⟨rfl, _, rfl, ⟨[], rfl, by simp, by simp⟩, one_ow .nil⟩
  · have hw1 : (elems.length + rest.length) * B ≤ reachBytes := by
      have := hw ((elems.length + rest.length) * P.bytesOf e) (by simp [DataW.weights, ht])
      rwa [hB] at this
    have hcell : ∀ i : Nat, ∃ q : List Value × List T, i < len → q.1.length = sz ∧ q.2.length = sz ∧ M q.2 ∧ (∀ j, j < sz → w.cell? ((a.add (i * sz)).add j) = q.1[j]?) ∧
        ∀ (j : Nat) v t', q.1[j]? = some v → q.2[j]? = some t' → Ow (fun k => k < w.heap.size) w 0 v t' none_ := by
      intro i
      by_cases hi : i < len
      · have hy : elems[i]? = some (elems[i]'(by omega)) := List.getElem?_eq_getElem (by omega)
        have h1 := hel i hi
        rw [hy, hc, Option.bind_eq_some_iff] at h1
        obtain ⟨cs, hcs, htr⟩ := h1
        obtain ⟨k1, ts, k2, k3, k4⟩ := hE H enc w base sp held n cs _ htr (by
          intro m hm
          refine hw m ?_
          have := weights_all (P := P) (e := e) (l := elems.map (·.1)) (List.mem_map_of_mem (List.getElem_mem (by omega : i < elems.length))) m hm
          simp [DataW.weights, ht, this])
        obtain ⟨_, g1, g2⟩ := World.cells?_some hcs
        exact ⟨(cs, ts), fun _ => ⟨k1, k2, k3, g2, k4⟩⟩
      · exact ⟨([], []), fun h => absurd h hi⟩
    obtain ⟨c, hc2⟩ := Classical.axiomOfChoice hcell
    have hblk : 0 < len → a.block < w.heap.size := by
      intro h0
      obtain ⟨k1, k2, k3, k4, k5⟩ := hc2 0 h0
      have h1 := k4 0 hsz
      have h2 : (c 0).1[0]? = some ((c 0).1[0]'(by omega)) := List.getElem?_eq_getElem (by omega)
      rw [h2] at h1
      by_cases hlt : a.block < w.heap.size
      · exact hlt
      · unfold World.cell? at h1
        rw [add_block, add_block, Array.getElem?_eq_none (by omega)] at h1
        simp at h1
    have hat : ∀ i j t', cellT ((List.range len).map fun i => (c i).2) i j = some t' → i < len ∧ (c i).2[j]? = some t' := by
      intro i j t' h'
      unfold cellT at h'
      rw [List.getElem?_map] at h'
      by_cases hi : i < len
      · have hr : (List.range len)[i]? = some i := by simp [hi]
        rw [hr] at h'
        exact ⟨hi, by simpa using h'⟩
      · have hr : (List.range len)[i]? = none := by simp; omega
        rw [hr] at h'
        simp at h'
    refine ⟨rfl, [.sl sz ((List.range len).map fun i => (c i).2)], rfl, ⟨_, rfl, ?_, ?_⟩, one_ow ?_⟩
    · intro x hx
      obtain ⟨i, hi, rfl⟩ := List.mem_map.1 hx
      exact (hc2 i (List.mem_range.1 hi)).2.2.1
    · rw [List.length_map, List.length_range]
      exact Nat.le_trans (Nat.mul_le_mul_right _ (by omega)) hw1
    · have hro := Ow.ro (Z := fun k => k < w.heap.size) (w := w) (a := a) (c := cap) (rows := (List.range len).map fun i => (c i).2) (sz := sz) (fun i j => (c i).1.getD j undef) (by simpa using hl)
        (by
          intro r hr
          obtain ⟨i, hi, rfl⟩ := List.mem_map.1 hr
          exact (hc2 i (List.mem_range.1 hi)).2.1) (fun hne => hblk (by
            rcases Nat.eq_zero_or_pos len with h0 | h0
            · subst h0; exact absurd rfl hne
            · exact h0))
        (by
          intro i j t' h'
          obtain ⟨hi, hj⟩ := hat i j t' h'
          obtain ⟨k1, k2, k3, k4, k5⟩ := hc2 i hi
          have hj' : j < sz := by rw [← k2]; exact (List.getElem?_eq_some_iff.1 hj).1
          rw [← Addr.add_add, k4 j hj', List.getElem?_eq_getElem (by omega)]
          simp [List.getD, show j < (c i).1.length by omega])
        (by
          intro i j t' h'
          obtain ⟨hi, hj⟩ := hat i j t' h'
          obtain ⟨k1, k2, k3, k4, k5⟩ := hc2 i hi
          have hj' : j < sz := by rw [← k2]; exact (List.getElem?_eq_some_iff.1 hj).1
          refine k5 j _ t' ?_ hj
          rw [List.getElem?_eq_getElem (by omega)]
          simp [List.getD, show j < (c i).1.length by omega])
      simpa using hro
/-- An argument of one cell. -/
theorem Opens.one {P : Program} {t : TypeId} {M : List T → Prop} (h : Opens P t 1 M) {H : Type} {enc : TypeId × Value → H} {w : World} {base : Nat} {sp : Nat → Bool} {held : Bool} {v : Value} {d : DataW H} {ps : List MemPlace}
    (hv : v.cells.toList = [v]) (hd : DataW.Trod enc P w base sp held t v d ps) (hw : ∀ m ∈ d.weights P t, m ≤ reachBytes) : ∃ t', M [t'] ∧ Ow (fun k => k < w.heap.size) w 0 v t' none_ := by
  obtain ⟨fuel, hf⟩ := hd
  rw [hv] at hf
  obtain ⟨_, ts, h1, h2, h3⟩ := h H enc w base sp held fuel _ _ hf hw
  obtain ⟨t', rfl⟩ := List.length_eq_one_iff.1 h1
  exact ⟨t', h2, h3 0 v t' rfl rfl⟩
end Go.Proofs.Ytfeenmfehgljgaa.Abs
namespace Go.Proofs.Ytfeenmfehgljgaa.Abs
open Go Go.RowKit
set_option linter.unusedVariables false

theorem Ow.slice_inv {Z : Fp} {w : World} {v : Value} {sz : Nat} {rows : List (List T)} {F : Fp} {l : Nat} (h : Ow Z w l v (.sl sz rows) F) :
    (v = .slice none 0 0 ∧ rows = []) ∨ ∃ a c, v = .slice (some a) rows.length c ∧ rows.length ≤ c := by
  cases h with
  | nil => exact .inl ⟨rfl, rfl⟩
  | ro xs hc hs hz hx ht => exact .inr ⟨_, _, rfl, hc⟩
  | own xs F hb hfr hc hoff hmax hs hx ht hF hnb hd => exact .inr ⟨_, _, rfl, hc⟩
theorem arg_slice {Z : Fp} {w : World} {ob : Objs} {ρ : Nat → Value} {o sz : Nat} {rows : List (List T)} {v : Value} (h1 : ob o = ⟨0, 0, false, .tree 0 (.sl sz rows)⟩) (h2 : ρ o = v) (h3 : Ow Z w 0 v (.sl sz rows) none_) :
    AVR w ob ρ (.h o 0 0 [] sz 0 rows.length) v := by
  have hin := h3.slice_inv
  refine .h ?_ ?_ fun _ => ?_
  · rw [h1]; exact ⟨Nat.le_refl _, fun _ h => absurd rfl h⟩
  · rcases hin with ⟨rfl, rfl⟩ | ⟨a, c, rfl, hc⟩
    · exact ⟨none, 0, rfl, Nat.le_refl _, fun _ => rfl⟩
    · exact ⟨some a, c, rfl, hc, fun h => by cases h⟩
  · rw [h1, h2]
    refine ⟨fun cells h => by (dsimp only at h; cases h), fun lvl t hc => ?_⟩
    dsimp only at hc
    cases hc
    refine ⟨v, rows, .here, by omega, ?_⟩
    rcases hin with ⟨rfl, rfl⟩ | ⟨a, c, rfl, hc⟩
    · exact .inl ⟨rfl, rfl, rfl, rfl⟩
    · refine .inr ⟨a, rows.length, c, 0, c, rfl, ?_, hc, by omega, Nat.le_refl _, fun _ => rfl⟩
      rw [Nat.zero_mul]
      cases a with
      | mk b off s => cases s <;> simp [Addr.add]
/-- A call from the outside. -/
theorem FnOk.outside {P : Program} {W : World} {f : FuncId} {args : List AV} {conts : List Cont} {r : Res} (h : FnOk P f args conts r) (vals : List Value)
    (ho : ∀ (i : Nat) c, conts[i]? = some c → ∃ t v, c = .tree 0 t ∧ vals[i]? = some v ∧ Ow (fun k => k < W.heap.size) W 0 v t none_) (vs : Array Value) (hs : vs.size = args.length)
    (hA : ∀ (i : Nat) x, args[i]? = some x → AVR W (obIn conts) (fun o => vals.getD (o - 1000000) undef) x (vs.getD i undef)) :
    Calls P f vs W (fun e w' => ∃ v, e = .returned v ∧ Below W.heap.size W w' ∧ ∃ ob' ρ', AVR w' ob' ρ' r.v v) := by
  have hI : OInv W none_ (obIn conts) W (fun o => vals.getD (o - 1000000) undef) (fun _ => none_) (fun k => k < W.heap.size) := by
    refine ⟨Keep.refl _ _, fun k hk _ => hk, fun k hk => hk, fun o k hk => hk.elim, fun o o' k hk => hk.elim, fun o k hk => hk.elim, fun o => ?_⟩
    unfold ObOk
    by_cases h1 : 1000000 ≤ o
    · simp only [obIn, h1, if_true]
      cases hc : conts[o - 1000000]? with
      | none =>
        have e : conts.getD (o - 1000000) .dead = .dead := by simp [List.getD, hc]
        rw [e]
        exact fun k hk => hk
      | some c =>
        obtain ⟨t, v, rfl, hv, how⟩ := ho _ _ hc
        have e : conts.getD (o - 1000000) .dead = .tree 0 t := by simp [List.getD, hc]
        have e2 : vals.getD (o - 1000000) undef = v := by simp [List.getD, hv]
        rw [e, e2]
        exact how
    · simp only [obIn, h1, if_false]
      exact fun k hk => hk
  have hr := h.run W none_ _ _ _ vs hI (fun k _ hk => hk) hs hA
  intro cs
  obtain ⟨e, w', fr, hR, hC, hfn, hl⟩ := hr cs
  refine ⟨e, w', fr, ?_, hC, hfn, hl⟩
  cases e with
  | returned v =>
    obtain ⟨ρ', φ', Z', hst, hav⟩ := hR
    exact ⟨v, rfl, ⟨hst.inv.keep.os, hst.inv.keep.tape, hst.inv.keep.output, hst.inv.keep.size, fun k hk => hst.inv.keep.block k hk id⟩, _, _, hav⟩
  | _ => exact hR.elim
theorem AVR.bool_inv {w : World} {ob : Objs} {ρ : Nat → Value} {b : Bool} {v : Value} (h : AVR w ob ρ (.s (.bool b)) v) : v = .bool b := by
  cases h; rfl
end Go.Proofs.Ytfeenmfehgljgaa.Abs
namespace Go.Proofs.Ytfeenmfehgljgaa.Abs
open Go Go.Proofs Go.RowKit
set_option linter.unusedVariables false
set_option linter.unusedSimpArgs false
attribute [local irreducible] callE
theorem ints_Ins {ts : List T} (h : IntsM 5 ts) : ∃ x : Ins, True ∧ ts = rIns x := by
  obtain ⟨zs, hz, rfl⟩ := h
  match zs, hz with
  | [a, b, c, d, e], _ => exact ⟨⟨a, b, c, d, e⟩, trivial, rfl⟩
theorem ints_Event {ts : List T} (h : IntsM 3 ts) : ∃ x : Event, True ∧ ts = rEvent x := by
  obtain ⟨zs, hz, rfl⟩ := h
  match zs, hz with
  | [a, b, c], _ => exact ⟨⟨a, b, c⟩, trivial, rfl⟩
set_option maxRecDepth 20000 in
theorem opens_Ins : Opens Try.prog 88 5 (fun ts => ∃ x : Ins, True ∧ ts = rIns x) :=
  (Opens.struct Try.underlying88 (by kernel_rfl) (.int rfl (by kernel_rfl) Try.underlying3 (.int rfl (by kernel_rfl) Try.underlying3 (.int rfl (by kernel_rfl) Try.underlying3 (.int rfl (by kernel_rfl) Try.underlying3 (.int rfl (by kernel_rfl) Try.underlying3 .nil)))))).mono fun _ => ints_Ins
set_option maxRecDepth 20000 in
theorem opens_Event : Opens Try.prog 92 3 (fun ts => ∃ x : Event, True ∧ ts = rEvent x) :=
  (Opens.struct Try.underlying92 (by kernel_rfl) (.int rfl (by kernel_rfl) Try.underlying3 (.int rfl (by kernel_rfl) Try.underlying3 (.int rfl (by kernel_rfl) Try.underlying3 .nil)))).mono fun _ => ints_Event
set_option maxRecDepth 20000 in
theorem opens_InsS : Opens Try.prog 47 1 (fun ts => ∃ l : List Ins, l.length ≤ 140737488355328 ∧ ts = [.sl 5 (l.map rIns)]) :=
  (Opens.slice (sz := 5) (B := 40) Try.underlying47 (by kernel_rfl) (by kernel_rfl) (by decide) opens_Ins).mono fun ts h => by
    obtain ⟨rows, rfl, h1, h2⟩ := h
    obtain ⟨l, rfl, hl⟩ := rows_map h1
    rw [List.length_map] at h2
    have := reachBytes_lt
    exact ⟨l, by omega, rfl⟩
set_option maxRecDepth 20000 in
theorem open_InsS {H : Type} {enc : TypeId × Value → H} {w : World} {base : Nat} {sp : Nat → Bool} {held : Bool} {v : Value} {d : DataW H} {ps : List MemPlace} {r : Reach} {b0 : Nat}
    (hval : Value.okWide Try.prog w r b0 47 v) (h : DataW.Trod enc Try.prog w base sp held 47 v d ps) (hw : ∀ m ∈ d.weights Try.prog 47, m ≤ reachBytes) :
    ∃ l : List Ins, l.length ≤ 140737488355328 ∧ Ow (fun k => k < w.heap.size) w 0 v (.sl 5 (l.map rIns)) none_ := by
  obtain ⟨a0, len0, cap0, rfl⟩ := Go.WideShapes.okWide_slice Try.underlying47 hval
  obtain ⟨t', ⟨l, h1, h2⟩, h3⟩ := opens_InsS.one rfl h hw
  cases h2
  exact ⟨l, h1, h3⟩
set_option maxRecDepth 20000 in
theorem opens_EventS : Opens Try.prog 48 1 (fun ts => ∃ l : List Event, l.length ≤ 140737488355328 ∧ ts = [.sl 3 (l.map rEvent)]) :=
  (Opens.slice (sz := 3) (B := 24) Try.underlying48 (by kernel_rfl) (by kernel_rfl) (by decide) opens_Event).mono fun ts h => by
    obtain ⟨rows, rfl, h1, h2⟩ := h
    obtain ⟨l, rfl, hl⟩ := rows_map h1
    rw [List.length_map] at h2
    have := reachBytes_lt
    exact ⟨l, by omega, rfl⟩
set_option maxRecDepth 20000 in
theorem open_EventS {H : Type} {enc : TypeId × Value → H} {w : World} {base : Nat} {sp : Nat → Bool} {held : Bool} {v : Value} {d : DataW H} {ps : List MemPlace} {r : Reach} {b0 : Nat}
    (hval : Value.okWide Try.prog w r b0 48 v) (h : DataW.Trod enc Try.prog w base sp held 48 v d ps) (hw : ∀ m ∈ d.weights Try.prog 48, m ≤ reachBytes) :
    ∃ l : List Event, l.length ≤ 140737488355328 ∧ Ow (fun k => k < w.heap.size) w 0 v (.sl 3 (l.map rEvent)) none_ := by
  obtain ⟨a0, len0, cap0, rfl⟩ := Go.WideShapes.okWide_slice Try.underlying48 hval
  obtain ⟨t', ⟨l, h1, h2⟩, h3⟩ := opens_EventS.one rfl h hw
  cases h2
  exact ⟨l, h1, h3⟩

set_option maxRecDepth 20000 in
theorem opens_ints : Opens Try.prog 37 1 (fun ts => ∃ l : List Int, l.length ≤ 140737488355328 ∧ ts = [.sl 1 (l.map rI)]) :=
  (Opens.slice (sz := 1) (B := 8) Try.underlying37 (by kernel_rfl) (by kernel_rfl) (by decide) (Opens.int Try.underlying3)).mono fun ts h => by
    obtain ⟨rows, rfl, h1, h2⟩ := h
    obtain ⟨l, rfl, _⟩ := rows_map (f := rI) (p := fun _ => True) (fun r hr => by obtain ⟨n, _, rfl⟩ := h1 r hr; exact ⟨n, trivial, rfl⟩)
    rw [List.length_map] at h2
    have := reachBytes_lt
    exact ⟨l, by omega, rfl⟩
def rState' (x : State) : List T := [.v (.int .i64 x.at_), .sl 1 (x.regs.map rI), .sl 1 (x.out.map rI), .v (.int .i64 x.code)]
set_option maxRecDepth 20000 in
theorem opens_State : Opens Try.prog 82 4 (fun ts => ∃ x : State, (x.regs.length ≤ 140737488355328 ∧ x.out.length ≤ 140737488355328) ∧ ts = rState' x) :=
  (Opens.struct Try.underlying82 (by kernel_rfl) (.mcons rfl (by kernel_rfl) (Opens.int Try.underlying3) (.mcons rfl (by kernel_rfl) opens_ints (.mcons rfl (by kernel_rfl) opens_ints (.mcons rfl (by kernel_rfl) (Opens.int Try.underlying3) .mnil))))).mono fun ts h => by
    obtain ⟨_, _, rfl, ⟨a, _, rfl⟩, _, _, rfl, ⟨r, hr, rfl⟩, _, _, rfl, ⟨o, ho, rfl⟩, _, _, rfl, ⟨c, _, rfl⟩, rfl⟩ := h
    exact ⟨⟨a, r, o, c⟩, ⟨hr, ho⟩, rfl⟩
set_option maxRecDepth 20000 in
theorem opens_Kept : Opens Try.prog 84 5 (fun ts => ∃ x : Kept, (x.s.regs.length ≤ 140737488355328 ∧ x.s.out.length ≤ 140737488355328) ∧ ts = rKept x) :=
  (Opens.struct Try.underlying84 (by kernel_rfl) (.mcons rfl (by kernel_rfl) (Opens.int Try.underlying3) (.mcons rfl (by kernel_rfl) opens_State .mnil))).mono fun ts h => by
    obtain ⟨_, _, rfl, ⟨a, _, rfl⟩, _, _, rfl, ⟨x, hx, rfl⟩, rfl⟩ := h
    exact ⟨⟨a, x⟩, hx, rfl⟩
set_option maxRecDepth 20000 in
theorem opens_KeptS : Opens Try.prog 49 1 (fun ts => ∃ l : List Kept, (l.length ≤ 140737488355328 ∧ ∀ j : Nat, j < l.length → (rd l j).s.regs.length ≤ 140737488355328 ∧ (rd l j).s.out.length ≤ 140737488355328) ∧ ts = [.sl 5 (l.map rKept)]) :=
  (Opens.slice (sz := 5) (B := 72) Try.underlying49 (by kernel_rfl) (by kernel_rfl) (by decide) opens_Kept).mono fun ts h => by
    obtain ⟨rows, rfl, h1, h2⟩ := h
    obtain ⟨l, rfl, hl⟩ := rows_map h1
    rw [List.length_map] at h2
    have := reachBytes_lt
    exact ⟨l, ⟨by omega, fun j hj => hl _ (rd_mem hj)⟩, rfl⟩
set_option maxRecDepth 20000 in
theorem open_KeptS {H : Type} {enc : TypeId × Value → H} {w : World} {base : Nat} {sp : Nat → Bool} {held : Bool} {v : Value} {d : DataW H} {ps : List MemPlace} {r : Reach} {b0 : Nat}
    (hval : Value.okWide Try.prog w r b0 49 v) (h : DataW.Trod enc Try.prog w base sp held 49 v d ps) (hw : ∀ m ∈ d.weights Try.prog 49, m ≤ reachBytes) :
    ∃ l : List Kept, (l.length ≤ 140737488355328 ∧ ∀ j : Nat, j < l.length → (rd l j).s.regs.length ≤ 140737488355328 ∧ (rd l j).s.out.length ≤ 140737488355328) ∧ Ow (fun k => k < w.heap.size) w 0 v (.sl 5 (l.map rKept)) none_ := by
  obtain ⟨a0, len0, cap0, rfl⟩ := Go.WideShapes.okWide_slice Try.underlying49 hval
  obtain ⟨t', ⟨l, h1, h2⟩, h3⟩ := opens_KeptS.one rfl h hw
  cases h2
  exact ⟨l, h1, h3⟩

/-- The law, of any input. -/
theorem walk_FnExactAgain {W : World} {v0 v1 v2 : Value} {l : List Ins} {es : List Event} {ks : List Kept} {n : Int} (h1 : l.length ≤ 140737488355328) (h2 : es.length ≤ 140737488355328) (h3 : ks.length ≤ 140737488355328 ∧ ∀ j : Nat, j < ks.length → (rd ks j).s.regs.length ≤ 140737488355328 ∧ (rd ks j).s.out.length ≤ 140737488355328)
    (o1 : Ow (fun k => k < W.heap.size) W 0 v0 (.sl 5 (l.map rIns)) none_) (o2 : Ow (fun k => k < W.heap.size) W 0 v1 (.sl 3 (es.map rEvent)) none_) (o3 : Ow (fun k => k < W.heap.size) W 0 v2 (.sl 5 (ks.map rKept)) none_) :
    Calls PR 6 #[v0, v1, v2, .int .i64 n] W (fun e w' => e = .returned (.bool true) ∧ Below W.heap.size W w') := by
  have hF := callE_sound (C := C) tys_ok prims_ok _ _ _ _ _ (ok_laws_FnExactAgain 0 l es ks n h1 h2 h3.1 h3.2)
  refine (hF.outside [v0, v1, v2] ?_ #[v0, v1, v2, .int .i64 n] rfl ?_).mono ?_
  · rintro (_ | _ | _ | i) c hc
    · cases hc; exact ⟨_, _, rfl, rfl, o1⟩
    · cases hc; exact ⟨_, _, rfl, rfl, o2⟩
    · cases hc; exact ⟨_, _, rfl, rfl, o3⟩
    · simp at hc
  · rintro (_ | _ | _ | _ | i) x hx
    · cases hx
      have := arg_slice (ob := obIn [tIns l, tEvent es, tKept ks]) (ρ := fun o => [v0, v1, v2].getD (o - 1000000) undef) (o := 1000000) (by rfl) (by rfl) o1
      rwa [List.length_map] at this
    · cases hx
      have := arg_slice (ob := obIn [tIns l, tEvent es, tKept ks]) (ρ := fun o => [v0, v1, v2].getD (o - 1000000) undef) (o := 1000001) (by rfl) (by rfl) o2
      rwa [List.length_map] at this
    · cases hx
      have := arg_slice (ob := obIn [tIns l, tEvent es, tKept ks]) (ρ := fun o => [v0, v1, v2].getD (o - 1000000) undef) (o := 1000002) (by rfl) (by rfl) o3
      rwa [List.length_map] at this
    · cases hx; exact .s rfl
    · simp at hx
  · rintro e w' ⟨v, rfl, hb, ob', ρ', hv⟩
    exact ⟨by rw [hv.bool_inv], hb⟩

end Go.Proofs.Ytfeenmfehgljgaa.Abs
namespace Go.Proofs.Ytfeenmfehgljgaa.fnExactAgain
open Go Go.Proofs Go.ChangeShapes Go.WideShapes Go.RowKit Go.Proofs.Ytfeenmfehgljgaa.Abs
set_option linter.unusedVariables false
theorem own : ownKnob Try.prog.godebug = none := by kernel_rfl
theorem laidOut : laidOutB Try.prog = true := by kernel_rfl
set_option maxRecDepth 100000 in
theorem lifted (os : Os) (started : os.Started) (H : Type) (enc : TypeId × Value → H) :
    ReturnsInHanded {} Try.checked os 6 .any (Rows.fnExactAgainSpec.pre6 enc Try.prog Try.f6 Rows.fnExactAgainRow.domain false) (Rows.fnExactAgainSpec.post enc Try.prog Try.f6 false true false false) := by
  refine returnsInHanded_of_change_sized (C := Try.checked) own started (by kernel_rfl) Try.func6
    (ChangeSpec.witness6 (enc := enc) (C := Try.checked) false ⟨#[], #[.slice none 0 0, .slice none 0 0, .slice none 0 0, .int .i64 0], []⟩ 8 (by kernel_rfl) (by kernel_rfl) (by kernel_rfl) (by kernel_rfl)) ?_
  intro W base args ds gs before hval0 hW hcnd hsz0 _
  have hsz : (DataW.weightsEach Try.prog (Try.f6.params.toList ++ Rows.fnExactAgainSpec.plain.varTypes Try.prog) (ds ++ gs)).all (· ≤ reachBytes) = true := hsz0
  have hval : ∀ (j : Nat) t v, Try.f6.params[j]? = some t → args[j]? = some v → Value.okWide Try.prog W .any base t v := hval0
  have hW' := hW
  obtain ⟨p, q, hA0, hV, rfl, hfz, hnd⟩ := hW
  have hA : DataW.TrodAll enc Try.prog W 0 (fun _ => true) true Try.f6.params.toList args.toList ds p := hA0
  rw [Try.params6] at hA hval hsz
  obtain ⟨v0, vs0, d0, ds0, p0, q0, hargs, rfl, rfl, h0, r0⟩ := trodAll_cons hA
  obtain ⟨v1, vs1, d1, ds1, p1, q1, rfl, rfl, rfl, h1, r1⟩ := trodAll_cons r0
  obtain ⟨v2, vs2, d2, ds2, p2, q2, rfl, rfl, rfl, h2, r2⟩ := trodAll_cons r1
  obtain ⟨v3, vs3, d3, ds3, p3, q3, rfl, rfl, rfl, h3, r3⟩ := trodAll_cons r2
  obtain ⟨rfl, rfl, rfl⟩ := trodAll_nil r3
  obtain rfl : args = #[v0, v1, v2, v3] := by cases args; simp_all
  obtain ⟨rfl, rfl⟩ := trodVars_none hV
  have hwt : ∀ (j : Nat) t d, [47, 48, 49, 3][j]? = some t → [d0, d1, d2, d3][j]? = some d → ∀ m ∈ d.weights Try.prog t, m ≤ reachBytes := by
    intro j t d ht hd m hm
    have := List.all_eq_true.1 hsz m (DataW.weights_mem_each (j := j) (t := t) (d := d) ht hd m hm)
    simpa using this
  have k0 := h0
  have lt0 : ∀ x ∈ p0, x.block < W.heap.size := by obtain ⟨m, hm⟩ := k0; exact DataW.trod_lt m _ _ _ hm
  obtain ⟨l0, s0, o0⟩ := open_InsS (hval 0 47 v0 rfl rfl) h0 (hwt 0 _ _ rfl rfl)
  have k1 := h1
  have lt1 : ∀ x ∈ p1, x.block < W.heap.size := by obtain ⟨m, hm⟩ := k1; exact DataW.trod_lt m _ _ _ hm
  obtain ⟨l1, s1, o1⟩ := open_EventS (hval 1 48 v1 rfl rfl) h1 (hwt 1 _ _ rfl rfl)
  have k2 := h2
  have lt2 : ∀ x ∈ p2, x.block < W.heap.size := by obtain ⟨m, hm⟩ := k2; exact DataW.trod_lt m _ _ _ hm
  obtain ⟨l2, s2, o2⟩ := open_KeptS (hval 2 49 v2 rfl rfl) h2 (hwt 2 _ _ rfl rfl)
  have k3 := h3
  have lt3 : ∀ x ∈ p3, x.block < W.heap.size := by obtain ⟨m, hm⟩ := k3; exact DataW.trod_lt m _ _ _ hm
  obtain ⟨a3, rfl, rfl, rfl, w3⟩ := open_int Try.underlying3 (hval 3 3 v3 rfl rfl) h3
  clear hA0 hval0 hsz0 hsz hwt
  refine (walk_FnExactAgain s0 s1 s2 o0 o1 o2).mono fun e W' ⟨he, bel⟩ => ?_
  subst he
  exact ⟨_, rfl, _, _, _, [], _, [], hW', trodAll_mk1 (shut_bool Try.underlying4 _), (trodAll_cons_mk (Below.trod laidOut (by kernel_rfl) (of_decide_eq_true (by kernel_rfl)) k0 bel lt0) (trodAll_cons_mk (Below.trod laidOut (by kernel_rfl) (of_decide_eq_true (by kernel_rfl)) k1 bel lt1) (trodAll_cons_mk (Below.trod laidOut (by kernel_rfl) (of_decide_eq_true (by kernel_rfl)) k2 bel lt2) (trodAll_cons_mk (shut_int Try.underlying3 w3) trodAll_mk0)))), rfl, bel.frame _, fun h => by cases h⟩
theorem over : Rows.fnExactAgainRow.holds Try.pinned (OpenSpec.ofChange Rows.fnExactAgainSpec) :=
  OpenClaim.holds_of_wide 6 Try.f6 rfl rfl rfl rfl rfl rfl rfl ⟨rfl, rfl, rfl, rfl, rfl⟩ rfl rfl rfl rfl rfl (by kernel_rfl) Try.func6 (by kernel_rfl)
    (of_decide_eq_true (by kernel_rfl)) (by unfold Func.isWrapper; first | (rw [if_pos (by decide +kernel)]; kernel_rfl) | (rw [if_neg (by decide +kernel)]; exact ⟨rfl, rfl⟩))
    (fun os started H enc _ => lifted os started H enc)
theorem proved : Rows.FnExactAgainSaid := over
#print axioms proved
end Go.Proofs.Ytfeenmfehgljgaa.fnExactAgain
namespace Go.Proofs.Ytfeenmfehgljgaa
/-- The row, under a short name, for the claim. -/
theorem fnExactAgain_holds : Rows.FnExactAgainSaid := fnExactAgain.proved
end Go.Proofs.Ytfeenmfehgljgaa

