/- FnExactKeepAll returns true for every program and every list of events, and leaves its arguments as they read. Conditions: none beside the row's own. -/
import Derived.ChangeSame
import Derived.SizedLaws
import Derived.DataReads
import Derived.Carry
import Derived.WideShapes
import Derived.KernelRfl
import Derived.Test.YtolafdaafdaffaaRows
import Derived.WalkKit
import Derived.ProofKit
import Derived.OpenShut
import Derived.ShutString
import Derived.ChangeOld
import Derived.Below
import Derived.Test.YtolafdaafdaffaaJ4
namespace Go.Proofs.Ytolafdaafdaffaa.Abs
open Go Go.Proofs
set_option linter.unusedVariables false
set_option linter.unusedSimpArgs false
attribute [local irreducible] callE
/-- Model: kept states. -/
structure Kept where
  n : Int
  s : State
deriving DecidableEq
instance : Inhabited Kept := ⟨⟨0, default⟩⟩
def rKept (x : Kept) : List T := [.v (.int .i64 x.n), .v (.int .i64 x.s.at_), .sl 1 (x.s.regs.map rI), .sl 1 (x.s.out.map rI), .v (.int .i64 x.s.code)]
theorem snoc_rKept (l : List Kept) (n a c : Int) (r o : List Int) : l.map rKept ++ [[.v (.int .i64 n), .v (.int .i64 a), .sl 1 (r.map rI), .sl 1 (o.map rI), .v (.int .i64 c)]] = (l ++ [(⟨n, ⟨a, r, o, c⟩⟩ : Kept)]).map rKept := by simp [rKept]
theorem full_rKept (x : Kept) : (rKept x).all (fun t => T.full 8 t) = true := by
  have h : ∀ l : List Int, T.full 8 (.sl 1 (l.map rI)) = true := fun l => full_map (fun _ => rfl) l
  simp only [rKept, List.all_cons, List.all_nil, h]
  rfl
-- NORM snoc_rKept
-- FULL full_rKept
abbrev tKept9 (l : List Kept) : Cont := .tree 9 (.sl 5 (l.map rKept))
def keptAt (l : List Ins) (es : List Event) (j : Nat) : Kept := ⟨(8 * j : Nat), stOf (replayAll l (es.take (8 * j)))⟩
def keepAll (l : List Ins) (es : List Event) : List Kept := if (replayAll l es).isSome = true then (List.range (es.length / 8 + 1)).map (keptAt l es) else []
theorem keep_snoc (l : List Ins) (es : List Event) (j : Nat) : (List.range j).map (keptAt l es) ++ [keptAt l es j] = (List.range (j + 1)).map (keptAt l es) := by
  rw [List.range_succ, List.map_append]; rfl
structure KI where
  j : Nat
  l : List Kept
  o : Nat
  b : Nat
set_option maxHeartbeats 4000000 in
theorem ok_impl_KeepAll (k : Nat) (l : List Ins) (es : List Event) (hl : l.length ≤ 100000000000) (he : es.length ≤ 100000000000) :
    callE PR C (k + 10) 9 [hIns 0 l, hEvent 1 es] [tIns l, tEvent es] = some ⟨.h 2000000 1 0 [] 5 0 (keepAll l es).length, [tKept9 (keepAll l es)], [none, none]⟩ := by
  cases hr : (replayAll l es).isSome with
  | false =>
    have hq := fun k => ok_impl_Replay' k l es hl he
    simp only [hr] at hq
    have e : keepAll l es = [] := by simp [keepAll, hr]
    rw [e]
    (refine callE_is (callE_w [ResultVar.tmp 4] rfl Try.func9 rfl (by decide +kernel) rfl (by simp) ?_); (conv => whnf))
    repeat' ((with_reducible (first | refine sCall.of (hq _) ?_ | refine fG.pos (by first | with_reducible assumption | omega) ?_ | refine fG.neg (by first | with_reducible assumption | omega) ?_ | refine fG.split (fun _ => ?_) (fun _ => ?_) | refine fG.not ?_ | refine fG.yes (by with_reducible assumption) ?_ | refine fG.no (by with_reducible assumption) ?_ | refine fG.yes (flat_map (fun _ => rfl) _) ?_ | refine fG.bool (fun _ => ?_) (fun _ => ?_) | refine sW.i64 (by omega) ?_ | refine sW.u8 (by omega) ?_ | refine sI.mk (by first | with_reducible assumption | omega | (simp only [Nat.zero_add, Nat.add_zero, Nat.sub_zero, Int.toNat_natCast, Int.toNat_zero, Int.toNat_one, List.length_map, List.length_nil, Int.reduceToNat, Nat.reduceAdd, Nat.reduceSub, Int.sub_zero, Int.reduceAdd, Int.reduceSub, Nat.sub_self, Int.toNat_natCast_add_one, bs_len, List.length_append, List.length_cons, List.length_set, List.length_replicate, List.length_range]; first | done | omega)) ?_ | refine fE.of rfl ?_ | refine fB.of (Nat.beq_refl _) ?_ | refine sN.eq (by first | (simp only [Nat.zero_add, Nat.add_zero, Nat.sub_zero, Int.toNat_natCast, Int.toNat_zero, Int.toNat_one, List.length_map, List.length_nil, Int.reduceToNat, Nat.reduceAdd, Nat.reduceSub, Int.sub_zero, Int.reduceAdd, Int.reduceSub, Nat.sub_self, Int.toNat_natCast_add_one, bs_len]; rfl) | rfl) ?_ | refine fO.of (map_set_rd (by omega)) ?_ | refine fO.of (map_rd (by omega)) ?_ | refine sBool.eq (like_map (by first | with_reducible assumption | omega | (simp only [List.length_set]; omega))) ?_ | refine sR.eq (by first | (simp only [Nat.add_zero, Nat.zero_add, Nat.reduceAdd, List.drop_zero, List.take_succ_cons, List.take_nil, List.drop_succ_cons, List.drop_nil, List.take_zero, List.nil_append, List.append_nil, List.map_nil, drop_suf, take_pre, drop_map, List.take_length, take_len_set, take_len_app, List.set_set, List.length_map, snoc_rKept, snoc_rEvent, snoc_rIns, bytesT_bs, snoc_rI, snoc_rB, snoc_rBool, set_rI, set_rBool, rep_rI, rep_rBool, map_app]; rfl) | rfl) ?_ | refine fB.of (wide_map (fun _ => rfl) _) ?_ | refine fB.of (full_map (fun _ => rfl) _) ?_ | refine fB.of (full_map (fun x => full_rKept x) _) ?_ | refine fB.of (by first | rfl | (simp only [full_map, wide_map]; done)) ?_)) <;> (try (conv => whnf)))
    rfl
  | true =>
    have hq := fun k => ok_impl_Replay' k l es hl he
    simp only [hr] at hq
    have e : keepAll l es = (List.range (es.length / 8 + 1)).map (keptAt l es) := by simp [keepAll, hr]
    rw [e]
    (refine callE_is (callE_w [ResultVar.tmp 4] rfl Try.func9 rfl (by decide +kernel) rfl (by simp) ?_); (conv => whnf))
    repeat' ((with_reducible (first | refine sCall.of (hq _) ?_ | refine fG.pos (by first | with_reducible assumption | omega) ?_ | refine fG.neg (by first | with_reducible assumption | omega) ?_ | refine fG.split (fun _ => ?_) (fun _ => ?_) | refine fG.not ?_ | refine fG.yes (by with_reducible assumption) ?_ | refine fG.no (by with_reducible assumption) ?_ | refine fG.yes (flat_map (fun _ => rfl) _) ?_ | refine fG.bool (fun _ => ?_) (fun _ => ?_) | refine sW.i64 (by omega) ?_ | refine sW.u8 (by omega) ?_ | refine sI.mk (by first | with_reducible assumption | omega | (simp only [Nat.zero_add, Nat.add_zero, Nat.sub_zero, Int.toNat_natCast, Int.toNat_zero, Int.toNat_one, List.length_map, List.length_nil, Int.reduceToNat, Nat.reduceAdd, Nat.reduceSub, Int.sub_zero, Int.reduceAdd, Int.reduceSub, Nat.sub_self, Int.toNat_natCast_add_one, bs_len, List.length_append, List.length_cons, List.length_set, List.length_replicate, List.length_range]; first | done | omega)) ?_ | refine fE.of rfl ?_ | refine fB.of (Nat.beq_refl _) ?_ | refine sN.eq (by first | (simp only [Nat.zero_add, Nat.add_zero, Nat.sub_zero, Int.toNat_natCast, Int.toNat_zero, Int.toNat_one, List.length_map, List.length_nil, Int.reduceToNat, Nat.reduceAdd, Nat.reduceSub, Int.sub_zero, Int.reduceAdd, Int.reduceSub, Nat.sub_self, Int.toNat_natCast_add_one, bs_len]; rfl) | rfl) ?_ | refine fO.of (map_set_rd (by omega)) ?_ | refine fO.of (map_rd (by omega)) ?_ | refine sBool.eq (like_map (by first | with_reducible assumption | omega | (simp only [List.length_set]; omega))) ?_ | refine sR.eq (by first | (simp only [Nat.add_zero, Nat.zero_add, Nat.reduceAdd, List.drop_zero, List.take_succ_cons, List.take_nil, List.drop_succ_cons, List.drop_nil, List.take_zero, List.nil_append, List.append_nil, List.map_nil, drop_suf, take_pre, drop_map, List.take_length, take_len_set, take_len_app, List.set_set, List.length_map, snoc_rKept, snoc_rEvent, snoc_rIns, bytesT_bs, snoc_rI, snoc_rB, snoc_rBool, set_rI, set_rBool, rep_rI, rep_rBool, map_app]; rfl) | rfl) ?_ | refine fB.of (wide_map (fun _ => rfl) _) ?_ | refine fB.of (full_map (fun _ => rfl) _) ?_ | refine fB.of (full_map (fun x => full_rKept x) _) ?_ | refine fB.of (by first | rfl | (simp only [full_map, wide_map]; done)) ?_)) <;> (try (conv => whnf)))
    refine loop_rule (ι := KI) (fun x => [(0, hIns 0 l), (1, hEvent 1 es), (7, .h x.o x.b 0 [] 5 0 x.l.length), (8, i64 (8 * x.j : Nat))])
      (fun x => [(1000000, ⟨0, 0, false, tIns l⟩), (1000001, ⟨0, 0, false, tEvent es⟩), (x.o, ⟨x.b, 0, false, tKept9 x.l⟩)])
      (fun x => es.length / 8 + 1 - x.j) (fun x => x.j ≤ es.length / 8 + 1 ∧ x.l = (List.range x.j).map (keptAt l es) ∧ (x.o = 19 ∨ x.o = 39)) ⟨0, [], 19, 1⟩ (by (try dsimp only [cond_true, cond_false]); exact ⟨⟨rfl, rfl, rfl, rfl, trivial⟩, ⟨rfl, rfl, rfl, trivial⟩⟩) (by simp) (by simp [C]; omega) ?_
    rintro ⟨j, out, o, b⟩ sl ob ⟨hj, hout, ho⟩
    dsimp only at hj ho hout
    have hlen : out.length = j := by rw [hout]; simp
    have hq2 := fun k => ok_impl_Replay' k l (es.take (8 * j)) hl (by simp; omega)
    rcases ho with rfl | rfl
    all_goals (dsimp only [cond_true, cond_false])
    all_goals (conv => whnf)
    all_goals repeat' ((with_reducible (first | refine sCall.of (hq2 _) ?_ | refine fG.pos (by first | with_reducible assumption | omega) ?_ | refine fG.neg (by first | with_reducible assumption | omega) ?_ | refine fG.split (fun _ => ?_) (fun _ => ?_) | refine fG.not ?_ | refine fG.yes (by with_reducible assumption) ?_ | refine fG.no (by with_reducible assumption) ?_ | refine fG.yes (flat_map (fun _ => rfl) _) ?_ | refine fG.bool (fun _ => ?_) (fun _ => ?_) | refine sW.i64 (by omega) ?_ | refine sW.u8 (by omega) ?_ | refine sI.mk (by first | with_reducible assumption | omega | (simp only [Nat.zero_add, Nat.add_zero, Nat.sub_zero, Int.toNat_natCast, Int.toNat_zero, Int.toNat_one, List.length_map, List.length_nil, Int.reduceToNat, Nat.reduceAdd, Nat.reduceSub, Int.sub_zero, Int.reduceAdd, Int.reduceSub, Nat.sub_self, Int.toNat_natCast_add_one, bs_len, List.length_append, List.length_cons, List.length_set, List.length_replicate, List.length_range]; first | done | omega)) ?_ | refine fE.of rfl ?_ | refine fB.of (Nat.beq_refl _) ?_ | refine sN.eq (by first | (simp only [Nat.zero_add, Nat.add_zero, Nat.sub_zero, Int.toNat_natCast, Int.toNat_zero, Int.toNat_one, List.length_map, List.length_nil, Int.reduceToNat, Nat.reduceAdd, Nat.reduceSub, Int.sub_zero, Int.reduceAdd, Int.reduceSub, Nat.sub_self, Int.toNat_natCast_add_one, bs_len]; rfl) | rfl) ?_ | refine fO.of (map_set_rd (by omega)) ?_ | refine fO.of (map_rd (by omega)) ?_ | refine sBool.eq (like_map (by first | with_reducible assumption | omega | (simp only [List.length_set]; omega))) ?_ | refine sR.eq (by first | (simp only [Nat.add_zero, Nat.zero_add, Nat.reduceAdd, List.drop_zero, List.take_succ_cons, List.take_nil, List.drop_succ_cons, List.drop_nil, List.take_zero, List.nil_append, List.append_nil, List.map_nil, drop_suf, take_pre, drop_map, List.take_length, take_len_set, take_len_app, List.set_set, List.length_map, snoc_rKept, snoc_rEvent, snoc_rIns, bytesT_bs, snoc_rI, snoc_rB, snoc_rBool, set_rI, set_rBool, rep_rI, rep_rBool, map_app]; rfl) | rfl) ?_ | refine fB.of (wide_map (fun _ => rfl) _) ?_ | refine fB.of (full_map (fun _ => rfl) _) ?_ | refine fB.of (full_map (fun x => full_rKept x) _) ?_ | refine fB.of (by first | rfl | (simp only [full_map, wide_map]; done)) ?_)) <;> (try (conv => whnf)))
    case' inl.refine_1 h | inr.refine_1 h =>
      refine ⟨⟨⟨j + 1, out ++ [keptAt l es j], 39, _⟩, (by (try dsimp only [cond_true, cond_false]); exact ⟨⟨rfl, rfl, rfl, rfl, trivial⟩, ⟨rfl, rfl, rfl, trivial⟩⟩), ?_, ?_⟩⟩
      · exact ⟨by show j + 1 ≤ _; omega, by show _ = _; rw [hout]; exact keep_snoc l es j, .inr rfl⟩
      · show es.length / 8 + 1 - (j + 1) < es.length / 8 + 1 - j; omega
    case inl.refine_2 h | inr.refine_2 h =>
      have : j = es.length / 8 + 1 := by omega
      rw [hout, this]

structure KJ where
  j : Nat
  l : List Kept
  o : Nat
  b : Nat
theorem take_len {α : Type} (l : List α) (n : Nat) (h : l.length ≤ n) : l.take n = l := List.take_of_length_le h
set_option maxHeartbeats 4000000 in
theorem ok_spec_KeepAll (k : Nat) (l : List Ins) (es : List Event) (hl : l.length ≤ 100000000000) (he : es.length ≤ 100000000000) :
    callE PR C (k + 7) 6 [hIns 0 l, hEvent 1 es] [tIns l, tEvent es] = some ⟨.h 2000000 1 0 [] 5 0 (keepAll l es).length, [tKept9 (keepAll l es)], [none, none]⟩ := by
  cases hr : (replayAll l es).isSome with
  | false =>
    have hq := fun k => ok_spec_Replay' k l es hl he
    simp only [hr] at hq
    have e : keepAll l es = [] := by simp [keepAll, hr]
    rw [e]
    (refine callE_is (callE_w [ResultVar.tmp 4] rfl Try.func6 rfl (by decide +kernel) rfl (by simp) ?_); (conv => whnf))
    repeat' ((with_reducible (first | refine sCall.of (hq _) ?_ | refine fG.pos (by first | with_reducible assumption | omega) ?_ | refine fG.neg (by first | with_reducible assumption | omega) ?_ | refine fG.split (fun _ => ?_) (fun _ => ?_) | refine fG.not ?_ | refine fG.yes (by with_reducible assumption) ?_ | refine fG.no (by with_reducible assumption) ?_ | refine fG.yes (flat_map (fun _ => rfl) _) ?_ | refine fG.bool (fun _ => ?_) (fun _ => ?_) | refine sW.i64 (by omega) ?_ | refine sW.u8 (by omega) ?_ | refine sI.mk (by first | with_reducible assumption | omega | (simp only [Nat.zero_add, Nat.add_zero, Nat.sub_zero, Int.toNat_natCast, Int.toNat_zero, Int.toNat_one, List.length_map, List.length_nil, Int.reduceToNat, Nat.reduceAdd, Nat.reduceSub, Int.sub_zero, Int.reduceAdd, Int.reduceSub, Nat.sub_self, Int.toNat_natCast_add_one, bs_len, List.length_append, List.length_cons, List.length_set, List.length_replicate, List.length_range]; first | done | omega)) ?_ | refine fE.of rfl ?_ | refine fB.of (Nat.beq_refl _) ?_ | refine sN.eq (by first | (simp only [Nat.zero_add, Nat.add_zero, Nat.sub_zero, Int.toNat_natCast, Int.toNat_zero, Int.toNat_one, List.length_map, List.length_nil, Int.reduceToNat, Nat.reduceAdd, Nat.reduceSub, Int.sub_zero, Int.reduceAdd, Int.reduceSub, Nat.sub_self, Int.toNat_natCast_add_one, bs_len]; rfl) | rfl) ?_ | refine fO.of (map_set_rd (by omega)) ?_ | refine fO.of (map_rd (by omega)) ?_ | refine sBool.eq (like_map (by first | with_reducible assumption | omega | (simp only [List.length_set]; omega))) ?_ | refine sR.eq (by first | (simp only [Nat.add_zero, Nat.zero_add, Nat.reduceAdd, List.drop_zero, List.take_succ_cons, List.take_nil, List.drop_succ_cons, List.drop_nil, List.take_zero, List.nil_append, List.append_nil, List.map_nil, drop_suf, take_pre, drop_map, List.take_length, take_len_set, take_len_app, List.set_set, List.length_map, snoc_rKept, snoc_rEvent, snoc_rIns, bytesT_bs, snoc_rI, snoc_rB, snoc_rBool, set_rI, set_rBool, rep_rI, rep_rBool, map_app]; rfl) | rfl) ?_ | refine fB.of (wide_map (fun _ => rfl) _) ?_ | refine fB.of (full_map (fun _ => rfl) _) ?_ | refine fB.of (full_map (fun x => full_rKept x) _) ?_ | refine fB.of (by first | rfl | (simp only [full_map, wide_map]; done)) ?_)) <;> (try (conv => whnf)))
    refine loop_rule (ι := Unit) (fun x => [(0, hIns 0 l), (1, hEvent 1 es), (5, .h 11 1 0 [] 5 0 0), (7, bl false), (8, i64 0)])
      (fun x => [(1000000, ⟨0, 0, false, tIns l⟩), (1000001, ⟨0, 0, false, tEvent es⟩), (11, ⟨1, 0, false, tKept9 []⟩)])
      (fun x => 0) (fun x => True) () (by (try dsimp only [cond_true, cond_false]); exact ⟨⟨rfl, rfl, rfl, rfl, rfl, trivial⟩, ⟨rfl, rfl, rfl, trivial⟩⟩) trivial (by simp [C]) ?_
    rintro ⟨⟩ sl ob _
    (dsimp only [cond_true, cond_false])
    (conv => whnf)
    repeat' ((with_reducible (first | refine fG.pos (by first | with_reducible assumption | omega) ?_ | refine fG.neg (by first | with_reducible assumption | omega) ?_ | refine fG.split (fun _ => ?_) (fun _ => ?_) | refine fG.not ?_ | refine fG.yes (by with_reducible assumption) ?_ | refine fG.no (by with_reducible assumption) ?_ | refine fG.yes (flat_map (fun _ => rfl) _) ?_ | refine fG.bool (fun _ => ?_) (fun _ => ?_) | refine sW.i64 (by omega) ?_ | refine sW.u8 (by omega) ?_ | refine sI.mk (by first | with_reducible assumption | omega | (simp only [Nat.zero_add, Nat.add_zero, Nat.sub_zero, Int.toNat_natCast, Int.toNat_zero, Int.toNat_one, List.length_map, List.length_nil, Int.reduceToNat, Nat.reduceAdd, Nat.reduceSub, Int.sub_zero, Int.reduceAdd, Int.reduceSub, Nat.sub_self, Int.toNat_natCast_add_one, bs_len, List.length_append, List.length_cons, List.length_set, List.length_replicate, List.length_range]; first | done | omega)) ?_ | refine fE.of rfl ?_ | refine fB.of (Nat.beq_refl _) ?_ | refine sN.eq (by first | (simp only [Nat.zero_add, Nat.add_zero, Nat.sub_zero, Int.toNat_natCast, Int.toNat_zero, Int.toNat_one, List.length_map, List.length_nil, Int.reduceToNat, Nat.reduceAdd, Nat.reduceSub, Int.sub_zero, Int.reduceAdd, Int.reduceSub, Nat.sub_self, Int.toNat_natCast_add_one, bs_len]; rfl) | rfl) ?_ | refine fO.of (map_set_rd (by omega)) ?_ | refine fO.of (map_rd (by omega)) ?_ | refine sBool.eq (like_map (by first | with_reducible assumption | omega | (simp only [List.length_set]; omega))) ?_ | refine sR.eq (by first | (simp only [Nat.add_zero, Nat.zero_add, Nat.reduceAdd, List.drop_zero, List.take_succ_cons, List.take_nil, List.drop_succ_cons, List.drop_nil, List.take_zero, List.nil_append, List.append_nil, List.map_nil, drop_suf, take_pre, drop_map, List.take_length, take_len_set, take_len_app, List.set_set, List.length_map, snoc_rKept, snoc_rEvent, snoc_rIns, bytesT_bs, snoc_rI, snoc_rB, snoc_rBool, set_rI, set_rBool, rep_rI, rep_rBool, map_app]; rfl) | rfl) ?_ | refine fB.of (wide_map (fun _ => rfl) _) ?_ | refine fB.of (full_map (fun _ => rfl) _) ?_ | refine fB.of (full_map (fun x => full_rKept x) _) ?_ | refine fB.of (by first | rfl | (simp only [full_map, wide_map]; done)) ?_)) <;> (try (conv => whnf)))
    rfl
  | true =>
    have hq := fun k => ok_spec_Replay' k l es hl he
    simp only [hr] at hq
    have e : keepAll l es = (List.range (es.length / 8 + 1)).map (keptAt l es) := by simp [keepAll, hr]
    rw [e]
    (refine callE_is (callE_w [ResultVar.tmp 4] rfl Try.func6 rfl (by decide +kernel) rfl (by simp) ?_); (conv => whnf))
    repeat' ((with_reducible (first | refine sCall.of (hq _) ?_ | refine fG.pos (by first | with_reducible assumption | omega) ?_ | refine fG.neg (by first | with_reducible assumption | omega) ?_ | refine fG.split (fun _ => ?_) (fun _ => ?_) | refine fG.not ?_ | refine fG.yes (by with_reducible assumption) ?_ | refine fG.no (by with_reducible assumption) ?_ | refine fG.yes (flat_map (fun _ => rfl) _) ?_ | refine fG.bool (fun _ => ?_) (fun _ => ?_) | refine sW.i64 (by omega) ?_ | refine sW.u8 (by omega) ?_ | refine sI.mk (by first | with_reducible assumption | omega | (simp only [Nat.zero_add, Nat.add_zero, Nat.sub_zero, Int.toNat_natCast, Int.toNat_zero, Int.toNat_one, List.length_map, List.length_nil, Int.reduceToNat, Nat.reduceAdd, Nat.reduceSub, Int.sub_zero, Int.reduceAdd, Int.reduceSub, Nat.sub_self, Int.toNat_natCast_add_one, bs_len, List.length_append, List.length_cons, List.length_set, List.length_replicate, List.length_range]; first | done | omega)) ?_ | refine fE.of rfl ?_ | refine fB.of (Nat.beq_refl _) ?_ | refine sN.eq (by first | (simp only [Nat.zero_add, Nat.add_zero, Nat.sub_zero, Int.toNat_natCast, Int.toNat_zero, Int.toNat_one, List.length_map, List.length_nil, Int.reduceToNat, Nat.reduceAdd, Nat.reduceSub, Int.sub_zero, Int.reduceAdd, Int.reduceSub, Nat.sub_self, Int.toNat_natCast_add_one, bs_len]; rfl) | rfl) ?_ | refine fO.of (map_set_rd (by omega)) ?_ | refine fO.of (map_rd (by omega)) ?_ | refine sBool.eq (like_map (by first | with_reducible assumption | omega | (simp only [List.length_set]; omega))) ?_ | refine sR.eq (by first | (simp only [Nat.add_zero, Nat.zero_add, Nat.reduceAdd, List.drop_zero, List.take_succ_cons, List.take_nil, List.drop_succ_cons, List.drop_nil, List.take_zero, List.nil_append, List.append_nil, List.map_nil, drop_suf, take_pre, drop_map, List.take_length, take_len_set, take_len_app, List.set_set, List.length_map, snoc_rKept, snoc_rEvent, snoc_rIns, bytesT_bs, snoc_rI, snoc_rB, snoc_rBool, set_rI, set_rBool, rep_rI, rep_rBool, map_app]; rfl) | rfl) ?_ | refine fB.of (wide_map (fun _ => rfl) _) ?_ | refine fB.of (full_map (fun _ => rfl) _) ?_ | refine fB.of (full_map (fun x => full_rKept x) _) ?_ | refine fB.of (by first | rfl | (simp only [full_map, wide_map]; done)) ?_)) <;> (try (conv => whnf)))
    refine loop_rule (ι := KI) (fun x => [(0, hIns 0 l), (1, hEvent 1 es), (5, .h x.o x.b 0 [] 5 0 x.l.length), (7, bl true), (8, i64 (8 * x.j : Nat))])
      (fun x => [(1000000, ⟨0, 0, false, tIns l⟩), (1000001, ⟨0, 0, false, tEvent es⟩), (x.o, ⟨x.b, 0, false, tKept9 x.l⟩)])
      (fun x => es.length / 8 + 1 - x.j) (fun x => x.j ≤ es.length / 8 + 1 ∧ x.l = (List.range x.j).map (keptAt l es) ∧ (x.o = 11 ∨ x.o = 40)) ⟨0, [], 11, 1⟩ (by (try dsimp only [cond_true, cond_false]); exact ⟨⟨rfl, rfl, rfl, rfl, rfl, trivial⟩, ⟨rfl, rfl, rfl, trivial⟩⟩) (by simp) (by simp [C]; omega) ?_
    rintro ⟨j, out, o, b⟩ sl ob ⟨hj, hout, ho⟩
    dsimp only at hj ho hout
    have hlen : out.length = j := by rw [hout]; simp
    have hq2 := fun k => ok_spec_Replay' k l (es.take (8 * j)) hl (by simp; omega)
    rcases ho with rfl | rfl
    all_goals (dsimp only [cond_true, cond_false])
    all_goals (conv => whnf)
    all_goals repeat' ((with_reducible (first | refine sCall.of (hq2 _) ?_ | refine fG.pos (by first | with_reducible assumption | omega) ?_ | refine fG.neg (by first | with_reducible assumption | omega) ?_ | refine fG.split (fun _ => ?_) (fun _ => ?_) | refine fG.not ?_ | refine fG.yes (by with_reducible assumption) ?_ | refine fG.no (by with_reducible assumption) ?_ | refine fG.yes (flat_map (fun _ => rfl) _) ?_ | refine fG.bool (fun _ => ?_) (fun _ => ?_) | refine sW.i64 (by omega) ?_ | refine sW.u8 (by omega) ?_ | refine sI.mk (by first | with_reducible assumption | omega | (simp only [Nat.zero_add, Nat.add_zero, Nat.sub_zero, Int.toNat_natCast, Int.toNat_zero, Int.toNat_one, List.length_map, List.length_nil, Int.reduceToNat, Nat.reduceAdd, Nat.reduceSub, Int.sub_zero, Int.reduceAdd, Int.reduceSub, Nat.sub_self, Int.toNat_natCast_add_one, bs_len, List.length_append, List.length_cons, List.length_set, List.length_replicate, List.length_range]; first | done | omega)) ?_ | refine fE.of rfl ?_ | refine fB.of (Nat.beq_refl _) ?_ | refine sN.eq (by first | (simp only [Nat.zero_add, Nat.add_zero, Nat.sub_zero, Int.toNat_natCast, Int.toNat_zero, Int.toNat_one, List.length_map, List.length_nil, Int.reduceToNat, Nat.reduceAdd, Nat.reduceSub, Int.sub_zero, Int.reduceAdd, Int.reduceSub, Nat.sub_self, Int.toNat_natCast_add_one, bs_len]; rfl) | rfl) ?_ | refine fO.of (map_set_rd (by omega)) ?_ | refine fO.of (map_rd (by omega)) ?_ | refine sBool.eq (like_map (by first | with_reducible assumption | omega | (simp only [List.length_set]; omega))) ?_ | refine sR.eq (by first | (simp only [Nat.add_zero, Nat.zero_add, Nat.reduceAdd, List.drop_zero, List.take_succ_cons, List.take_nil, List.drop_succ_cons, List.drop_nil, List.take_zero, List.nil_append, List.append_nil, List.map_nil, drop_suf, take_pre, drop_map, List.take_length, take_len_set, take_len_app, List.set_set, List.length_map, snoc_rKept, snoc_rEvent, snoc_rIns, bytesT_bs, snoc_rI, snoc_rB, snoc_rBool, set_rI, set_rBool, rep_rI, rep_rBool, map_app]; rfl) | rfl) ?_ | refine fB.of (wide_map (fun _ => rfl) _) ?_ | refine fB.of (full_map (fun _ => rfl) _) ?_ | refine fB.of (full_map (fun x => full_rKept x) _) ?_ | refine fB.of (by first | rfl | (simp only [full_map, wide_map]; done)) ?_)) <;> (try (conv => whnf)))
    case' inl.refine_1 h | inr.refine_1 h =>
      refine ⟨⟨⟨j + 1, out ++ [keptAt l es j], 40, _⟩, (by (try dsimp only [cond_true, cond_false]); exact ⟨⟨rfl, rfl, rfl, rfl, rfl, trivial⟩, ⟨rfl, rfl, rfl, trivial⟩⟩), ?_, ?_⟩⟩
      · exact ⟨by show j + 1 ≤ _; omega, by show _ = _; rw [hout]; exact keep_snoc l es j, .inr rfl⟩
      · show es.length / 8 + 1 - (j + 1) < es.length / 8 + 1 - j; omega
    case inl.refine_2 h | inr.refine_2 h =>
      have : j = es.length / 8 + 1 := by omega
      rw [hout, this]

end Go.Proofs.Ytolafdaafdaffaa.Abs
namespace Go.Proofs.Ytolafdaafdaffaa.Abs
open Go Go.Proofs
set_option linter.unusedVariables false
set_option linter.unusedSimpArgs false
attribute [local irreducible] callE
/-! ### Helpers of the laws -/
/-- What is left of a budget. -/
def left (m n : Int) : Int := if m - n < 0 then -1 else m - n
theorem ok_laws_szInsS (k : Nat) (l : List Ins) (m : Int) (h0 : 0 ≤ m) (h1 : m ≤ 1048576) (hl : l.length ≤ 140737488355328) : callE PR C (k + 1) 4 [hIns 0 l, i64 m] [tIns l] = some ⟨i64 (left m l.length), [], [none]⟩ := by
  (refine callE_is (callE_w [ResultVar.tmp 4] rfl Try.func4 rfl (by decide +kernel) rfl (by simp) ?_); (conv => whnf))
  repeat' ((with_reducible (first | refine fG.pos (by first | with_reducible assumption | omega) ?_ | refine fG.neg (by first | with_reducible assumption | omega) ?_ | refine fG.split (fun _ => ?_) (fun _ => ?_) | refine fG.not ?_ | refine fG.yes (by with_reducible assumption) ?_ | refine fG.no (by with_reducible assumption) ?_ | refine fG.yes (flat_map (fun _ => rfl) _) ?_ | refine fG.bool (fun _ => ?_) (fun _ => ?_) | refine sW.i64 (by omega) ?_ | refine sW.u8 (by omega) ?_ | refine sI.mk (by first | with_reducible assumption | omega | (simp only [Nat.zero_add, Nat.add_zero, Nat.sub_zero, Int.toNat_natCast, Int.toNat_zero, Int.toNat_one, List.length_map, List.length_nil, Int.reduceToNat, Nat.reduceAdd, Nat.reduceSub, Int.sub_zero, Int.reduceAdd, Int.reduceSub, Nat.sub_self, Int.toNat_natCast_add_one, bs_len, List.length_append, List.length_cons, List.length_set, List.length_replicate, List.length_range]; first | done | omega)) ?_ | refine fE.of rfl ?_ | refine fB.of (Nat.beq_refl _) ?_ | refine sN.eq (by first | (simp only [Nat.zero_add, Nat.add_zero, Nat.sub_zero, Int.toNat_natCast, Int.toNat_zero, Int.toNat_one, List.length_map, List.length_nil, Int.reduceToNat, Nat.reduceAdd, Nat.reduceSub, Int.sub_zero, Int.reduceAdd, Int.reduceSub, Nat.sub_self, Int.toNat_natCast_add_one, bs_len]; rfl) | rfl) ?_ | refine fO.of (map_set_rd (by omega)) ?_ | refine fO.of (map_rd (by omega)) ?_ | refine sBool.eq (like_map (by first | with_reducible assumption | omega | (simp only [List.length_set]; omega))) ?_ | refine sR.eq (by first | (simp only [Nat.add_zero, Nat.zero_add, Nat.reduceAdd, List.drop_zero, List.take_succ_cons, List.take_nil, List.drop_succ_cons, List.drop_nil, List.take_zero, List.nil_append, List.append_nil, List.map_nil, drop_suf, take_pre, drop_map, List.take_length, take_len_set, take_len_app, List.set_set, List.length_map, snoc_rKept, snoc_rEvent, snoc_rIns, bytesT_bs, snoc_rI, snoc_rB, snoc_rBool, set_rI, set_rBool, rep_rI, rep_rBool, map_app]; rfl) | rfl) ?_ | refine fB.of (wide_map (fun _ => rfl) _) ?_ | refine fB.of (full_map (fun _ => rfl) _) ?_ | refine fB.of (full_map (fun x => full_rKept x) _) ?_ | refine fB.of (by first | rfl | (simp only [full_map, wide_map]; done)) ?_)) <;> (try (conv => whnf)))
  all_goals (simp only [left, *, if_true, if_false]; done)
theorem ok_laws_szEventS (k : Nat) (l : List Event) (m : Int) (h0 : 0 ≤ m) (h1 : m ≤ 1048576) (hl : l.length ≤ 140737488355328) : callE PR C (k + 1) 5 [hEvent 0 l, i64 m] [tEvent l] = some ⟨i64 (left m l.length), [], [none]⟩ := by
  (refine callE_is (callE_w [ResultVar.tmp 4] rfl Try.func5 rfl (by decide +kernel) rfl (by simp) ?_); (conv => whnf))
  repeat' ((with_reducible (first | refine fG.pos (by first | with_reducible assumption | omega) ?_ | refine fG.neg (by first | with_reducible assumption | omega) ?_ | refine fG.split (fun _ => ?_) (fun _ => ?_) | refine fG.not ?_ | refine fG.yes (by with_reducible assumption) ?_ | refine fG.no (by with_reducible assumption) ?_ | refine fG.yes (flat_map (fun _ => rfl) _) ?_ | refine fG.bool (fun _ => ?_) (fun _ => ?_) | refine sW.i64 (by omega) ?_ | refine sW.u8 (by omega) ?_ | refine sI.mk (by first | with_reducible assumption | omega | (simp only [Nat.zero_add, Nat.add_zero, Nat.sub_zero, Int.toNat_natCast, Int.toNat_zero, Int.toNat_one, List.length_map, List.length_nil, Int.reduceToNat, Nat.reduceAdd, Nat.reduceSub, Int.sub_zero, Int.reduceAdd, Int.reduceSub, Nat.sub_self, Int.toNat_natCast_add_one, bs_len, List.length_append, List.length_cons, List.length_set, List.length_replicate, List.length_range]; first | done | omega)) ?_ | refine fE.of rfl ?_ | refine fB.of (Nat.beq_refl _) ?_ | refine sN.eq (by first | (simp only [Nat.zero_add, Nat.add_zero, Nat.sub_zero, Int.toNat_natCast, Int.toNat_zero, Int.toNat_one, List.length_map, List.length_nil, Int.reduceToNat, Nat.reduceAdd, Nat.reduceSub, Int.sub_zero, Int.reduceAdd, Int.reduceSub, Nat.sub_self, Int.toNat_natCast_add_one, bs_len]; rfl) | rfl) ?_ | refine fO.of (map_set_rd (by omega)) ?_ | refine fO.of (map_rd (by omega)) ?_ | refine sBool.eq (like_map (by first | with_reducible assumption | omega | (simp only [List.length_set]; omega))) ?_ | refine sR.eq (by first | (simp only [Nat.add_zero, Nat.zero_add, Nat.reduceAdd, List.drop_zero, List.take_succ_cons, List.take_nil, List.drop_succ_cons, List.drop_nil, List.take_zero, List.nil_append, List.append_nil, List.map_nil, drop_suf, take_pre, drop_map, List.take_length, take_len_set, take_len_app, List.set_set, List.length_map, snoc_rKept, snoc_rEvent, snoc_rIns, bytesT_bs, snoc_rI, snoc_rB, snoc_rBool, set_rI, set_rBool, rep_rI, rep_rBool, map_app]; rfl) | rfl) ?_ | refine fB.of (wide_map (fun _ => rfl) _) ?_ | refine fB.of (full_map (fun _ => rfl) _) ?_ | refine fB.of (full_map (fun x => full_rKept x) _) ?_ | refine fB.of (by first | rfl | (simp only [full_map, wide_map]; done)) ?_)) <;> (try (conv => whnf)))
  all_goals (simp only [left, *, if_true, if_false]; done)
set_option maxRecDepth 10000 in
theorem ok_laws_toIns (k : Nat) (o r a b n : Int) : callE PR C (k + 1) 18 [.ag [i64 o, i64 r, i64 a, i64 b, i64 n]] [] = some ⟨.ag [i64 o, i64 r, i64 a, i64 b, i64 n], [], []⟩ := by
  (refine callE_is (callE_w [ResultVar.cell 2 47] rfl Try.func18 rfl (by decide +kernel) rfl (by simp) ?_); (conv => whnf))
  repeat' ((with_reducible (first | refine fG.pos (by first | with_reducible assumption | omega) ?_ | refine fG.neg (by first | with_reducible assumption | omega) ?_ | refine fG.split (fun _ => ?_) (fun _ => ?_) | refine fG.not ?_ | refine fG.yes (by with_reducible assumption) ?_ | refine fG.no (by with_reducible assumption) ?_ | refine fG.yes (flat_map (fun _ => rfl) _) ?_ | refine fG.bool (fun _ => ?_) (fun _ => ?_) | refine sW.i64 (by omega) ?_ | refine sW.u8 (by omega) ?_ | refine sI.mk (by first | with_reducible assumption | omega | (simp only [Nat.zero_add, Nat.add_zero, Nat.sub_zero, Int.toNat_natCast, Int.toNat_zero, Int.toNat_one, List.length_map, List.length_nil, Int.reduceToNat, Nat.reduceAdd, Nat.reduceSub, Int.sub_zero, Int.reduceAdd, Int.reduceSub, Nat.sub_self, Int.toNat_natCast_add_one, bs_len, List.length_append, List.length_cons, List.length_set, List.length_replicate, List.length_range]; first | done | omega)) ?_ | refine fE.of rfl ?_ | refine fB.of (Nat.beq_refl _) ?_ | refine sN.eq (by first | (simp only [Nat.zero_add, Nat.add_zero, Nat.sub_zero, Int.toNat_natCast, Int.toNat_zero, Int.toNat_one, List.length_map, List.length_nil, Int.reduceToNat, Nat.reduceAdd, Nat.reduceSub, Int.sub_zero, Int.reduceAdd, Int.reduceSub, Nat.sub_self, Int.toNat_natCast_add_one, bs_len]; rfl) | rfl) ?_ | refine fO.of (map_set_rd (by omega)) ?_ | refine fO.of (map_rd (by omega)) ?_ | refine sBool.eq (like_map (by first | with_reducible assumption | omega | (simp only [List.length_set]; omega))) ?_ | refine sR.eq (by first | (simp only [Nat.add_zero, Nat.zero_add, Nat.reduceAdd, List.drop_zero, List.take_succ_cons, List.take_nil, List.drop_succ_cons, List.drop_nil, List.take_zero, List.nil_append, List.append_nil, List.map_nil, drop_suf, take_pre, drop_map, List.take_length, take_len_set, take_len_app, List.set_set, List.length_map, snoc_rKept, snoc_rEvent, snoc_rIns, bytesT_bs, snoc_rI, snoc_rB, snoc_rBool, set_rI, set_rBool, rep_rI, rep_rBool, map_app]; rfl) | rfl) ?_ | refine fB.of (wide_map (fun _ => rfl) _) ?_ | refine fB.of (full_map (fun _ => rfl) _) ?_ | refine fB.of (full_map (fun x => full_rKept x) _) ?_ | refine fB.of (by first | rfl | (simp only [full_map, wide_map]; done)) ?_)) <;> (try (conv => whnf)))
set_option maxRecDepth 10000 in
theorem ok_laws_toEvent (k : Nat) (a b c : Int) : callE PR C (k + 1) 19 [.ag [i64 a, i64 b, i64 c]] [] = some ⟨.ag [i64 a, i64 b, i64 c], [], []⟩ := by
  (refine callE_is (callE_w [ResultVar.cell 2 51] rfl Try.func19 rfl (by decide +kernel) rfl (by simp) ?_); (conv => whnf))
  repeat' ((with_reducible (first | refine fG.pos (by first | with_reducible assumption | omega) ?_ | refine fG.neg (by first | with_reducible assumption | omega) ?_ | refine fG.split (fun _ => ?_) (fun _ => ?_) | refine fG.not ?_ | refine fG.yes (by with_reducible assumption) ?_ | refine fG.no (by with_reducible assumption) ?_ | refine fG.yes (flat_map (fun _ => rfl) _) ?_ | refine fG.bool (fun _ => ?_) (fun _ => ?_) | refine sW.i64 (by omega) ?_ | refine sW.u8 (by omega) ?_ | refine sI.mk (by first | with_reducible assumption | omega | (simp only [Nat.zero_add, Nat.add_zero, Nat.sub_zero, Int.toNat_natCast, Int.toNat_zero, Int.toNat_one, List.length_map, List.length_nil, Int.reduceToNat, Nat.reduceAdd, Nat.reduceSub, Int.sub_zero, Int.reduceAdd, Int.reduceSub, Nat.sub_self, Int.toNat_natCast_add_one, bs_len, List.length_append, List.length_cons, List.length_set, List.length_replicate, List.length_range]; first | done | omega)) ?_ | refine fE.of rfl ?_ | refine fB.of (Nat.beq_refl _) ?_ | refine sN.eq (by first | (simp only [Nat.zero_add, Nat.add_zero, Nat.sub_zero, Int.toNat_natCast, Int.toNat_zero, Int.toNat_one, List.length_map, List.length_nil, Int.reduceToNat, Nat.reduceAdd, Nat.reduceSub, Int.sub_zero, Int.reduceAdd, Int.reduceSub, Nat.sub_self, Int.toNat_natCast_add_one, bs_len]; rfl) | rfl) ?_ | refine fO.of (map_set_rd (by omega)) ?_ | refine fO.of (map_rd (by omega)) ?_ | refine sBool.eq (like_map (by first | with_reducible assumption | omega | (simp only [List.length_set]; omega))) ?_ | refine sR.eq (by first | (simp only [Nat.add_zero, Nat.zero_add, Nat.reduceAdd, List.drop_zero, List.take_succ_cons, List.take_nil, List.drop_succ_cons, List.drop_nil, List.take_zero, List.nil_append, List.append_nil, List.map_nil, drop_suf, take_pre, drop_map, List.take_length, take_len_set, take_len_app, List.set_set, List.length_map, snoc_rKept, snoc_rEvent, snoc_rIns, bytesT_bs, snoc_rI, snoc_rB, snoc_rBool, set_rI, set_rBool, rep_rI, rep_rBool, map_app]; rfl) | rfl) ?_ | refine fB.of (wide_map (fun _ => rfl) _) ?_ | refine fB.of (full_map (fun _ => rfl) _) ?_ | refine fB.of (full_map (fun x => full_rKept x) _) ?_ | refine fB.of (by first | rfl | (simp only [full_map, wide_map]; done)) ?_)) <;> (try (conv => whnf)))
theorem ok_laws_eqIns (k : Nat) (o r a b n : Int) : callE PR C (k + 1) 22 [.ag [i64 o, i64 r, i64 a, i64 b, i64 n], .ag [i64 o, i64 r, i64 a, i64 b, i64 n]] [] = some ⟨bl true, [], []⟩ := by
  (refine callE_is (callE_w [ResultVar.tmp 4] rfl Try.func22 rfl (by decide +kernel) rfl (by simp) ?_); (conv => whnf))
  repeat' ((with_reducible (first | refine fG.pos (by first | with_reducible assumption | omega) ?_ | refine fG.neg (by first | with_reducible assumption | omega) ?_ | refine fG.split (fun _ => ?_) (fun _ => ?_) | refine fG.not ?_ | refine fG.yes (by with_reducible assumption) ?_ | refine fG.no (by with_reducible assumption) ?_ | refine fG.yes (flat_map (fun _ => rfl) _) ?_ | refine fG.bool (fun _ => ?_) (fun _ => ?_) | refine sW.i64 (by omega) ?_ | refine sW.u8 (by omega) ?_ | refine sI.mk (by first | with_reducible assumption | omega | (simp only [Nat.zero_add, Nat.add_zero, Nat.sub_zero, Int.toNat_natCast, Int.toNat_zero, Int.toNat_one, List.length_map, List.length_nil, Int.reduceToNat, Nat.reduceAdd, Nat.reduceSub, Int.sub_zero, Int.reduceAdd, Int.reduceSub, Nat.sub_self, Int.toNat_natCast_add_one, bs_len, List.length_append, List.length_cons, List.length_set, List.length_replicate, List.length_range]; first | done | omega)) ?_ | refine fE.of rfl ?_ | refine fB.of (Nat.beq_refl _) ?_ | refine sN.eq (by first | (simp only [Nat.zero_add, Nat.add_zero, Nat.sub_zero, Int.toNat_natCast, Int.toNat_zero, Int.toNat_one, List.length_map, List.length_nil, Int.reduceToNat, Nat.reduceAdd, Nat.reduceSub, Int.sub_zero, Int.reduceAdd, Int.reduceSub, Nat.sub_self, Int.toNat_natCast_add_one, bs_len]; rfl) | rfl) ?_ | refine fO.of (map_set_rd (by omega)) ?_ | refine fO.of (map_rd (by omega)) ?_ | refine sBool.eq (like_map (by first | with_reducible assumption | omega | (simp only [List.length_set]; omega))) ?_ | refine sR.eq (by first | (simp only [Nat.add_zero, Nat.zero_add, Nat.reduceAdd, List.drop_zero, List.take_succ_cons, List.take_nil, List.drop_succ_cons, List.drop_nil, List.take_zero, List.nil_append, List.append_nil, List.map_nil, drop_suf, take_pre, drop_map, List.take_length, take_len_set, take_len_app, List.set_set, List.length_map, snoc_rKept, snoc_rEvent, snoc_rIns, bytesT_bs, snoc_rI, snoc_rB, snoc_rBool, set_rI, set_rBool, rep_rI, rep_rBool, map_app]; rfl) | rfl) ?_ | refine fB.of (wide_map (fun _ => rfl) _) ?_ | refine fB.of (full_map (fun _ => rfl) _) ?_ | refine fB.of (full_map (fun x => full_rKept x) _) ?_ | refine fB.of (by first | rfl | (simp only [full_map, wide_map]; done)) ?_)) <;> (try (conv => whnf)))
theorem ok_laws_eqEvent (k : Nat) (a b c : Int) : callE PR C (k + 1) 23 [.ag [i64 a, i64 b, i64 c], .ag [i64 a, i64 b, i64 c]] [] = some ⟨bl true, [], []⟩ := by
  (refine callE_is (callE_w [ResultVar.tmp 4] rfl Try.func23 rfl (by decide +kernel) rfl (by simp) ?_); (conv => whnf))
  repeat' ((with_reducible (first | refine fG.pos (by first | with_reducible assumption | omega) ?_ | refine fG.neg (by first | with_reducible assumption | omega) ?_ | refine fG.split (fun _ => ?_) (fun _ => ?_) | refine fG.not ?_ | refine fG.yes (by with_reducible assumption) ?_ | refine fG.no (by with_reducible assumption) ?_ | refine fG.yes (flat_map (fun _ => rfl) _) ?_ | refine fG.bool (fun _ => ?_) (fun _ => ?_) | refine sW.i64 (by omega) ?_ | refine sW.u8 (by omega) ?_ | refine sI.mk (by first | with_reducible assumption | omega | (simp only [Nat.zero_add, Nat.add_zero, Nat.sub_zero, Int.toNat_natCast, Int.toNat_zero, Int.toNat_one, List.length_map, List.length_nil, Int.reduceToNat, Nat.reduceAdd, Nat.reduceSub, Int.sub_zero, Int.reduceAdd, Int.reduceSub, Nat.sub_self, Int.toNat_natCast_add_one, bs_len, List.length_append, List.length_cons, List.length_set, List.length_replicate, List.length_range]; first | done | omega)) ?_ | refine fE.of rfl ?_ | refine fB.of (Nat.beq_refl _) ?_ | refine sN.eq (by first | (simp only [Nat.zero_add, Nat.add_zero, Nat.sub_zero, Int.toNat_natCast, Int.toNat_zero, Int.toNat_one, List.length_map, List.length_nil, Int.reduceToNat, Nat.reduceAdd, Nat.reduceSub, Int.sub_zero, Int.reduceAdd, Int.reduceSub, Nat.sub_self, Int.toNat_natCast_add_one, bs_len]; rfl) | rfl) ?_ | refine fO.of (map_set_rd (by omega)) ?_ | refine fO.of (map_rd (by omega)) ?_ | refine sBool.eq (like_map (by first | with_reducible assumption | omega | (simp only [List.length_set]; omega))) ?_ | refine sR.eq (by first | (simp only [Nat.add_zero, Nat.zero_add, Nat.reduceAdd, List.drop_zero, List.take_succ_cons, List.take_nil, List.drop_succ_cons, List.drop_nil, List.take_zero, List.nil_append, List.append_nil, List.map_nil, drop_suf, take_pre, drop_map, List.take_length, take_len_set, take_len_app, List.set_set, List.length_map, snoc_rKept, snoc_rEvent, snoc_rIns, bytesT_bs, snoc_rI, snoc_rB, snoc_rBool, set_rI, set_rBool, rep_rI, rep_rBool, map_app]; rfl) | rfl) ?_ | refine fB.of (wide_map (fun _ => rfl) _) ?_ | refine fB.of (full_map (fun _ => rfl) _) ?_ | refine fB.of (full_map (fun x => full_rKept x) _) ?_ | refine fB.of (by first | rfl | (simp only [full_map, wide_map]; done)) ?_)) <;> (try (conv => whnf)))

theorem set_rIns (l : List Ins) (n : Nat) (a b c d e : Int) : (l.map rIns).set n [.v (.int .i64 a), .v (.int .i64 b), .v (.int .i64 c), .v (.int .i64 d), .v (.int .i64 e)] = (l.set n ⟨a, b, c, d, e⟩).map rIns := by simp [rIns, List.map_set]
theorem rep_rIns (n : Nat) (a b c d e : Int) : List.replicate n [T.v (.int .i64 a), .v (.int .i64 b), .v (.int .i64 c), .v (.int .i64 d), .v (.int .i64 e)] = (List.replicate n (⟨a, b, c, d, e⟩ : Ins)).map rIns := by simp [rIns]
theorem set_rEvent (l : List Event) (n : Nat) (a b c : Int) : (l.map rEvent).set n [.v (.int .i64 a), .v (.int .i64 b), .v (.int .i64 c)] = (l.set n ⟨a, b, c⟩).map rEvent := by simp [rEvent, List.map_set]
theorem rep_rEvent (n : Nat) (a b c : Int) : List.replicate n [T.v (.int .i64 a), .v (.int .i64 b), .v (.int .i64 c)] = (List.replicate n (⟨a, b, c⟩ : Event)).map rEvent := by simp [rEvent]
-- NORM set_rIns, rep_rIns, set_rEvent, rep_rEvent
/-- A list, filled from the front. -/
def fill {α : Type} [Inhabited α] (l : List α) (j : Nat) : List α := l.take j ++ List.replicate (l.length - j) default
theorem fill_set {α : Type} [Inhabited α] (l : List α) (j : Nat) (h : j < l.length) : (fill l j).set j (rd l j) = fill l (j + 1) := by
  apply List.ext_getElem?
  intro i
  simp only [fill, rd, List.getElem?_set, List.getElem?_append, List.length_take, List.getElem?_take, List.getElem?_replicate, List.length_append, List.length_replicate, List.getD]
  by_cases e : i = j
  · subst e
    have h1 : i < min i l.length + (l.length - i) := by omega
    have h2 : i < min (i + 1) l.length := by omega
    simp [h1, h2, h]
  · have e' : ¬ j = i := fun x => e x.symm
    simp only [e', if_false]
    by_cases h1 : i < min j l.length
    · have h2 : i < min (j + 1) l.length := by omega
      have h3 : i < j := by omega
      have h4 : i < j + 1 := by omega
      simp [h1, h2, h3, h4]
    · have h2 : ¬ i < min (j + 1) l.length := by omega
      simp only [h1, h2, if_false]
      congr 1
      simp only [eq_iff_iff]
      omega
theorem fill_len {α : Type} [Inhabited α] (l : List α) (j : Nat) : (fill l j).length = l.length := by simp [fill]; omega
theorem fill_zero {α : Type} [Inhabited α] (l : List α) : fill l 0 = List.replicate l.length default := by simp [fill]
theorem fill_all {α : Type} [Inhabited α] (l : List α) : fill l l.length = l := by simp [fill]
abbrev tIns9 (l : List Ins) : Cont := .tree 9 (.sl 5 (l.map rIns))
abbrev tEvent9 (l : List Event) : Cont := .tree 9 (.sl 3 (l.map rEvent))
structure TL (α : Type) where
  j : Nat
  l : List α
  g : Nat
  d : Bool
theorem ok_laws_toInsS (k : Nat) (l : List Ins) (hl : l.length ≤ 100000000000) : callE PR C (k + 2) 7 [hIns 0 l] [tIns l] = some ⟨.h 2000000 1 0 [] 5 0 l.length, [tIns9 l], [none]⟩ := by
  (refine callE_is (callE_w [ResultVar.tmp 2] rfl Try.func7 rfl (by decide +kernel) rfl (by simp) ?_); (conv => whnf))
  repeat' ((with_reducible (first | refine fG.pos (by first | with_reducible assumption | omega) ?_ | refine fG.neg (by first | with_reducible assumption | omega) ?_ | refine fG.split (fun _ => ?_) (fun _ => ?_) | refine fG.not ?_ | refine fG.yes (by with_reducible assumption) ?_ | refine fG.no (by with_reducible assumption) ?_ | refine fG.yes (flat_map (fun _ => rfl) _) ?_ | refine fG.bool (fun _ => ?_) (fun _ => ?_) | refine sW.i64 (by omega) ?_ | refine sW.u8 (by omega) ?_ | refine sI.mk (by first | with_reducible assumption | omega | (simp only [Nat.zero_add, Nat.add_zero, Nat.sub_zero, Int.toNat_natCast, Int.toNat_zero, Int.toNat_one, List.length_map, List.length_nil, Int.reduceToNat, Nat.reduceAdd, Nat.reduceSub, Int.sub_zero, Int.reduceAdd, Int.reduceSub, Nat.sub_self, Int.toNat_natCast_add_one, bs_len, List.length_append, List.length_cons, List.length_set, List.length_replicate, List.length_range]; first | done | omega)) ?_ | refine fE.of rfl ?_ | refine fB.of (Nat.beq_refl _) ?_ | refine sN.eq (by first | (simp only [Nat.zero_add, Nat.add_zero, Nat.sub_zero, Int.toNat_natCast, Int.toNat_zero, Int.toNat_one, List.length_map, List.length_nil, Int.reduceToNat, Nat.reduceAdd, Nat.reduceSub, Int.sub_zero, Int.reduceAdd, Int.reduceSub, Nat.sub_self, Int.toNat_natCast_add_one, bs_len]; rfl) | rfl) ?_ | refine fO.of (map_set_rd (by omega)) ?_ | refine fO.of (map_rd (by omega)) ?_ | refine sBool.eq (like_map (by first | with_reducible assumption | omega | (simp only [List.length_set]; omega))) ?_ | refine sR.eq (by first | (simp only [Nat.add_zero, Nat.zero_add, Nat.reduceAdd, List.drop_zero, List.take_succ_cons, List.take_nil, List.drop_succ_cons, List.drop_nil, List.take_zero, List.nil_append, List.append_nil, List.map_nil, drop_suf, take_pre, drop_map, List.take_length, take_len_set, take_len_app, List.set_set, List.length_map, set_rIns, rep_rIns, set_rEvent, rep_rEvent, snoc_rKept, snoc_rEvent, snoc_rIns, bytesT_bs, snoc_rI, snoc_rB, snoc_rBool, set_rI, set_rBool, rep_rI, rep_rBool, map_app]; rfl) | rfl) ?_ | refine fB.of (wide_map (fun _ => rfl) _) ?_ | refine fB.of (full_map (fun _ => rfl) _) ?_ | refine fB.of (full_map (fun x => full_rKept x) _) ?_ | refine fB.of (by first | rfl | (simp only [full_map, wide_map]; done)) ?_)) <;> (try (conv => whnf)))
  refine loop_rule (ι := TL Ins) (fun x => [(0, hIns 0 l), (3, .h 7 1 0 [] 5 0 l.length), (4, i64 (x.j : Nat))])
    (fun x => [(1000000, ⟨0, 0, false, tIns l⟩), (7, ⟨1, x.g, x.d, tIns9 x.l⟩)])
    (fun x => l.length - x.j) (fun x => x.j ≤ l.length ∧ x.l = fill l x.j) ⟨0, List.replicate l.length default, 0, false⟩ (by (try dsimp only [cond_true, cond_false]); exact ⟨⟨rfl, rfl, rfl, trivial⟩, ⟨rfl, rfl, trivial⟩⟩) ⟨Nat.zero_le _, (fill_zero l).symm⟩ (by simp [C]; omega) ?_
  rintro ⟨j, out, g, d⟩ sl ob ⟨hj, hout⟩
  dsimp only at hj hout
  have hlen : out.length = l.length := by rw [hout, fill_len]
  (dsimp only [cond_true, cond_false])
  (conv => whnf)
  repeat' ((with_reducible (first | refine sCall.of (ok_laws_toIns _ _ _ _ _ _) ?_ | refine fG.pos (by first | with_reducible assumption | omega) ?_ | refine fG.neg (by first | with_reducible assumption | omega) ?_ | refine fG.split (fun _ => ?_) (fun _ => ?_) | refine fG.not ?_ | refine fG.yes (by with_reducible assumption) ?_ | refine fG.no (by with_reducible assumption) ?_ | refine fG.yes (flat_map (fun _ => rfl) _) ?_ | refine fG.bool (fun _ => ?_) (fun _ => ?_) | refine sW.i64 (by omega) ?_ | refine sW.u8 (by omega) ?_ | refine sI.mk (by first | with_reducible assumption | omega | (simp only [Nat.zero_add, Nat.add_zero, Nat.sub_zero, Int.toNat_natCast, Int.toNat_zero, Int.toNat_one, List.length_map, List.length_nil, Int.reduceToNat, Nat.reduceAdd, Nat.reduceSub, Int.sub_zero, Int.reduceAdd, Int.reduceSub, Nat.sub_self, Int.toNat_natCast_add_one, bs_len, List.length_append, List.length_cons, List.length_set, List.length_replicate, List.length_range]; first | done | omega)) ?_ | refine fE.of rfl ?_ | refine fB.of (Nat.beq_refl _) ?_ | refine sN.eq (by first | (simp only [Nat.zero_add, Nat.add_zero, Nat.sub_zero, Int.toNat_natCast, Int.toNat_zero, Int.toNat_one, List.length_map, List.length_nil, Int.reduceToNat, Nat.reduceAdd, Nat.reduceSub, Int.sub_zero, Int.reduceAdd, Int.reduceSub, Nat.sub_self, Int.toNat_natCast_add_one, bs_len]; rfl) | rfl) ?_ | refine fO.of (map_set_rd (by omega)) ?_ | refine fO.of (map_rd (by omega)) ?_ | refine sBool.eq (like_map (by first | with_reducible assumption | omega | (simp only [List.length_set]; omega))) ?_ | refine sR.eq (by first | (simp only [Nat.add_zero, Nat.zero_add, Nat.reduceAdd, List.drop_zero, List.take_succ_cons, List.take_nil, List.drop_succ_cons, List.drop_nil, List.take_zero, List.nil_append, List.append_nil, List.map_nil, drop_suf, take_pre, drop_map, List.take_length, take_len_set, take_len_app, List.set_set, List.length_map, set_rIns, rep_rIns, set_rEvent, rep_rEvent, snoc_rKept, snoc_rEvent, snoc_rIns, bytesT_bs, snoc_rI, snoc_rB, snoc_rBool, set_rI, set_rBool, rep_rI, rep_rBool, map_app]; rfl) | rfl) ?_ | refine fB.of (wide_map (fun _ => rfl) _) ?_ | refine fB.of (full_map (fun _ => rfl) _) ?_ | refine fB.of (full_map (fun x => full_rKept x) _) ?_ | refine fB.of (by first | rfl | (simp only [full_map, wide_map]; done)) ?_)) <;> (try (conv => whnf)))
  case' refine_1 h =>
    refine ⟨⟨⟨j + 1, out.set j (rd l j), _, _⟩, (by (try dsimp only [cond_true, cond_false]); exact ⟨⟨rfl, rfl, rfl, trivial⟩, ⟨rfl, rfl, trivial⟩⟩), ?_, ?_⟩⟩
    · exact ⟨by show j + 1 ≤ _; omega, by show _ = _; rw [hout]; exact fill_set l j (by omega)⟩
    · show l.length - (j + 1) < l.length - j; omega
  case refine_2 h =>
    have : j = l.length := by omega
    rw [hout, this, fill_all, List.take_length]

theorem ok_laws_toEventS (k : Nat) (l : List Event) (hl : l.length ≤ 100000000000) : callE PR C (k + 2) 8 [hEvent 0 l] [tEvent l] = some ⟨.h 2000000 1 0 [] 3 0 l.length, [tEvent9 l], [none]⟩ := by
  (refine callE_is (callE_w [ResultVar.tmp 2] rfl Try.func8 rfl (by decide +kernel) rfl (by simp) ?_); (conv => whnf))
  repeat' ((with_reducible (first | refine fG.pos (by first | with_reducible assumption | omega) ?_ | refine fG.neg (by first | with_reducible assumption | omega) ?_ | refine fG.split (fun _ => ?_) (fun _ => ?_) | refine fG.not ?_ | refine fG.yes (by with_reducible assumption) ?_ | refine fG.no (by with_reducible assumption) ?_ | refine fG.yes (flat_map (fun _ => rfl) _) ?_ | refine fG.bool (fun _ => ?_) (fun _ => ?_) | refine sW.i64 (by omega) ?_ | refine sW.u8 (by omega) ?_ | refine sI.mk (by first | with_reducible assumption | omega | (simp only [Nat.zero_add, Nat.add_zero, Nat.sub_zero, Int.toNat_natCast, Int.toNat_zero, Int.toNat_one, List.length_map, List.length_nil, Int.reduceToNat, Nat.reduceAdd, Nat.reduceSub, Int.sub_zero, Int.reduceAdd, Int.reduceSub, Nat.sub_self, Int.toNat_natCast_add_one, bs_len, List.length_append, List.length_cons, List.length_set, List.length_replicate, List.length_range]; first | done | omega)) ?_ | refine fE.of rfl ?_ | refine fB.of (Nat.beq_refl _) ?_ | refine sN.eq (by first | (simp only [Nat.zero_add, Nat.add_zero, Nat.sub_zero, Int.toNat_natCast, Int.toNat_zero, Int.toNat_one, List.length_map, List.length_nil, Int.reduceToNat, Nat.reduceAdd, Nat.reduceSub, Int.sub_zero, Int.reduceAdd, Int.reduceSub, Nat.sub_self, Int.toNat_natCast_add_one, bs_len]; rfl) | rfl) ?_ | refine fO.of (map_set_rd (by omega)) ?_ | refine fO.of (map_rd (by omega)) ?_ | refine sBool.eq (like_map (by first | with_reducible assumption | omega | (simp only [List.length_set]; omega))) ?_ | refine sR.eq (by first | (simp only [Nat.add_zero, Nat.zero_add, Nat.reduceAdd, List.drop_zero, List.take_succ_cons, List.take_nil, List.drop_succ_cons, List.drop_nil, List.take_zero, List.nil_append, List.append_nil, List.map_nil, drop_suf, take_pre, drop_map, List.take_length, take_len_set, take_len_app, List.set_set, List.length_map, set_rIns, rep_rIns, set_rEvent, rep_rEvent, snoc_rKept, snoc_rEvent, snoc_rIns, bytesT_bs, snoc_rI, snoc_rB, snoc_rBool, set_rI, set_rBool, rep_rI, rep_rBool, map_app]; rfl) | rfl) ?_ | refine fB.of (wide_map (fun _ => rfl) _) ?_ | refine fB.of (full_map (fun _ => rfl) _) ?_ | refine fB.of (full_map (fun x => full_rKept x) _) ?_ | refine fB.of (by first | rfl | (simp only [full_map, wide_map]; done)) ?_)) <;> (try (conv => whnf)))
  refine loop_rule (ι := TL Event) (fun x => [(0, hEvent 0 l), (3, .h 7 1 0 [] 3 0 l.length), (4, i64 (x.j : Nat))])
    (fun x => [(1000000, ⟨0, 0, false, tEvent l⟩), (7, ⟨1, x.g, x.d, tEvent9 x.l⟩)])
    (fun x => l.length - x.j) (fun x => x.j ≤ l.length ∧ x.l = fill l x.j) ⟨0, List.replicate l.length default, 0, false⟩ (by (try dsimp only [cond_true, cond_false]); exact ⟨⟨rfl, rfl, rfl, trivial⟩, ⟨rfl, rfl, trivial⟩⟩) ⟨Nat.zero_le _, (fill_zero l).symm⟩ (by simp [C]; omega) ?_
  rintro ⟨j, out, g, d⟩ sl ob ⟨hj, hout⟩
  dsimp only at hj hout
  have hlen : out.length = l.length := by rw [hout, fill_len]
  (dsimp only [cond_true, cond_false])
  (conv => whnf)
  repeat' ((with_reducible (first | refine sCall.of (ok_laws_toEvent _ _ _ _) ?_ | refine fG.pos (by first | with_reducible assumption | omega) ?_ | refine fG.neg (by first | with_reducible assumption | omega) ?_ | refine fG.split (fun _ => ?_) (fun _ => ?_) | refine fG.not ?_ | refine fG.yes (by with_reducible assumption) ?_ | refine fG.no (by with_reducible assumption) ?_ | refine fG.yes (flat_map (fun _ => rfl) _) ?_ | refine fG.bool (fun _ => ?_) (fun _ => ?_) | refine sW.i64 (by omega) ?_ | refine sW.u8 (by omega) ?_ | refine sI.mk (by first | with_reducible assumption | omega | (simp only [Nat.zero_add, Nat.add_zero, Nat.sub_zero, Int.toNat_natCast, Int.toNat_zero, Int.toNat_one, List.length_map, List.length_nil, Int.reduceToNat, Nat.reduceAdd, Nat.reduceSub, Int.sub_zero, Int.reduceAdd, Int.reduceSub, Nat.sub_self, Int.toNat_natCast_add_one, bs_len, List.length_append, List.length_cons, List.length_set, List.length_replicate, List.length_range]; first | done | omega)) ?_ | refine fE.of rfl ?_ | refine fB.of (Nat.beq_refl _) ?_ | refine sN.eq (by first | (simp only [Nat.zero_add, Nat.add_zero, Nat.sub_zero, Int.toNat_natCast, Int.toNat_zero, Int.toNat_one, List.length_map, List.length_nil, Int.reduceToNat, Nat.reduceAdd, Nat.reduceSub, Int.sub_zero, Int.reduceAdd, Int.reduceSub, Nat.sub_self, Int.toNat_natCast_add_one, bs_len]; rfl) | rfl) ?_ | refine fO.of (map_set_rd (by omega)) ?_ | refine fO.of (map_rd (by omega)) ?_ | refine sBool.eq (like_map (by first | with_reducible assumption | omega | (simp only [List.length_set]; omega))) ?_ | refine sR.eq (by first | (simp only [Nat.add_zero, Nat.zero_add, Nat.reduceAdd, List.drop_zero, List.take_succ_cons, List.take_nil, List.drop_succ_cons, List.drop_nil, List.take_zero, List.nil_append, List.append_nil, List.map_nil, drop_suf, take_pre, drop_map, List.take_length, take_len_set, take_len_app, List.set_set, List.length_map, set_rIns, rep_rIns, set_rEvent, rep_rEvent, snoc_rKept, snoc_rEvent, snoc_rIns, bytesT_bs, snoc_rI, snoc_rB, snoc_rBool, set_rI, set_rBool, rep_rI, rep_rBool, map_app]; rfl) | rfl) ?_ | refine fB.of (wide_map (fun _ => rfl) _) ?_ | refine fB.of (full_map (fun _ => rfl) _) ?_ | refine fB.of (full_map (fun x => full_rKept x) _) ?_ | refine fB.of (by first | rfl | (simp only [full_map, wide_map]; done)) ?_)) <;> (try (conv => whnf)))
  case' refine_1 h =>
    refine ⟨⟨⟨j + 1, out.set j (rd l j), _, _⟩, (by (try dsimp only [cond_true, cond_false]); exact ⟨⟨rfl, rfl, rfl, trivial⟩, ⟨rfl, rfl, trivial⟩⟩), ?_, ?_⟩⟩
    · exact ⟨by show j + 1 ≤ _; omega, by show _ = _; rw [hout]; exact fill_set l j (by omega)⟩
    · show l.length - (j + 1) < l.length - j; omega
  case refine_2 h =>
    have : j = l.length := by omega
    rw [hout, this, fill_all, List.take_length]
theorem ok_laws_eqInsS (k : Nat) (l : List Ins) (hl : l.length ≤ 100000000000) : callE PR C (k + 2) 11 [hIns 0 l, hIns 1 l] [tIns l, tIns l] = some ⟨bl true, [], [none, none]⟩ := by
  (refine callE_is (callE_w [ResultVar.tmp 4] rfl Try.func11 rfl (by decide +kernel) rfl (by simp) ?_); (conv => whnf))
  repeat' ((with_reducible (first | refine fG.pos (by first | with_reducible assumption | omega) ?_ | refine fG.neg (by first | with_reducible assumption | omega) ?_ | refine fG.split (fun _ => ?_) (fun _ => ?_) | refine fG.not ?_ | refine fG.yes (by with_reducible assumption) ?_ | refine fG.no (by with_reducible assumption) ?_ | refine fG.yes (flat_map (fun _ => rfl) _) ?_ | refine fG.bool (fun _ => ?_) (fun _ => ?_) | refine sW.i64 (by omega) ?_ | refine sW.u8 (by omega) ?_ | refine sI.mk (by first | with_reducible assumption | omega | (simp only [Nat.zero_add, Nat.add_zero, Nat.sub_zero, Int.toNat_natCast, Int.toNat_zero, Int.toNat_one, List.length_map, List.length_nil, Int.reduceToNat, Nat.reduceAdd, Nat.reduceSub, Int.sub_zero, Int.reduceAdd, Int.reduceSub, Nat.sub_self, Int.toNat_natCast_add_one, bs_len, List.length_append, List.length_cons, List.length_set, List.length_replicate, List.length_range]; first | done | omega)) ?_ | refine fE.of rfl ?_ | refine fB.of (Nat.beq_refl _) ?_ | refine sN.eq (by first | (simp only [Nat.zero_add, Nat.add_zero, Nat.sub_zero, Int.toNat_natCast, Int.toNat_zero, Int.toNat_one, List.length_map, List.length_nil, Int.reduceToNat, Nat.reduceAdd, Nat.reduceSub, Int.sub_zero, Int.reduceAdd, Int.reduceSub, Nat.sub_self, Int.toNat_natCast_add_one, bs_len]; rfl) | rfl) ?_ | refine fO.of (map_set_rd (by omega)) ?_ | refine fO.of (map_rd (by omega)) ?_ | refine sBool.eq (like_map (by first | with_reducible assumption | omega | (simp only [List.length_set]; omega))) ?_ | refine sR.eq (by first | (simp only [Nat.add_zero, Nat.zero_add, Nat.reduceAdd, List.drop_zero, List.take_succ_cons, List.take_nil, List.drop_succ_cons, List.drop_nil, List.take_zero, List.nil_append, List.append_nil, List.map_nil, drop_suf, take_pre, drop_map, List.take_length, take_len_set, take_len_app, List.set_set, List.length_map, set_rIns, rep_rIns, set_rEvent, rep_rEvent, snoc_rKept, snoc_rEvent, snoc_rIns, bytesT_bs, snoc_rI, snoc_rB, snoc_rBool, set_rI, set_rBool, rep_rI, rep_rBool, map_app]; rfl) | rfl) ?_ | refine fB.of (wide_map (fun _ => rfl) _) ?_ | refine fB.of (full_map (fun _ => rfl) _) ?_ | refine fB.of (full_map (fun x => full_rKept x) _) ?_ | refine fB.of (by first | rfl | (simp only [full_map, wide_map]; done)) ?_ | refine sDraw.none (id := 6) (ty := tys) rfl (by decide +kernel) ?_)) <;> (try (conv => whnf)))
  refine loop_rule (ι := Nat) (fun j => [(0, hIns 0 l), (1, hIns 1 l), (5, i64 (j : Nat))])
    (fun x => [(1000000, ⟨0, 0, false, tIns l⟩), (1000001, ⟨0, 0, false, tIns l⟩)])
    (fun j => l.length - j) (fun j => j ≤ l.length) 0 (by (try dsimp only [cond_true, cond_false]); exact ⟨⟨rfl, rfl, rfl, trivial⟩, ⟨rfl, rfl, trivial⟩⟩) (Nat.zero_le _) (by simp [C]; omega) ?_
  rintro j sl ob hj
  (dsimp only [cond_true, cond_false])
  (conv => whnf)
  repeat' ((with_reducible (first | refine sCall.of (ok_laws_eqIns _ _ _ _ _ _) ?_ | refine fG.pos (by first | with_reducible assumption | omega) ?_ | refine fG.neg (by first | with_reducible assumption | omega) ?_ | refine fG.split (fun _ => ?_) (fun _ => ?_) | refine fG.not ?_ | refine fG.yes (by with_reducible assumption) ?_ | refine fG.no (by with_reducible assumption) ?_ | refine fG.yes (flat_map (fun _ => rfl) _) ?_ | refine fG.bool (fun _ => ?_) (fun _ => ?_) | refine sW.i64 (by omega) ?_ | refine sW.u8 (by omega) ?_ | refine sI.mk (by first | with_reducible assumption | omega | (simp only [Nat.zero_add, Nat.add_zero, Nat.sub_zero, Int.toNat_natCast, Int.toNat_zero, Int.toNat_one, List.length_map, List.length_nil, Int.reduceToNat, Nat.reduceAdd, Nat.reduceSub, Int.sub_zero, Int.reduceAdd, Int.reduceSub, Nat.sub_self, Int.toNat_natCast_add_one, bs_len, List.length_append, List.length_cons, List.length_set, List.length_replicate, List.length_range]; first | done | omega)) ?_ | refine fE.of rfl ?_ | refine fB.of (Nat.beq_refl _) ?_ | refine sN.eq (by first | (simp only [Nat.zero_add, Nat.add_zero, Nat.sub_zero, Int.toNat_natCast, Int.toNat_zero, Int.toNat_one, List.length_map, List.length_nil, Int.reduceToNat, Nat.reduceAdd, Nat.reduceSub, Int.sub_zero, Int.reduceAdd, Int.reduceSub, Nat.sub_self, Int.toNat_natCast_add_one, bs_len]; rfl) | rfl) ?_ | refine fO.of (map_set_rd (by omega)) ?_ | refine fO.of (map_rd (by omega)) ?_ | refine sBool.eq (like_map (by first | with_reducible assumption | omega | (simp only [List.length_set]; omega))) ?_ | refine sR.eq (by first | (simp only [Nat.add_zero, Nat.zero_add, Nat.reduceAdd, List.drop_zero, List.take_succ_cons, List.take_nil, List.drop_succ_cons, List.drop_nil, List.take_zero, List.nil_append, List.append_nil, List.map_nil, drop_suf, take_pre, drop_map, List.take_length, take_len_set, take_len_app, List.set_set, List.length_map, set_rIns, rep_rIns, set_rEvent, rep_rEvent, snoc_rKept, snoc_rEvent, snoc_rIns, bytesT_bs, snoc_rI, snoc_rB, snoc_rBool, set_rI, set_rBool, rep_rI, rep_rBool, map_app]; rfl) | rfl) ?_ | refine fB.of (wide_map (fun _ => rfl) _) ?_ | refine fB.of (full_map (fun _ => rfl) _) ?_ | refine fB.of (full_map (fun x => full_rKept x) _) ?_ | refine fB.of (by first | rfl | (simp only [full_map, wide_map]; done)) ?_ | refine sDraw.none (id := 6) (ty := tys) rfl (by decide +kernel) ?_)) <;> (try (conv => whnf)))
  case' refine_1 h =>
    refine ⟨⟨j + 1, (by (try dsimp only [cond_true, cond_false]); exact ⟨⟨rfl, rfl, rfl, trivial⟩, ⟨rfl, rfl, trivial⟩⟩), ?_, ?_⟩⟩
    · show j + 1 ≤ _; omega
    · show l.length - (j + 1) < l.length - j; omega
theorem ok_laws_eqEventS (k : Nat) (l : List Event) (hl : l.length ≤ 100000000000) : callE PR C (k + 2) 12 [hEvent 0 l, hEvent 1 l] [tEvent l, tEvent l] = some ⟨bl true, [], [none, none]⟩ := by
  (refine callE_is (callE_w [ResultVar.tmp 4] rfl Try.func12 rfl (by decide +kernel) rfl (by simp) ?_); (conv => whnf))
  repeat' ((with_reducible (first | refine fG.pos (by first | with_reducible assumption | omega) ?_ | refine fG.neg (by first | with_reducible assumption | omega) ?_ | refine fG.split (fun _ => ?_) (fun _ => ?_) | refine fG.not ?_ | refine fG.yes (by with_reducible assumption) ?_ | refine fG.no (by with_reducible assumption) ?_ | refine fG.yes (flat_map (fun _ => rfl) _) ?_ | refine fG.bool (fun _ => ?_) (fun _ => ?_) | refine sW.i64 (by omega) ?_ | refine sW.u8 (by omega) ?_ | refine sI.mk (by first | with_reducible assumption | omega | (simp only [Nat.zero_add, Nat.add_zero, Nat.sub_zero, Int.toNat_natCast, Int.toNat_zero, Int.toNat_one, List.length_map, List.length_nil, Int.reduceToNat, Nat.reduceAdd, Nat.reduceSub, Int.sub_zero, Int.reduceAdd, Int.reduceSub, Nat.sub_self, Int.toNat_natCast_add_one, bs_len, List.length_append, List.length_cons, List.length_set, List.length_replicate, List.length_range]; first | done | omega)) ?_ | refine fE.of rfl ?_ | refine fB.of (Nat.beq_refl _) ?_ | refine sN.eq (by first | (simp only [Nat.zero_add, Nat.add_zero, Nat.sub_zero, Int.toNat_natCast, Int.toNat_zero, Int.toNat_one, List.length_map, List.length_nil, Int.reduceToNat, Nat.reduceAdd, Nat.reduceSub, Int.sub_zero, Int.reduceAdd, Int.reduceSub, Nat.sub_self, Int.toNat_natCast_add_one, bs_len]; rfl) | rfl) ?_ | refine fO.of (map_set_rd (by omega)) ?_ | refine fO.of (map_rd (by omega)) ?_ | refine sBool.eq (like_map (by first | with_reducible assumption | omega | (simp only [List.length_set]; omega))) ?_ | refine sR.eq (by first | (simp only [Nat.add_zero, Nat.zero_add, Nat.reduceAdd, List.drop_zero, List.take_succ_cons, List.take_nil, List.drop_succ_cons, List.drop_nil, List.take_zero, List.nil_append, List.append_nil, List.map_nil, drop_suf, take_pre, drop_map, List.take_length, take_len_set, take_len_app, List.set_set, List.length_map, set_rIns, rep_rIns, set_rEvent, rep_rEvent, snoc_rKept, snoc_rEvent, snoc_rIns, bytesT_bs, snoc_rI, snoc_rB, snoc_rBool, set_rI, set_rBool, rep_rI, rep_rBool, map_app]; rfl) | rfl) ?_ | refine fB.of (wide_map (fun _ => rfl) _) ?_ | refine fB.of (full_map (fun _ => rfl) _) ?_ | refine fB.of (full_map (fun x => full_rKept x) _) ?_ | refine fB.of (by first | rfl | (simp only [full_map, wide_map]; done)) ?_ | refine sDraw.none (id := 6) (ty := tys) rfl (by decide +kernel) ?_)) <;> (try (conv => whnf)))
  refine loop_rule (ι := Nat) (fun j => [(0, hEvent 0 l), (1, hEvent 1 l), (5, i64 (j : Nat))])
    (fun x => [(1000000, ⟨0, 0, false, tEvent l⟩), (1000001, ⟨0, 0, false, tEvent l⟩)])
    (fun j => l.length - j) (fun j => j ≤ l.length) 0 (by (try dsimp only [cond_true, cond_false]); exact ⟨⟨rfl, rfl, rfl, trivial⟩, ⟨rfl, rfl, trivial⟩⟩) (Nat.zero_le _) (by simp [C]; omega) ?_
  rintro j sl ob hj
  (dsimp only [cond_true, cond_false])
  (conv => whnf)
  repeat' ((with_reducible (first | refine sCall.of (ok_laws_eqEvent _ _ _ _) ?_ | refine fG.pos (by first | with_reducible assumption | omega) ?_ | refine fG.neg (by first | with_reducible assumption | omega) ?_ | refine fG.split (fun _ => ?_) (fun _ => ?_) | refine fG.not ?_ | refine fG.yes (by with_reducible assumption) ?_ | refine fG.no (by with_reducible assumption) ?_ | refine fG.yes (flat_map (fun _ => rfl) _) ?_ | refine fG.bool (fun _ => ?_) (fun _ => ?_) | refine sW.i64 (by omega) ?_ | refine sW.u8 (by omega) ?_ | refine sI.mk (by first | with_reducible assumption | omega | (simp only [Nat.zero_add, Nat.add_zero, Nat.sub_zero, Int.toNat_natCast, Int.toNat_zero, Int.toNat_one, List.length_map, List.length_nil, Int.reduceToNat, Nat.reduceAdd, Nat.reduceSub, Int.sub_zero, Int.reduceAdd, Int.reduceSub, Nat.sub_self, Int.toNat_natCast_add_one, bs_len, List.length_append, List.length_cons, List.length_set, List.length_replicate, List.length_range]; first | done | omega)) ?_ | refine fE.of rfl ?_ | refine fB.of (Nat.beq_refl _) ?_ | refine sN.eq (by first | (simp only [Nat.zero_add, Nat.add_zero, Nat.sub_zero, Int.toNat_natCast, Int.toNat_zero, Int.toNat_one, List.length_map, List.length_nil, Int.reduceToNat, Nat.reduceAdd, Nat.reduceSub, Int.sub_zero, Int.reduceAdd, Int.reduceSub, Nat.sub_self, Int.toNat_natCast_add_one, bs_len]; rfl) | rfl) ?_ | refine fO.of (map_set_rd (by omega)) ?_ | refine fO.of (map_rd (by omega)) ?_ | refine sBool.eq (like_map (by first | with_reducible assumption | omega | (simp only [List.length_set]; omega))) ?_ | refine sR.eq (by first | (simp only [Nat.add_zero, Nat.zero_add, Nat.reduceAdd, List.drop_zero, List.take_succ_cons, List.take_nil, List.drop_succ_cons, List.drop_nil, List.take_zero, List.nil_append, List.append_nil, List.map_nil, drop_suf, take_pre, drop_map, List.take_length, take_len_set, take_len_app, List.set_set, List.length_map, set_rIns, rep_rIns, set_rEvent, rep_rEvent, snoc_rKept, snoc_rEvent, snoc_rIns, bytesT_bs, snoc_rI, snoc_rB, snoc_rBool, set_rI, set_rBool, rep_rI, rep_rBool, map_app]; rfl) | rfl) ?_ | refine fB.of (wide_map (fun _ => rfl) _) ?_ | refine fB.of (full_map (fun _ => rfl) _) ?_ | refine fB.of (full_map (fun x => full_rKept x) _) ?_ | refine fB.of (by first | rfl | (simp only [full_map, wide_map]; done)) ?_ | refine sDraw.none (id := 6) (ty := tys) rfl (by decide +kernel) ?_)) <;> (try (conv => whnf)))
  case' refine_1 h =>
    refine ⟨⟨j + 1, (by (try dsimp only [cond_true, cond_false]); exact ⟨⟨rfl, rfl, rfl, trivial⟩, ⟨rfl, rfl, trivial⟩⟩), ?_, ?_⟩⟩
    · show j + 1 ≤ _; omega
    · show l.length - (j + 1) < l.length - j; omega
theorem ok_laws_eqIntS (k : Nat) (l : List Int) (hl : l.length ≤ 100000000000) : callE PR C (k + 1) 43 [.h 1000000 0 0 [] 1 0 l.length, .h 1000001 0 0 [] 1 0 l.length] [tI l, tI l] = some ⟨bl true, [], [none, none]⟩ := by
  (refine callE_is (callE_w [ResultVar.tmp 4] rfl Try.func43 rfl (by decide +kernel) rfl (by simp) ?_); (conv => whnf))
  repeat' ((with_reducible (first | refine fG.pos (by first | with_reducible assumption | omega) ?_ | refine fG.neg (by first | with_reducible assumption | omega) ?_ | refine fG.split (fun _ => ?_) (fun _ => ?_) | refine fG.not ?_ | refine fG.yes (by with_reducible assumption) ?_ | refine fG.no (by with_reducible assumption) ?_ | refine fG.yes (flat_map (fun _ => rfl) _) ?_ | refine fG.bool (fun _ => ?_) (fun _ => ?_) | refine sW.i64 (by omega) ?_ | refine sW.u8 (by omega) ?_ | refine sI.mk (by first | with_reducible assumption | omega | (simp only [Nat.zero_add, Nat.add_zero, Nat.sub_zero, Int.toNat_natCast, Int.toNat_zero, Int.toNat_one, List.length_map, List.length_nil, Int.reduceToNat, Nat.reduceAdd, Nat.reduceSub, Int.sub_zero, Int.reduceAdd, Int.reduceSub, Nat.sub_self, Int.toNat_natCast_add_one, bs_len, List.length_append, List.length_cons, List.length_set, List.length_replicate, List.length_range]; first | done | omega)) ?_ | refine fE.of rfl ?_ | refine fB.of (Nat.beq_refl _) ?_ | refine sN.eq (by first | (simp only [Nat.zero_add, Nat.add_zero, Nat.sub_zero, Int.toNat_natCast, Int.toNat_zero, Int.toNat_one, List.length_map, List.length_nil, Int.reduceToNat, Nat.reduceAdd, Nat.reduceSub, Int.sub_zero, Int.reduceAdd, Int.reduceSub, Nat.sub_self, Int.toNat_natCast_add_one, bs_len]; rfl) | rfl) ?_ | refine fO.of (map_set_rd (by omega)) ?_ | refine fO.of (map_rd (by omega)) ?_ | refine sBool.eq (like_map (by first | with_reducible assumption | omega | (simp only [List.length_set]; omega))) ?_ | refine sR.eq (by first | (simp only [Nat.add_zero, Nat.zero_add, Nat.reduceAdd, List.drop_zero, List.take_succ_cons, List.take_nil, List.drop_succ_cons, List.drop_nil, List.take_zero, List.nil_append, List.append_nil, List.map_nil, drop_suf, take_pre, drop_map, List.take_length, take_len_set, take_len_app, List.set_set, List.length_map, set_rIns, rep_rIns, set_rEvent, rep_rEvent, snoc_rKept, snoc_rEvent, snoc_rIns, bytesT_bs, snoc_rI, snoc_rB, snoc_rBool, set_rI, set_rBool, rep_rI, rep_rBool, map_app]; rfl) | rfl) ?_ | refine fB.of (wide_map (fun _ => rfl) _) ?_ | refine fB.of (full_map (fun _ => rfl) _) ?_ | refine fB.of (full_map (fun x => full_rKept x) _) ?_ | refine fB.of (by first | rfl | (simp only [full_map, wide_map]; done)) ?_ | refine sDraw.none (id := 6) (ty := tys) rfl (by decide +kernel) ?_)) <;> (try (conv => whnf)))
  refine loop_rule (ι := Nat) (fun j => [(0, .h 1000000 0 0 [] 1 0 l.length), (1, .h 1000001 0 0 [] 1 0 l.length), (5, i64 (j : Nat))])
    (fun x => [(1000000, ⟨0, 0, false, tI l⟩), (1000001, ⟨0, 0, false, tI l⟩)])
    (fun j => l.length - j) (fun j => j ≤ l.length) 0 (by (try dsimp only [cond_true, cond_false]); exact ⟨⟨rfl, rfl, rfl, trivial⟩, ⟨rfl, rfl, trivial⟩⟩) (Nat.zero_le _) (by simp [C]; omega) ?_
  rintro j sl ob hj
  (dsimp only [cond_true, cond_false])
  (conv => whnf)
  repeat' ((with_reducible (first | refine fG.pos (by first | with_reducible assumption | omega) ?_ | refine fG.neg (by first | with_reducible assumption | omega) ?_ | refine fG.split (fun _ => ?_) (fun _ => ?_) | refine fG.not ?_ | refine fG.yes (by with_reducible assumption) ?_ | refine fG.no (by with_reducible assumption) ?_ | refine fG.yes (flat_map (fun _ => rfl) _) ?_ | refine fG.bool (fun _ => ?_) (fun _ => ?_) | refine sW.i64 (by omega) ?_ | refine sW.u8 (by omega) ?_ | refine sI.mk (by first | with_reducible assumption | omega | (simp only [Nat.zero_add, Nat.add_zero, Nat.sub_zero, Int.toNat_natCast, Int.toNat_zero, Int.toNat_one, List.length_map, List.length_nil, Int.reduceToNat, Nat.reduceAdd, Nat.reduceSub, Int.sub_zero, Int.reduceAdd, Int.reduceSub, Nat.sub_self, Int.toNat_natCast_add_one, bs_len, List.length_append, List.length_cons, List.length_set, List.length_replicate, List.length_range]; first | done | omega)) ?_ | refine fE.of rfl ?_ | refine fB.of (Nat.beq_refl _) ?_ | refine sN.eq (by first | (simp only [Nat.zero_add, Nat.add_zero, Nat.sub_zero, Int.toNat_natCast, Int.toNat_zero, Int.toNat_one, List.length_map, List.length_nil, Int.reduceToNat, Nat.reduceAdd, Nat.reduceSub, Int.sub_zero, Int.reduceAdd, Int.reduceSub, Nat.sub_self, Int.toNat_natCast_add_one, bs_len]; rfl) | rfl) ?_ | refine fO.of (map_set_rd (by omega)) ?_ | refine fO.of (map_rd (by omega)) ?_ | refine sBool.eq (like_map (by first | with_reducible assumption | omega | (simp only [List.length_set]; omega))) ?_ | refine sR.eq (by first | (simp only [Nat.add_zero, Nat.zero_add, Nat.reduceAdd, List.drop_zero, List.take_succ_cons, List.take_nil, List.drop_succ_cons, List.drop_nil, List.take_zero, List.nil_append, List.append_nil, List.map_nil, drop_suf, take_pre, drop_map, List.take_length, take_len_set, take_len_app, List.set_set, List.length_map, set_rIns, rep_rIns, set_rEvent, rep_rEvent, snoc_rKept, snoc_rEvent, snoc_rIns, bytesT_bs, snoc_rI, snoc_rB, snoc_rBool, set_rI, set_rBool, rep_rI, rep_rBool, map_app]; rfl) | rfl) ?_ | refine fB.of (wide_map (fun _ => rfl) _) ?_ | refine fB.of (full_map (fun _ => rfl) _) ?_ | refine fB.of (full_map (fun x => full_rKept x) _) ?_ | refine fB.of (by first | rfl | (simp only [full_map, wide_map]; done)) ?_ | refine sDraw.none (id := 6) (ty := tys) rfl (by decide +kernel) ?_)) <;> (try (conv => whnf)))
  case' refine_1 h =>
    refine ⟨⟨j + 1, (by (try dsimp only [cond_true, cond_false]); exact ⟨⟨rfl, rfl, rfl, trivial⟩, ⟨rfl, rfl, trivial⟩⟩), ?_, ?_⟩⟩
    · show j + 1 ≤ _; omega
    · show l.length - (j + 1) < l.length - j; omega
theorem ok_laws_eqState (k : Nat) (a c : Int) (r o : List Int) (hr : r.length ≤ 100000000000) (ho : o.length ≤ 100000000000) : callE PR C (k + 2) 31 [.ag [i64 a, .h 1000000 0 0 [] 1 0 r.length, .h 1000001 0 0 [] 1 0 o.length, i64 c], .ag [i64 a, .h 1000002 0 0 [] 1 0 r.length, .h 1000003 0 0 [] 1 0 o.length, i64 c]] [tI r, tI o, tI r, tI o] = some ⟨bl true, [], [none, none, none, none]⟩ := by
  (refine callE_is (callE_w [ResultVar.tmp 4] rfl Try.func31 rfl (by decide +kernel) rfl (by simp) ?_); (conv => whnf))
  repeat' ((with_reducible (first | refine sCall.of (ok_laws_eqIntS _ _ hr) ?_ | refine sCall.of (ok_laws_eqIntS _ _ ho) ?_ | refine fG.pos (by first | with_reducible assumption | omega) ?_ | refine fG.neg (by first | with_reducible assumption | omega) ?_ | refine fG.split (fun _ => ?_) (fun _ => ?_) | refine fG.not ?_ | refine fG.yes (by with_reducible assumption) ?_ | refine fG.no (by with_reducible assumption) ?_ | refine fG.yes (flat_map (fun _ => rfl) _) ?_ | refine fG.bool (fun _ => ?_) (fun _ => ?_) | refine sW.i64 (by omega) ?_ | refine sW.u8 (by omega) ?_ | refine sI.mk (by first | with_reducible assumption | omega | (simp only [Nat.zero_add, Nat.add_zero, Nat.sub_zero, Int.toNat_natCast, Int.toNat_zero, Int.toNat_one, List.length_map, List.length_nil, Int.reduceToNat, Nat.reduceAdd, Nat.reduceSub, Int.sub_zero, Int.reduceAdd, Int.reduceSub, Nat.sub_self, Int.toNat_natCast_add_one, bs_len, List.length_append, List.length_cons, List.length_set, List.length_replicate, List.length_range]; first | done | omega)) ?_ | refine fE.of rfl ?_ | refine fB.of (Nat.beq_refl _) ?_ | refine sN.eq (by first | (simp only [Nat.zero_add, Nat.add_zero, Nat.sub_zero, Int.toNat_natCast, Int.toNat_zero, Int.toNat_one, List.length_map, List.length_nil, Int.reduceToNat, Nat.reduceAdd, Nat.reduceSub, Int.sub_zero, Int.reduceAdd, Int.reduceSub, Nat.sub_self, Int.toNat_natCast_add_one, bs_len]; rfl) | rfl) ?_ | refine fO.of (map_set_rd (by omega)) ?_ | refine fO.of (map_rd (by omega)) ?_ | refine sBool.eq (like_map (by first | with_reducible assumption | omega | (simp only [List.length_set]; omega))) ?_ | refine sR.eq (by first | (simp only [Nat.add_zero, Nat.zero_add, Nat.reduceAdd, List.drop_zero, List.take_succ_cons, List.take_nil, List.drop_succ_cons, List.drop_nil, List.take_zero, List.nil_append, List.append_nil, List.map_nil, drop_suf, take_pre, drop_map, List.take_length, take_len_set, take_len_app, List.set_set, List.length_map, set_rIns, rep_rIns, set_rEvent, rep_rEvent, snoc_rKept, snoc_rEvent, snoc_rIns, bytesT_bs, snoc_rI, snoc_rB, snoc_rBool, set_rI, set_rBool, rep_rI, rep_rBool, map_app]; rfl) | rfl) ?_ | refine fB.of (wide_map (fun _ => rfl) _) ?_ | refine fB.of (full_map (fun _ => rfl) _) ?_ | refine fB.of (full_map (fun x => full_rKept x) _) ?_ | refine fB.of (by first | rfl | (simp only [full_map, wide_map]; done)) ?_)) <;> (try (conv => whnf)))
theorem ok_laws_eqKept (k : Nat) (n a c : Int) (r o : List Int) (hr : r.length ≤ 100000000000) (ho : o.length ≤ 100000000000) : callE PR C (k + 3) 21 [.ag [i64 n, i64 a, .h 1000000 0 0 [] 1 0 r.length, .h 1000001 0 0 [] 1 0 o.length, i64 c], .ag [i64 n, i64 a, .h 1000002 0 0 [] 1 0 r.length, .h 1000003 0 0 [] 1 0 o.length, i64 c]] [tI r, tI o, tI r, tI o] = some ⟨bl true, [], [none, none, none, none]⟩ := by
  (refine callE_is (callE_w [ResultVar.tmp 4] rfl Try.func21 rfl (by decide +kernel) rfl (by simp) ?_); (conv => whnf))
  repeat' ((with_reducible (first | refine sCall.of (ok_laws_eqState _ _ _ _ _ hr ho) ?_ | refine fG.pos (by first | with_reducible assumption | omega) ?_ | refine fG.neg (by first | with_reducible assumption | omega) ?_ | refine fG.split (fun _ => ?_) (fun _ => ?_) | refine fG.not ?_ | refine fG.yes (by with_reducible assumption) ?_ | refine fG.no (by with_reducible assumption) ?_ | refine fG.yes (flat_map (fun _ => rfl) _) ?_ | refine fG.bool (fun _ => ?_) (fun _ => ?_) | refine sW.i64 (by omega) ?_ | refine sW.u8 (by omega) ?_ | refine sI.mk (by first | with_reducible assumption | omega | (simp only [Nat.zero_add, Nat.add_zero, Nat.sub_zero, Int.toNat_natCast, Int.toNat_zero, Int.toNat_one, List.length_map, List.length_nil, Int.reduceToNat, Nat.reduceAdd, Nat.reduceSub, Int.sub_zero, Int.reduceAdd, Int.reduceSub, Nat.sub_self, Int.toNat_natCast_add_one, bs_len, List.length_append, List.length_cons, List.length_set, List.length_replicate, List.length_range]; first | done | omega)) ?_ | refine fE.of rfl ?_ | refine fB.of (Nat.beq_refl _) ?_ | refine sN.eq (by first | (simp only [Nat.zero_add, Nat.add_zero, Nat.sub_zero, Int.toNat_natCast, Int.toNat_zero, Int.toNat_one, List.length_map, List.length_nil, Int.reduceToNat, Nat.reduceAdd, Nat.reduceSub, Int.sub_zero, Int.reduceAdd, Int.reduceSub, Nat.sub_self, Int.toNat_natCast_add_one, bs_len]; rfl) | rfl) ?_ | refine fO.of (map_set_rd (by omega)) ?_ | refine fO.of (map_rd (by omega)) ?_ | refine sBool.eq (like_map (by first | with_reducible assumption | omega | (simp only [List.length_set]; omega))) ?_ | refine sR.eq (by first | (simp only [Nat.add_zero, Nat.zero_add, Nat.reduceAdd, List.drop_zero, List.take_succ_cons, List.take_nil, List.drop_succ_cons, List.drop_nil, List.take_zero, List.nil_append, List.append_nil, List.map_nil, drop_suf, take_pre, drop_map, List.take_length, take_len_set, take_len_app, List.set_set, List.length_map, set_rIns, rep_rIns, set_rEvent, rep_rEvent, snoc_rKept, snoc_rEvent, snoc_rIns, bytesT_bs, snoc_rI, snoc_rB, snoc_rBool, set_rI, set_rBool, rep_rI, rep_rBool, map_app]; rfl) | rfl) ?_ | refine fB.of (wide_map (fun _ => rfl) _) ?_ | refine fB.of (full_map (fun _ => rfl) _) ?_ | refine fB.of (full_map (fun x => full_rKept x) _) ?_ | refine fB.of (by first | rfl | (simp only [full_map, wide_map]; done)) ?_)) <;> (try (conv => whnf)))

/-! ### Marks -/
/-- Marked lists: 'one' marks an element from a number on, 'wt' tells how many marks that takes. -/
def marks {α : Type} (one : Int → α → α) (wt : α → Nat) : Int → List α → List α
  | _, [] => []
  | m, x :: r => one m x :: marks one wt (m + wt x) r
def wts {α : Type} (wt : α → Nat) : List α → Nat
  | [] => 0
  | x :: r => wt x + wts wt r
theorem wts_app {α : Type} (wt : α → Nat) (l m : List α) : wts wt (l ++ m) = wts wt l + wts wt m := by
  induction l with
  | nil => simp [wts]
  | cons x l ih => simp only [List.cons_append, wts, ih]; omega
theorem marks_app {α : Type} (one : Int → α → α) (wt : α → Nat) (l r : List α) : ∀ m, marks one wt m (l ++ r) = marks one wt m l ++ marks one wt (m + wts wt l) r := by
  induction l with
  | nil => intro m; simp [wts, marks]
  | cons x l ih => intro m; simp only [List.cons_append, marks, wts, ih]; rw [show m + (wt x : Int) + (wts wt l : Int) = m + ((wt x + wts wt l : Nat) : Int) by omega]
theorem marks_len {α : Type} (one : Int → α → α) (wt : α → Nat) (l : List α) : ∀ m, (marks one wt m l).length = l.length := by
  induction l with
  | nil => intro m; rfl
  | cons x l ih => intro m; simp only [marks, List.length_cons, ih]
theorem take_rd {α : Type} [Inhabited α] {l : List α} {j : Nat} (h : j < l.length) : l.take (j + 1) = l.take j ++ [rd l j] := by
  rw [List.take_succ_eq_append_getElem h]; simp [rd, h]
/-- A list whose first elements are marked. -/
def half {α : Type} (one : Int → α → α) (wt : α → Nat) (m : Int) (l : List α) (j : Nat) : List α := marks one wt m (l.take j) ++ l.drop j
theorem half_len {α : Type} (one : Int → α → α) (wt : α → Nat) (m : Int) (l : List α) (j : Nat) : (half one wt m l j).length = l.length := by simp [half, marks_len]; omega
theorem half_set {α : Type} [Inhabited α] (one : Int → α → α) (wt : α → Nat) (m : Int) (l : List α) (j : Nat) (h : j < l.length) :
    (half one wt m l j).set j (one (m + wts wt (l.take j)) (rd l j)) = half one wt m l (j + 1) := by
  have hl : (marks one wt m (l.take j)).length = j := by simp [marks_len]; omega
  unfold half
  rw [take_rd h, marks_app, drop_rd h, List.set_append, hl]
  simp [marks]
theorem half_rd {α : Type} [Inhabited α] (one : Int → α → α) (wt : α → Nat) (m : Int) (l : List α) (j : Nat) (h : j < l.length) : rd (half one wt m l j) j = rd l j := by
  have hl : (marks one wt m (l.take j)).length = j := by simp [marks_len]; omega
  unfold half
  rw [drop_rd h]
  simp only [rd, List.getD, List.getElem?_append, hl]
  simp
theorem half_zero {α : Type} (one : Int → α → α) (wt : α → Nat) (m : Int) (l : List α) : half one wt m l 0 = l := by simp [half, marks]
theorem half_all {α : Type} (one : Int → α → α) (wt : α → Nat) (m : Int) (l : List α) : half one wt m l l.length = marks one wt m l := by simp [half]
theorem wts_take {α : Type} [Inhabited α] (wt : α → Nat) (l : List α) (j : Nat) (h : j < l.length) : wts wt (l.take (j + 1)) = wts wt (l.take j) + wt (rd l j) := by
  rw [take_rd h, wts_app]; simp [wts]
theorem wts_le {α : Type} (wt : α → Nat) (l : List α) (j : Nat) : wts wt (l.take j) ≤ wts wt l := by
  have := wts_app wt (l.take j) (l.drop j)
  rw [List.take_append_drop] at this
  omega
theorem marks_rd {α : Type} [Inhabited α] (one : Int → α → α) (wt : α → Nat) (m : Int) (l : List α) (j : Nat) (h : j < l.length) : rd (marks one wt m l) j = one (m + wts wt (l.take j)) (rd l j) := by
  have hl : (marks one wt m (l.take j)).length = j := by simp [marks_len]; omega
  have e : l = l.take j ++ rd l j :: l.drop (j + 1) := by rw [← drop_rd h, List.take_append_drop]
  conv => lhs; rw [e]
  rw [marks_app]
  simp only [rd, List.getD, List.getElem?_append, hl]
  simp [marks]
theorem wts_const {α : Type} (n : Nat) (l : List α) : wts (fun _ => n) l = n * l.length := by
  induction l with
  | nil => rfl
  | cons x l ih => simp only [wts, ih, List.length_cons, Nat.mul_add]; omega
structure TM (α : Type) where
  j : Nat
  m : Int
  l : List α
  g : Nat
  d : Bool
abbrev tI8 (l : List Int) : Cont := .tree 8 (.sl 1 (l.map rI))
def mInt (m : Int) (x : Int) : Int := m
def wInt (x : Int) : Nat := 1
abbrev marksI (m : Int) (l : List Int) : List Int := marks mInt wInt m l
theorem wts_wInt (l : List Int) : wts wInt l = l.length := (wts_const 1 l).trans (Nat.one_mul _)
theorem ok_laws_markIntS (k : Nat) (l : List Int) (m : Int) (hl : l.length ≤ 100000000000) (h0 : 0 ≤ m) (h1 : m ≤ 100000000000) : callE PR C (k + 1) 24 [.h 1000000 0 0 [] 1 0 l.length, i64 m] [tI8 l] = some ⟨i64 (m + l.length), [], [some (tI8 (marksI m l))]⟩ := by
  (refine callE_is (callE_w [ResultVar.tmp 4] rfl Try.func24 rfl (by decide +kernel) rfl (by simp) ?_); (conv => whnf))
  repeat' ((with_reducible (first | refine fG.pos (by first | with_reducible assumption | omega) ?_ | refine fG.neg (by first | with_reducible assumption | omega) ?_ | refine fG.split (fun _ => ?_) (fun _ => ?_) | refine fG.not ?_ | refine fG.yes (by with_reducible assumption) ?_ | refine fG.no (by with_reducible assumption) ?_ | refine fG.yes (flat_map (fun _ => rfl) _) ?_ | refine fG.bool (fun _ => ?_) (fun _ => ?_) | refine sW.i64 (by omega) ?_ | refine sW.u8 (by omega) ?_ | refine sI.mk (by first | with_reducible assumption | omega | (simp only [Nat.zero_add, Nat.add_zero, Nat.sub_zero, Int.toNat_natCast, Int.toNat_zero, Int.toNat_one, List.length_map, List.length_nil, Int.reduceToNat, Nat.reduceAdd, Nat.reduceSub, Int.sub_zero, Int.reduceAdd, Int.reduceSub, Nat.sub_self, Int.toNat_natCast_add_one, bs_len, List.length_append, List.length_cons, List.length_set, List.length_replicate, List.length_range]; first | done | omega)) ?_ | refine fE.of rfl ?_ | refine fB.of (Nat.beq_refl _) ?_ | refine sN.eq (by first | (simp only [Nat.zero_add, Nat.add_zero, Nat.sub_zero, Int.toNat_natCast, Int.toNat_zero, Int.toNat_one, List.length_map, List.length_nil, Int.reduceToNat, Nat.reduceAdd, Nat.reduceSub, Int.sub_zero, Int.reduceAdd, Int.reduceSub, Nat.sub_self, Int.toNat_natCast_add_one, bs_len]; rfl) | rfl) ?_ | refine fO.of (map_set_rd (by omega)) ?_ | refine fO.of (map_rd (by omega)) ?_ | refine sBool.eq (like_map (by first | with_reducible assumption | omega | (simp only [List.length_set]; omega))) ?_ | refine sR.eq (by first | (simp only [Nat.add_zero, Nat.zero_add, Nat.reduceAdd, List.drop_zero, List.take_succ_cons, List.take_nil, List.drop_succ_cons, List.drop_nil, List.take_zero, List.nil_append, List.append_nil, List.map_nil, drop_suf, take_pre, drop_map, List.take_length, take_len_set, take_len_app, List.set_set, List.length_map, set_rIns, rep_rIns, set_rEvent, rep_rEvent, snoc_rKept, snoc_rEvent, snoc_rIns, bytesT_bs, snoc_rI, snoc_rB, snoc_rBool, set_rI, set_rBool, rep_rI, rep_rBool, map_app]; rfl) | rfl) ?_ | refine fB.of (wide_map (fun _ => rfl) _) ?_ | refine fB.of (full_map (fun _ => rfl) _) ?_ | refine fB.of (full_map (fun x => full_rKept x) _) ?_ | refine fB.of (by first | rfl | (simp only [full_map, wide_map]; done)) ?_)) <;> (try (conv => whnf)))
  refine loop_rule (ι := TM Int) (fun x => [(0, .h 1000000 0 0 [] 1 0 l.length), (1, i64 x.m), (5, i64 (x.j : Nat))])
    (fun x => [(1000000, ⟨0, x.g, x.d, tI8 x.l⟩)])
    (fun x => l.length - x.j) (fun x => x.j ≤ l.length ∧ x.l = half mInt wInt m l x.j ∧ x.m = m + x.j) ⟨0, m, l, 0, false⟩ (by (try dsimp only [cond_true, cond_false]); exact ⟨⟨rfl, rfl, rfl, trivial⟩, ⟨rfl, trivial⟩⟩) ⟨Nat.zero_le _, (half_zero _ _ m l).symm, by simp⟩ (by simp [C]; omega) ?_
  rintro ⟨j, n, out, g, d⟩ sl ob ⟨hj, hout, hn⟩
  dsimp only at hj hout hn
  have hlen : out.length = l.length := by rw [hout, half_len]
  (dsimp only [cond_true, cond_false])
  (conv => whnf)
  repeat' ((with_reducible (first | refine fG.pos (by first | with_reducible assumption | omega) ?_ | refine fG.neg (by first | with_reducible assumption | omega) ?_ | refine fG.split (fun _ => ?_) (fun _ => ?_) | refine fG.not ?_ | refine fG.yes (by with_reducible assumption) ?_ | refine fG.no (by with_reducible assumption) ?_ | refine fG.yes (flat_map (fun _ => rfl) _) ?_ | refine fG.bool (fun _ => ?_) (fun _ => ?_) | refine sW.i64 (by omega) ?_ | refine sW.u8 (by omega) ?_ | refine sI.mk (by first | with_reducible assumption | omega | (simp only [Nat.zero_add, Nat.add_zero, Nat.sub_zero, Int.toNat_natCast, Int.toNat_zero, Int.toNat_one, List.length_map, List.length_nil, Int.reduceToNat, Nat.reduceAdd, Nat.reduceSub, Int.sub_zero, Int.reduceAdd, Int.reduceSub, Nat.sub_self, Int.toNat_natCast_add_one, bs_len, List.length_append, List.length_cons, List.length_set, List.length_replicate, List.length_range]; first | done | omega)) ?_ | refine fE.of rfl ?_ | refine fB.of (Nat.beq_refl _) ?_ | refine sN.eq (by first | (simp only [Nat.zero_add, Nat.add_zero, Nat.sub_zero, Int.toNat_natCast, Int.toNat_zero, Int.toNat_one, List.length_map, List.length_nil, Int.reduceToNat, Nat.reduceAdd, Nat.reduceSub, Int.sub_zero, Int.reduceAdd, Int.reduceSub, Nat.sub_self, Int.toNat_natCast_add_one, bs_len]; rfl) | rfl) ?_ | refine fO.of (map_set_rd (by omega)) ?_ | refine fO.of (map_rd (by omega)) ?_ | refine sBool.eq (like_map (by first | with_reducible assumption | omega | (simp only [List.length_set]; omega))) ?_ | refine sR.eq (by first | (simp only [Nat.add_zero, Nat.zero_add, Nat.reduceAdd, List.drop_zero, List.take_succ_cons, List.take_nil, List.drop_succ_cons, List.drop_nil, List.take_zero, List.nil_append, List.append_nil, List.map_nil, drop_suf, take_pre, drop_map, List.take_length, take_len_set, take_len_app, List.set_set, List.length_map, set_rIns, rep_rIns, set_rEvent, rep_rEvent, snoc_rKept, snoc_rEvent, snoc_rIns, bytesT_bs, snoc_rI, snoc_rB, snoc_rBool, set_rI, set_rBool, rep_rI, rep_rBool, map_app]; rfl) | rfl) ?_ | refine fB.of (wide_map (fun _ => rfl) _) ?_ | refine fB.of (full_map (fun _ => rfl) _) ?_ | refine fB.of (full_map (fun x => full_rKept x) _) ?_ | refine fB.of (by first | rfl | (simp only [full_map, wide_map]; done)) ?_)) <;> (try (conv => whnf)))
  case' refine_1 h =>
    refine ⟨⟨⟨j + 1, n + 1, out.set j n, _, _⟩, (by (try dsimp only [cond_true, cond_false]); exact ⟨⟨rfl, rfl, rfl, trivial⟩, ⟨rfl, trivial⟩⟩), ?_, ?_⟩⟩
    · refine ⟨by show j + 1 ≤ _; omega, ?_, by show _ = _; push_cast; omega⟩
      show _ = _
      rw [← half_set _ _ m l j (by omega), hout, hn]
      simp only [wts_wInt, List.length_take, mInt, show min j l.length = j by omega]
    · show l.length - (j + 1) < l.length - j; omega
  case refine_2 h =>
    have : j = l.length := by omega
    rw [hout, hn, this, half_all]

theorem set_set3 {α : Type} (l : List α) (n : Nat) (x y : α) : (l.set n x).set n y = l.set n y := List.set_set ..
def mIns (m : Int) (x : Ins) : Ins := ⟨m, m + 1, m + 1 + 1, m + 1 + 1 + 1, m + 1 + 1 + 1 + 1⟩
def wIns (x : Ins) : Nat := 5
def mEvent (m : Int) (x : Event) : Event := ⟨m, m + 1, m + 1 + 1⟩
def wEvent (x : Event) : Nat := 3
theorem wts_wIns (l : List Ins) : wts wIns l = 5 * l.length := wts_const 5 l
theorem wts_wEvent (l : List Event) : wts wEvent l = 3 * l.length := wts_const 3 l
theorem ok_laws_markInsS (k : Nat) (l : List Ins) (m : Int) (hl : l.length ≤ 100000000000) (h0 : 0 ≤ m) (h1 : m ≤ 100000000000) : callE PR C (k + 1) 13 [hIns 0 l, i64 m] [tIns9 l] = some ⟨i64 (m + 5 * l.length), [], [some (tIns9 (marks mIns wIns m l))]⟩ := by
  (refine callE_is (callE_w [ResultVar.tmp 4] rfl Try.func13 rfl (by decide +kernel) rfl (by simp) ?_); (conv => whnf))
  repeat' ((with_reducible (first | refine fG.pos (by first | with_reducible assumption | omega) ?_ | refine fG.neg (by first | with_reducible assumption | omega) ?_ | refine fG.split (fun _ => ?_) (fun _ => ?_) | refine fG.not ?_ | refine fG.yes (by with_reducible assumption) ?_ | refine fG.no (by with_reducible assumption) ?_ | refine fG.yes (flat_map (fun _ => rfl) _) ?_ | refine fG.bool (fun _ => ?_) (fun _ => ?_) | refine sW.i64 (by omega) ?_ | refine sW.u8 (by omega) ?_ | refine sI.mk (by first | with_reducible assumption | omega | (simp only [Nat.zero_add, Nat.add_zero, Nat.sub_zero, Int.toNat_natCast, Int.toNat_zero, Int.toNat_one, List.length_map, List.length_nil, Int.reduceToNat, Nat.reduceAdd, Nat.reduceSub, Int.sub_zero, Int.reduceAdd, Int.reduceSub, Nat.sub_self, Int.toNat_natCast_add_one, bs_len, List.length_append, List.length_cons, List.length_set, List.length_replicate, List.length_range]; first | done | omega)) ?_ | refine fE.of rfl ?_ | refine fB.of (Nat.beq_refl _) ?_ | refine sN.eq (by first | (simp only [Nat.zero_add, Nat.add_zero, Nat.sub_zero, Int.toNat_natCast, Int.toNat_zero, Int.toNat_one, List.length_map, List.length_nil, Int.reduceToNat, Nat.reduceAdd, Nat.reduceSub, Int.sub_zero, Int.reduceAdd, Int.reduceSub, Nat.sub_self, Int.toNat_natCast_add_one, bs_len]; rfl) | rfl) ?_ | refine fO.of (map_set_rd (by omega)) ?_ | refine fO.of (map_rd (by omega)) ?_ | refine sBool.eq (like_map (by first | with_reducible assumption | omega | (simp only [List.length_set]; omega))) ?_ | refine sR.eq (by first | (simp only [Nat.add_zero, Nat.zero_add, Nat.reduceAdd, List.drop_zero, List.take_succ_cons, List.take_nil, List.drop_succ_cons, List.drop_nil, List.take_zero, List.nil_append, List.append_nil, List.map_nil, drop_suf, take_pre, drop_map, List.take_length, take_len_set, take_len_app, List.set_set, List.length_map, set_rIns, rep_rIns, set_rEvent, rep_rEvent, snoc_rKept, snoc_rEvent, snoc_rIns, bytesT_bs, snoc_rI, snoc_rB, snoc_rBool, set_rI, set_rBool, rep_rI, rep_rBool, map_app]; rfl) | rfl) ?_ | refine fB.of (wide_map (fun _ => rfl) _) ?_ | refine fB.of (full_map (fun _ => rfl) _) ?_ | refine fB.of (full_map (fun x => full_rKept x) _) ?_ | refine fB.of (by first | rfl | (simp only [full_map, wide_map]; done)) ?_)) <;> (try (conv => whnf)))
  refine loop_rule (ι := TM Ins) (fun x => [(0, hIns 0 l), (1, i64 x.m), (5, i64 (x.j : Nat))])
    (fun x => [(1000000, ⟨0, x.g, x.d, tIns9 x.l⟩)])
    (fun x => l.length - x.j) (fun x => x.j ≤ l.length ∧ x.l = half mIns wIns m l x.j ∧ x.m = m + 5 * x.j) ⟨0, m, l, 0, false⟩ (by (try dsimp only [cond_true, cond_false]); exact ⟨⟨rfl, rfl, rfl, trivial⟩, ⟨rfl, trivial⟩⟩) ⟨Nat.zero_le _, (half_zero _ _ m l).symm, by simp⟩ (by simp [C]; omega) ?_
  rintro ⟨j, n, out, g, d⟩ sl ob ⟨hj, hout, hn⟩
  dsimp only at hj hout hn
  have hlen : out.length = l.length := by rw [hout, half_len]
  (dsimp only [cond_true, cond_false])
  (conv => whnf)
  repeat' ((with_reducible (first | refine fG.pos (by first | with_reducible assumption | omega) ?_ | refine fG.neg (by first | with_reducible assumption | omega) ?_ | refine fG.split (fun _ => ?_) (fun _ => ?_) | refine fG.not ?_ | refine fG.yes (by with_reducible assumption) ?_ | refine fG.no (by with_reducible assumption) ?_ | refine fG.yes (flat_map (fun _ => rfl) _) ?_ | refine fG.bool (fun _ => ?_) (fun _ => ?_) | refine sW.i64 (by omega) ?_ | refine sW.u8 (by omega) ?_ | refine sI.mk (by first | with_reducible assumption | omega | (simp only [Nat.zero_add, Nat.add_zero, Nat.sub_zero, Int.toNat_natCast, Int.toNat_zero, Int.toNat_one, List.length_map, List.length_nil, Int.reduceToNat, Nat.reduceAdd, Nat.reduceSub, Int.sub_zero, Int.reduceAdd, Int.reduceSub, Nat.sub_self, Int.toNat_natCast_add_one, bs_len, List.length_append, List.length_cons, List.length_set, List.length_replicate, List.length_range]; first | done | omega)) ?_ | refine fE.of rfl ?_ | refine fB.of (Nat.beq_refl _) ?_ | refine sN.eq (by first | (simp only [Nat.zero_add, Nat.add_zero, Nat.sub_zero, Int.toNat_natCast, Int.toNat_zero, Int.toNat_one, List.length_map, List.length_nil, Int.reduceToNat, Nat.reduceAdd, Nat.reduceSub, Int.sub_zero, Int.reduceAdd, Int.reduceSub, Nat.sub_self, Int.toNat_natCast_add_one, bs_len]; rfl) | rfl) ?_ | refine fO.of (map_set_rd (by omega)) ?_ | refine fO.of (map_rd (by omega)) ?_ | refine sBool.eq (like_map (by first | with_reducible assumption | omega | (simp only [List.length_set]; omega))) ?_ | refine sR.eq (by first | (simp only [Nat.add_zero, Nat.zero_add, Nat.reduceAdd, List.drop_zero, List.take_succ_cons, List.take_nil, List.drop_succ_cons, List.drop_nil, List.take_zero, List.nil_append, List.append_nil, List.map_nil, drop_suf, take_pre, drop_map, List.take_length, take_len_set, take_len_app, List.set_set, List.length_map, set_rIns, rep_rIns, set_rEvent, rep_rEvent, snoc_rKept, snoc_rEvent, snoc_rIns, bytesT_bs, snoc_rI, snoc_rB, snoc_rBool, set_rI, set_rBool, rep_rI, rep_rBool, map_app]; rfl) | rfl) ?_ | refine fB.of (wide_map (fun _ => rfl) _) ?_ | refine fB.of (full_map (fun _ => rfl) _) ?_ | refine fB.of (full_map (fun x => full_rKept x) _) ?_ | refine fB.of (by first | rfl | (simp only [full_map, wide_map]; done)) ?_)) <;> (try (conv => whnf)))
  case' refine_1 h =>
    refine ⟨⟨⟨j + 1, n + 1 + 1 + 1 + 1 + 1, out.set j ⟨n, n + 1, n + 1 + 1, n + 1 + 1 + 1, n + 1 + 1 + 1 + 1⟩, _, _⟩, (by (try dsimp only [cond_true, cond_false]); exact ⟨⟨rfl, rfl, rfl, trivial⟩, ⟨rfl, trivial⟩⟩), ?_, ?_⟩⟩
    · refine ⟨by show j + 1 ≤ _; omega, ?_, by show _ = _; push_cast; omega⟩
      show _ = _
      rw [← half_set _ _ m l j (by omega), hout, hn]
      simp only [wts_wIns, List.length_take, mIns, show min j l.length = j by omega, Int.natCast_mul]
      rfl
    · show l.length - (j + 1) < l.length - j; omega
  case refine_2 h =>
    have : j = l.length := by omega
    rw [hout, hn, this, half_all]
theorem ok_laws_markEventS (k : Nat) (l : List Event) (m : Int) (hl : l.length ≤ 100000000000) (h0 : 0 ≤ m) (h1 : m ≤ 100000000000) : callE PR C (k + 1) 14 [hEvent 0 l, i64 m] [tEvent9 l] = some ⟨i64 (m + 3 * l.length), [], [some (tEvent9 (marks mEvent wEvent m l))]⟩ := by
  (refine callE_is (callE_w [ResultVar.tmp 4] rfl Try.func14 rfl (by decide +kernel) rfl (by simp) ?_); (conv => whnf))
  repeat' ((with_reducible (first | refine fG.pos (by first | with_reducible assumption | omega) ?_ | refine fG.neg (by first | with_reducible assumption | omega) ?_ | refine fG.split (fun _ => ?_) (fun _ => ?_) | refine fG.not ?_ | refine fG.yes (by with_reducible assumption) ?_ | refine fG.no (by with_reducible assumption) ?_ | refine fG.yes (flat_map (fun _ => rfl) _) ?_ | refine fG.bool (fun _ => ?_) (fun _ => ?_) | refine sW.i64 (by omega) ?_ | refine sW.u8 (by omega) ?_ | refine sI.mk (by first | with_reducible assumption | omega | (simp only [Nat.zero_add, Nat.add_zero, Nat.sub_zero, Int.toNat_natCast, Int.toNat_zero, Int.toNat_one, List.length_map, List.length_nil, Int.reduceToNat, Nat.reduceAdd, Nat.reduceSub, Int.sub_zero, Int.reduceAdd, Int.reduceSub, Nat.sub_self, Int.toNat_natCast_add_one, bs_len, List.length_append, List.length_cons, List.length_set, List.length_replicate, List.length_range]; first | done | omega)) ?_ | refine fE.of rfl ?_ | refine fB.of (Nat.beq_refl _) ?_ | refine sN.eq (by first | (simp only [Nat.zero_add, Nat.add_zero, Nat.sub_zero, Int.toNat_natCast, Int.toNat_zero, Int.toNat_one, List.length_map, List.length_nil, Int.reduceToNat, Nat.reduceAdd, Nat.reduceSub, Int.sub_zero, Int.reduceAdd, Int.reduceSub, Nat.sub_self, Int.toNat_natCast_add_one, bs_len]; rfl) | rfl) ?_ | refine fO.of (map_set_rd (by omega)) ?_ | refine fO.of (map_rd (by omega)) ?_ | refine sBool.eq (like_map (by first | with_reducible assumption | omega | (simp only [List.length_set]; omega))) ?_ | refine sR.eq (by first | (simp only [Nat.add_zero, Nat.zero_add, Nat.reduceAdd, List.drop_zero, List.take_succ_cons, List.take_nil, List.drop_succ_cons, List.drop_nil, List.take_zero, List.nil_append, List.append_nil, List.map_nil, drop_suf, take_pre, drop_map, List.take_length, take_len_set, take_len_app, List.set_set, List.length_map, set_rIns, rep_rIns, set_rEvent, rep_rEvent, snoc_rKept, snoc_rEvent, snoc_rIns, bytesT_bs, snoc_rI, snoc_rB, snoc_rBool, set_rI, set_rBool, rep_rI, rep_rBool, map_app]; rfl) | rfl) ?_ | refine fB.of (wide_map (fun _ => rfl) _) ?_ | refine fB.of (full_map (fun _ => rfl) _) ?_ | refine fB.of (full_map (fun x => full_rKept x) _) ?_ | refine fB.of (by first | rfl | (simp only [full_map, wide_map]; done)) ?_)) <;> (try (conv => whnf)))
  refine loop_rule (ι := TM Event) (fun x => [(0, hEvent 0 l), (1, i64 x.m), (5, i64 (x.j : Nat))])
    (fun x => [(1000000, ⟨0, x.g, x.d, tEvent9 x.l⟩)])
    (fun x => l.length - x.j) (fun x => x.j ≤ l.length ∧ x.l = half mEvent wEvent m l x.j ∧ x.m = m + 3 * x.j) ⟨0, m, l, 0, false⟩ (by (try dsimp only [cond_true, cond_false]); exact ⟨⟨rfl, rfl, rfl, trivial⟩, ⟨rfl, trivial⟩⟩) ⟨Nat.zero_le _, (half_zero _ _ m l).symm, by simp⟩ (by simp [C]; omega) ?_
  rintro ⟨j, n, out, g, d⟩ sl ob ⟨hj, hout, hn⟩
  dsimp only at hj hout hn
  have hlen : out.length = l.length := by rw [hout, half_len]
  (dsimp only [cond_true, cond_false])
  (conv => whnf)
  repeat' ((with_reducible (first | refine fG.pos (by first | with_reducible assumption | omega) ?_ | refine fG.neg (by first | with_reducible assumption | omega) ?_ | refine fG.split (fun _ => ?_) (fun _ => ?_) | refine fG.not ?_ | refine fG.yes (by with_reducible assumption) ?_ | refine fG.no (by with_reducible assumption) ?_ | refine fG.yes (flat_map (fun _ => rfl) _) ?_ | refine fG.bool (fun _ => ?_) (fun _ => ?_) | refine sW.i64 (by omega) ?_ | refine sW.u8 (by omega) ?_ | refine sI.mk (by first | with_reducible assumption | omega | (simp only [Nat.zero_add, Nat.add_zero, Nat.sub_zero, Int.toNat_natCast, Int.toNat_zero, Int.toNat_one, List.length_map, List.length_nil, Int.reduceToNat, Nat.reduceAdd, Nat.reduceSub, Int.sub_zero, Int.reduceAdd, Int.reduceSub, Nat.sub_self, Int.toNat_natCast_add_one, bs_len, List.length_append, List.length_cons, List.length_set, List.length_replicate, List.length_range]; first | done | omega)) ?_ | refine fE.of rfl ?_ | refine fB.of (Nat.beq_refl _) ?_ | refine sN.eq (by first | (simp only [Nat.zero_add, Nat.add_zero, Nat.sub_zero, Int.toNat_natCast, Int.toNat_zero, Int.toNat_one, List.length_map, List.length_nil, Int.reduceToNat, Nat.reduceAdd, Nat.reduceSub, Int.sub_zero, Int.reduceAdd, Int.reduceSub, Nat.sub_self, Int.toNat_natCast_add_one, bs_len]; rfl) | rfl) ?_ | refine fO.of (map_set_rd (by omega)) ?_ | refine fO.of (map_rd (by omega)) ?_ | refine sBool.eq (like_map (by first | with_reducible assumption | omega | (simp only [List.length_set]; omega))) ?_ | refine sR.eq (by first | (simp only [Nat.add_zero, Nat.zero_add, Nat.reduceAdd, List.drop_zero, List.take_succ_cons, List.take_nil, List.drop_succ_cons, List.drop_nil, List.take_zero, List.nil_append, List.append_nil, List.map_nil, drop_suf, take_pre, drop_map, List.take_length, take_len_set, take_len_app, List.set_set, List.length_map, set_rIns, rep_rIns, set_rEvent, rep_rEvent, snoc_rKept, snoc_rEvent, snoc_rIns, bytesT_bs, snoc_rI, snoc_rB, snoc_rBool, set_rI, set_rBool, rep_rI, rep_rBool, map_app]; rfl) | rfl) ?_ | refine fB.of (wide_map (fun _ => rfl) _) ?_ | refine fB.of (full_map (fun _ => rfl) _) ?_ | refine fB.of (full_map (fun x => full_rKept x) _) ?_ | refine fB.of (by first | rfl | (simp only [full_map, wide_map]; done)) ?_)) <;> (try (conv => whnf)))
  case' refine_1 h =>
    refine ⟨⟨⟨j + 1, n + 1 + 1 + 1, out.set j ⟨n, n + 1, n + 1 + 1⟩, _, _⟩, (by (try dsimp only [cond_true, cond_false]); exact ⟨⟨rfl, rfl, rfl, trivial⟩, ⟨rfl, trivial⟩⟩), ?_, ?_⟩⟩
    · refine ⟨by show j + 1 ≤ _; omega, ?_, by show _ = _; push_cast; omega⟩
      show _ = _
      rw [← half_set _ _ m l j (by omega), hout, hn]
      simp only [wts_wEvent, List.length_take, mEvent, show min j l.length = j by omega, Int.natCast_mul]
      rfl
    · show l.length - (j + 1) < l.length - j; omega
  case refine_2 h =>
    have : j = l.length := by omega
    rw [hout, hn, this, half_all]

abbrev hKept (j : Nat) (l : List Kept) : AV := .h (1000000 + j) 0 0 [] 5 0 l.length
abbrev tKept (l : List Kept) : Cont := .tree 0 (.sl 5 (l.map rKept))
theorem set_rKept (l : List Kept) (n : Nat) (a b c : Int) (r o : List Int) : (l.map rKept).set n [.v (.int .i64 a), .v (.int .i64 b), .sl 1 (r.map rI), .sl 1 (o.map rI), .v (.int .i64 c)] = (l.set n ⟨a, b, r, o, c⟩).map rKept := by simp [rKept, List.map_set]
-- NORM set_rKept
def mKept (m : Int) (x : Kept) : Kept := ⟨m, m + 1, marksI (m + 1 + 1) x.s.regs, marksI (m + 1 + 1 + x.s.regs.length) x.s.out, m + 1 + 1 + x.s.regs.length + x.s.out.length⟩
def wKept (x : Kept) : Nat := 3 + x.s.regs.length + x.s.out.length
theorem ok_laws_markIntS' (k : Nat) (l : List Int) (m : Int) (hl : l.length ≤ 100000000000) (h0 : 0 ≤ m) (h1 : m ≤ 100000000000) : callE PR C (k + 1) 24 [.h 1000000 0 0 [] 1 0 (l.map rI).length, i64 m] [tI8 l] = some ⟨i64 (m + l.length), [], [some (tI8 (marksI m l))]⟩ := by
  rw [List.length_map]; exact ok_laws_markIntS k l m hl h0 h1
structure TH where
  j : Nat
  m : Int
theorem ok_laws_heldIntS (k : Nat) (l : List Int) (m : Int) (hl : l.length ≤ 100000000000) (h0 : 0 ≤ m) (h1 : m ≤ 100000000000) (hm : ∀ j : Nat, j < l.length → rd l j = m + j) : callE PR C (k + 1) 25 [.h 1000000 0 0 [] 1 0 l.length, i64 m] [tI l] = some ⟨i64 (m + l.length), [], [none]⟩ := by
  (refine callE_is (callE_w [ResultVar.tmp 4] rfl Try.func25 rfl (by decide +kernel) rfl (by simp) ?_); (conv => whnf))
  repeat' ((with_reducible (first | refine fG.pos (by first | with_reducible assumption | omega) ?_ | refine fG.neg (by first | with_reducible assumption | omega) ?_ | refine fG.split (fun _ => ?_) (fun _ => ?_) | refine fG.not ?_ | refine fG.yes (by with_reducible assumption) ?_ | refine fG.no (by with_reducible assumption) ?_ | refine fG.yes (flat_map (fun _ => rfl) _) ?_ | refine fG.bool (fun _ => ?_) (fun _ => ?_) | refine sW.i64 (by omega) ?_ | refine sW.u8 (by omega) ?_ | refine sI.mk (by first | with_reducible assumption | omega | (simp only [Nat.zero_add, Nat.add_zero, Nat.sub_zero, Int.toNat_natCast, Int.toNat_zero, Int.toNat_one, List.length_map, List.length_nil, Int.reduceToNat, Nat.reduceAdd, Nat.reduceSub, Int.sub_zero, Int.reduceAdd, Int.reduceSub, Nat.sub_self, Int.toNat_natCast_add_one, bs_len, List.length_append, List.length_cons, List.length_set, List.length_replicate, List.length_range]; first | done | omega)) ?_ | refine fE.of rfl ?_ | refine fB.of (Nat.beq_refl _) ?_ | refine sN.eq (by first | (simp only [Nat.zero_add, Nat.add_zero, Nat.sub_zero, Int.toNat_natCast, Int.toNat_zero, Int.toNat_one, List.length_map, List.length_nil, Int.reduceToNat, Nat.reduceAdd, Nat.reduceSub, Int.sub_zero, Int.reduceAdd, Int.reduceSub, Nat.sub_self, Int.toNat_natCast_add_one, bs_len]; rfl) | rfl) ?_ | refine fO.of (map_set_rd (by omega)) ?_ | refine fO.of (map_rd (by omega)) ?_ | refine sBool.eq (like_map (by first | with_reducible assumption | omega | (simp only [List.length_set]; omega))) ?_ | refine sR.eq (by first | (simp only [Nat.add_zero, Nat.zero_add, Nat.reduceAdd, List.drop_zero, List.take_succ_cons, List.take_nil, List.drop_succ_cons, List.drop_nil, List.take_zero, List.nil_append, List.append_nil, List.map_nil, drop_suf, take_pre, drop_map, List.take_length, take_len_set, take_len_app, List.set_set, List.length_map, set_rKept, set_rIns, rep_rIns, set_rEvent, rep_rEvent, snoc_rKept, snoc_rEvent, snoc_rIns, bytesT_bs, snoc_rI, snoc_rB, snoc_rBool, set_rI, set_rBool, rep_rI, rep_rBool, map_app]; rfl) | rfl) ?_ | refine fB.of (wide_map (fun _ => rfl) _) ?_ | refine fB.of (full_map (fun _ => rfl) _) ?_ | refine fB.of (full_map (fun x => full_rKept x) _) ?_ | refine fB.of (by first | rfl | (simp only [full_map, wide_map]; done)) ?_)) <;> (try (conv => whnf)))
  refine loop_rule (ι := TH) (fun x => [(0, .h 1000000 0 0 [] 1 0 l.length), (1, i64 x.m), (5, i64 (x.j : Nat))])
    (fun x => [(1000000, ⟨0, 0, false, tI l⟩)])
    (fun x => l.length - x.j) (fun x => x.j ≤ l.length ∧ x.m = m + x.j) ⟨0, m⟩ (by (try dsimp only [cond_true, cond_false]); exact ⟨⟨rfl, rfl, rfl, trivial⟩, ⟨rfl, trivial⟩⟩) ⟨Nat.zero_le _, by simp⟩ (by simp [C]; omega) ?_
  rintro ⟨j, n⟩ sl ob ⟨hj, hn⟩
  dsimp only at hj hn
  (dsimp only [cond_true, cond_false])
  (conv => whnf)
  have hm' : (j : Int) < l.length → rd l j = n := fun h => (hm j (by omega)).trans hn.symm
  repeat' ((with_reducible (first | refine fG.pos (by first | with_reducible assumption | omega) ?_ | refine fG.neg (by first | with_reducible assumption | omega) ?_ | refine fG.split (fun _ => ?_) (fun _ => ?_) | refine fG.not ?_ | refine fG.yes (by with_reducible assumption) ?_ | refine fG.no (by with_reducible assumption) ?_ | refine fG.yes (flat_map (fun _ => rfl) _) ?_ | refine fG.bool (fun _ => ?_) (fun _ => ?_) | refine sW.i64 (by omega) ?_ | refine sW.u8 (by omega) ?_ | refine sI.mk (by first | with_reducible assumption | omega | (simp only [Nat.zero_add, Nat.add_zero, Nat.sub_zero, Int.toNat_natCast, Int.toNat_zero, Int.toNat_one, List.length_map, List.length_nil, Int.reduceToNat, Nat.reduceAdd, Nat.reduceSub, Int.sub_zero, Int.reduceAdd, Int.reduceSub, Nat.sub_self, Int.toNat_natCast_add_one, bs_len, List.length_append, List.length_cons, List.length_set, List.length_replicate, List.length_range]; first | done | omega)) ?_ | refine fE.of rfl ?_ | refine fB.of (Nat.beq_refl _) ?_ | refine sN.eq (by first | (simp only [Nat.zero_add, Nat.add_zero, Nat.sub_zero, Int.toNat_natCast, Int.toNat_zero, Int.toNat_one, List.length_map, List.length_nil, Int.reduceToNat, Nat.reduceAdd, Nat.reduceSub, Int.sub_zero, Int.reduceAdd, Int.reduceSub, Nat.sub_self, Int.toNat_natCast_add_one, bs_len]; rfl) | rfl) ?_ | refine fO.of (map_set_rd (by omega)) ?_ | refine fO.of (map_rd (by omega)) ?_ | refine sBool.eq (like_map (by first | with_reducible assumption | omega | (simp only [List.length_set]; omega))) ?_ | refine sR.eq (by first | (simp only [Nat.add_zero, Nat.zero_add, Nat.reduceAdd, List.drop_zero, List.take_succ_cons, List.take_nil, List.drop_succ_cons, List.drop_nil, List.take_zero, List.nil_append, List.append_nil, List.map_nil, drop_suf, take_pre, drop_map, List.take_length, take_len_set, take_len_app, List.set_set, List.length_map, set_rKept, set_rIns, rep_rIns, set_rEvent, rep_rEvent, snoc_rKept, snoc_rEvent, snoc_rIns, bytesT_bs, snoc_rI, snoc_rB, snoc_rBool, set_rI, set_rBool, rep_rI, rep_rBool, map_app]; rfl) | rfl) ?_ | refine fB.of (wide_map (fun _ => rfl) _) ?_ | refine fB.of (full_map (fun _ => rfl) _) ?_ | refine fB.of (full_map (fun x => full_rKept x) _) ?_ | refine fB.of (by first | rfl | (simp only [full_map, wide_map]; done)) ?_)) <;> (try (conv => whnf)))
  case' refine_1 h =>
    refine ⟨⟨⟨j + 1, n + 1⟩, (by (try dsimp only [cond_true, cond_false]); exact ⟨⟨rfl, rfl, rfl, trivial⟩, ⟨rfl, trivial⟩⟩), ?_, ?_⟩⟩
    · exact ⟨by show j + 1 ≤ _; omega, by show _ = _; push_cast; omega⟩
    · show l.length - (j + 1) < l.length - j; omega
  case refine_2 h =>
    have : j = l.length := by omega
    rw [hn, this]
theorem ok_laws_eqKeptS (k : Nat) (l : List Kept) (hl : l.length ≤ 100000000000) (hx : ∀ j : Nat, j < l.length → (rd l j).s.regs.length ≤ 100000000000 ∧ (rd l j).s.out.length ≤ 100000000000) : callE PR C (k + 4) 10 [hKept 0 l, hKept 1 l] [tKept l, tKept l] = some ⟨bl true, [], [none, none]⟩ := by
  (refine callE_is (callE_w [ResultVar.tmp 4] rfl Try.func10 rfl (by decide +kernel) rfl (by simp) ?_); (conv => whnf))
  repeat' ((with_reducible (first | refine fG.pos (by first | with_reducible assumption | omega) ?_ | refine fG.neg (by first | with_reducible assumption | omega) ?_ | refine fG.split (fun _ => ?_) (fun _ => ?_) | refine fG.not ?_ | refine fG.yes (by with_reducible assumption) ?_ | refine fG.no (by with_reducible assumption) ?_ | refine fG.yes (flat_map (fun _ => rfl) _) ?_ | refine fG.bool (fun _ => ?_) (fun _ => ?_) | refine sW.i64 (by omega) ?_ | refine sW.u8 (by omega) ?_ | refine sI.mk (by first | with_reducible assumption | omega | (simp only [Nat.zero_add, Nat.add_zero, Nat.sub_zero, Int.toNat_natCast, Int.toNat_zero, Int.toNat_one, List.length_map, List.length_nil, Int.reduceToNat, Nat.reduceAdd, Nat.reduceSub, Int.sub_zero, Int.reduceAdd, Int.reduceSub, Nat.sub_self, Int.toNat_natCast_add_one, bs_len, List.length_append, List.length_cons, List.length_set, List.length_replicate, List.length_range]; first | done | omega)) ?_ | refine fE.of rfl ?_ | refine fB.of (Nat.beq_refl _) ?_ | refine sN.eq (by first | (simp only [Nat.zero_add, Nat.add_zero, Nat.sub_zero, Int.toNat_natCast, Int.toNat_zero, Int.toNat_one, List.length_map, List.length_nil, Int.reduceToNat, Nat.reduceAdd, Nat.reduceSub, Int.sub_zero, Int.reduceAdd, Int.reduceSub, Nat.sub_self, Int.toNat_natCast_add_one, bs_len]; rfl) | rfl) ?_ | refine fO.of (map_set_rd (by omega)) ?_ | refine fO.of (map_rd (by omega)) ?_ | refine sBool.eq (like_map (by first | with_reducible assumption | omega | (simp only [List.length_set]; omega))) ?_ | refine sR.eq (by first | (simp only [Nat.add_zero, Nat.zero_add, Nat.reduceAdd, List.drop_zero, List.take_succ_cons, List.take_nil, List.drop_succ_cons, List.drop_nil, List.take_zero, List.nil_append, List.append_nil, List.map_nil, drop_suf, take_pre, drop_map, List.take_length, take_len_set, take_len_app, List.set_set, List.length_map, set_rKept, set_rIns, rep_rIns, set_rEvent, rep_rEvent, snoc_rKept, snoc_rEvent, snoc_rIns, bytesT_bs, snoc_rI, snoc_rB, snoc_rBool, set_rI, set_rBool, rep_rI, rep_rBool, map_app]; rfl) | rfl) ?_ | refine fB.of (wide_map (fun _ => rfl) _) ?_ | refine fB.of (full_map (fun _ => rfl) _) ?_ | refine fB.of (full_map (fun x => full_rKept x) _) ?_ | refine fB.of (by first | rfl | (simp only [full_map, wide_map]; done)) ?_ | refine sDraw.none (id := 6) (ty := tys) rfl (by decide +kernel) ?_)) <;> (try (conv => whnf)))
  refine loop_rule (ι := Nat) (fun j => [(0, hKept 0 l), (1, hKept 1 l), (5, i64 (j : Nat))])
    (fun x => [(1000000, ⟨0, 0, false, tKept l⟩), (1000001, ⟨0, 0, false, tKept l⟩)])
    (fun j => l.length - j) (fun j => j ≤ l.length) 0 (by (try dsimp only [cond_true, cond_false]); exact ⟨⟨rfl, rfl, rfl, trivial⟩, ⟨rfl, rfl, trivial⟩⟩) (Nat.zero_le _) (by simp [C]; omega) ?_
  rintro j sl ob hj
  (dsimp only [cond_true, cond_false])
  (conv => whnf)
  by_cases hjl : j < l.length
  · have hx1 := (hx j hjl).1
    have hx2 := (hx j hjl).2
    repeat' ((with_reducible (first | refine sCall.of (ok_laws_eqKept _ _ _ _ _ _ hx1 hx2) ?_ | refine fG.pos (by first | with_reducible assumption | omega) ?_ | refine fG.neg (by first | with_reducible assumption | omega) ?_ | refine fG.split (fun _ => ?_) (fun _ => ?_) | refine fG.not ?_ | refine fG.yes (by with_reducible assumption) ?_ | refine fG.no (by with_reducible assumption) ?_ | refine fG.yes (flat_map (fun _ => rfl) _) ?_ | refine fG.bool (fun _ => ?_) (fun _ => ?_) | refine sW.i64 (by omega) ?_ | refine sW.u8 (by omega) ?_ | refine sI.mk (by first | with_reducible assumption | omega | (simp only [Nat.zero_add, Nat.add_zero, Nat.sub_zero, Int.toNat_natCast, Int.toNat_zero, Int.toNat_one, List.length_map, List.length_nil, Int.reduceToNat, Nat.reduceAdd, Nat.reduceSub, Int.sub_zero, Int.reduceAdd, Int.reduceSub, Nat.sub_self, Int.toNat_natCast_add_one, bs_len, List.length_append, List.length_cons, List.length_set, List.length_replicate, List.length_range]; first | done | omega)) ?_ | refine fE.of rfl ?_ | refine fB.of (Nat.beq_refl _) ?_ | refine sN.eq (by first | (simp only [Nat.zero_add, Nat.add_zero, Nat.sub_zero, Int.toNat_natCast, Int.toNat_zero, Int.toNat_one, List.length_map, List.length_nil, Int.reduceToNat, Nat.reduceAdd, Nat.reduceSub, Int.sub_zero, Int.reduceAdd, Int.reduceSub, Nat.sub_self, Int.toNat_natCast_add_one, bs_len]; rfl) | rfl) ?_ | refine fO.of (map_set_rd (by omega)) ?_ | refine fO.of (map_rd (by omega)) ?_ | refine sBool.eq (like_map (by first | with_reducible assumption | omega | (simp only [List.length_set]; omega))) ?_ | refine sR.eq (by first | (simp only [Nat.add_zero, Nat.zero_add, Nat.reduceAdd, List.drop_zero, List.take_succ_cons, List.take_nil, List.drop_succ_cons, List.drop_nil, List.take_zero, List.nil_append, List.append_nil, List.map_nil, drop_suf, take_pre, drop_map, List.take_length, take_len_set, take_len_app, List.set_set, List.length_map, set_rKept, set_rIns, rep_rIns, set_rEvent, rep_rEvent, snoc_rKept, snoc_rEvent, snoc_rIns, bytesT_bs, snoc_rI, snoc_rB, snoc_rBool, set_rI, set_rBool, rep_rI, rep_rBool, map_app]; rfl) | rfl) ?_ | refine fB.of (wide_map (fun _ => rfl) _) ?_ | refine fB.of (full_map (fun _ => rfl) _) ?_ | refine fB.of (full_map (fun x => full_rKept x) _) ?_ | refine fB.of (by first | rfl | (simp only [full_map, wide_map]; done)) ?_ | refine sDraw.none (id := 6) (ty := tys) rfl (by decide +kernel) ?_)) <;> (try (conv => whnf)))
    refine ⟨⟨j + 1, (by (try dsimp only [cond_true, cond_false]); exact ⟨⟨rfl, rfl, rfl, trivial⟩, ⟨rfl, rfl, trivial⟩⟩), ?_, ?_⟩⟩
    · show j + 1 ≤ _; omega
    · show l.length - (j + 1) < l.length - j; omega
  · repeat' ((with_reducible (first | refine fG.pos (by first | with_reducible assumption | omega) ?_ | refine fG.neg (by first | with_reducible assumption | omega) ?_ | refine fG.split (fun _ => ?_) (fun _ => ?_) | refine fG.not ?_ | refine fG.yes (by with_reducible assumption) ?_ | refine fG.no (by with_reducible assumption) ?_ | refine fG.yes (flat_map (fun _ => rfl) _) ?_ | refine fG.bool (fun _ => ?_) (fun _ => ?_) | refine sW.i64 (by omega) ?_ | refine sW.u8 (by omega) ?_ | refine sI.mk (by first | with_reducible assumption | omega | (simp only [Nat.zero_add, Nat.add_zero, Nat.sub_zero, Int.toNat_natCast, Int.toNat_zero, Int.toNat_one, List.length_map, List.length_nil, Int.reduceToNat, Nat.reduceAdd, Nat.reduceSub, Int.sub_zero, Int.reduceAdd, Int.reduceSub, Nat.sub_self, Int.toNat_natCast_add_one, bs_len, List.length_append, List.length_cons, List.length_set, List.length_replicate, List.length_range]; first | done | omega)) ?_ | refine fE.of rfl ?_ | refine fB.of (Nat.beq_refl _) ?_ | refine sN.eq (by first | (simp only [Nat.zero_add, Nat.add_zero, Nat.sub_zero, Int.toNat_natCast, Int.toNat_zero, Int.toNat_one, List.length_map, List.length_nil, Int.reduceToNat, Nat.reduceAdd, Nat.reduceSub, Int.sub_zero, Int.reduceAdd, Int.reduceSub, Nat.sub_self, Int.toNat_natCast_add_one, bs_len]; rfl) | rfl) ?_ | refine fO.of (map_set_rd (by omega)) ?_ | refine fO.of (map_rd (by omega)) ?_ | refine sBool.eq (like_map (by first | with_reducible assumption | omega | (simp only [List.length_set]; omega))) ?_ | refine sR.eq (by first | (simp only [Nat.add_zero, Nat.zero_add, Nat.reduceAdd, List.drop_zero, List.take_succ_cons, List.take_nil, List.drop_succ_cons, List.drop_nil, List.take_zero, List.nil_append, List.append_nil, List.map_nil, drop_suf, take_pre, drop_map, List.take_length, take_len_set, take_len_app, List.set_set, List.length_map, set_rKept, set_rIns, rep_rIns, set_rEvent, rep_rEvent, snoc_rKept, snoc_rEvent, snoc_rIns, bytesT_bs, snoc_rI, snoc_rB, snoc_rBool, set_rI, set_rBool, rep_rI, rep_rBool, map_app]; rfl) | rfl) ?_ | refine fB.of (wide_map (fun _ => rfl) _) ?_ | refine fB.of (full_map (fun _ => rfl) _) ?_ | refine fB.of (full_map (fun x => full_rKept x) _) ?_ | refine fB.of (by first | rfl | (simp only [full_map, wide_map]; done)) ?_ | refine sDraw.none (id := 6) (ty := tys) rfl (by decide +kernel) ?_)) <;> (try (conv => whnf)))
set_option maxHeartbeats 4000000 in
theorem ok_laws_markKeptS (k : Nat) (l : List Kept) (m : Int) (hl : l.length ≤ 100000000000) (h0 : 0 ≤ m) (h1 : m + wts wKept l ≤ 10000000000) (hx : ∀ j : Nat, j < l.length → (rd l j).s.regs.length ≤ 100000 ∧ (rd l j).s.out.length ≤ 100000) : callE PR C (k + 2) 15 [hKept 0 l, i64 m] [tKept9 l] = some ⟨i64 (m + wts wKept l), [], [some (tKept9 (marks mKept wKept m l))]⟩ := by
  (refine callE_is (callE_w [ResultVar.tmp 4] rfl Try.func15 rfl (by decide +kernel) rfl (by simp) ?_); (conv => whnf))
  repeat' ((with_reducible (first | refine fG.pos (by first | with_reducible assumption | omega) ?_ | refine fG.neg (by first | with_reducible assumption | omega) ?_ | refine fG.split (fun _ => ?_) (fun _ => ?_) | refine fG.not ?_ | refine fG.yes (by with_reducible assumption) ?_ | refine fG.no (by with_reducible assumption) ?_ | refine fG.yes (flat_map (fun _ => rfl) _) ?_ | refine fG.bool (fun _ => ?_) (fun _ => ?_) | refine sW.i64 (by omega) ?_ | refine sW.u8 (by omega) ?_ | refine sI.mk (by first | with_reducible assumption | omega | (simp only [Nat.zero_add, Nat.add_zero, Nat.sub_zero, Int.toNat_natCast, Int.toNat_zero, Int.toNat_one, List.length_map, List.length_nil, Int.reduceToNat, Nat.reduceAdd, Nat.reduceSub, Int.sub_zero, Int.reduceAdd, Int.reduceSub, Nat.sub_self, Int.toNat_natCast_add_one, bs_len, List.length_append, List.length_cons, List.length_set, List.length_replicate, List.length_range]; first | done | omega)) ?_ | refine fE.of rfl ?_ | refine fB.of (Nat.beq_refl _) ?_ | refine sN.eq (by first | (simp only [Nat.zero_add, Nat.add_zero, Nat.sub_zero, Int.toNat_natCast, Int.toNat_zero, Int.toNat_one, List.length_map, List.length_nil, Int.reduceToNat, Nat.reduceAdd, Nat.reduceSub, Int.sub_zero, Int.reduceAdd, Int.reduceSub, Nat.sub_self, Int.toNat_natCast_add_one, bs_len]; rfl) | rfl) ?_ | refine fO.of (map_set_rd (by omega)) ?_ | refine fO.of (map_rd (by omega)) ?_ | refine sBool.eq (like_map (by first | with_reducible assumption | omega | (simp only [List.length_set]; omega))) ?_ | refine sR.eq (by first | (simp only [Nat.add_zero, Nat.zero_add, Nat.reduceAdd, List.drop_zero, List.take_succ_cons, List.take_nil, List.drop_succ_cons, List.drop_nil, List.take_zero, List.nil_append, List.append_nil, List.map_nil, drop_suf, take_pre, drop_map, List.take_length, take_len_set, take_len_app, List.set_set, List.length_map, set_rKept, set_rIns, rep_rIns, set_rEvent, rep_rEvent, snoc_rKept, snoc_rEvent, snoc_rIns, bytesT_bs, snoc_rI, snoc_rB, snoc_rBool, set_rI, set_rBool, rep_rI, rep_rBool, map_app]; rfl) | rfl) ?_ | refine fB.of (wide_map (fun _ => rfl) _) ?_ | refine fB.of (full_map (fun _ => rfl) _) ?_ | refine fB.of (full_map (fun x => full_rKept x) _) ?_ | refine fB.of (by first | rfl | (simp only [full_map, wide_map]; done)) ?_)) <;> (try (conv => whnf)))
  refine loop_rule (ι := TM Kept) (fun x => [(0, hKept 0 l), (1, i64 x.m), (5, i64 (x.j : Nat))])
    (fun x => [(1000000, ⟨0, x.g, x.d, tKept9 x.l⟩)])
    (fun x => l.length - x.j) (fun x => x.j ≤ l.length ∧ x.l = half mKept wKept m l x.j ∧ x.m = m + wts wKept (l.take x.j)) ⟨0, m, l, 0, false⟩ (by (try dsimp only [cond_true, cond_false]); exact ⟨⟨rfl, rfl, rfl, trivial⟩, ⟨rfl, trivial⟩⟩) ⟨Nat.zero_le _, (half_zero _ _ m l).symm, by simp [wts]⟩ (by simp [C]; omega) ?_
  rintro ⟨j, n, out, g, d⟩ sl ob ⟨hj, hout, hn⟩
  dsimp only at hj hout hn
  have hlen : out.length = l.length := by rw [hout, half_len]
  have hn1 : n ≤ 10000000000 := by have := wts_le wKept l j; omega
  have hn0 : 0 ≤ n := by omega
  have hrd : j < l.length → rd out j = rd l j := fun h => by rw [hout]; exact half_rd _ _ m l j h
  have hx' : j < l.length → (rd out j).s.regs.length ≤ 100000 ∧ (rd out j).s.out.length ≤ 100000 := fun h => by rw [hrd h]; exact hx j h
  (dsimp only [cond_true, cond_false])
  (conv => whnf)
  by_cases hjl : j < l.length
  · have hx1 := (hx' hjl).1
    have hx2 := (hx' hjl).2
    have hq1 := fun k => ok_laws_markIntS' k (rd out j).s.regs (n + 1 + 1) (by omega) (by omega) (by omega)
    have hq2 := fun k => ok_laws_markIntS' k (rd out j).s.out (n + 1 + 1 + (rd out j).s.regs.length) (by omega) (by omega) (by omega)
    repeat' ((with_reducible (first | refine sCall.of (hq1 _) ?_ | refine sCall.of (hq2 _) ?_ | refine fG.pos (by first | with_reducible assumption | omega) ?_ | refine fG.neg (by first | with_reducible assumption | omega) ?_ | refine fG.split (fun _ => ?_) (fun _ => ?_) | refine fG.not ?_ | refine fG.yes (by with_reducible assumption) ?_ | refine fG.no (by with_reducible assumption) ?_ | refine fG.yes (flat_map (fun _ => rfl) _) ?_ | refine fG.bool (fun _ => ?_) (fun _ => ?_) | refine sW.i64 (by omega) ?_ | refine sW.u8 (by omega) ?_ | refine sI.mk (by first | with_reducible assumption | omega | (simp only [Nat.zero_add, Nat.add_zero, Nat.sub_zero, Int.toNat_natCast, Int.toNat_zero, Int.toNat_one, List.length_map, List.length_nil, Int.reduceToNat, Nat.reduceAdd, Nat.reduceSub, Int.sub_zero, Int.reduceAdd, Int.reduceSub, Nat.sub_self, Int.toNat_natCast_add_one, bs_len, List.length_append, List.length_cons, List.length_set, List.length_replicate, List.length_range]; first | done | omega)) ?_ | refine fE.of rfl ?_ | refine fB.of (Nat.beq_refl _) ?_ | refine sN.eq (by first | (simp only [Nat.zero_add, Nat.add_zero, Nat.sub_zero, Int.toNat_natCast, Int.toNat_zero, Int.toNat_one, List.length_map, List.length_nil, Int.reduceToNat, Nat.reduceAdd, Nat.reduceSub, Int.sub_zero, Int.reduceAdd, Int.reduceSub, Nat.sub_self, Int.toNat_natCast_add_one, bs_len]; rfl) | rfl) ?_ | refine fO.of (map_set_rd (by omega)) ?_ | refine fO.of (map_rd (by omega)) ?_ | refine sBool.eq (like_map (by first | with_reducible assumption | omega | (simp only [List.length_set]; omega))) ?_ | refine sR.eq (by first | (simp only [Nat.add_zero, Nat.zero_add, Nat.reduceAdd, List.drop_zero, List.take_succ_cons, List.take_nil, List.drop_succ_cons, List.drop_nil, List.take_zero, List.nil_append, List.append_nil, List.map_nil, drop_suf, take_pre, drop_map, List.take_length, take_len_set, take_len_app, List.set_set, List.length_map, set_rKept, set_rIns, rep_rIns, set_rEvent, rep_rEvent, snoc_rKept, snoc_rEvent, snoc_rIns, bytesT_bs, snoc_rI, snoc_rB, snoc_rBool, set_rI, set_rBool, rep_rI, rep_rBool, map_app]; rfl) | rfl) ?_ | refine fB.of (wide_map (fun _ => rfl) _) ?_ | refine fB.of (full_map (fun _ => rfl) _) ?_ | refine fB.of (full_map (fun x => full_rKept x) _) ?_ | refine fB.of (by first | rfl | (simp only [full_map, wide_map]; done)) ?_)) <;> (try (conv => whnf)))
    refine ⟨⟨⟨j + 1, n + 1 + 1 + (rd out j).s.regs.length + (rd out j).s.out.length + 1, out.set j (mKept n (rd out j)), _, _⟩, (by (try dsimp only [cond_true, cond_false]); exact ⟨⟨rfl, rfl, rfl, trivial⟩, ⟨rfl, trivial⟩⟩), ?_, ?_⟩⟩
    · have e := wts_take wKept l j hjl
      refine ⟨by show j + 1 ≤ _; omega, ?_, ?_⟩
      · show _ = _
        rw [← half_set _ _ m l j hjl, hrd hjl, hout, hn]
      · show _ = _
        rw [e, hrd hjl]
        simp only [wKept]
        omega
    · show l.length - (j + 1) < l.length - j; omega
  · have : j = l.length := by omega
    repeat' ((with_reducible (first | refine fG.pos (by first | with_reducible assumption | omega) ?_ | refine fG.neg (by first | with_reducible assumption | omega) ?_ | refine fG.split (fun _ => ?_) (fun _ => ?_) | refine fG.not ?_ | refine fG.yes (by with_reducible assumption) ?_ | refine fG.no (by with_reducible assumption) ?_ | refine fG.yes (flat_map (fun _ => rfl) _) ?_ | refine fG.bool (fun _ => ?_) (fun _ => ?_) | refine sW.i64 (by omega) ?_ | refine sW.u8 (by omega) ?_ | refine sI.mk (by first | with_reducible assumption | omega | (simp only [Nat.zero_add, Nat.add_zero, Nat.sub_zero, Int.toNat_natCast, Int.toNat_zero, Int.toNat_one, List.length_map, List.length_nil, Int.reduceToNat, Nat.reduceAdd, Nat.reduceSub, Int.sub_zero, Int.reduceAdd, Int.reduceSub, Nat.sub_self, Int.toNat_natCast_add_one, bs_len, List.length_append, List.length_cons, List.length_set, List.length_replicate, List.length_range]; first | done | omega)) ?_ | refine fE.of rfl ?_ | refine fB.of (Nat.beq_refl _) ?_ | refine sN.eq (by first | (simp only [Nat.zero_add, Nat.add_zero, Nat.sub_zero, Int.toNat_natCast, Int.toNat_zero, Int.toNat_one, List.length_map, List.length_nil, Int.reduceToNat, Nat.reduceAdd, Nat.reduceSub, Int.sub_zero, Int.reduceAdd, Int.reduceSub, Nat.sub_self, Int.toNat_natCast_add_one, bs_len]; rfl) | rfl) ?_ | refine fO.of (map_set_rd (by omega)) ?_ | refine fO.of (map_rd (by omega)) ?_ | refine sBool.eq (like_map (by first | with_reducible assumption | omega | (simp only [List.length_set]; omega))) ?_ | refine sR.eq (by first | (simp only [Nat.add_zero, Nat.zero_add, Nat.reduceAdd, List.drop_zero, List.take_succ_cons, List.take_nil, List.drop_succ_cons, List.drop_nil, List.take_zero, List.nil_append, List.append_nil, List.map_nil, drop_suf, take_pre, drop_map, List.take_length, take_len_set, take_len_app, List.set_set, List.length_map, set_rKept, set_rIns, rep_rIns, set_rEvent, rep_rEvent, snoc_rKept, snoc_rEvent, snoc_rIns, bytesT_bs, snoc_rI, snoc_rB, snoc_rBool, set_rI, set_rBool, rep_rI, rep_rBool, map_app]; rfl) | rfl) ?_ | refine fB.of (wide_map (fun _ => rfl) _) ?_ | refine fB.of (full_map (fun _ => rfl) _) ?_ | refine fB.of (full_map (fun x => full_rKept x) _) ?_ | refine fB.of (by first | rfl | (simp only [full_map, wide_map]; done)) ?_)) <;> (try (conv => whnf)))
    rw [hout, hn, this, half_all, List.take_length]
theorem marksI_rd (m : Int) (l : List Int) (j : Nat) (h : j < (marksI m l).length) : rd (marksI m l) j = m + j := by
  have h' : j < l.length := by rw [marks_len] at h; exact h
  rw [marks_rd _ _ m l j h']
  simp only [mInt, wts_wInt, List.length_take]
  rw [show min j l.length = j by omega]
theorem marksI_len (m : Int) (l : List Int) : (marksI m l).length = l.length := marks_len _ _ _ _
set_option maxHeartbeats 4000000 in
theorem ok_laws_heldKeptS (k : Nat) (x l : List Kept) (m : Int) (hl : l.length ≤ 100000000000) (h0 : 0 ≤ m) (h1 : m + wts wKept l ≤ 10000000000) (hx : ∀ j : Nat, j < l.length → (rd l j).s.regs.length ≤ 100000 ∧ (rd l j).s.out.length ≤ 100000) (e : x = marks mKept wKept m l) : callE PR C (k + 2) 16 [hKept 0 x, i64 m] [tKept x] = some ⟨i64 (m + wts wKept l), [], [none]⟩ := by
  have hlen : x.length = l.length := by rw [e, marks_len]
  (refine callE_is (callE_w [ResultVar.tmp 4] rfl Try.func16 rfl (by decide +kernel) rfl (by simp) ?_); (conv => whnf))
  repeat' ((with_reducible (first | refine fG.pos (by first | with_reducible assumption | omega) ?_ | refine fG.neg (by first | with_reducible assumption | omega) ?_ | refine fG.split (fun _ => ?_) (fun _ => ?_) | refine fG.not ?_ | refine fG.yes (by with_reducible assumption) ?_ | refine fG.no (by with_reducible assumption) ?_ | refine fG.yes (flat_map (fun _ => rfl) _) ?_ | refine fG.bool (fun _ => ?_) (fun _ => ?_) | refine sW.i64 (by omega) ?_ | refine sW.u8 (by omega) ?_ | refine sI.mk (by first | with_reducible assumption | omega | (simp only [Nat.zero_add, Nat.add_zero, Nat.sub_zero, Int.toNat_natCast, Int.toNat_zero, Int.toNat_one, List.length_map, List.length_nil, Int.reduceToNat, Nat.reduceAdd, Nat.reduceSub, Int.sub_zero, Int.reduceAdd, Int.reduceSub, Nat.sub_self, Int.toNat_natCast_add_one, bs_len, List.length_append, List.length_cons, List.length_set, List.length_replicate, List.length_range]; first | done | omega)) ?_ | refine fE.of rfl ?_ | refine fB.of (Nat.beq_refl _) ?_ | refine sN.eq (by first | (simp only [Nat.zero_add, Nat.add_zero, Nat.sub_zero, Int.toNat_natCast, Int.toNat_zero, Int.toNat_one, List.length_map, List.length_nil, Int.reduceToNat, Nat.reduceAdd, Nat.reduceSub, Int.sub_zero, Int.reduceAdd, Int.reduceSub, Nat.sub_self, Int.toNat_natCast_add_one, bs_len]; rfl) | rfl) ?_ | refine fO.of (map_set_rd (by omega)) ?_ | refine fO.of (map_rd (by omega)) ?_ | refine sBool.eq (like_map (by first | with_reducible assumption | omega | (simp only [List.length_set]; omega))) ?_ | refine sR.eq (by first | (simp only [Nat.add_zero, Nat.zero_add, Nat.reduceAdd, List.drop_zero, List.take_succ_cons, List.take_nil, List.drop_succ_cons, List.drop_nil, List.take_zero, List.nil_append, List.append_nil, List.map_nil, drop_suf, take_pre, drop_map, List.take_length, take_len_set, take_len_app, List.set_set, List.length_map, set_rKept, set_rIns, rep_rIns, set_rEvent, rep_rEvent, snoc_rKept, snoc_rEvent, snoc_rIns, bytesT_bs, snoc_rI, snoc_rB, snoc_rBool, set_rI, set_rBool, rep_rI, rep_rBool, map_app]; rfl) | rfl) ?_ | refine fB.of (wide_map (fun _ => rfl) _) ?_ | refine fB.of (full_map (fun _ => rfl) _) ?_ | refine fB.of (full_map (fun x => full_rKept x) _) ?_ | refine fB.of (by first | rfl | (simp only [full_map, wide_map]; done)) ?_)) <;> (try (conv => whnf)))
  refine loop_rule (ι := TH) (fun y => [(0, hKept 0 x), (1, i64 y.m), (5, i64 (y.j : Nat))])
    (fun _ => [(1000000, ⟨0, 0, false, tKept x⟩)])
    (fun y => x.length - y.j) (fun y => y.j ≤ x.length ∧ y.m = m + wts wKept (l.take y.j)) ⟨0, m⟩ (by (try dsimp only [cond_true, cond_false]); exact ⟨⟨rfl, rfl, rfl, trivial⟩, ⟨rfl, trivial⟩⟩) ⟨Nat.zero_le _, by simp [wts]⟩ (by simp [C]; omega) ?_
  rintro ⟨j, n⟩ sl ob ⟨hj, hn⟩
  dsimp only at hj hn
  have hn1 : n ≤ 10000000000 := by have := wts_le wKept l j; omega
  have hn0 : 0 ≤ n := by omega
  (dsimp only [cond_true, cond_false])
  (conv => whnf)
  by_cases hjl : j < l.length
  · have hx1 := (hx j hjl).1
    have hx2 := (hx j hjl).2
    have er : rd x j = mKept n (rd l j) := by rw [e, hn]; exact marks_rd _ _ m l j hjl
    have e1 : (rd x j).n = n := by rw [er]; rfl
    have e2 : (rd x j).s.at_ = n + 1 := by rw [er]; rfl
    have e3 : (rd x j).s.regs = marksI (n + 1 + 1) (rd l j).s.regs := by rw [er]; rfl
    have e4 : (rd x j).s.out = marksI (n + 1 + 1 + (rd x j).s.regs.length) (rd l j).s.out := by rw [e3, marksI_len, er]; rfl
    have l1 : (rd x j).s.regs.length = (rd l j).s.regs.length := by rw [e3, marksI_len]
    have l2 : (rd x j).s.out.length = (rd l j).s.out.length := by rw [e4, marksI_len]
    have e5 : (rd x j).s.code = n + 1 + 1 + (rd x j).s.regs.length + (rd x j).s.out.length := by rw [l1, l2, er]; rfl
    have hq1 := fun k => ok_laws_heldIntS k (rd x j).s.regs (n + 1 + 1) (by omega) (by omega) (by omega) (fun i hi => by rw [e3] at hi ⊢; exact marksI_rd _ _ i hi)
    have hq2 := fun k => ok_laws_heldIntS k (rd x j).s.out (n + 1 + 1 + (rd x j).s.regs.length) (by omega) (by omega) (by omega) (fun i hi => by rw [e4] at hi ⊢; exact marksI_rd _ _ i hi)
    clear e3 e4
    repeat' ((with_reducible (first | refine sCall.of (hq1 _) ?_ | refine sCall.of (hq2 _) ?_ | refine fG.pos (by first | with_reducible assumption | omega) ?_ | refine fG.neg (by first | with_reducible assumption | omega) ?_ | refine fG.split (fun _ => ?_) (fun _ => ?_) | refine fG.not ?_ | refine fG.yes (by with_reducible assumption) ?_ | refine fG.no (by with_reducible assumption) ?_ | refine fG.yes (flat_map (fun _ => rfl) _) ?_ | refine fG.bool (fun _ => ?_) (fun _ => ?_) | refine sW.i64 (by omega) ?_ | refine sW.u8 (by omega) ?_ | refine sI.mk (by first | with_reducible assumption | omega | (simp only [Nat.zero_add, Nat.add_zero, Nat.sub_zero, Int.toNat_natCast, Int.toNat_zero, Int.toNat_one, List.length_map, List.length_nil, Int.reduceToNat, Nat.reduceAdd, Nat.reduceSub, Int.sub_zero, Int.reduceAdd, Int.reduceSub, Nat.sub_self, Int.toNat_natCast_add_one, bs_len, List.length_append, List.length_cons, List.length_set, List.length_replicate, List.length_range]; first | done | omega)) ?_ | refine fE.of rfl ?_ | refine fB.of (Nat.beq_refl _) ?_ | refine sN.eq (by first | (simp only [Nat.zero_add, Nat.add_zero, Nat.sub_zero, Int.toNat_natCast, Int.toNat_zero, Int.toNat_one, List.length_map, List.length_nil, Int.reduceToNat, Nat.reduceAdd, Nat.reduceSub, Int.sub_zero, Int.reduceAdd, Int.reduceSub, Nat.sub_self, Int.toNat_natCast_add_one, bs_len]; rfl) | rfl) ?_ | refine fO.of (map_set_rd (by omega)) ?_ | refine fO.of (map_rd (by omega)) ?_ | refine sBool.eq (like_map (by first | with_reducible assumption | omega | (simp only [List.length_set]; omega))) ?_ | refine sR.eq (by first | (simp only [Nat.add_zero, Nat.zero_add, Nat.reduceAdd, List.drop_zero, List.take_succ_cons, List.take_nil, List.drop_succ_cons, List.drop_nil, List.take_zero, List.nil_append, List.append_nil, List.map_nil, drop_suf, take_pre, drop_map, List.take_length, take_len_set, take_len_app, List.set_set, List.length_map, set_rKept, set_rIns, rep_rIns, set_rEvent, rep_rEvent, snoc_rKept, snoc_rEvent, snoc_rIns, bytesT_bs, snoc_rI, snoc_rB, snoc_rBool, set_rI, set_rBool, rep_rI, rep_rBool, map_app]; rfl) | rfl) ?_ | refine fB.of (wide_map (fun _ => rfl) _) ?_ | refine fB.of (full_map (fun _ => rfl) _) ?_ | refine fB.of (full_map (fun x => full_rKept x) _) ?_ | refine fB.of (by first | rfl | (simp only [full_map, wide_map]; done)) ?_)) <;> (try (conv => whnf)))
    refine ⟨⟨⟨j + 1, n + 1 + 1 + (rd x j).s.regs.length + (rd x j).s.out.length + 1⟩, (by (try dsimp only [cond_true, cond_false]); exact ⟨⟨rfl, rfl, rfl, trivial⟩, ⟨rfl, trivial⟩⟩), ?_, ?_⟩⟩
    · have e := wts_take wKept l j hjl
      refine ⟨by show j + 1 ≤ _; omega, ?_⟩
      show _ = _
      rw [e, l1, l2]
      simp only [wKept]
      omega
    · show x.length - (j + 1) < x.length - j; omega
  · have : j = l.length := by omega
    repeat' ((with_reducible (first | refine fG.pos (by first | with_reducible assumption | omega) ?_ | refine fG.neg (by first | with_reducible assumption | omega) ?_ | refine fG.split (fun _ => ?_) (fun _ => ?_) | refine fG.not ?_ | refine fG.yes (by with_reducible assumption) ?_ | refine fG.no (by with_reducible assumption) ?_ | refine fG.yes (flat_map (fun _ => rfl) _) ?_ | refine fG.bool (fun _ => ?_) (fun _ => ?_) | refine sW.i64 (by omega) ?_ | refine sW.u8 (by omega) ?_ | refine sI.mk (by first | with_reducible assumption | omega | (simp only [Nat.zero_add, Nat.add_zero, Nat.sub_zero, Int.toNat_natCast, Int.toNat_zero, Int.toNat_one, List.length_map, List.length_nil, Int.reduceToNat, Nat.reduceAdd, Nat.reduceSub, Int.sub_zero, Int.reduceAdd, Int.reduceSub, Nat.sub_self, Int.toNat_natCast_add_one, bs_len, List.length_append, List.length_cons, List.length_set, List.length_replicate, List.length_range]; first | done | omega)) ?_ | refine fE.of rfl ?_ | refine fB.of (Nat.beq_refl _) ?_ | refine sN.eq (by first | (simp only [Nat.zero_add, Nat.add_zero, Nat.sub_zero, Int.toNat_natCast, Int.toNat_zero, Int.toNat_one, List.length_map, List.length_nil, Int.reduceToNat, Nat.reduceAdd, Nat.reduceSub, Int.sub_zero, Int.reduceAdd, Int.reduceSub, Nat.sub_self, Int.toNat_natCast_add_one, bs_len]; rfl) | rfl) ?_ | refine fO.of (map_set_rd (by omega)) ?_ | refine fO.of (map_rd (by omega)) ?_ | refine sBool.eq (like_map (by first | with_reducible assumption | omega | (simp only [List.length_set]; omega))) ?_ | refine sR.eq (by first | (simp only [Nat.add_zero, Nat.zero_add, Nat.reduceAdd, List.drop_zero, List.take_succ_cons, List.take_nil, List.drop_succ_cons, List.drop_nil, List.take_zero, List.nil_append, List.append_nil, List.map_nil, drop_suf, take_pre, drop_map, List.take_length, take_len_set, take_len_app, List.set_set, List.length_map, set_rKept, set_rIns, rep_rIns, set_rEvent, rep_rEvent, snoc_rKept, snoc_rEvent, snoc_rIns, bytesT_bs, snoc_rI, snoc_rB, snoc_rBool, set_rI, set_rBool, rep_rI, rep_rBool, map_app]; rfl) | rfl) ?_ | refine fB.of (wide_map (fun _ => rfl) _) ?_ | refine fB.of (full_map (fun _ => rfl) _) ?_ | refine fB.of (full_map (fun x => full_rKept x) _) ?_ | refine fB.of (by first | rfl | (simp only [full_map, wide_map]; done)) ?_)) <;> (try (conv => whnf)))
    rw [hn, this, List.take_length]

end Go.Proofs.Ytolafdaafdaffaa.Abs
namespace Go.Proofs.Ytolafdaafdaffaa.Abs
open Go Go.Proofs
set_option linter.unusedVariables false
set_option linter.unusedSimpArgs false
attribute [local irreducible] callE
theorem replay_ok {l : List Ins} (hi : ∀ i, i < l.length → IOk l.length (rd l i)) (es : List Event) : ∀ {s s' : State}, SOk l.length s → replay l s es = some s' → SOk l.length s' := by
  induction es with
  | nil => intro s s' hs h; simp only [replay] at h; cases h; exact hs
  | cons e es ih =>
    intro s s' hs h
    simp only [replay] at h
    split at h
    · rename_i hc
      refine ih (did_ok hs (hi _ ?_) ?_) h
      · have := hs.at0; have := hs.at1; omega
      · exact hc.2
    · cases h
theorem stOf_len (l : List Ins) (es : List Event) : (stOf (replayAll l es)).regs.length ≤ 4 ∧ (stOf (replayAll l es)).out.length ≤ 60 := by
  unfold replayAll
  split
  · rename_i h
    cases hr : replay l newState es with
    | none => exact ⟨Nat.zero_le _, Nat.zero_le _⟩
    | some s =>
      have := replay_ok (fun i hi => progOk_iok h.1 hi) es (newState_ok (progOk_len h.1).1) hr
      exact ⟨Nat.le_of_eq this.regs, this.out⟩
  · exact ⟨Nat.zero_le _, Nat.zero_le _⟩
theorem keepAll_ok (l : List Ins) (es : List Event) : (keepAll l es).length ≤ 26 ∧ ∀ j : Nat, j < (keepAll l es).length → (rd (keepAll l es) j).s.regs.length ≤ 4 ∧ (rd (keepAll l es) j).s.out.length ≤ 60 := by
  unfold keepAll
  split
  · rename_i h
    have he : es.length ≤ 200 := by
      unfold replayAll at h
      split at h
      · rename_i hh; exact hh.2
      · cases h
    refine ⟨by simp; omega, fun j hj => ?_⟩
    simp only [List.length_map, List.length_range] at hj
    rw [show rd ((List.range (es.length / 8 + 1)).map (keptAt l es)) j = keptAt l es j by simp [rd, hj]]
    exact stOf_len l (es.take (8 * j))
  · exact ⟨by simp, fun j hj => by simp at hj⟩
theorem wts_bound {α : Type} [Inhabited α] (wt : α → Nat) (n : Nat) (l : List α) (h : ∀ j : Nat, j < l.length → wt (rd l j) ≤ n) : wts wt l ≤ n * l.length := by
  induction l with
  | nil => simp [wts]
  | cons x l ih =>
    have h1 : wt x ≤ n := h 0 (by simp)
    have h2 := ih fun j hj => by
      have := h (j + 1) (by simp; omega)
      simpa [rd] using this
    simp only [wts, List.length_cons, Nat.mul_add]
    omega
theorem keepAll_wts (l : List Ins) (es : List Event) : wts wKept (keepAll l es) ≤ 67 * 26 := by
  have h := keepAll_ok l es
  have := wts_bound wKept 67 (keepAll l es) fun j hj => by have := h.2 j hj; simp only [wKept]; omega
  omega

theorem marks_take {α : Type} (one : Int → α → α) (wt : α → Nat) (m : Int) (l : List α) : (marks one wt m l).take l.length = marks one wt m l := List.take_of_length_le (by rw [marks_len]; exact Nat.le_refl _)
-- NORM marks_take
-- NORMN marks_len
theorem left_neg {m n : Int} (h : left m n < 0) (hm : m - n < 0 ∨ 0 ≤ m - n) : m < n := by
  unfold left at h; split at h <;> omega
theorem left_pos {m n : Int} (h : ¬ left m n < 0) : left m n = m - n ∧ n ≤ m := by
  unfold left at h ⊢; split at h
  · exact absurd (by decide) h
  · rename_i h2; rw [if_neg h2]; omega
set_option maxHeartbeats 8000000 in
theorem ok_laws_FnExactKeepAll (k : Nat) (l : List Ins) (es : List Event) (hl : l.length ≤ 140737488355328) (he : es.length ≤ 140737488355328) :
    callE PR C (k + 11) 3 [hIns 0 l, hEvent 1 es] [tIns l, tEvent es] = some ⟨bl true, [], [none, none]⟩ := by
  have hs1 := fun k => ok_laws_szInsS k l 1048576 (by omega) (by omega) hl
  by_cases c1 : left 1048576 l.length < 0
  · (refine callE_is (callE_w [ResultVar.tmp 4] rfl Try.func3 rfl (by decide +kernel) rfl (by simp) ?_); (conv => whnf))
    repeat' ((with_reducible (first | refine sCall.of (hs1 _) ?_ | refine fG.pos (by first | with_reducible assumption | omega) ?_ | refine fG.neg (by first | with_reducible assumption | omega) ?_ | refine fG.split (fun _ => ?_) (fun _ => ?_) | refine fG.not ?_ | refine fG.yes (by with_reducible assumption) ?_ | refine fG.no (by with_reducible assumption) ?_ | refine fG.yes (flat_map (fun _ => rfl) _) ?_ | refine fG.bool (fun _ => ?_) (fun _ => ?_) | refine sW.i64 (by omega) ?_ | refine sW.u8 (by omega) ?_ | refine sI.mk (by first | with_reducible assumption | omega | (simp only [Nat.zero_add, Nat.add_zero, Nat.sub_zero, Int.toNat_natCast, Int.toNat_zero, Int.toNat_one, List.length_map, List.length_nil, Int.reduceToNat, Nat.reduceAdd, Nat.reduceSub, Int.sub_zero, Int.reduceAdd, Int.reduceSub, Nat.sub_self, Int.toNat_natCast_add_one, marks_len, bs_len, List.length_append, List.length_cons, List.length_set, List.length_replicate, List.length_range]; first | done | omega)) ?_ | refine fE.of rfl ?_ | refine fB.of (Nat.beq_refl _) ?_ | refine sN.eq (by first | (simp only [Nat.zero_add, Nat.add_zero, Nat.sub_zero, Int.toNat_natCast, Int.toNat_zero, Int.toNat_one, List.length_map, List.length_nil, Int.reduceToNat, Nat.reduceAdd, Nat.reduceSub, Int.sub_zero, Int.reduceAdd, Int.reduceSub, Nat.sub_self, Int.toNat_natCast_add_one, marks_len, bs_len]; rfl) | rfl) ?_ | refine fO.of (map_set_rd (by omega)) ?_ | refine fO.of (map_rd (by omega)) ?_ | refine sBool.eq (like_map (by first | with_reducible assumption | omega | (simp only [List.length_set]; omega))) ?_ | refine sR.eq (by first | (simp only [Nat.add_zero, Nat.zero_add, Nat.reduceAdd, List.drop_zero, List.take_succ_cons, List.take_nil, List.drop_succ_cons, List.drop_nil, List.take_zero, List.nil_append, List.append_nil, List.map_nil, drop_suf, take_pre, drop_map, List.take_length, take_len_set, take_len_app, List.set_set, List.length_map, marks_take, set_rKept, set_rIns, rep_rIns, set_rEvent, rep_rEvent, snoc_rKept, snoc_rEvent, snoc_rIns, bytesT_bs, snoc_rI, snoc_rB, snoc_rBool, set_rI, set_rBool, rep_rI, rep_rBool, map_app]; rfl) | rfl) ?_ | refine fB.of (wide_map (fun _ => rfl) _) ?_ | refine fB.of (full_map (fun _ => rfl) _) ?_ | refine fB.of (full_map (fun x => full_rKept x) _) ?_ | refine fB.of (by first | rfl | (simp only [full_map, wide_map]; done)) ?_)) <;> (try (conv => whnf)))
  · obtain ⟨c2, c3⟩ := left_pos c1
    have hs2 := fun k => ok_laws_szEventS k es (left 1048576 l.length) (by omega) (by omega) he
    by_cases c4 : left (left 1048576 l.length) es.length < 0
    · (refine callE_is (callE_w [ResultVar.tmp 4] rfl Try.func3 rfl (by decide +kernel) rfl (by simp) ?_); (conv => whnf))
      repeat' ((with_reducible (first | refine sCall.of (hs1 _) ?_ | refine sCall.of (hs2 _) ?_ | refine fG.pos (by first | with_reducible assumption | omega) ?_ | refine fG.neg (by first | with_reducible assumption | omega) ?_ | refine fG.split (fun _ => ?_) (fun _ => ?_) | refine fG.not ?_ | refine fG.yes (by with_reducible assumption) ?_ | refine fG.no (by with_reducible assumption) ?_ | refine fG.yes (flat_map (fun _ => rfl) _) ?_ | refine fG.bool (fun _ => ?_) (fun _ => ?_) | refine sW.i64 (by omega) ?_ | refine sW.u8 (by omega) ?_ | refine sI.mk (by first | with_reducible assumption | omega | (simp only [Nat.zero_add, Nat.add_zero, Nat.sub_zero, Int.toNat_natCast, Int.toNat_zero, Int.toNat_one, List.length_map, List.length_nil, Int.reduceToNat, Nat.reduceAdd, Nat.reduceSub, Int.sub_zero, Int.reduceAdd, Int.reduceSub, Nat.sub_self, Int.toNat_natCast_add_one, marks_len, bs_len, List.length_append, List.length_cons, List.length_set, List.length_replicate, List.length_range]; first | done | omega)) ?_ | refine fE.of rfl ?_ | refine fB.of (Nat.beq_refl _) ?_ | refine sN.eq (by first | (simp only [Nat.zero_add, Nat.add_zero, Nat.sub_zero, Int.toNat_natCast, Int.toNat_zero, Int.toNat_one, List.length_map, List.length_nil, Int.reduceToNat, Nat.reduceAdd, Nat.reduceSub, Int.sub_zero, Int.reduceAdd, Int.reduceSub, Nat.sub_self, Int.toNat_natCast_add_one, marks_len, bs_len]; rfl) | rfl) ?_ | refine fO.of (map_set_rd (by omega)) ?_ | refine fO.of (map_rd (by omega)) ?_ | refine sBool.eq (like_map (by first | with_reducible assumption | omega | (simp only [List.length_set]; omega))) ?_ | refine sR.eq (by first | (simp only [Nat.add_zero, Nat.zero_add, Nat.reduceAdd, List.drop_zero, List.take_succ_cons, List.take_nil, List.drop_succ_cons, List.drop_nil, List.take_zero, List.nil_append, List.append_nil, List.map_nil, drop_suf, take_pre, drop_map, List.take_length, take_len_set, take_len_app, List.set_set, List.length_map, marks_take, set_rKept, set_rIns, rep_rIns, set_rEvent, rep_rEvent, snoc_rKept, snoc_rEvent, snoc_rIns, bytesT_bs, snoc_rI, snoc_rB, snoc_rBool, set_rI, set_rBool, rep_rI, rep_rBool, map_app]; rfl) | rfl) ?_ | refine fB.of (wide_map (fun _ => rfl) _) ?_ | refine fB.of (full_map (fun _ => rfl) _) ?_ | refine fB.of (full_map (fun x => full_rKept x) _) ?_ | refine fB.of (by first | rfl | (simp only [full_map, wide_map]; done)) ?_)) <;> (try (conv => whnf)))
    · obtain ⟨c5, c6⟩ := left_pos c4
      have hl' : l.length ≤ 100000000000 := by omega
      have he' : es.length ≤ 100000000000 := by omega
      have hK := keepAll_ok l es
      have hKl := hK.1
      have hw := keepAll_wts l es
      have q1 := fun k => ok_laws_toInsS k l hl'
      have q2 := fun k => ok_laws_toEventS k es he'
      have q3 := fun k => ok_spec_KeepAll k l es hl' he'
      have q4 := fun k => ok_impl_KeepAll k l es hl' he'
      have q5 := fun k => ok_laws_eqKeptS k (keepAll l es) (by omega) (fun j hj => by have := hK.2 j hj; omega)
      have q6 := fun k => ok_laws_eqInsS k l hl'
      have q7 := fun k => ok_laws_eqEventS k es he'
      have q8 := fun k => ok_laws_markInsS k l 1 hl' (by omega) (by omega)
      have q9 := fun k => ok_laws_markEventS k es (1 + 5 * l.length) he' (by omega) (by omega)
      have q10 := fun k => ok_laws_markKeptS k (keepAll l es) 1 (by omega) (by omega) (by omega) (fun j hj => by have := hK.2 j hj; omega)
      have q11 := fun k => ok_laws_heldKeptS k (marks mKept wKept 1 (keepAll l es)) (keepAll l es) 1 (by omega) (by omega) (by omega) (fun j hj => by have := hK.2 j hj; omega) rfl
      have q12 := marks_len mKept wKept (keepAll l es) 1
      have q13 := marks_len mIns wIns l 1
      have q14 := marks_len mEvent wEvent es (1 + 5 * l.length)
      simp only [hKept, marks_len] at q11
      clear hK
      (refine callE_is (callE_w [ResultVar.tmp 4] rfl Try.func3 rfl (by decide +kernel) rfl (by simp) ?_); (conv => whnf))
      repeat' ((with_reducible (first | refine sCall.of (hs1 _) ?_ | refine sCall.of (hs2 _) ?_ | refine sCall.of (q1 _) ?_ | refine sCall.of (q2 _) ?_ | refine sCall.of (q3 _) ?_ | refine sCall.of (q4 _) ?_ | refine sCall.of (q5 _) ?_ | refine sCall.of (q6 _) ?_ | refine sCall.of (q7 _) ?_ | refine sCall.of (q8 _) ?_ | refine sCall.of (q9 _) ?_ | refine sCall.of (q10 _) ?_ | refine sCall.of (q11 _) ?_ | refine fG.pos (by first | with_reducible assumption | omega) ?_ | refine fG.neg (by first | with_reducible assumption | omega) ?_ | refine fG.split (fun _ => ?_) (fun _ => ?_) | refine fG.not ?_ | refine fG.yes (by with_reducible assumption) ?_ | refine fG.no (by with_reducible assumption) ?_ | refine fG.yes (flat_map (fun _ => rfl) _) ?_ | refine fG.bool (fun _ => ?_) (fun _ => ?_) | refine sW.i64 (by omega) ?_ | refine sW.u8 (by omega) ?_ | refine sI.mk (by first | with_reducible assumption | omega | (simp only [Nat.zero_add, Nat.add_zero, Nat.sub_zero, Int.toNat_natCast, Int.toNat_zero, Int.toNat_one, List.length_map, List.length_nil, Int.reduceToNat, Nat.reduceAdd, Nat.reduceSub, Int.sub_zero, Int.reduceAdd, Int.reduceSub, Nat.sub_self, Int.toNat_natCast_add_one, marks_len, bs_len, List.length_append, List.length_cons, List.length_set, List.length_replicate, List.length_range]; first | done | omega)) ?_ | refine fE.of rfl ?_ | refine fB.of (Nat.beq_refl _) ?_ | refine sN.eq (by first | (simp only [Nat.zero_add, Nat.add_zero, Nat.sub_zero, Int.toNat_natCast, Int.toNat_zero, Int.toNat_one, List.length_map, List.length_nil, Int.reduceToNat, Nat.reduceAdd, Nat.reduceSub, Int.sub_zero, Int.reduceAdd, Int.reduceSub, Nat.sub_self, Int.toNat_natCast_add_one, marks_len, bs_len]; rfl) | rfl) ?_ | refine fO.of (map_set_rd (by omega)) ?_ | refine fO.of (map_rd (by omega)) ?_ | refine sBool.eq (like_map (by first | with_reducible assumption | omega | (simp only [List.length_set]; omega))) ?_ | refine sR.eq (by first | (simp only [Nat.add_zero, Nat.zero_add, Nat.reduceAdd, List.drop_zero, List.take_succ_cons, List.take_nil, List.drop_succ_cons, List.drop_nil, List.take_zero, List.nil_append, List.append_nil, List.map_nil, drop_suf, take_pre, drop_map, List.take_length, take_len_set, take_len_app, List.set_set, List.length_map, marks_take, set_rKept, set_rIns, rep_rIns, set_rEvent, rep_rEvent, snoc_rKept, snoc_rEvent, snoc_rIns, bytesT_bs, snoc_rI, snoc_rB, snoc_rBool, set_rI, set_rBool, rep_rI, rep_rBool, map_app]; rfl) | rfl) ?_ | refine fB.of (wide_map (fun _ => rfl) _) ?_ | refine fB.of (full_map (fun _ => rfl) _) ?_ | refine fB.of (full_map (fun x => full_rKept x) _) ?_ | refine fB.of (by first | rfl | (simp only [full_map, wide_map]; done)) ?_)) <;> (try (conv => whnf)))

end Go.Proofs.Ytolafdaafdaffaa.Abs
namespace Go.Proofs.Ytolafdaafdaffaa.Abs
open Go
set_option linter.unusedVariables false

/-- What is read of values without memory at a type: as many cells, each a value without memory, with the property. -/
def OpensF (P : Program) (t : TypeId) (n : Nat) (M : List T → Prop) : Prop :=
  ∀ (H : Type) (enc : TypeId × Value → H) (w : World) (base : Nat) (sp : Nat → Bool) (held : Bool) (fuel : Nat) (cs : List Value) (x : DataW H × List MemPlace),
    DataW.trod enc P w base sp held fuel t cs = some x → (∀ m ∈ x.1.weights P t, m ≤ reachBytes) → cs.length = n ∧ (∀ v ∈ cs, scalar v = true) ∧ M (cs.map T.v)
theorem OpensF.mono {P : Program} {t : TypeId} {n : Nat} {M M' : List T → Prop} (h : OpensF P t n M) (hm : ∀ ts, M ts → M' ts) : OpensF P t n M' :=
  fun H enc w base sp held fuel cs x hx hw => ⟨(h H enc w base sp held fuel cs x hx hw).1, (h H enc w base sp held fuel cs x hx hw).2.1, hm _ (h H enc w base sp held fuel cs x hx hw).2.2⟩
theorem OpensF.int {P : Program} {t : TypeId} {k : IntKind} (ht : P.underlying t = some (.int k)) : OpensF P t 1 (fun ts => ∃ n, (Lit.int k n).wf = true ∧ ts = [.v (.int k n)]) := by
  intro H enc w base sp held fuel cs x hx hw
  obtain ⟨n, rfl, rfl, h⟩ := DataW.trod_int ht hx
  exact ⟨rfl, by simp [scalar], n, h, rfl⟩
theorem OpensF.bool {P : Program} {t : TypeId} (ht : P.underlying t = some .bool) : OpensF P t 1 (fun ts => ∃ b, ts = [.v (.bool b)]) := by
  intro H enc w base sp held fuel cs x hx hw
  obtain ⟨b, rfl, rfl⟩ := DataW.trod_bool ht hx
  exact ⟨rfl, by simp [scalar], b, rfl⟩
theorem OpensF.str {P : Program} {t : TypeId} (ht : P.underlying t = some .string) : OpensF P t 1 (fun ts => ∃ s : ByteArray, s.size ≤ reachBytes ∧ ts = [.v (.string s)]) := by
  intro H enc w base sp held fuel cs x hx hw
  obtain ⟨s, rfl, rfl, h⟩ := DataW.trod_string ht hx
  refine ⟨rfl, by simp [scalar], s, ?_, rfl⟩
  have := hw s.data.toList.length (by simp [DataW.weights])
  simpa using this
/-- The parts of a struct, from a place on. -/
def PartsF (P : Program) : List Field → Nat → Nat → (List T → Prop) → Prop
  | [], _, n, M => n = 0 ∧ ∀ ts, ts = [] → M ts
  | f :: r, off, n, M => f.offset = off ∧ ∃ n1 n2 M1 M2, P.cellsOf f.type = n1 ∧ OpensF P f.type n1 M1 ∧ PartsF P r (off + n1) n2 M2 ∧ n = n1 + n2 ∧ ∀ a b, M1 a → M2 b → M (a ++ b)
theorem weights_part {P : Program} {H : Type} {ts : List TypeId} : ∀ {ds : List (DataW H)} {R : Nat}, (∀ m ∈ DataW.weightsEach P ts ds, m ≤ R) → ∀ (j : Nat) t d, ts[j]? = some t → ds[j]? = some d → ∀ m ∈ d.weights P t, m ≤ R :=
  fun h j t d ht hd m hm => h m (DataW.weights_mem_each ht hd m hm)
theorem PartsF.opens {P : Program} {H : Type} {enc : TypeId × Value → H} {w : World} {base : Nat} {sp : Nat → Bool} {held : Bool} {fuel : Nat} {cs : List Value} : ∀ {fs : List Field} {off n : Nat} {M : List T → Prop}, PartsF P fs off n M → off + n = cs.length →
    (∀ f ∈ fs, ∃ x, DataW.trod enc P w base sp held fuel f.type ((cs.drop f.offset).take (P.cellsOf f.type)) = some x ∧ (∀ m ∈ x.1.weights P f.type, m ≤ reachBytes)) →
    (∀ v ∈ cs.drop off, scalar v = true) ∧ M ((cs.drop off).map T.v) := by
  intro fs
  induction fs with
  | nil =>
    intro off n M h hl _
    have e : cs.drop off = [] := List.drop_eq_nil_of_le (by have := h.1; omega)
    rw [e]
    exact ⟨by simp, h.2 _ rfl⟩
  | cons f r ih =>
    intro off n M h hl hx
    obtain ⟨rfl, n1, n2, M1, M2, h1, h2, h3, rfl, h4⟩ := h
    obtain ⟨x, hx1, hx2⟩ := hx f (by simp)
    rw [h1] at hx1
    obtain ⟨k1, k2, k3⟩ := h2 H enc w base sp held fuel _ x hx1 hx2
    obtain ⟨q1, q2⟩ := ih h3 (by omega) fun g hg => hx g (by simp [hg])
    have e : cs.drop f.offset = (cs.drop f.offset).take n1 ++ cs.drop (f.offset + n1) := by rw [← List.drop_drop, List.take_append_drop]
    rw [e]
    refine ⟨fun v hv => ?_, ?_⟩
    · rcases List.mem_append.1 hv with hv | hv
      · exact k2 v hv
      · exact q1 v hv
    · rw [List.map_append]
      exact h4 _ _ k3 q2
theorem OpensF.struct {P : Program} {t : TypeId} {fs : Array Field} {n : Nat} {M : List T → Prop} (ht : P.underlying t = some (.struct fs)) (hc : P.cellsOf t = n) (hp : PartsF P fs.toList 0 n M) : OpensF P t n M := by
  intro H enc w base sp held fuel cs x hx hw
  obtain ⟨xs, m, _, rfl, hl, hlen, hf⟩ := DataW.trod_struct ht hx
  have hl' : cs.length = n := hl.trans hc
  have := hp.opens (enc := enc) (w := w) (base := base) (sp := sp) (held := held) (fuel := m) (cs := cs) (by omega) (by
    intro f hfm
    obtain ⟨i, hi⟩ := List.getElem?_of_mem hfm
    have hi' : fs[i]? = some f := by simpa using hi
    have hlt : i < xs.length := by rw [hlen]; exact (Array.getElem?_eq_some_iff.1 hi').1
    have hy : xs[i]? = some xs[i] := List.getElem?_eq_getElem hlt
    refine ⟨xs[i], (hf i f hi').trans hy, ?_⟩
    refine weights_part (ts := fs.toList.map (·.type)) (ds := xs.map (·.1)) ?_ i f.type xs[i].1 (by simp [hi']) (by rw [List.getElem?_map, hy]; rfl)
    intro q hq
    refine hw q ?_
    simpa [DataW.weights, ht] using hq)
  simpa using ⟨hl', this⟩

/-- As many whole numbers. -/
def IntsM (n : Nat) (ts : List T) : Prop := ∃ zs : List Int, zs.length = n ∧ ts = zs.map fun z => T.v (.int .i64 z)
theorem PartsF.nil {P : Program} {off : Nat} : PartsF P [] off 0 (IntsM 0) := ⟨rfl, fun ts h => ⟨[], rfl, h⟩⟩
theorem PartsF.int {P : Program} {f : Field} {r : List Field} {off n : Nat} (ho : f.offset = off) (hc : P.cellsOf f.type = 1) (ht : P.underlying f.type = some (.int .i64)) (h : PartsF P r (off + 1) n (IntsM n)) :
    PartsF P (f :: r) off (1 + n) (IntsM (1 + n)) := by
  refine ⟨ho, 1, n, _, _, hc, OpensF.int ht, h, rfl, ?_⟩
  rintro a b ⟨z, _, rfl⟩ ⟨zs, hz, rfl⟩
  exact ⟨z :: zs, by simp [hz]; omega, rfl⟩
/-- Rows of a kind are a list's. -/
theorem rows_map {α : Type} {f : α → List T} {p : α → Prop} {rows : List (List T)} (h : ∀ r ∈ rows, ∃ x, p x ∧ r = f x) : ∃ l : List α, rows = l.map f ∧ ∀ x ∈ l, p x := by
  induction rows with
  | nil => exact ⟨[], rfl, by simp⟩
  | cons r rows ih =>
    obtain ⟨x, hx, rfl⟩ := h r (by simp)
    obtain ⟨l, rfl, hl⟩ := ih fun q hq => h q (by simp [hq])
    exact ⟨x :: l, rfl, by simpa using ⟨hx, hl⟩⟩
theorem weights_all {P : Program} {H : Type} {e : TypeId} {d : DataW H} : ∀ {l : List (DataW H)}, d ∈ l → ∀ m ∈ d.weights P e, m ∈ DataW.weightsAll P e l
  | a :: r, hd, m, hm => by
    simp only [DataW.weightsAll, List.mem_append]
    rcases List.mem_cons.1 hd with rfl | hd
    · exact .inl hm
    · exact .inr (weights_all hd m hm)
/-- A slice of values without memory that an argument is. -/
theorem open_flat {P : Program} {H : Type} {enc : TypeId × Value → H} {w : World} {base : Nat} {sp : Nat → Bool} {held : Bool} {t e : TypeId} {v : Value} {d : DataW H} {ps : List MemPlace} {sz B : Nat} {M : List T → Prop} {r : Reach} {b0 : Nat}
    (ht : P.underlying t = some (.slice e)) (hc : P.cellsOf e = sz) (hB : P.bytesOf e = B) (hE : OpensF P e sz M) (hval : Value.okWide P w r b0 t v) (h : DataW.Trod enc P w base sp held t v d ps) (hw : ∀ m ∈ d.weights P t, m ≤ reachBytes) :
    ∃ rows, (∀ x ∈ rows, M x) ∧ rows.length * B ≤ reachBytes ∧ Ow (fun k => k < w.heap.size) w 0 v (.sl sz rows) none_ := by
  obtain ⟨a0, len0, cap0, rfl⟩ := Go.WideShapes.okWide_slice ht hval
  obtain ⟨fuel, hf⟩ := h
  rcases DataW.trod_slice ht hf with ⟨hcs, _⟩ | ⟨a, len, cap, elems, rest, n, _, hcs, hx, _, hl, _, hlen, hel, _⟩
  · simp [Value.cells] at hcs
    obtain ⟨rfl, rfl, rfl⟩ := hcs
    exact ⟨[], by simp, by simp, .nil⟩
  · simp [Value.cells] at hcs
    obtain ⟨rfl, rfl, rfl⟩ := hcs
    obtain ⟨hx, _⟩ := Prod.mk.inj hx
    subst hx
    have hw1 : (elems.length + rest.length) * B ≤ reachBytes := by
      have := hw ((elems.length + rest.length) * P.bytesOf e) (by simp [DataW.weights, ht])
      rwa [hB] at this
    have hcell : ∀ i : Nat, ∃ cs : List Value, i < len0 → cs.length = sz ∧ (∀ v ∈ cs, scalar v = true) ∧ M (cs.map T.v) ∧ ∀ j, j < sz → w.cell? ((a.add (i * sz)).add j) = cs[j]? := by
      intro i
      by_cases hi : i < len0
      · have hy : elems[i]? = some (elems[i]'(by omega)) := List.getElem?_eq_getElem (by omega)
        have h1 := hel i hi
        rw [hy, hc, Option.bind_eq_some_iff] at h1
        obtain ⟨cs, hcs, htr⟩ := h1
        obtain ⟨k1, k2, k3⟩ := hE H enc w base sp held n cs _ htr (by
          intro m hm
          refine hw m ?_
          have := weights_all (P := P) (e := e) (l := elems.map (·.1)) (List.mem_map_of_mem (List.getElem_mem (by omega : i < elems.length))) m hm
          simp [DataW.weights, ht, this])
        obtain ⟨_, g1, g2⟩ := World.cells?_some hcs
        exact ⟨cs, fun _ => ⟨k1, k2, k3, g2⟩⟩
      · exact ⟨[], fun h => absurd h hi⟩
    obtain ⟨c, hc2⟩ := Classical.axiomOfChoice hcell
    have hblk : a.block < w.heap.size := by
      simp only [Value.okWide, ht, Cell.okWide, Cell.ok] at hval
      obtain ⟨_, _, _, _, row, cells, hs, _⟩ := hval
      unfold World.shape? at hs
      by_cases hlt : a.block < w.heap.size
      · exact hlt
      · rw [Array.getElem?_eq_none (by omega)] at hs
        simp at hs
    refine ⟨(List.range len0).map fun i => (c i).map T.v, ?_, ?_, ?_⟩
    · intro x hx
      obtain ⟨i, hi, rfl⟩ := List.mem_map.1 hx
      exact (hc2 i (List.mem_range.1 hi)).2.2.1
    · rw [List.length_map, List.length_range]
      exact Nat.le_trans (Nat.mul_le_mul_right _ (by omega)) hw1
    · have hro := Ow.ro (Z := fun k => k < w.heap.size) (w := w) (a := a) (c := cap0) (rows := (List.range len0).map fun i => (c i).map T.v) (sz := sz) (fun i j => (c i).getD j undef) (by simpa using hl)
        (by
          intro r hr
          obtain ⟨i, hi, rfl⟩ := List.mem_map.1 hr
          rw [List.length_map]
          exact (hc2 i (List.mem_range.1 hi)).1) hblk
        (by
          intro i j t' h'
          unfold cellT at h'
          rw [List.getElem?_map] at h'
          by_cases hi : i < len0
          · have hr : (List.range len0)[i]? = some i := by simp [hi]
            rw [hr] at h'
            simp only [Option.map_some, Option.bind_some, List.getElem?_map] at h'
            obtain ⟨v, hv, rfl⟩ := Option.map_eq_some_iff.1 h'
            obtain ⟨k1, k2, k3, k4⟩ := hc2 i hi
            have hj : j < sz := by rw [← k1]; exact (List.getElem?_eq_some_iff.1 hv).1
            have := k4 j hj
            rw [← Addr.add_add] 
            rw [this, hv]
            simp [hv]
          · have hr : (List.range len0)[i]? = none := by simp; omega
            rw [hr] at h'
            simp at h')
        (by
          intro i j t' h'
          unfold cellT at h'
          rw [List.getElem?_map] at h'
          by_cases hi : i < len0
          · have hr : (List.range len0)[i]? = some i := by simp [hi]
            rw [hr] at h'
            simp only [Option.map_some, Option.bind_some, List.getElem?_map] at h'
            obtain ⟨v, hv, rfl⟩ := Option.map_eq_some_iff.1 h'
            obtain ⟨k1, k2, k3, k4⟩ := hc2 i hi
            have e : (c i).getD j undef = v := by simp [List.getD, hv]
            rw [e]
            exact .v (k2 v (List.mem_of_getElem? hv))
          · have hr : (List.range len0)[i]? = none := by simp; omega
            rw [hr] at h'
            simp at h')
      simpa using hro
end Go.Proofs.Ytolafdaafdaffaa.Abs
namespace Go.Proofs.Ytolafdaafdaffaa.Abs
open Go Go.RowKit
set_option linter.unusedVariables false

theorem Ow.slice_inv {Z : Fp} {w : World} {v : Value} {sz : Nat} {rows : List (List T)} {F : Fp} {l : Nat} (h : Ow Z w l v (.sl sz rows) F) :
    (v = .slice none 0 0 ∧ rows = []) ∨ ∃ a c, v = .slice (some a) rows.length c ∧ rows.length ≤ c := by
  cases h with
  | nil => exact .inl ⟨rfl, rfl⟩
  | ro xs hc hs hz hx ht => exact .inr ⟨_, _, rfl, hc⟩
  | own xs F hb hfr hc hoff hmax hs hx ht hF hnb hd => exact .inr ⟨_, _, rfl, hc⟩
theorem arg_slice {Z : Fp} {w : World} {ob : Objs} {ρ : Nat → Value} {o sz : Nat} {rows : List (List T)} {v : Value} (h1 : ob o = ⟨0, 0, false, .tree 0 (.sl sz rows)⟩) (h2 : ρ o = v) (h3 : Ow Z w 0 v (.sl sz rows) none_) :
    AVR w ob ρ (.h o 0 0 [] sz 0 rows.length) v := by
  have hin := h3.slice_inv
  refine .h ?_ ?_ fun _ => ?_
  · rw [h1]; exact ⟨Nat.le_refl _, fun _ h => absurd rfl h⟩
  · rcases hin with ⟨rfl, rfl⟩ | ⟨a, c, rfl, hc⟩
    · exact ⟨none, 0, rfl, Nat.le_refl _, fun _ => rfl⟩
    · exact ⟨some a, c, rfl, hc, fun h => by cases h⟩
  · rw [h1, h2]
    refine ⟨fun cells h => by (dsimp only at h; cases h), fun lvl t hc => ?_⟩
    dsimp only at hc
    cases hc
    refine ⟨v, rows, .here, by omega, ?_⟩
    rcases hin with ⟨rfl, rfl⟩ | ⟨a, c, rfl, hc⟩
    · exact .inl ⟨rfl, rfl, rfl, rfl⟩
    · refine .inr ⟨a, rows.length, c, 0, c, rfl, ?_, hc, by omega, Nat.le_refl _, fun _ => rfl⟩
      rw [Nat.zero_mul]
      cases a with
      | mk b off s => cases s <;> simp [Addr.add]
/-- A call from the outside. -/
theorem FnOk.outside {P : Program} {W : World} {f : FuncId} {args : List AV} {conts : List Cont} {r : Res} (h : FnOk P f args conts r) (vals : List Value)
    (ho : ∀ (i : Nat) c, conts[i]? = some c → ∃ t v, c = .tree 0 t ∧ vals[i]? = some v ∧ Ow (fun k => k < W.heap.size) W 0 v t none_) (vs : Array Value) (hs : vs.size = args.length)
    (hA : ∀ (i : Nat) x, args[i]? = some x → AVR W (obIn conts) (fun o => vals.getD (o - 1000000) undef) x (vs.getD i undef)) :
    Calls P f vs W (fun e w' => ∃ v, e = .returned v ∧ Below W.heap.size W w' ∧ ∃ ob' ρ', AVR w' ob' ρ' r.v v) := by
  have hI : OInv W none_ (obIn conts) W (fun o => vals.getD (o - 1000000) undef) (fun _ => none_) (fun k => k < W.heap.size) := by
    refine ⟨Keep.refl _ _, fun k hk _ => hk, fun k hk => hk, fun o k hk => hk.elim, fun o o' k hk => hk.elim, fun o k hk => hk.elim, fun o => ?_⟩
    unfold ObOk
    by_cases h1 : 1000000 ≤ o
    · simp only [obIn, h1, if_true]
      cases hc : conts[o - 1000000]? with
      | none =>
        have e : conts.getD (o - 1000000) .dead = .dead := by simp [List.getD, hc]
        rw [e]
        exact fun k hk => hk
      | some c =>
        obtain ⟨t, v, rfl, hv, how⟩ := ho _ _ hc
        have e : conts.getD (o - 1000000) .dead = .tree 0 t := by simp [List.getD, hc]
        have e2 : vals.getD (o - 1000000) undef = v := by simp [List.getD, hv]
        rw [e, e2]
        exact how
    · simp only [obIn, h1, if_false]
      exact fun k hk => hk
  have hr := h.run W none_ _ _ _ vs hI (fun k _ hk => hk) hs hA
  intro cs
  obtain ⟨e, w', fr, hR, hC, hfn, hl⟩ := hr cs
  refine ⟨e, w', fr, ?_, hC, hfn, hl⟩
  cases e with
  | returned v =>
    obtain ⟨ρ', φ', Z', hst, hav⟩ := hR
    exact ⟨v, rfl, ⟨hst.inv.keep.os, hst.inv.keep.tape, hst.inv.keep.output, hst.inv.keep.size, fun k hk => hst.inv.keep.block k hk id⟩, _, _, hav⟩
  | _ => exact hR.elim
theorem AVR.bool_inv {w : World} {ob : Objs} {ρ : Nat → Value} {b : Bool} {v : Value} (h : AVR w ob ρ (.s (.bool b)) v) : v = .bool b := by
  cases h; rfl
end Go.Proofs.Ytolafdaafdaffaa.Abs
namespace Go.Proofs.Ytolafdaafdaffaa.Abs
open Go Go.Proofs Go.RowKit
set_option linter.unusedVariables false
set_option linter.unusedSimpArgs false
attribute [local irreducible] callE
theorem ints_Ins {ts : List T} (h : IntsM 5 ts) : ∃ x : Ins, True ∧ ts = rIns x := by
  obtain ⟨zs, hz, rfl⟩ := h
  match zs, hz with
  | [a, b, c, d, e], _ => exact ⟨⟨a, b, c, d, e⟩, trivial, rfl⟩
theorem ints_Event {ts : List T} (h : IntsM 3 ts) : ∃ x : Event, True ∧ ts = rEvent x := by
  obtain ⟨zs, hz, rfl⟩ := h
  match zs, hz with
  | [a, b, c], _ => exact ⟨⟨a, b, c⟩, trivial, rfl⟩
theorem opens_Ins : OpensF PR 49 5 (fun ts => ∃ x : Ins, True ∧ ts = rIns x) :=
  (OpensF.struct Try.underlying49 (by kernel_rfl) (.int rfl (by kernel_rfl) Try.underlying3 (.int rfl (by kernel_rfl) Try.underlying3 (.int rfl (by kernel_rfl) Try.underlying3 (.int rfl (by kernel_rfl) Try.underlying3 (.int rfl (by kernel_rfl) Try.underlying3 .nil)))))).mono fun _ => ints_Ins
theorem opens_Event : OpensF PR 53 3 (fun ts => ∃ x : Event, True ∧ ts = rEvent x) :=
  (OpensF.struct Try.underlying53 (by kernel_rfl) (.int rfl (by kernel_rfl) Try.underlying3 (.int rfl (by kernel_rfl) Try.underlying3 (.int rfl (by kernel_rfl) Try.underlying3 .nil)))).mono fun _ => ints_Event
/-- A list of instructions that an argument is. -/
theorem open_InsS {H : Type} {enc : TypeId × Value → H} {w : World} {base : Nat} {sp : Nat → Bool} {held : Bool} {v : Value} {d : DataW H} {ps : List MemPlace} {r : Reach} {b0 : Nat}
    (hval : Value.okWide PR w r b0 22 v) (h : DataW.Trod enc PR w base sp held 22 v d ps) (hw : ∀ m ∈ d.weights PR 22, m ≤ reachBytes) :
    ∃ l : List Ins, l.length ≤ 140737488355328 ∧ Ow (fun k => k < w.heap.size) w 0 v (.sl 5 (l.map rIns)) none_ := by
  obtain ⟨rows, h1, h2, h3⟩ := open_flat (B := 40) Try.underlying22 (by kernel_rfl) (by kernel_rfl) opens_Ins hval h hw
  obtain ⟨l, rfl, _⟩ := rows_map h1
  rw [List.length_map] at h2
  have := reachBytes_lt
  exact ⟨l, by omega, h3⟩
/-- A list of events that an argument is. -/
theorem open_EventS {H : Type} {enc : TypeId × Value → H} {w : World} {base : Nat} {sp : Nat → Bool} {held : Bool} {v : Value} {d : DataW H} {ps : List MemPlace} {r : Reach} {b0 : Nat}
    (hval : Value.okWide PR w r b0 23 v) (h : DataW.Trod enc PR w base sp held 23 v d ps) (hw : ∀ m ∈ d.weights PR 23, m ≤ reachBytes) :
    ∃ l : List Event, l.length ≤ 140737488355328 ∧ Ow (fun k => k < w.heap.size) w 0 v (.sl 3 (l.map rEvent)) none_ := by
  obtain ⟨rows, h1, h2, h3⟩ := open_flat (B := 24) Try.underlying23 (by kernel_rfl) (by kernel_rfl) opens_Event hval h hw
  obtain ⟨l, rfl, _⟩ := rows_map h1
  rw [List.length_map] at h2
  have := reachBytes_lt
  exact ⟨l, by omega, h3⟩

/-- The law, of any input. -/
theorem walk_FnExactKeepAll {W : World} {v0 v1 : Value} {l : List Ins} {es : List Event} (h1 : l.length ≤ 140737488355328) (h2 : es.length ≤ 140737488355328)
    (o1 : Ow (fun k => k < W.heap.size) W 0 v0 (.sl 5 (l.map rIns)) none_) (o2 : Ow (fun k => k < W.heap.size) W 0 v1 (.sl 3 (es.map rEvent)) none_) :
    Calls PR 3 #[v0, v1] W (fun e w' => e = .returned (.bool true) ∧ Below W.heap.size W w') := by
  have hF := callE_sound (C := C) tys_ok prims_ok _ _ _ _ _ (ok_laws_FnExactKeepAll 0 l es h1 h2)
  refine (hF.outside [v0, v1] ?_ #[v0, v1] rfl ?_).mono ?_
  · rintro (_ | _ | i) c hc
    · cases hc; exact ⟨_, _, rfl, rfl, o1⟩
    · cases hc; exact ⟨_, _, rfl, rfl, o2⟩
    · simp at hc
  · rintro (_ | _ | i) x hx
    · cases hx
      have := arg_slice (ob := obIn [tIns l, tEvent es]) (ρ := fun o => [v0, v1].getD (o - 1000000) undef) (o := 1000000) (by rfl) (by rfl) o1
      rwa [List.length_map] at this
    · cases hx
      have := arg_slice (ob := obIn [tIns l, tEvent es]) (ρ := fun o => [v0, v1].getD (o - 1000000) undef) (o := 1000001) (by rfl) (by rfl) o2
      rwa [List.length_map] at this
    · simp at hx
  · rintro e w' ⟨v, rfl, hb, ob', ρ', hv⟩
    exact ⟨by rw [hv.bool_inv], hb⟩

end Go.Proofs.Ytolafdaafdaffaa.Abs
namespace Go.Proofs.Ytolafdaafdaffaa.fnExactKeepAll
open Go Go.Proofs Go.ChangeShapes Go.WideShapes Go.RowKit Go.Proofs.Ytolafdaafdaffaa.Abs
set_option linter.unusedVariables false
theorem own : ownKnob Try.prog.godebug = none := by kernel_rfl
theorem laidOut : laidOutB Try.prog = true := by kernel_rfl
set_option maxRecDepth 100000 in
theorem lifted (os : Os) (started : os.Started) (H : Type) (enc : TypeId × Value → H) :
    ReturnsInHanded {} Try.checked os 3 .any (Rows.fnExactKeepAllSpec.pre6 enc Try.prog Try.f3 Rows.fnExactKeepAllRow.domain false) (Rows.fnExactKeepAllSpec.post enc Try.prog Try.f3 false true false false) := by
  refine returnsInHanded_of_change_sized (C := Try.checked) own started (by kernel_rfl) Try.func3
    (ChangeSpec.witness6 (enc := enc) (C := Try.checked) false ⟨#[], #[.slice none 0 0, .slice none 0 0], []⟩ 8 (by kernel_rfl) (by kernel_rfl) (by kernel_rfl) (by kernel_rfl)) ?_
  intro W base args ds gs before hval0 hW hcnd hsz0 _
  have hsz : (DataW.weightsEach Try.prog (Try.f3.params.toList ++ Rows.fnExactKeepAllSpec.plain.varTypes Try.prog) (ds ++ gs)).all (· ≤ reachBytes) = true := hsz0
  have hval : ∀ (j : Nat) t v, Try.f3.params[j]? = some t → args[j]? = some v → Value.okWide Try.prog W .any base t v := hval0
  have hW' := hW
  obtain ⟨p, q, hA0, hV, rfl, hfz, hnd⟩ := hW
  have hA : DataW.TrodAll enc Try.prog W 0 (fun _ => true) true Try.f3.params.toList args.toList ds p := hA0
  rw [Try.params3] at hA hval hsz
  obtain ⟨v0, vs0, d0, ds0, p0, q0, hargs, rfl, rfl, h0, r0⟩ := trodAll_cons hA
  obtain ⟨v1, vs1, d1, ds1, p1, q1, rfl, rfl, rfl, h1, r1⟩ := trodAll_cons r0
  obtain ⟨rfl, rfl, rfl⟩ := trodAll_nil r1
  obtain rfl : args = #[v0, v1] := by cases args; simp_all
  obtain ⟨rfl, rfl⟩ := trodVars_none hV
  have hwt : ∀ (j : Nat) t d, [22, 23][j]? = some t → [d0, d1][j]? = some d → ∀ m ∈ d.weights Try.prog t, m ≤ reachBytes := by
    intro j t d ht hd m hm
    have := List.all_eq_true.1 hsz m (DataW.weights_mem_each (j := j) (t := t) (d := d) ht hd m hm)
    simpa using this
  have k0 := h0
  have lt0 : ∀ x ∈ p0, x.block < W.heap.size := by obtain ⟨m, hm⟩ := k0; exact DataW.trod_lt m _ _ _ hm
  have k1 := h1
  have lt1 : ∀ x ∈ p1, x.block < W.heap.size := by obtain ⟨m, hm⟩ := k1; exact DataW.trod_lt m _ _ _ hm
  obtain ⟨l0, s0, o0⟩ := open_InsS (hval 0 22 v0 rfl rfl) h0 (hwt 0 _ _ rfl rfl)
  obtain ⟨l1, s1, o1⟩ := open_EventS (hval 1 23 v1 rfl rfl) h1 (hwt 1 _ _ rfl rfl)
  clear hA0 hval0 hsz0 hsz hwt
  refine (walk_FnExactKeepAll s0 s1 o0 o1).mono fun e W' ⟨he, bel⟩ => ?_
  subst he
  exact ⟨_, rfl, _, _, _, [], _, [], hW', trodAll_mk1 (shut_bool Try.underlying4 _), (trodAll_cons_mk (Below.trod laidOut (by kernel_rfl) (of_decide_eq_true (by kernel_rfl)) k0 bel lt0) (trodAll_cons_mk (Below.trod laidOut (by kernel_rfl) (of_decide_eq_true (by kernel_rfl)) k1 bel lt1) trodAll_mk0)), rfl, bel.frame _, fun h => by cases h⟩
theorem over : Rows.fnExactKeepAllRow.holds Try.pinned (OpenSpec.ofChange Rows.fnExactKeepAllSpec) :=
  OpenClaim.holds_of_wide 3 Try.f3 rfl rfl rfl rfl rfl rfl rfl ⟨rfl, rfl, rfl, rfl, rfl⟩ rfl rfl rfl rfl rfl (by kernel_rfl) Try.func3 (by kernel_rfl)
    (of_decide_eq_true (by kernel_rfl)) (by unfold Func.isWrapper; first | (rw [if_pos (by decide +kernel)]; kernel_rfl) | (rw [if_neg (by decide +kernel)]; exact ⟨rfl, rfl⟩))
    (fun os started H enc _ => lifted os started H enc)
theorem proved : Rows.FnExactKeepAllSaid := over
#print axioms proved
end Go.Proofs.Ytolafdaafdaffaa.fnExactKeepAll
namespace Go.Proofs.Ytolafdaafdaffaa
/-- The row, under a short name, for the claim. -/
theorem fnExactKeepAll_holds : Rows.FnExactKeepAllSaid := fnExactKeepAll.proved
end Go.Proofs.Ytolafdaafdaffaa

