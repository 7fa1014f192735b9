/- Part 6 of the words by which the law is followed: an interpreter over data trees, proved of the machine, and what functions of this program come to by it. No condition. -/
import Derived.Test.YtkmhbofkjcknjaaGreatJF5
namespace Go.Proofs.YtkmhbofkjcknjaaGreat.Abs
open Go Go.Proofs
set_option linter.unusedVariables false
set_option linter.unusedSimpArgs false
attribute [local irreducible] callE
/-! ### Helpers of the laws: items, slices of slices, states, systems (printed by ss.py) -/
theorem wts_one {α : Type} [Inhabited α] (wt : α → Nat) (l : List α) (j : Nat) (h : j < l.length) : wt (rd l j) ≤ wts wt l := by
  have h1 := wts_take wt l j h
  have h2 := wts_le wt l (j + 1)
  omega
theorem set_rItem (l : List Item) (n : Nat) (a : Bool) (b : Int) : (l.map rItem).set n [.v (.bool a), .v (.int .i64 b)] = (l.set n ⟨a, b⟩).map rItem := by simp [rItem, List.map_set]
theorem rep_rItem (n : Nat) (a : Bool) (b : Int) : List.replicate n [T.v (.bool a), .v (.int .i64 b)] = (List.replicate n (⟨a, b⟩ : Item)).map rItem := by simp [rItem]
theorem gI10 {p A : Prop} (h : A) (e : p := by first | with_reducible assumption | omega | (simp only [Nat.zero_add, Nat.add_zero, Nat.sub_zero, Int.toNat_natCast, Int.toNat_zero, Int.toNat_one, List.length_map, List.length_nil, Int.reduceToNat, Nat.reduceAdd, Nat.reduceSub, Int.sub_zero, Int.reduceAdd, Int.reduceSub, Nat.sub_self, Int.toNat_natCast_add_one, marks_len, bs_len, List.length_append, List.length_cons, List.length_set, List.length_replicate, List.length_range]; first | done | omega)) : sI p A := sI.mk e h
theorem gNum10 {r r' : Nat} {F : Nat → Prop} (h : F r') (e : r = r' := by first | (simp only [Nat.zero_add, Nat.add_zero, Nat.sub_zero, Int.toNat_natCast, Int.toNat_zero, Int.toNat_one, List.length_map, List.length_nil, Int.reduceToNat, Nat.reduceAdd, Nat.reduceSub, Int.sub_zero, Int.reduceAdd, Int.reduceSub, Nat.sub_self, Int.toNat_natCast_add_one, marks_len, bs_len]; rfl) | rfl) : sN r F := sN.eq e h
theorem gRow10 {r r' : List (List T)} {F : List (List T) → Prop} (h : F r') (e : r = r' := by first | (simp only [Nat.add_zero, Nat.zero_add, Nat.reduceAdd, List.drop_zero, List.take_succ_cons, List.take_nil, List.drop_succ_cons, List.drop_nil, List.take_zero, List.nil_append, List.append_nil, List.map_nil, drop_suf, take_pre, drop_map, List.take_length, take_len_set, take_len_app, List.set_set, List.length_map, set_rItem, rep_rItem, rep_rKept, marks_take, set_rKept, set_rIns, rep_rIns, set_rEvent, rep_rEvent, snoc_rKept, snoc_rEvent, snoc_rIns, bytesT_bs, snoc_rI, snoc_rB, snoc_rBool, set_rI, set_rBool, rep_rI, rep_rBool, map_app]; rfl) | rfl) : sR r F := sR.eq e h
theorem ok_laws_szItemS (k : Nat) (l : List Item) (m : Int) (h0 : 0 ≤ m) (h1 : m ≤ 1048576) (hl : l.length ≤ 140737488355328) : callE PR C (k + 1) 142 [(.h 1000000 0 0 [] 2 0 l.length), i64 m] [(.tree 0 (.sl 2 (l.map rItem)))] = some ⟨i64 (left m l.length), [], [none]⟩ := by
  (refine callE_is (callE_w [ResultVar.tmp 4] rfl Tryz.func142 rfl (by decide +kernel) rfl (by simp) ?_); (conv => whnf))
  repeat' ((with_reducible (first | refine gP ?_ | refine gN ?_ | refine fG.split (fun _ => ?_) (fun _ => ?_) | refine fG.not ?_ | refine gY ?_ | refine gF ?_ | refine fG.yes (flat_map (fun _ => rfl) _) ?_ | refine fG.bool (fun _ => ?_) (fun _ => ?_) | refine gS64 ?_ | refine gU8 ?_ | refine gI10 ?_ | refine fE.of rfl ?_ | refine gBq ?_ | refine gNum10 ?_ | refine gSet ?_ | refine gRd ?_ | refine gLk ?_ | refine gRow10 ?_ | refine fB.of (wide_map (fun _ => rfl) _) ?_ | refine fB.of (full_map (fun _ => rfl) _) ?_ | refine fB.of (full_map (fun x => full_rKept x) _) ?_ | refine gRf ?_)) <;> (try (conv => whnf)))
  all_goals (simp only [left, *, if_true, if_false]; done)
set_option maxRecDepth 10000 in
theorem ok_laws_toItem (k : Nat) (a : Bool) (b : Int) : callE PR C (k + 1) 210 [.ag [bl a, i64 b]] [] = some ⟨.ag [bl a, i64 b], [], []⟩ := by
  (refine callE_is (callE_w [ResultVar.cell 2 162] rfl Tryz.func210 rfl (by decide +kernel) rfl (by simp) ?_); (conv => whnf))
  repeat' ((with_reducible (first | refine gP ?_ | refine gN ?_ | refine fG.split (fun _ => ?_) (fun _ => ?_) | refine fG.not ?_ | refine gY ?_ | refine gF ?_ | refine fG.yes (flat_map (fun _ => rfl) _) ?_ | refine fG.bool (fun _ => ?_) (fun _ => ?_) | refine gS64 ?_ | refine gU8 ?_ | refine gI10 ?_ | refine fE.of rfl ?_ | refine gBq ?_ | refine gNum10 ?_ | refine gSet ?_ | refine gRd ?_ | refine gLk ?_ | refine gRow10 ?_ | refine fB.of (wide_map (fun _ => rfl) _) ?_ | refine fB.of (full_map (fun _ => rfl) _) ?_ | refine fB.of (full_map (fun x => full_rKept x) _) ?_ | refine gRf ?_)) <;> (try (conv => whnf)))
theorem ok_laws_eqItem (k : Nat) (a : Bool) (b : Int) : callE PR C (k + 1) 213 [.ag [bl a, i64 b], .ag [bl a, i64 b]] [] = some ⟨bl true, [], []⟩ := by
  cases a
  all_goals (refine callE_is (callE_w [ResultVar.tmp 4] rfl Tryz.func213 rfl (by decide +kernel) rfl (by simp) ?_); (conv => whnf))
  all_goals repeat' ((with_reducible (first | refine gP ?_ | refine gN ?_ | refine fG.split (fun _ => ?_) (fun _ => ?_) | refine fG.not ?_ | refine gY ?_ | refine gF ?_ | refine fG.yes (flat_map (fun _ => rfl) _) ?_ | refine fG.bool (fun _ => ?_) (fun _ => ?_) | refine gS64 ?_ | refine gU8 ?_ | refine gI10 ?_ | refine fE.of rfl ?_ | refine gBq ?_ | refine gNum10 ?_ | refine gSet ?_ | refine gRd ?_ | refine gLk ?_ | refine gRow10 ?_ | refine fB.of (wide_map (fun _ => rfl) _) ?_ | refine fB.of (full_map (fun _ => rfl) _) ?_ | refine fB.of (full_map (fun x => full_rKept x) _) ?_ | refine gRf ?_)) <;> (try (conv => whnf)))
theorem ok_laws_toItemS (k : Nat) (l : List Item) (hl : l.length ≤ 100000000000) : callE PR C (k + 2) 146 [(.h 1000000 0 0 [] 2 0 l.length)] [(.tree 0 (.sl 2 (l.map rItem)))] = some ⟨.h 2000000 1 0 [] 2 0 l.length, [(.tree 9 (.sl 2 (l.map rItem)))], [none]⟩ := by
  (refine callE_is (callE_w [ResultVar.tmp 2] rfl Tryz.func146 rfl (by decide +kernel) rfl (by simp) ?_); (conv => whnf))
  repeat' ((with_reducible (first | refine gP ?_ | refine gN ?_ | refine fG.split (fun _ => ?_) (fun _ => ?_) | refine fG.not ?_ | refine gY ?_ | refine gF ?_ | refine fG.yes (flat_map (fun _ => rfl) _) ?_ | refine fG.bool (fun _ => ?_) (fun _ => ?_) | refine gS64 ?_ | refine gU8 ?_ | refine gI10 ?_ | refine fE.of rfl ?_ | refine gBq ?_ | refine gNum10 ?_ | refine gSet ?_ | refine gRd ?_ | refine gLk ?_ | refine gRow10 ?_ | refine fB.of (wide_map (fun _ => rfl) _) ?_ | refine fB.of (full_map (fun _ => rfl) _) ?_ | refine fB.of (full_map (fun x => full_rKept x) _) ?_ | refine gRf ?_)) <;> (try (conv => whnf)))
  refine loop_rule (ι := TL Item) (fun x => [(0, (.h 1000000 0 0 [] 2 0 l.length)), (3, .h 7 1 0 [] 2 0 l.length), (4, i64 (x.j : Nat))])
    (fun x => [(1000000, ⟨0, 0, false, (.tree 0 (.sl 2 (l.map rItem)))⟩), (7, ⟨1, x.g, x.d, .tree 9 (.sl 2 (x.l.map rItem))⟩)])
    (fun x => l.length - x.j) (fun x => x.j ≤ l.length ∧ x.l = fill l x.j) ⟨0, List.replicate l.length default, 0, false⟩ (by (try dsimp only [cond_true, cond_false]); exact ⟨⟨rfl, rfl, rfl, trivial⟩, ⟨rfl, rfl, trivial⟩⟩) ⟨Nat.zero_le _, (fill_zero l).symm⟩ (by simp [C]; omega) ?_
  rintro ⟨j, out, g, d⟩ sl ob ⟨hj, hout⟩
  dsimp only at hj hout
  have hlen : out.length = l.length := by rw [hout, fill_len]
  (try dsimp only [cond_true, cond_false])
  (conv => whnf)
  repeat' ((with_reducible (first | refine sCall.of (ok_laws_toItem _ _ _) ?_ | refine gP ?_ | refine gN ?_ | refine fG.split (fun _ => ?_) (fun _ => ?_) | refine fG.not ?_ | refine gY ?_ | refine gF ?_ | refine fG.yes (flat_map (fun _ => rfl) _) ?_ | refine fG.bool (fun _ => ?_) (fun _ => ?_) | refine gS64 ?_ | refine gU8 ?_ | refine gI10 ?_ | refine fE.of rfl ?_ | refine gBq ?_ | refine gNum10 ?_ | refine gSet ?_ | refine gRd ?_ | refine gLk ?_ | refine gRow10 ?_ | refine fB.of (wide_map (fun _ => rfl) _) ?_ | refine fB.of (full_map (fun _ => rfl) _) ?_ | refine fB.of (full_map (fun x => full_rKept x) _) ?_ | refine gRf ?_)) <;> (try (conv => whnf)))
  case' refine_1 h =>
    refine ⟨⟨⟨j + 1, out.set j (rd l j), _, _⟩, (by (try dsimp only [cond_true, cond_false]); exact ⟨⟨rfl, rfl, rfl, trivial⟩, ⟨rfl, rfl, trivial⟩⟩), ?_, ?_⟩⟩
    · exact ⟨by show j + 1 ≤ _; omega, by show _ = _; rw [hout]; exact fill_set l j (by omega)⟩
    · show l.length - (j + 1) < l.length - j; omega
  case refine_2 h =>
    have : j = l.length := by omega
    rw [hout, this, fill_all, List.take_length]
theorem ok_laws_eqItemS (k : Nat) (l : List Item) (hl : l.length ≤ 100000000000) : callE PR C (k + 2) 150 [(.h 1000000 0 0 [] 2 0 l.length), (.h 1000001 0 0 [] 2 0 l.length)] [(.tree 0 (.sl 2 (l.map rItem))), (.tree 0 (.sl 2 (l.map rItem)))] = some ⟨bl true, [], [none, none]⟩ := by
  (refine callE_is (callE_w [ResultVar.tmp 4] rfl Tryz.func150 rfl (by decide +kernel) rfl (by simp) ?_); (conv => whnf))
  repeat' ((with_reducible (first | refine gP ?_ | refine gN ?_ | refine fG.split (fun _ => ?_) (fun _ => ?_) | refine fG.not ?_ | refine gY ?_ | refine gF ?_ | refine fG.yes (flat_map (fun _ => rfl) _) ?_ | refine fG.bool (fun _ => ?_) (fun _ => ?_) | refine gS64 ?_ | refine gU8 ?_ | refine gI10 ?_ | refine fE.of rfl ?_ | refine gBq ?_ | refine gNum10 ?_ | refine gSet ?_ | refine gRd ?_ | refine gLk ?_ | refine gRow10 ?_ | refine fB.of (wide_map (fun _ => rfl) _) ?_ | refine fB.of (full_map (fun _ => rfl) _) ?_ | refine fB.of (full_map (fun x => full_rKept x) _) ?_ | refine gRf ?_ | refine sDraw.none (id := 6) (ty := tys) rfl (by decide +kernel) ?_)) <;> (try (conv => whnf)))
  refine loop_rule (ι := Nat) (fun j => [(0, (.h 1000000 0 0 [] 2 0 l.length)), (1, (.h 1000001 0 0 [] 2 0 l.length)), (5, i64 (j : Nat))])
    (fun x => [(1000000, ⟨0, 0, false, (.tree 0 (.sl 2 (l.map rItem)))⟩), (1000001, ⟨0, 0, false, (.tree 0 (.sl 2 (l.map rItem)))⟩)])
    (fun j => l.length - j) (fun j => j ≤ l.length) 0 (by (try dsimp only [cond_true, cond_false]); exact ⟨⟨rfl, rfl, rfl, trivial⟩, ⟨rfl, rfl, trivial⟩⟩) (Nat.zero_le _) (by simp [C]; omega) ?_
  rintro j sl ob hj
  (try dsimp only [cond_true, cond_false])
  (conv => whnf)
  repeat' ((with_reducible (first | refine sCall.of (ok_laws_eqItem _ _ _) ?_ | refine gP ?_ | refine gN ?_ | refine fG.split (fun _ => ?_) (fun _ => ?_) | refine fG.not ?_ | refine gY ?_ | refine gF ?_ | refine fG.yes (flat_map (fun _ => rfl) _) ?_ | refine fG.bool (fun _ => ?_) (fun _ => ?_) | refine gS64 ?_ | refine gU8 ?_ | refine gI10 ?_ | refine fE.of rfl ?_ | refine gBq ?_ | refine gNum10 ?_ | refine gSet ?_ | refine gRd ?_ | refine gLk ?_ | refine gRow10 ?_ | refine fB.of (wide_map (fun _ => rfl) _) ?_ | refine fB.of (full_map (fun _ => rfl) _) ?_ | refine fB.of (full_map (fun x => full_rKept x) _) ?_ | refine gRf ?_ | refine sDraw.none (id := 6) (ty := tys) rfl (by decide +kernel) ?_)) <;> (try (conv => whnf)))
  case' refine_1 h =>
    refine ⟨⟨j + 1, (by (try dsimp only [cond_true, cond_false]); exact ⟨⟨rfl, rfl, rfl, trivial⟩, ⟨rfl, rfl, trivial⟩⟩), ?_, ?_⟩⟩
    · show j + 1 ≤ _; omega
    · show l.length - (j + 1) < l.length - j; omega
theorem set_rInsL (l : List (List Ins)) (n : Nat) (x : List Ins) : (l.map rInsL).set n [.sl 5 (x.map rIns)] = (l.set n x).map rInsL := by simp [rInsL, List.map_set]
theorem rep_rInsL (n : Nat) : List.replicate n [T.sl 5 []] = (List.replicate n (default : List Ins)).map rInsL := by simp [rInsL, default, instInhabitedList]
theorem full_rInsL (x : List Ins) : (rInsL x).all (fun t => T.full 8 t) = true := by
  simp only [rInsL, List.all_cons, List.all_nil, Bool.and_true]
  exact full_map (fun _ => rfl) x
theorem set_rItemL (l : List (List Item)) (n : Nat) (x : List Item) : (l.map rItemL).set n [.sl 2 (x.map rItem)] = (l.set n x).map rItemL := by simp [rItemL, List.map_set]
theorem rep_rItemL (n : Nat) : List.replicate n [T.sl 2 []] = (List.replicate n (default : List Item)).map rItemL := by simp [rItemL, default, instInhabitedList]
theorem full_rItemL (x : List Item) : (rItemL x).all (fun t => T.full 8 t) = true := by
  simp only [rItemL, List.all_cons, List.all_nil, Bool.and_true]
  exact full_map (fun _ => rfl) x
theorem set_rEventL (l : List (List Event)) (n : Nat) (x : List Event) : (l.map rEventL).set n [.sl 3 (x.map rEvent)] = (l.set n x).map rEventL := by simp [rEventL, List.map_set]
theorem rep_rEventL (n : Nat) : List.replicate n [T.sl 3 []] = (List.replicate n (default : List Event)).map rEventL := by simp [rEventL, default, instInhabitedList]
theorem full_rEventL (x : List Event) : (rEventL x).all (fun t => T.full 8 t) = true := by
  simp only [rEventL, List.all_cons, List.all_nil, Bool.and_true]
  exact full_map (fun _ => rfl) x
theorem gI11 {p A : Prop} (h : A) (e : p := by first | with_reducible assumption | omega | (simp only [Nat.zero_add, Nat.add_zero, Nat.sub_zero, Int.toNat_natCast, Int.toNat_zero, Int.toNat_one, List.length_map, List.length_nil, Int.reduceToNat, Nat.reduceAdd, Nat.reduceSub, Int.sub_zero, Int.reduceAdd, Int.reduceSub, Nat.sub_self, Int.toNat_natCast_add_one, marks_len, bs_len, List.length_append, List.length_cons, List.length_set, List.length_replicate, List.length_range]; first | done | omega)) : sI p A := sI.mk e h
theorem gNum11 {r r' : Nat} {F : Nat → Prop} (h : F r') (e : r = r' := by first | (simp only [Nat.zero_add, Nat.add_zero, Nat.sub_zero, Int.toNat_natCast, Int.toNat_zero, Int.toNat_one, List.length_map, List.length_nil, Int.reduceToNat, Nat.reduceAdd, Nat.reduceSub, Int.sub_zero, Int.reduceAdd, Int.reduceSub, Nat.sub_self, Int.toNat_natCast_add_one, marks_len, bs_len]; rfl) | rfl) : sN r F := sN.eq e h
theorem gRow11 {r r' : List (List T)} {F : List (List T) → Prop} (h : F r') (e : r = r' := by first | (simp only [Nat.add_zero, Nat.zero_add, Nat.reduceAdd, List.drop_zero, List.take_succ_cons, List.take_nil, List.drop_succ_cons, List.drop_nil, List.take_zero, List.nil_append, List.append_nil, List.map_nil, drop_suf, take_pre, drop_map, List.take_length, take_len_set, take_len_app, List.set_set, List.length_map, set_rInsL, rep_rInsL, set_rItemL, rep_rItemL, set_rEventL, rep_rEventL, set_rItem, rep_rItem, rep_rKept, marks_take, set_rKept, set_rIns, rep_rIns, set_rEvent, rep_rEvent, snoc_rKept, snoc_rEvent, snoc_rIns, bytesT_bs, snoc_rI, snoc_rB, snoc_rBool, set_rI, set_rBool, rep_rI, rep_rBool, map_app]; rfl) | rfl) : sR r F := sR.eq e h

theorem ok_laws_szInsSS (k : Nat) (l : List (List Ins)) (m : Int) (h0 : 0 ≤ m) (h1 : m ≤ 1048576) (hl : l.length ≤ 140737488355328) (hx : ∀ j : Nat, j < l.length → (rd l j).length ≤ 140737488355328) :
    callE PR C (k + 3) 76 [(.h 1000000 0 0 [] 1 0 l.length), i64 m] [(.tree 0 (.sl 1 (l.map rInsL)))] = some ⟨i64 (left m (l.length + wts List.length l : Nat)), [], [none]⟩ := by
  by_cases c1 : m - l.length < 0
  · rw [show left m (l.length + wts List.length l : Nat) = -1 from by unfold left; rw [if_pos (by omega)]]
    (refine callE_is (callE_w [ResultVar.tmp 4] rfl Tryz.func76 rfl (by decide +kernel) rfl (by simp) ?_); (conv => whnf))
    repeat' ((with_reducible (first | refine gP ?_ | refine gN ?_ | refine fG.split (fun _ => ?_) (fun _ => ?_) | refine fG.not ?_ | refine gY ?_ | refine gF ?_ | refine fG.yes (flat_map (fun _ => rfl) _) ?_ | refine fG.bool (fun _ => ?_) (fun _ => ?_) | refine gS64 ?_ | refine gU8 ?_ | refine gI11 ?_ | refine fE.of rfl ?_ | refine gBq ?_ | refine gNum11 ?_ | refine gSet ?_ | refine gRd ?_ | refine gLk ?_ | refine gRow11 ?_ | refine fB.of (wide_map (fun _ => rfl) _) ?_ | refine fB.of (full_map (fun _ => rfl) _) ?_ | refine fB.of (full_map (fun x => full_rKept x) _) ?_ | refine fB.of (full_map (fun x => full_rInsL x) _) ?_ | refine fB.of (full_map (fun x => full_rItemL x) _) ?_ | refine fB.of (full_map (fun x => full_rEventL x) _) ?_ | refine gRf ?_)) <;> (try (conv => whnf)))
  · (refine callE_is (callE_w [ResultVar.tmp 4] rfl Tryz.func76 rfl (by decide +kernel) rfl (by simp) ?_); (conv => whnf))
    repeat' ((with_reducible (first | refine gP ?_ | refine gN ?_ | refine fG.split (fun _ => ?_) (fun _ => ?_) | refine fG.not ?_ | refine gY ?_ | refine gF ?_ | refine fG.yes (flat_map (fun _ => rfl) _) ?_ | refine fG.bool (fun _ => ?_) (fun _ => ?_) | refine gS64 ?_ | refine gU8 ?_ | refine gI11 ?_ | refine fE.of rfl ?_ | refine gBq ?_ | refine gNum11 ?_ | refine gSet ?_ | refine gRd ?_ | refine gLk ?_ | refine gRow11 ?_ | refine fB.of (wide_map (fun _ => rfl) _) ?_ | refine fB.of (full_map (fun _ => rfl) _) ?_ | refine fB.of (full_map (fun x => full_rKept x) _) ?_ | refine fB.of (full_map (fun x => full_rInsL x) _) ?_ | refine fB.of (full_map (fun x => full_rItemL x) _) ?_ | refine fB.of (full_map (fun x => full_rEventL x) _) ?_ | refine gRf ?_)) <;> (try (conv => whnf)))
    refine loop_rule (ι := TH) (fun x => [(0, (.h 1000000 0 0 [] 1 0 l.length)), (1, i64 x.m), (5, i64 (x.j : Nat))])
      (fun x => [(1000000, ⟨0, 0, false, (.tree 0 (.sl 1 (l.map rInsL)))⟩)])
      (fun x => l.length - x.j) (fun x => x.j ≤ l.length ∧ x.m = m - l.length - wts List.length (l.take x.j) ∧ 0 ≤ x.m) ⟨0, m - l.length⟩ (by (try dsimp only [cond_true, cond_false]); exact ⟨⟨rfl, rfl, rfl, trivial⟩, ⟨rfl, trivial⟩⟩) ⟨Nat.zero_le _, by simp [wts], by show 0 ≤ m - (l.length : Int); omega⟩ (by simp [C]; omega) ?_
    rintro ⟨j, n⟩ sl ob ⟨hj, hn, hn0⟩
    dsimp only at hj hn hn0
    have hn1 : n ≤ 1048576 := by omega
    (try dsimp only [cond_true, cond_false])
    (conv => whnf)
    by_cases hjl : j < l.length
    · have hxj := hx j hjl
      have e := wts_take List.length l j hjl
      have e2 := wts_le List.length l (j + 1)
      have hq := fun k => ok_laws_szInsS k (rd l j) n hn0 hn1 hxj
      (try simp only [List.length_map] at e)
      by_cases c2 : n - ((rd l j).length : Int) < 0
      · have e3 : left n ((rd l j).length : Int) = -1 := by unfold left; rw [if_pos c2]
        rw [e3] at hq
        rw [show left m (l.length + wts List.length l : Nat) = -1 from by unfold left; rw [if_pos (by omega)]]
        repeat' ((with_reducible (first | refine sCall.of (hq _) ?_ | refine gP ?_ | refine gN ?_ | refine fG.split (fun _ => ?_) (fun _ => ?_) | refine fG.not ?_ | refine gY ?_ | refine gF ?_ | refine fG.yes (flat_map (fun _ => rfl) _) ?_ | refine fG.bool (fun _ => ?_) (fun _ => ?_) | refine gS64 ?_ | refine gU8 ?_ | refine gI11 ?_ | refine fE.of rfl ?_ | refine gBq ?_ | refine gNum11 ?_ | refine gSet ?_ | refine gRd ?_ | refine gLk ?_ | refine gRow11 ?_ | refine fB.of (wide_map (fun _ => rfl) _) ?_ | refine fB.of (full_map (fun _ => rfl) _) ?_ | refine fB.of (full_map (fun x => full_rKept x) _) ?_ | refine fB.of (full_map (fun x => full_rInsL x) _) ?_ | refine fB.of (full_map (fun x => full_rItemL x) _) ?_ | refine fB.of (full_map (fun x => full_rEventL x) _) ?_ | refine gRf ?_)) <;> (try (conv => whnf)))
      · have e3 : left n ((rd l j).length : Int) = n - ((rd l j).length : Int) := by unfold left; rw [if_neg c2]
        rw [e3] at hq
        repeat' ((with_reducible (first | refine sCall.of (hq _) ?_ | refine gP ?_ | refine gN ?_ | refine fG.split (fun _ => ?_) (fun _ => ?_) | refine fG.not ?_ | refine gY ?_ | refine gF ?_ | refine fG.yes (flat_map (fun _ => rfl) _) ?_ | refine fG.bool (fun _ => ?_) (fun _ => ?_) | refine gS64 ?_ | refine gU8 ?_ | refine gI11 ?_ | refine fE.of rfl ?_ | refine gBq ?_ | refine gNum11 ?_ | refine gSet ?_ | refine gRd ?_ | refine gLk ?_ | refine gRow11 ?_ | refine fB.of (wide_map (fun _ => rfl) _) ?_ | refine fB.of (full_map (fun _ => rfl) _) ?_ | refine fB.of (full_map (fun x => full_rKept x) _) ?_ | refine fB.of (full_map (fun x => full_rInsL x) _) ?_ | refine fB.of (full_map (fun x => full_rItemL x) _) ?_ | refine fB.of (full_map (fun x => full_rEventL x) _) ?_ | refine gRf ?_)) <;> (try (conv => whnf)))
        refine ⟨⟨⟨j + 1, n - ((rd l j).length : Int)⟩, (by (try dsimp only [cond_true, cond_false]); exact ⟨⟨rfl, rfl, rfl, trivial⟩, ⟨rfl, trivial⟩⟩), ?_, ?_⟩⟩
        · refine ⟨by show j + 1 ≤ _; omega, ?_, by show (0 : Int) ≤ n - ((rd l j).length : Int); omega⟩
          show n - ((rd l j).length : Int) = m - l.length - (wts List.length (l.take (j + 1)) : Nat)
          omega
        · show l.length - (j + 1) < l.length - j; omega
    · have hjj : j = l.length := by omega
      rw [hjj, List.take_length] at hn
      rw [show left m (l.length + wts List.length l : Nat) = n from by unfold left; rw [if_neg (by omega)]; omega]
      repeat' ((with_reducible (first | refine gP ?_ | refine gN ?_ | refine fG.split (fun _ => ?_) (fun _ => ?_) | refine fG.not ?_ | refine gY ?_ | refine gF ?_ | refine fG.yes (flat_map (fun _ => rfl) _) ?_ | refine fG.bool (fun _ => ?_) (fun _ => ?_) | refine gS64 ?_ | refine gU8 ?_ | refine gI11 ?_ | refine fE.of rfl ?_ | refine gBq ?_ | refine gNum11 ?_ | refine gSet ?_ | refine gRd ?_ | refine gLk ?_ | refine gRow11 ?_ | refine fB.of (wide_map (fun _ => rfl) _) ?_ | refine fB.of (full_map (fun _ => rfl) _) ?_ | refine fB.of (full_map (fun x => full_rKept x) _) ?_ | refine fB.of (full_map (fun x => full_rInsL x) _) ?_ | refine fB.of (full_map (fun x => full_rItemL x) _) ?_ | refine fB.of (full_map (fun x => full_rEventL x) _) ?_ | refine gRf ?_)) <;> (try (conv => whnf)))
theorem ok_laws_toInsSS (k : Nat) (l : List (List Ins)) (hl : l.length ≤ 100000000000) (hx : ∀ j : Nat, j < l.length → (rd l j).length ≤ 100000000000) : callE PR C (k + 3) 80 [(.h 1000000 0 0 [] 1 0 l.length)] [(.tree 0 (.sl 1 (l.map rInsL)))] = some ⟨.h 2000000 1 0 [] 1 0 l.length, [(.tree 9 (.sl 1 (l.map rInsL)))], [none]⟩ := by
  (refine callE_is (callE_w [ResultVar.tmp 2] rfl Tryz.func80 rfl (by decide +kernel) rfl (by simp) ?_); (conv => whnf))
  repeat' ((with_reducible (first | refine gP ?_ | refine gN ?_ | refine fG.split (fun _ => ?_) (fun _ => ?_) | refine fG.not ?_ | refine gY ?_ | refine gF ?_ | refine fG.yes (flat_map (fun _ => rfl) _) ?_ | refine fG.bool (fun _ => ?_) (fun _ => ?_) | refine gS64 ?_ | refine gU8 ?_ | refine gI11 ?_ | refine fE.of rfl ?_ | refine gBq ?_ | refine gNum11 ?_ | refine gSet ?_ | refine gRd ?_ | refine gLk ?_ | refine gRow11 ?_ | refine fB.of (wide_map (fun _ => rfl) _) ?_ | refine fB.of (full_map (fun _ => rfl) _) ?_ | refine fB.of (full_map (fun x => full_rKept x) _) ?_ | refine fB.of (full_map (fun x => full_rInsL x) _) ?_ | refine fB.of (full_map (fun x => full_rItemL x) _) ?_ | refine fB.of (full_map (fun x => full_rEventL x) _) ?_ | refine gRf ?_)) <;> (try (conv => whnf)))
  refine loop_rule (ι := TL (List Ins)) (fun x => [(0, (.h 1000000 0 0 [] 1 0 l.length)), (3, .h 7 1 0 [] 1 0 l.length), (4, i64 (x.j : Nat))])
    (fun x => [(1000000, ⟨0, 0, false, (.tree 0 (.sl 1 (l.map rInsL)))⟩), (7, ⟨1, x.g, x.d, .tree 9 (.sl 1 (x.l.map rInsL))⟩)])
    (fun x => l.length - x.j) (fun x => x.j ≤ l.length ∧ x.l = fill l x.j) ⟨0, List.replicate l.length default, 0, false⟩ (by (try dsimp only [cond_true, cond_false]); exact ⟨⟨rfl, rfl, rfl, trivial⟩, ⟨rfl, rfl, trivial⟩⟩) ⟨Nat.zero_le _, (fill_zero l).symm⟩ (by simp [C]; omega) ?_
  rintro ⟨j, out, g, d⟩ sl ob ⟨hj, hout⟩
  dsimp only at hj hout
  have hlen : out.length = l.length := by rw [hout, fill_len]
  (try dsimp only [cond_true, cond_false])
  (conv => whnf)
  by_cases hjl : j < l.length
  · have hxj := hx j hjl
    have hq := fun k => ok_laws_toInsS k (rd l j) hxj
    repeat' ((with_reducible (first | refine sCall.of (hq _) ?_ | refine gP ?_ | refine gN ?_ | refine fG.split (fun _ => ?_) (fun _ => ?_) | refine fG.not ?_ | refine gY ?_ | refine gF ?_ | refine fG.yes (flat_map (fun _ => rfl) _) ?_ | refine fG.bool (fun _ => ?_) (fun _ => ?_) | refine gS64 ?_ | refine gU8 ?_ | refine gI11 ?_ | refine fE.of rfl ?_ | refine gBq ?_ | refine gNum11 ?_ | refine gSet ?_ | refine gRd ?_ | refine gLk ?_ | refine gRow11 ?_ | refine fB.of (wide_map (fun _ => rfl) _) ?_ | refine fB.of (full_map (fun _ => rfl) _) ?_ | refine fB.of (full_map (fun x => full_rKept x) _) ?_ | refine fB.of (full_map (fun x => full_rInsL x) _) ?_ | refine fB.of (full_map (fun x => full_rItemL x) _) ?_ | refine fB.of (full_map (fun x => full_rEventL x) _) ?_ | refine gRf ?_)) <;> (try (conv => whnf)))
    refine ⟨⟨⟨j + 1, out.set j (rd l j), _, _⟩, (by (try dsimp only [cond_true, cond_false]); exact ⟨⟨rfl, rfl, rfl, trivial⟩, ⟨rfl, rfl, trivial⟩⟩), ?_, ?_⟩⟩
    · exact ⟨by show j + 1 ≤ _; omega, by show _ = _; rw [hout]; exact fill_set l j (by omega)⟩
    · show l.length - (j + 1) < l.length - j; omega
  · have : j = l.length := by omega
    repeat' ((with_reducible (first | refine gP ?_ | refine gN ?_ | refine fG.split (fun _ => ?_) (fun _ => ?_) | refine fG.not ?_ | refine gY ?_ | refine gF ?_ | refine fG.yes (flat_map (fun _ => rfl) _) ?_ | refine fG.bool (fun _ => ?_) (fun _ => ?_) | refine gS64 ?_ | refine gU8 ?_ | refine gI11 ?_ | refine fE.of rfl ?_ | refine gBq ?_ | refine gNum11 ?_ | refine gSet ?_ | refine gRd ?_ | refine gLk ?_ | refine gRow11 ?_ | refine fB.of (wide_map (fun _ => rfl) _) ?_ | refine fB.of (full_map (fun _ => rfl) _) ?_ | refine fB.of (full_map (fun x => full_rKept x) _) ?_ | refine fB.of (full_map (fun x => full_rInsL x) _) ?_ | refine fB.of (full_map (fun x => full_rItemL x) _) ?_ | refine fB.of (full_map (fun x => full_rEventL x) _) ?_ | refine gRf ?_)) <;> (try (conv => whnf)))
    rw [hout, this, fill_all, List.take_length]
theorem ok_laws_eqInsSS (k : Nat) (l : List (List Ins)) (hl : l.length ≤ 100000000000) (hx : ∀ j : Nat, j < l.length → (rd l j).length ≤ 100000000000) : callE PR C (k + 3) 84 [(.h 1000000 0 0 [] 1 0 l.length), (.h 1000001 0 0 [] 1 0 l.length)] [(.tree 0 (.sl 1 (l.map rInsL))), (.tree 0 (.sl 1 (l.map rInsL)))] = some ⟨bl true, [], [none, none]⟩ := by
  (refine callE_is (callE_w [ResultVar.tmp 4] rfl Tryz.func84 rfl (by decide +kernel) rfl (by simp) ?_); (conv => whnf))
  repeat' ((with_reducible (first | refine gP ?_ | refine gN ?_ | refine fG.split (fun _ => ?_) (fun _ => ?_) | refine fG.not ?_ | refine gY ?_ | refine gF ?_ | refine fG.yes (flat_map (fun _ => rfl) _) ?_ | refine fG.bool (fun _ => ?_) (fun _ => ?_) | refine gS64 ?_ | refine gU8 ?_ | refine gI11 ?_ | refine fE.of rfl ?_ | refine gBq ?_ | refine gNum11 ?_ | refine gSet ?_ | refine gRd ?_ | refine gLk ?_ | refine gRow11 ?_ | refine fB.of (wide_map (fun _ => rfl) _) ?_ | refine fB.of (full_map (fun _ => rfl) _) ?_ | refine fB.of (full_map (fun x => full_rKept x) _) ?_ | refine fB.of (full_map (fun x => full_rInsL x) _) ?_ | refine fB.of (full_map (fun x => full_rItemL x) _) ?_ | refine fB.of (full_map (fun x => full_rEventL x) _) ?_ | refine gRf ?_ | refine sDraw.none (id := 6) (ty := tys) rfl (by decide +kernel) ?_)) <;> (try (conv => whnf)))
  refine loop_rule (ι := Nat) (fun j => [(0, (.h 1000000 0 0 [] 1 0 l.length)), (1, (.h 1000001 0 0 [] 1 0 l.length)), (5, i64 (j : Nat))])
    (fun x => [(1000000, ⟨0, 0, false, (.tree 0 (.sl 1 (l.map rInsL)))⟩), (1000001, ⟨0, 0, false, (.tree 0 (.sl 1 (l.map rInsL)))⟩)])
    (fun j => l.length - j) (fun j => j ≤ l.length) 0 (by (try dsimp only [cond_true, cond_false]); exact ⟨⟨rfl, rfl, rfl, trivial⟩, ⟨rfl, rfl, trivial⟩⟩) (Nat.zero_le _) (by simp [C]; omega) ?_
  rintro j sl ob hj
  (try dsimp only [cond_true, cond_false])
  (conv => whnf)
  by_cases hjl : j < l.length
  · have hxj := hx j hjl
    have hq := fun k => ok_laws_eqInsS k (rd l j) hxj
    repeat' ((with_reducible (first | refine sCall.of (hq _) ?_ | refine gP ?_ | refine gN ?_ | refine fG.split (fun _ => ?_) (fun _ => ?_) | refine fG.not ?_ | refine gY ?_ | refine gF ?_ | refine fG.yes (flat_map (fun _ => rfl) _) ?_ | refine fG.bool (fun _ => ?_) (fun _ => ?_) | refine gS64 ?_ | refine gU8 ?_ | refine gI11 ?_ | refine fE.of rfl ?_ | refine gBq ?_ | refine gNum11 ?_ | refine gSet ?_ | refine gRd ?_ | refine gLk ?_ | refine gRow11 ?_ | refine fB.of (wide_map (fun _ => rfl) _) ?_ | refine fB.of (full_map (fun _ => rfl) _) ?_ | refine fB.of (full_map (fun x => full_rKept x) _) ?_ | refine fB.of (full_map (fun x => full_rInsL x) _) ?_ | refine fB.of (full_map (fun x => full_rItemL x) _) ?_ | refine fB.of (full_map (fun x => full_rEventL x) _) ?_ | refine gRf ?_ | refine sDraw.none (id := 6) (ty := tys) rfl (by decide +kernel) ?_)) <;> (try (conv => whnf)))
    refine ⟨⟨j + 1, (by (try dsimp only [cond_true, cond_false]); exact ⟨⟨rfl, rfl, rfl, trivial⟩, ⟨rfl, rfl, trivial⟩⟩), ?_, ?_⟩⟩
    · show j + 1 ≤ _; omega
    · show l.length - (j + 1) < l.length - j; omega
  · repeat' ((with_reducible (first | refine gP ?_ | refine gN ?_ | refine fG.split (fun _ => ?_) (fun _ => ?_) | refine fG.not ?_ | refine gY ?_ | refine gF ?_ | refine fG.yes (flat_map (fun _ => rfl) _) ?_ | refine fG.bool (fun _ => ?_) (fun _ => ?_) | refine gS64 ?_ | refine gU8 ?_ | refine gI11 ?_ | refine fE.of rfl ?_ | refine gBq ?_ | refine gNum11 ?_ | refine gSet ?_ | refine gRd ?_ | refine gLk ?_ | refine gRow11 ?_ | refine fB.of (wide_map (fun _ => rfl) _) ?_ | refine fB.of (full_map (fun _ => rfl) _) ?_ | refine fB.of (full_map (fun x => full_rKept x) _) ?_ | refine fB.of (full_map (fun x => full_rInsL x) _) ?_ | refine fB.of (full_map (fun x => full_rItemL x) _) ?_ | refine fB.of (full_map (fun x => full_rEventL x) _) ?_ | refine gRf ?_ | refine sDraw.none (id := 6) (ty := tys) rfl (by decide +kernel) ?_)) <;> (try (conv => whnf)))
theorem ok_laws_szItemSS (k : Nat) (l : List (List Item)) (m : Int) (h0 : 0 ≤ m) (h1 : m ≤ 1048576) (hl : l.length ≤ 140737488355328) (hx : ∀ j : Nat, j < l.length → (rd l j).length ≤ 140737488355328) :
    callE PR C (k + 3) 78 [(.h 1000000 0 0 [] 1 0 l.length), i64 m] [(.tree 0 (.sl 1 (l.map rItemL)))] = some ⟨i64 (left m (l.length + wts List.length l : Nat)), [], [none]⟩ := by
  by_cases c1 : m - l.length < 0
  · rw [show left m (l.length + wts List.length l : Nat) = -1 from by unfold left; rw [if_pos (by omega)]]
    (refine callE_is (callE_w [ResultVar.tmp 4] rfl Tryz.func78 rfl (by decide +kernel) rfl (by simp) ?_); (conv => whnf))
    repeat' ((with_reducible (first | refine gP ?_ | refine gN ?_ | refine fG.split (fun _ => ?_) (fun _ => ?_) | refine fG.not ?_ | refine gY ?_ | refine gF ?_ | refine fG.yes (flat_map (fun _ => rfl) _) ?_ | refine fG.bool (fun _ => ?_) (fun _ => ?_) | refine gS64 ?_ | refine gU8 ?_ | refine gI11 ?_ | refine fE.of rfl ?_ | refine gBq ?_ | refine gNum11 ?_ | refine gSet ?_ | refine gRd ?_ | refine gLk ?_ | refine gRow11 ?_ | refine fB.of (wide_map (fun _ => rfl) _) ?_ | refine fB.of (full_map (fun _ => rfl) _) ?_ | refine fB.of (full_map (fun x => full_rKept x) _) ?_ | refine fB.of (full_map (fun x => full_rInsL x) _) ?_ | refine fB.of (full_map (fun x => full_rItemL x) _) ?_ | refine fB.of (full_map (fun x => full_rEventL x) _) ?_ | refine gRf ?_)) <;> (try (conv => whnf)))
  · (refine callE_is (callE_w [ResultVar.tmp 4] rfl Tryz.func78 rfl (by decide +kernel) rfl (by simp) ?_); (conv => whnf))
    repeat' ((with_reducible (first | refine gP ?_ | refine gN ?_ | refine fG.split (fun _ => ?_) (fun _ => ?_) | refine fG.not ?_ | refine gY ?_ | refine gF ?_ | refine fG.yes (flat_map (fun _ => rfl) _) ?_ | refine fG.bool (fun _ => ?_) (fun _ => ?_) | refine gS64 ?_ | refine gU8 ?_ | refine gI11 ?_ | refine fE.of rfl ?_ | refine gBq ?_ | refine gNum11 ?_ | refine gSet ?_ | refine gRd ?_ | refine gLk ?_ | refine gRow11 ?_ | refine fB.of (wide_map (fun _ => rfl) _) ?_ | refine fB.of (full_map (fun _ => rfl) _) ?_ | refine fB.of (full_map (fun x => full_rKept x) _) ?_ | refine fB.of (full_map (fun x => full_rInsL x) _) ?_ | refine fB.of (full_map (fun x => full_rItemL x) _) ?_ | refine fB.of (full_map (fun x => full_rEventL x) _) ?_ | refine gRf ?_)) <;> (try (conv => whnf)))
    refine loop_rule (ι := TH) (fun x => [(0, (.h 1000000 0 0 [] 1 0 l.length)), (1, i64 x.m), (5, i64 (x.j : Nat))])
      (fun x => [(1000000, ⟨0, 0, false, (.tree 0 (.sl 1 (l.map rItemL)))⟩)])
      (fun x => l.length - x.j) (fun x => x.j ≤ l.length ∧ x.m = m - l.length - wts List.length (l.take x.j) ∧ 0 ≤ x.m) ⟨0, m - l.length⟩ (by (try dsimp only [cond_true, cond_false]); exact ⟨⟨rfl, rfl, rfl, trivial⟩, ⟨rfl, trivial⟩⟩) ⟨Nat.zero_le _, by simp [wts], by show 0 ≤ m - (l.length : Int); omega⟩ (by simp [C]; omega) ?_
    rintro ⟨j, n⟩ sl ob ⟨hj, hn, hn0⟩
    dsimp only at hj hn hn0
    have hn1 : n ≤ 1048576 := by omega
    (try dsimp only [cond_true, cond_false])
    (conv => whnf)
    by_cases hjl : j < l.length
    · have hxj := hx j hjl
      have e := wts_take List.length l j hjl
      have e2 := wts_le List.length l (j + 1)
      have hq := fun k => ok_laws_szItemS k (rd l j) n hn0 hn1 hxj
      (try simp only [List.length_map] at e)
      by_cases c2 : n - ((rd l j).length : Int) < 0
      · have e3 : left n ((rd l j).length : Int) = -1 := by unfold left; rw [if_pos c2]
        rw [e3] at hq
        rw [show left m (l.length + wts List.length l : Nat) = -1 from by unfold left; rw [if_pos (by omega)]]
        repeat' ((with_reducible (first | refine sCall.of (hq _) ?_ | refine gP ?_ | refine gN ?_ | refine fG.split (fun _ => ?_) (fun _ => ?_) | refine fG.not ?_ | refine gY ?_ | refine gF ?_ | refine fG.yes (flat_map (fun _ => rfl) _) ?_ | refine fG.bool (fun _ => ?_) (fun _ => ?_) | refine gS64 ?_ | refine gU8 ?_ | refine gI11 ?_ | refine fE.of rfl ?_ | refine gBq ?_ | refine gNum11 ?_ | refine gSet ?_ | refine gRd ?_ | refine gLk ?_ | refine gRow11 ?_ | refine fB.of (wide_map (fun _ => rfl) _) ?_ | refine fB.of (full_map (fun _ => rfl) _) ?_ | refine fB.of (full_map (fun x => full_rKept x) _) ?_ | refine fB.of (full_map (fun x => full_rInsL x) _) ?_ | refine fB.of (full_map (fun x => full_rItemL x) _) ?_ | refine fB.of (full_map (fun x => full_rEventL x) _) ?_ | refine gRf ?_)) <;> (try (conv => whnf)))
      · have e3 : left n ((rd l j).length : Int) = n - ((rd l j).length : Int) := by unfold left; rw [if_neg c2]
        rw [e3] at hq
        repeat' ((with_reducible (first | refine sCall.of (hq _) ?_ | refine gP ?_ | refine gN ?_ | refine fG.split (fun _ => ?_) (fun _ => ?_) | refine fG.not ?_ | refine gY ?_ | refine gF ?_ | refine fG.yes (flat_map (fun _ => rfl) _) ?_ | refine fG.bool (fun _ => ?_) (fun _ => ?_) | refine gS64 ?_ | refine gU8 ?_ | refine gI11 ?_ | refine fE.of rfl ?_ | refine gBq ?_ | refine gNum11 ?_ | refine gSet ?_ | refine gRd ?_ | refine gLk ?_ | refine gRow11 ?_ | refine fB.of (wide_map (fun _ => rfl) _) ?_ | refine fB.of (full_map (fun _ => rfl) _) ?_ | refine fB.of (full_map (fun x => full_rKept x) _) ?_ | refine fB.of (full_map (fun x => full_rInsL x) _) ?_ | refine fB.of (full_map (fun x => full_rItemL x) _) ?_ | refine fB.of (full_map (fun x => full_rEventL x) _) ?_ | refine gRf ?_)) <;> (try (conv => whnf)))
        refine ⟨⟨⟨j + 1, n - ((rd l j).length : Int)⟩, (by (try dsimp only [cond_true, cond_false]); exact ⟨⟨rfl, rfl, rfl, trivial⟩, ⟨rfl, trivial⟩⟩), ?_, ?_⟩⟩
        · refine ⟨by show j + 1 ≤ _; omega, ?_, by show (0 : Int) ≤ n - ((rd l j).length : Int); omega⟩
          show n - ((rd l j).length : Int) = m - l.length - (wts List.length (l.take (j + 1)) : Nat)
          omega
        · show l.length - (j + 1) < l.length - j; omega
    · have hjj : j = l.length := by omega
      rw [hjj, List.take_length] at hn
      rw [show left m (l.length + wts List.length l : Nat) = n from by unfold left; rw [if_neg (by omega)]; omega]
      repeat' ((with_reducible (first | refine gP ?_ | refine gN ?_ | refine fG.split (fun _ => ?_) (fun _ => ?_) | refine fG.not ?_ | refine gY ?_ | refine gF ?_ | refine fG.yes (flat_map (fun _ => rfl) _) ?_ | refine fG.bool (fun _ => ?_) (fun _ => ?_) | refine gS64 ?_ | refine gU8 ?_ | refine gI11 ?_ | refine fE.of rfl ?_ | refine gBq ?_ | refine gNum11 ?_ | refine gSet ?_ | refine gRd ?_ | refine gLk ?_ | refine gRow11 ?_ | refine fB.of (wide_map (fun _ => rfl) _) ?_ | refine fB.of (full_map (fun _ => rfl) _) ?_ | refine fB.of (full_map (fun x => full_rKept x) _) ?_ | refine fB.of (full_map (fun x => full_rInsL x) _) ?_ | refine fB.of (full_map (fun x => full_rItemL x) _) ?_ | refine fB.of (full_map (fun x => full_rEventL x) _) ?_ | refine gRf ?_)) <;> (try (conv => whnf)))
theorem ok_laws_toItemSS (k : Nat) (l : List (List Item)) (hl : l.length ≤ 100000000000) (hx : ∀ j : Nat, j < l.length → (rd l j).length ≤ 100000000000) : callE PR C (k + 3) 82 [(.h 1000000 0 0 [] 1 0 l.length)] [(.tree 0 (.sl 1 (l.map rItemL)))] = some ⟨.h 2000000 1 0 [] 1 0 l.length, [(.tree 9 (.sl 1 (l.map rItemL)))], [none]⟩ := by
  (refine callE_is (callE_w [ResultVar.tmp 2] rfl Tryz.func82 rfl (by decide +kernel) rfl (by simp) ?_); (conv => whnf))
  repeat' ((with_reducible (first | refine gP ?_ | refine gN ?_ | refine fG.split (fun _ => ?_) (fun _ => ?_) | refine fG.not ?_ | refine gY ?_ | refine gF ?_ | refine fG.yes (flat_map (fun _ => rfl) _) ?_ | refine fG.bool (fun _ => ?_) (fun _ => ?_) | refine gS64 ?_ | refine gU8 ?_ | refine gI11 ?_ | refine fE.of rfl ?_ | refine gBq ?_ | refine gNum11 ?_ | refine gSet ?_ | refine gRd ?_ | refine gLk ?_ | refine gRow11 ?_ | refine fB.of (wide_map (fun _ => rfl) _) ?_ | refine fB.of (full_map (fun _ => rfl) _) ?_ | refine fB.of (full_map (fun x => full_rKept x) _) ?_ | refine fB.of (full_map (fun x => full_rInsL x) _) ?_ | refine fB.of (full_map (fun x => full_rItemL x) _) ?_ | refine fB.of (full_map (fun x => full_rEventL x) _) ?_ | refine gRf ?_)) <;> (try (conv => whnf)))
  refine loop_rule (ι := TL (List Item)) (fun x => [(0, (.h 1000000 0 0 [] 1 0 l.length)), (3, .h 7 1 0 [] 1 0 l.length), (4, i64 (x.j : Nat))])
    (fun x => [(1000000, ⟨0, 0, false, (.tree 0 (.sl 1 (l.map rItemL)))⟩), (7, ⟨1, x.g, x.d, .tree 9 (.sl 1 (x.l.map rItemL))⟩)])
    (fun x => l.length - x.j) (fun x => x.j ≤ l.length ∧ x.l = fill l x.j) ⟨0, List.replicate l.length default, 0, false⟩ (by (try dsimp only [cond_true, cond_false]); exact ⟨⟨rfl, rfl, rfl, trivial⟩, ⟨rfl, rfl, trivial⟩⟩) ⟨Nat.zero_le _, (fill_zero l).symm⟩ (by simp [C]; omega) ?_
  rintro ⟨j, out, g, d⟩ sl ob ⟨hj, hout⟩
  dsimp only at hj hout
  have hlen : out.length = l.length := by rw [hout, fill_len]
  (try dsimp only [cond_true, cond_false])
  (conv => whnf)
  by_cases hjl : j < l.length
  · have hxj := hx j hjl
    have hq := fun k => ok_laws_toItemS k (rd l j) hxj
    repeat' ((with_reducible (first | refine sCall.of (hq _) ?_ | refine gP ?_ | refine gN ?_ | refine fG.split (fun _ => ?_) (fun _ => ?_) | refine fG.not ?_ | refine gY ?_ | refine gF ?_ | refine fG.yes (flat_map (fun _ => rfl) _) ?_ | refine fG.bool (fun _ => ?_) (fun _ => ?_) | refine gS64 ?_ | refine gU8 ?_ | refine gI11 ?_ | refine fE.of rfl ?_ | refine gBq ?_ | refine gNum11 ?_ | refine gSet ?_ | refine gRd ?_ | refine gLk ?_ | refine gRow11 ?_ | refine fB.of (wide_map (fun _ => rfl) _) ?_ | refine fB.of (full_map (fun _ => rfl) _) ?_ | refine fB.of (full_map (fun x => full_rKept x) _) ?_ | refine fB.of (full_map (fun x => full_rInsL x) _) ?_ | refine fB.of (full_map (fun x => full_rItemL x) _) ?_ | refine fB.of (full_map (fun x => full_rEventL x) _) ?_ | refine gRf ?_)) <;> (try (conv => whnf)))
    refine ⟨⟨⟨j + 1, out.set j (rd l j), _, _⟩, (by (try dsimp only [cond_true, cond_false]); exact ⟨⟨rfl, rfl, rfl, trivial⟩, ⟨rfl, rfl, trivial⟩⟩), ?_, ?_⟩⟩
    · exact ⟨by show j + 1 ≤ _; omega, by show _ = _; rw [hout]; exact fill_set l j (by omega)⟩
    · show l.length - (j + 1) < l.length - j; omega
  · have : j = l.length := by omega
    repeat' ((with_reducible (first | refine gP ?_ | refine gN ?_ | refine fG.split (fun _ => ?_) (fun _ => ?_) | refine fG.not ?_ | refine gY ?_ | refine gF ?_ | refine fG.yes (flat_map (fun _ => rfl) _) ?_ | refine fG.bool (fun _ => ?_) (fun _ => ?_) | refine gS64 ?_ | refine gU8 ?_ | refine gI11 ?_ | refine fE.of rfl ?_ | refine gBq ?_ | refine gNum11 ?_ | refine gSet ?_ | refine gRd ?_ | refine gLk ?_ | refine gRow11 ?_ | refine fB.of (wide_map (fun _ => rfl) _) ?_ | refine fB.of (full_map (fun _ => rfl) _) ?_ | refine fB.of (full_map (fun x => full_rKept x) _) ?_ | refine fB.of (full_map (fun x => full_rInsL x) _) ?_ | refine fB.of (full_map (fun x => full_rItemL x) _) ?_ | refine fB.of (full_map (fun x => full_rEventL x) _) ?_ | refine gRf ?_)) <;> (try (conv => whnf)))
    rw [hout, this, fill_all, List.take_length]
theorem ok_laws_eqItemSS (k : Nat) (l : List (List Item)) (hl : l.length ≤ 100000000000) (hx : ∀ j : Nat, j < l.length → (rd l j).length ≤ 100000000000) : callE PR C (k + 3) 86 [(.h 1000000 0 0 [] 1 0 l.length), (.h 1000001 0 0 [] 1 0 l.length)] [(.tree 0 (.sl 1 (l.map rItemL))), (.tree 0 (.sl 1 (l.map rItemL)))] = some ⟨bl true, [], [none, none]⟩ := by
  (refine callE_is (callE_w [ResultVar.tmp 4] rfl Tryz.func86 rfl (by decide +kernel) rfl (by simp) ?_); (conv => whnf))
  repeat' ((with_reducible (first | refine gP ?_ | refine gN ?_ | refine fG.split (fun _ => ?_) (fun _ => ?_) | refine fG.not ?_ | refine gY ?_ | refine gF ?_ | refine fG.yes (flat_map (fun _ => rfl) _) ?_ | refine fG.bool (fun _ => ?_) (fun _ => ?_) | refine gS64 ?_ | refine gU8 ?_ | refine gI11 ?_ | refine fE.of rfl ?_ | refine gBq ?_ | refine gNum11 ?_ | refine gSet ?_ | refine gRd ?_ | refine gLk ?_ | refine gRow11 ?_ | refine fB.of (wide_map (fun _ => rfl) _) ?_ | refine fB.of (full_map (fun _ => rfl) _) ?_ | refine fB.of (full_map (fun x => full_rKept x) _) ?_ | refine fB.of (full_map (fun x => full_rInsL x) _) ?_ | refine fB.of (full_map (fun x => full_rItemL x) _) ?_ | refine fB.of (full_map (fun x => full_rEventL x) _) ?_ | refine gRf ?_ | refine sDraw.none (id := 6) (ty := tys) rfl (by decide +kernel) ?_)) <;> (try (conv => whnf)))
  refine loop_rule (ι := Nat) (fun j => [(0, (.h 1000000 0 0 [] 1 0 l.length)), (1, (.h 1000001 0 0 [] 1 0 l.length)), (5, i64 (j : Nat))])
    (fun x => [(1000000, ⟨0, 0, false, (.tree 0 (.sl 1 (l.map rItemL)))⟩), (1000001, ⟨0, 0, false, (.tree 0 (.sl 1 (l.map rItemL)))⟩)])
    (fun j => l.length - j) (fun j => j ≤ l.length) 0 (by (try dsimp only [cond_true, cond_false]); exact ⟨⟨rfl, rfl, rfl, trivial⟩, ⟨rfl, rfl, trivial⟩⟩) (Nat.zero_le _) (by simp [C]; omega) ?_
  rintro j sl ob hj
  (try dsimp only [cond_true, cond_false])
  (conv => whnf)
  by_cases hjl : j < l.length
  · have hxj := hx j hjl
    have hq := fun k => ok_laws_eqItemS k (rd l j) hxj
    repeat' ((with_reducible (first | refine sCall.of (hq _) ?_ | refine gP ?_ | refine gN ?_ | refine fG.split (fun _ => ?_) (fun _ => ?_) | refine fG.not ?_ | refine gY ?_ | refine gF ?_ | refine fG.yes (flat_map (fun _ => rfl) _) ?_ | refine fG.bool (fun _ => ?_) (fun _ => ?_) | refine gS64 ?_ | refine gU8 ?_ | refine gI11 ?_ | refine fE.of rfl ?_ | refine gBq ?_ | refine gNum11 ?_ | refine gSet ?_ | refine gRd ?_ | refine gLk ?_ | refine gRow11 ?_ | refine fB.of (wide_map (fun _ => rfl) _) ?_ | refine fB.of (full_map (fun _ => rfl) _) ?_ | refine fB.of (full_map (fun x => full_rKept x) _) ?_ | refine fB.of (full_map (fun x => full_rInsL x) _) ?_ | refine fB.of (full_map (fun x => full_rItemL x) _) ?_ | refine fB.of (full_map (fun x => full_rEventL x) _) ?_ | refine gRf ?_ | refine sDraw.none (id := 6) (ty := tys) rfl (by decide +kernel) ?_)) <;> (try (conv => whnf)))
    refine ⟨⟨j + 1, (by (try dsimp only [cond_true, cond_false]); exact ⟨⟨rfl, rfl, rfl, trivial⟩, ⟨rfl, rfl, trivial⟩⟩), ?_, ?_⟩⟩
    · show j + 1 ≤ _; omega
    · show l.length - (j + 1) < l.length - j; omega
  · repeat' ((with_reducible (first | refine gP ?_ | refine gN ?_ | refine fG.split (fun _ => ?_) (fun _ => ?_) | refine fG.not ?_ | refine gY ?_ | refine gF ?_ | refine fG.yes (flat_map (fun _ => rfl) _) ?_ | refine fG.bool (fun _ => ?_) (fun _ => ?_) | refine gS64 ?_ | refine gU8 ?_ | refine gI11 ?_ | refine fE.of rfl ?_ | refine gBq ?_ | refine gNum11 ?_ | refine gSet ?_ | refine gRd ?_ | refine gLk ?_ | refine gRow11 ?_ | refine fB.of (wide_map (fun _ => rfl) _) ?_ | refine fB.of (full_map (fun _ => rfl) _) ?_ | refine fB.of (full_map (fun x => full_rKept x) _) ?_ | refine fB.of (full_map (fun x => full_rInsL x) _) ?_ | refine fB.of (full_map (fun x => full_rItemL x) _) ?_ | refine fB.of (full_map (fun x => full_rEventL x) _) ?_ | refine gRf ?_ | refine sDraw.none (id := 6) (ty := tys) rfl (by decide +kernel) ?_)) <;> (try (conv => whnf)))
theorem ok_laws_szEventSS (k : Nat) (l : List (List Event)) (m : Int) (h0 : 0 ≤ m) (h1 : m ≤ 1048576) (hl : l.length ≤ 140737488355328) (hx : ∀ j : Nat, j < l.length → (rd l j).length ≤ 140737488355328) :
    callE PR C (k + 3) 79 [(.h 1000000 0 0 [] 1 0 l.length), i64 m] [(.tree 0 (.sl 1 (l.map rEventL)))] = some ⟨i64 (left m (l.length + wts List.length l : Nat)), [], [none]⟩ := by
  by_cases c1 : m - l.length < 0
  · rw [show left m (l.length + wts List.length l : Nat) = -1 from by unfold left; rw [if_pos (by omega)]]
    (refine callE_is (callE_w [ResultVar.tmp 4] rfl Tryz.func79 rfl (by decide +kernel) rfl (by simp) ?_); (conv => whnf))
    repeat' ((with_reducible (first | refine gP ?_ | refine gN ?_ | refine fG.split (fun _ => ?_) (fun _ => ?_) | refine fG.not ?_ | refine gY ?_ | refine gF ?_ | refine fG.yes (flat_map (fun _ => rfl) _) ?_ | refine fG.bool (fun _ => ?_) (fun _ => ?_) | refine gS64 ?_ | refine gU8 ?_ | refine gI11 ?_ | refine fE.of rfl ?_ | refine gBq ?_ | refine gNum11 ?_ | refine gSet ?_ | refine gRd ?_ | refine gLk ?_ | refine gRow11 ?_ | refine fB.of (wide_map (fun _ => rfl) _) ?_ | refine fB.of (full_map (fun _ => rfl) _) ?_ | refine fB.of (full_map (fun x => full_rKept x) _) ?_ | refine fB.of (full_map (fun x => full_rInsL x) _) ?_ | refine fB.of (full_map (fun x => full_rItemL x) _) ?_ | refine fB.of (full_map (fun x => full_rEventL x) _) ?_ | refine gRf ?_)) <;> (try (conv => whnf)))
  · (refine callE_is (callE_w [ResultVar.tmp 4] rfl Tryz.func79 rfl (by decide +kernel) rfl (by simp) ?_); (conv => whnf))
    repeat' ((with_reducible (first | refine gP ?_ | refine gN ?_ | refine fG.split (fun _ => ?_) (fun _ => ?_) | refine fG.not ?_ | refine gY ?_ | refine gF ?_ | refine fG.yes (flat_map (fun _ => rfl) _) ?_ | refine fG.bool (fun _ => ?_) (fun _ => ?_) | refine gS64 ?_ | refine gU8 ?_ | refine gI11 ?_ | refine fE.of rfl ?_ | refine gBq ?_ | refine gNum11 ?_ | refine gSet ?_ | refine gRd ?_ | refine gLk ?_ | refine gRow11 ?_ | refine fB.of (wide_map (fun _ => rfl) _) ?_ | refine fB.of (full_map (fun _ => rfl) _) ?_ | refine fB.of (full_map (fun x => full_rKept x) _) ?_ | refine fB.of (full_map (fun x => full_rInsL x) _) ?_ | refine fB.of (full_map (fun x => full_rItemL x) _) ?_ | refine fB.of (full_map (fun x => full_rEventL x) _) ?_ | refine gRf ?_)) <;> (try (conv => whnf)))
    refine loop_rule (ι := TH) (fun x => [(0, (.h 1000000 0 0 [] 1 0 l.length)), (1, i64 x.m), (5, i64 (x.j : Nat))])
      (fun x => [(1000000, ⟨0, 0, false, (.tree 0 (.sl 1 (l.map rEventL)))⟩)])
      (fun x => l.length - x.j) (fun x => x.j ≤ l.length ∧ x.m = m - l.length - wts List.length (l.take x.j) ∧ 0 ≤ x.m) ⟨0, m - l.length⟩ (by (try dsimp only [cond_true, cond_false]); exact ⟨⟨rfl, rfl, rfl, trivial⟩, ⟨rfl, trivial⟩⟩) ⟨Nat.zero_le _, by simp [wts], by show 0 ≤ m - (l.length : Int); omega⟩ (by simp [C]; omega) ?_
    rintro ⟨j, n⟩ sl ob ⟨hj, hn, hn0⟩
    dsimp only at hj hn hn0
    have hn1 : n ≤ 1048576 := by omega
    (try dsimp only [cond_true, cond_false])
    (conv => whnf)
    by_cases hjl : j < l.length
    · have hxj := hx j hjl
      have e := wts_take List.length l j hjl
      have e2 := wts_le List.length l (j + 1)
      have hq := fun k => ok_laws_szEventS k (rd l j) n hn0 hn1 hxj
      (try simp only [List.length_map] at e)
      by_cases c2 : n - ((rd l j).length : Int) < 0
      · have e3 : left n ((rd l j).length : Int) = -1 := by unfold left; rw [if_pos c2]
        rw [e3] at hq
        rw [show left m (l.length + wts List.length l : Nat) = -1 from by unfold left; rw [if_pos (by omega)]]
        repeat' ((with_reducible (first | refine sCall.of (hq _) ?_ | refine gP ?_ | refine gN ?_ | refine fG.split (fun _ => ?_) (fun _ => ?_) | refine fG.not ?_ | refine gY ?_ | refine gF ?_ | refine fG.yes (flat_map (fun _ => rfl) _) ?_ | refine fG.bool (fun _ => ?_) (fun _ => ?_) | refine gS64 ?_ | refine gU8 ?_ | refine gI11 ?_ | refine fE.of rfl ?_ | refine gBq ?_ | refine gNum11 ?_ | refine gSet ?_ | refine gRd ?_ | refine gLk ?_ | refine gRow11 ?_ | refine fB.of (wide_map (fun _ => rfl) _) ?_ | refine fB.of (full_map (fun _ => rfl) _) ?_ | refine fB.of (full_map (fun x => full_rKept x) _) ?_ | refine fB.of (full_map (fun x => full_rInsL x) _) ?_ | refine fB.of (full_map (fun x => full_rItemL x) _) ?_ | refine fB.of (full_map (fun x => full_rEventL x) _) ?_ | refine gRf ?_)) <;> (try (conv => whnf)))
      · have e3 : left n ((rd l j).length : Int) = n - ((rd l j).length : Int) := by unfold left; rw [if_neg c2]
        rw [e3] at hq
        repeat' ((with_reducible (first | refine sCall.of (hq _) ?_ | refine gP ?_ | refine gN ?_ | refine fG.split (fun _ => ?_) (fun _ => ?_) | refine fG.not ?_ | refine gY ?_ | refine gF ?_ | refine fG.yes (flat_map (fun _ => rfl) _) ?_ | refine fG.bool (fun _ => ?_) (fun _ => ?_) | refine gS64 ?_ | refine gU8 ?_ | refine gI11 ?_ | refine fE.of rfl ?_ | refine gBq ?_ | refine gNum11 ?_ | refine gSet ?_ | refine gRd ?_ | refine gLk ?_ | refine gRow11 ?_ | refine fB.of (wide_map (fun _ => rfl) _) ?_ | refine fB.of (full_map (fun _ => rfl) _) ?_ | refine fB.of (full_map (fun x => full_rKept x) _) ?_ | refine fB.of (full_map (fun x => full_rInsL x) _) ?_ | refine fB.of (full_map (fun x => full_rItemL x) _) ?_ | refine fB.of (full_map (fun x => full_rEventL x) _) ?_ | refine gRf ?_)) <;> (try (conv => whnf)))
        refine ⟨⟨⟨j + 1, n - ((rd l j).length : Int)⟩, (by (try dsimp only [cond_true, cond_false]); exact ⟨⟨rfl, rfl, rfl, trivial⟩, ⟨rfl, trivial⟩⟩), ?_, ?_⟩⟩
        · refine ⟨by show j + 1 ≤ _; omega, ?_, by show (0 : Int) ≤ n - ((rd l j).length : Int); omega⟩
          show n - ((rd l j).length : Int) = m - l.length - (wts List.length (l.take (j + 1)) : Nat)
          omega
        · show l.length - (j + 1) < l.length - j; omega
    · have hjj : j = l.length := by omega
      rw [hjj, List.take_length] at hn
      rw [show left m (l.length + wts List.length l : Nat) = n from by unfold left; rw [if_neg (by omega)]; omega]
      repeat' ((with_reducible (first | refine gP ?_ | refine gN ?_ | refine fG.split (fun _ => ?_) (fun _ => ?_) | refine fG.not ?_ | refine gY ?_ | refine gF ?_ | refine fG.yes (flat_map (fun _ => rfl) _) ?_ | refine fG.bool (fun _ => ?_) (fun _ => ?_) | refine gS64 ?_ | refine gU8 ?_ | refine gI11 ?_ | refine fE.of rfl ?_ | refine gBq ?_ | refine gNum11 ?_ | refine gSet ?_ | refine gRd ?_ | refine gLk ?_ | refine gRow11 ?_ | refine fB.of (wide_map (fun _ => rfl) _) ?_ | refine fB.of (full_map (fun _ => rfl) _) ?_ | refine fB.of (full_map (fun x => full_rKept x) _) ?_ | refine fB.of (full_map (fun x => full_rInsL x) _) ?_ | refine fB.of (full_map (fun x => full_rItemL x) _) ?_ | refine fB.of (full_map (fun x => full_rEventL x) _) ?_ | refine gRf ?_)) <;> (try (conv => whnf)))
theorem ok_laws_toEventSS (k : Nat) (l : List (List Event)) (hl : l.length ≤ 100000000000) (hx : ∀ j : Nat, j < l.length → (rd l j).length ≤ 100000000000) : callE PR C (k + 3) 83 [(.h 1000000 0 0 [] 1 0 l.length)] [(.tree 0 (.sl 1 (l.map rEventL)))] = some ⟨.h 2000000 1 0 [] 1 0 l.length, [(.tree 9 (.sl 1 (l.map rEventL)))], [none]⟩ := by
  (refine callE_is (callE_w [ResultVar.tmp 2] rfl Tryz.func83 rfl (by decide +kernel) rfl (by simp) ?_); (conv => whnf))
  repeat' ((with_reducible (first | refine gP ?_ | refine gN ?_ | refine fG.split (fun _ => ?_) (fun _ => ?_) | refine fG.not ?_ | refine gY ?_ | refine gF ?_ | refine fG.yes (flat_map (fun _ => rfl) _) ?_ | refine fG.bool (fun _ => ?_) (fun _ => ?_) | refine gS64 ?_ | refine gU8 ?_ | refine gI11 ?_ | refine fE.of rfl ?_ | refine gBq ?_ | refine gNum11 ?_ | refine gSet ?_ | refine gRd ?_ | refine gLk ?_ | refine gRow11 ?_ | refine fB.of (wide_map (fun _ => rfl) _) ?_ | refine fB.of (full_map (fun _ => rfl) _) ?_ | refine fB.of (full_map (fun x => full_rKept x) _) ?_ | refine fB.of (full_map (fun x => full_rInsL x) _) ?_ | refine fB.of (full_map (fun x => full_rItemL x) _) ?_ | refine fB.of (full_map (fun x => full_rEventL x) _) ?_ | refine gRf ?_)) <;> (try (conv => whnf)))
  refine loop_rule (ι := TL (List Event)) (fun x => [(0, (.h 1000000 0 0 [] 1 0 l.length)), (3, .h 7 1 0 [] 1 0 l.length), (4, i64 (x.j : Nat))])
    (fun x => [(1000000, ⟨0, 0, false, (.tree 0 (.sl 1 (l.map rEventL)))⟩), (7, ⟨1, x.g, x.d, .tree 9 (.sl 1 (x.l.map rEventL))⟩)])
    (fun x => l.length - x.j) (fun x => x.j ≤ l.length ∧ x.l = fill l x.j) ⟨0, List.replicate l.length default, 0, false⟩ (by (try dsimp only [cond_true, cond_false]); exact ⟨⟨rfl, rfl, rfl, trivial⟩, ⟨rfl, rfl, trivial⟩⟩) ⟨Nat.zero_le _, (fill_zero l).symm⟩ (by simp [C]; omega) ?_
  rintro ⟨j, out, g, d⟩ sl ob ⟨hj, hout⟩
  dsimp only at hj hout
  have hlen : out.length = l.length := by rw [hout, fill_len]
  (try dsimp only [cond_true, cond_false])
  (conv => whnf)
  by_cases hjl : j < l.length
  · have hxj := hx j hjl
    have hq := fun k => ok_laws_toEventS k (rd l j) hxj
    repeat' ((with_reducible (first | refine sCall.of (hq _) ?_ | refine gP ?_ | refine gN ?_ | refine fG.split (fun _ => ?_) (fun _ => ?_) | refine fG.not ?_ | refine gY ?_ | refine gF ?_ | refine fG.yes (flat_map (fun _ => rfl) _) ?_ | refine fG.bool (fun _ => ?_) (fun _ => ?_) | refine gS64 ?_ | refine gU8 ?_ | refine gI11 ?_ | refine fE.of rfl ?_ | refine gBq ?_ | refine gNum11 ?_ | refine gSet ?_ | refine gRd ?_ | refine gLk ?_ | refine gRow11 ?_ | refine fB.of (wide_map (fun _ => rfl) _) ?_ | refine fB.of (full_map (fun _ => rfl) _) ?_ | refine fB.of (full_map (fun x => full_rKept x) _) ?_ | refine fB.of (full_map (fun x => full_rInsL x) _) ?_ | refine fB.of (full_map (fun x => full_rItemL x) _) ?_ | refine fB.of (full_map (fun x => full_rEventL x) _) ?_ | refine gRf ?_)) <;> (try (conv => whnf)))
    refine ⟨⟨⟨j + 1, out.set j (rd l j), _, _⟩, (by (try dsimp only [cond_true, cond_false]); exact ⟨⟨rfl, rfl, rfl, trivial⟩, ⟨rfl, rfl, trivial⟩⟩), ?_, ?_⟩⟩
    · exact ⟨by show j + 1 ≤ _; omega, by show _ = _; rw [hout]; exact fill_set l j (by omega)⟩
    · show l.length - (j + 1) < l.length - j; omega
  · have : j = l.length := by omega
    repeat' ((with_reducible (first | refine gP ?_ | refine gN ?_ | refine fG.split (fun _ => ?_) (fun _ => ?_) | refine fG.not ?_ | refine gY ?_ | refine gF ?_ | refine fG.yes (flat_map (fun _ => rfl) _) ?_ | refine fG.bool (fun _ => ?_) (fun _ => ?_) | refine gS64 ?_ | refine gU8 ?_ | refine gI11 ?_ | refine fE.of rfl ?_ | refine gBq ?_ | refine gNum11 ?_ | refine gSet ?_ | refine gRd ?_ | refine gLk ?_ | refine gRow11 ?_ | refine fB.of (wide_map (fun _ => rfl) _) ?_ | refine fB.of (full_map (fun _ => rfl) _) ?_ | refine fB.of (full_map (fun x => full_rKept x) _) ?_ | refine fB.of (full_map (fun x => full_rInsL x) _) ?_ | refine fB.of (full_map (fun x => full_rItemL x) _) ?_ | refine fB.of (full_map (fun x => full_rEventL x) _) ?_ | refine gRf ?_)) <;> (try (conv => whnf)))
    rw [hout, this, fill_all, List.take_length]
theorem ok_laws_eqEventSS (k : Nat) (l : List (List Event)) (hl : l.length ≤ 100000000000) (hx : ∀ j : Nat, j < l.length → (rd l j).length ≤ 100000000000) : callE PR C (k + 3) 87 [(.h 1000000 0 0 [] 1 0 l.length), (.h 1000001 0 0 [] 1 0 l.length)] [(.tree 0 (.sl 1 (l.map rEventL))), (.tree 0 (.sl 1 (l.map rEventL)))] = some ⟨bl true, [], [none, none]⟩ := by
  (refine callE_is (callE_w [ResultVar.tmp 4] rfl Tryz.func87 rfl (by decide +kernel) rfl (by simp) ?_); (conv => whnf))
  repeat' ((with_reducible (first | refine gP ?_ | refine gN ?_ | refine fG.split (fun _ => ?_) (fun _ => ?_) | refine fG.not ?_ | refine gY ?_ | refine gF ?_ | refine fG.yes (flat_map (fun _ => rfl) _) ?_ | refine fG.bool (fun _ => ?_) (fun _ => ?_) | refine gS64 ?_ | refine gU8 ?_ | refine gI11 ?_ | refine fE.of rfl ?_ | refine gBq ?_ | refine gNum11 ?_ | refine gSet ?_ | refine gRd ?_ | refine gLk ?_ | refine gRow11 ?_ | refine fB.of (wide_map (fun _ => rfl) _) ?_ | refine fB.of (full_map (fun _ => rfl) _) ?_ | refine fB.of (full_map (fun x => full_rKept x) _) ?_ | refine fB.of (full_map (fun x => full_rInsL x) _) ?_ | refine fB.of (full_map (fun x => full_rItemL x) _) ?_ | refine fB.of (full_map (fun x => full_rEventL x) _) ?_ | refine gRf ?_ | refine sDraw.none (id := 6) (ty := tys) rfl (by decide +kernel) ?_)) <;> (try (conv => whnf)))
  refine loop_rule (ι := Nat) (fun j => [(0, (.h 1000000 0 0 [] 1 0 l.length)), (1, (.h 1000001 0 0 [] 1 0 l.length)), (5, i64 (j : Nat))])
    (fun x => [(1000000, ⟨0, 0, false, (.tree 0 (.sl 1 (l.map rEventL)))⟩), (1000001, ⟨0, 0, false, (.tree 0 (.sl 1 (l.map rEventL)))⟩)])
    (fun j => l.length - j) (fun j => j ≤ l.length) 0 (by (try dsimp only [cond_true, cond_false]); exact ⟨⟨rfl, rfl, rfl, trivial⟩, ⟨rfl, rfl, trivial⟩⟩) (Nat.zero_le _) (by simp [C]; omega) ?_
  rintro j sl ob hj
  (try dsimp only [cond_true, cond_false])
  (conv => whnf)
  by_cases hjl : j < l.length
  · have hxj := hx j hjl
    have hq := fun k => ok_laws_eqEventS k (rd l j) hxj
    repeat' ((with_reducible (first | refine sCall.of (hq _) ?_ | refine gP ?_ | refine gN ?_ | refine fG.split (fun _ => ?_) (fun _ => ?_) | refine fG.not ?_ | refine gY ?_ | refine gF ?_ | refine fG.yes (flat_map (fun _ => rfl) _) ?_ | refine fG.bool (fun _ => ?_) (fun _ => ?_) | refine gS64 ?_ | refine gU8 ?_ | refine gI11 ?_ | refine fE.of rfl ?_ | refine gBq ?_ | refine gNum11 ?_ | refine gSet ?_ | refine gRd ?_ | refine gLk ?_ | refine gRow11 ?_ | refine fB.of (wide_map (fun _ => rfl) _) ?_ | refine fB.of (full_map (fun _ => rfl) _) ?_ | refine fB.of (full_map (fun x => full_rKept x) _) ?_ | refine fB.of (full_map (fun x => full_rInsL x) _) ?_ | refine fB.of (full_map (fun x => full_rItemL x) _) ?_ | refine fB.of (full_map (fun x => full_rEventL x) _) ?_ | refine gRf ?_ | refine sDraw.none (id := 6) (ty := tys) rfl (by decide +kernel) ?_)) <;> (try (conv => whnf)))
    refine ⟨⟨j + 1, (by (try dsimp only [cond_true, cond_false]); exact ⟨⟨rfl, rfl, rfl, trivial⟩, ⟨rfl, rfl, trivial⟩⟩), ?_, ?_⟩⟩
    · show j + 1 ≤ _; omega
    · show l.length - (j + 1) < l.length - j; omega
  · repeat' ((with_reducible (first | refine gP ?_ | refine gN ?_ | refine fG.split (fun _ => ?_) (fun _ => ?_) | refine fG.not ?_ | refine gY ?_ | refine gF ?_ | refine fG.yes (flat_map (fun _ => rfl) _) ?_ | refine fG.bool (fun _ => ?_) (fun _ => ?_) | refine gS64 ?_ | refine gU8 ?_ | refine gI11 ?_ | refine fE.of rfl ?_ | refine gBq ?_ | refine gNum11 ?_ | refine gSet ?_ | refine gRd ?_ | refine gLk ?_ | refine gRow11 ?_ | refine fB.of (wide_map (fun _ => rfl) _) ?_ | refine fB.of (full_map (fun _ => rfl) _) ?_ | refine fB.of (full_map (fun x => full_rKept x) _) ?_ | refine fB.of (full_map (fun x => full_rInsL x) _) ?_ | refine fB.of (full_map (fun x => full_rItemL x) _) ?_ | refine fB.of (full_map (fun x => full_rEventL x) _) ?_ | refine gRf ?_ | refine sDraw.none (id := 6) (ty := tys) rfl (by decide +kernel) ?_)) <;> (try (conv => whnf)))
def wSt (x : State) : Nat := x.regs.length + x.out.length
theorem set_rState (l : List State) (n : Nat) (a c : Int) (r o : List Int) : (l.map rState).set n [.v (.int .i64 a), .sl 1 (r.map rI), .sl 1 (o.map rI), .v (.int .i64 c)] = (l.set n ⟨a, r, o, c⟩).map rState := by simp [rState, List.map_set]
theorem rep_rState (n : Nat) : List.replicate n [T.v (.int .i64 0), .sl 1 [], .sl 1 [], .v (.int .i64 0)] = (List.replicate n (default : State)).map rState := by simp [rState, default, instInhabitedState]
theorem full_rState (x : State) : (rState x).all (fun t => T.full 8 t) = true := by
  simp only [rState, List.all_cons, List.all_nil, Bool.and_true, T.full, Bool.true_and]
  exact Bool.and_eq_true_iff.2 ⟨full_map (n := 7) (s := 1) (fun _ => rfl) x.regs, full_map (n := 7) (s := 1) (fun _ => rfl) x.out⟩
theorem gI12 {p A : Prop} (h : A) (e : p := by first | with_reducible assumption | omega | (simp only [Nat.zero_add, Nat.add_zero, Nat.sub_zero, Int.toNat_natCast, Int.toNat_zero, Int.toNat_one, List.length_map, List.length_nil, Int.reduceToNat, Nat.reduceAdd, Nat.reduceSub, Int.sub_zero, Int.reduceAdd, Int.reduceSub, Nat.sub_self, Int.toNat_natCast_add_one, marks_len, bs_len, List.length_append, List.length_cons, List.length_set, List.length_replicate, List.length_range]; first | done | omega)) : sI p A := sI.mk e h
theorem gNum12 {r r' : Nat} {F : Nat → Prop} (h : F r') (e : r = r' := by first | (simp only [Nat.zero_add, Nat.add_zero, Nat.sub_zero, Int.toNat_natCast, Int.toNat_zero, Int.toNat_one, List.length_map, List.length_nil, Int.reduceToNat, Nat.reduceAdd, Nat.reduceSub, Int.sub_zero, Int.reduceAdd, Int.reduceSub, Nat.sub_self, Int.toNat_natCast_add_one, marks_len, bs_len]; rfl) | rfl) : sN r F := sN.eq e h
theorem gRow12 {r r' : List (List T)} {F : List (List T) → Prop} (h : F r') (e : r = r' := by first | (simp only [Nat.add_zero, Nat.zero_add, Nat.reduceAdd, List.drop_zero, List.take_succ_cons, List.take_nil, List.drop_succ_cons, List.drop_nil, List.take_zero, List.nil_append, List.append_nil, List.map_nil, drop_suf, take_pre, drop_map, List.take_length, take_len_set, take_len_app, List.set_set, List.length_map, set_rState, rep_rState, set_rInsL, rep_rInsL, set_rItemL, rep_rItemL, set_rEventL, rep_rEventL, set_rItem, rep_rItem, rep_rKept, marks_take, set_rKept, set_rIns, rep_rIns, set_rEvent, rep_rEvent, snoc_rKept, snoc_rEvent, snoc_rIns, bytesT_bs, snoc_rI, snoc_rB, snoc_rBool, set_rI, set_rBool, rep_rI, rep_rBool, map_app]; rfl) | rfl) : sR r F := sR.eq e h

theorem ok_laws_szStateS (k : Nat) (l : List State) (m : Int) (h0 : 0 ≤ m) (h1 : m ≤ 1048576) (hl : l.length ≤ 140737488355328) (hx : ∀ j : Nat, j < l.length → (rd l j).regs.length ≤ 140737488355328 ∧ (rd l j).out.length ≤ 140737488355328) :
    callE PR C (k + 3) 77 [(.h 1000000 0 0 [] 4 0 l.length), i64 m] [(.tree 0 (.sl 4 (l.map rState)))] = some ⟨i64 (left m (l.length + wts wSt l : Nat)), [], [none]⟩ := by
  by_cases c1 : m - l.length < 0
  · rw [show left m (l.length + wts wSt l : Nat) = -1 from by unfold left; rw [if_pos (by omega)]]
    (refine callE_is (callE_w [ResultVar.tmp 4] rfl Tryz.func77 rfl (by decide +kernel) rfl (by simp) ?_); (conv => whnf))
    repeat' ((with_reducible (first | refine gP ?_ | refine gN ?_ | refine fG.split (fun _ => ?_) (fun _ => ?_) | refine fG.not ?_ | refine gY ?_ | refine gF ?_ | refine fG.yes (flat_map (fun _ => rfl) _) ?_ | refine fG.bool (fun _ => ?_) (fun _ => ?_) | refine gS64 ?_ | refine gU8 ?_ | refine gI12 ?_ | refine fE.of rfl ?_ | refine gBq ?_ | refine gNum12 ?_ | refine gSet ?_ | refine gRd ?_ | refine gLk ?_ | refine gRow12 ?_ | refine fB.of (wide_map (fun _ => rfl) _) ?_ | refine fB.of (full_map (fun _ => rfl) _) ?_ | refine fB.of (full_map (fun x => full_rKept x) _) ?_ | refine fB.of (full_map (fun x => full_rInsL x) _) ?_ | refine fB.of (full_map (fun x => full_rItemL x) _) ?_ | refine fB.of (full_map (fun x => full_rEventL x) _) ?_ | refine fB.of (full_map (fun x => full_rState x) _) ?_ | refine gRf ?_)) <;> (try (conv => whnf)))
  · (refine callE_is (callE_w [ResultVar.tmp 4] rfl Tryz.func77 rfl (by decide +kernel) rfl (by simp) ?_); (conv => whnf))
    repeat' ((with_reducible (first | refine gP ?_ | refine gN ?_ | refine fG.split (fun _ => ?_) (fun _ => ?_) | refine fG.not ?_ | refine gY ?_ | refine gF ?_ | refine fG.yes (flat_map (fun _ => rfl) _) ?_ | refine fG.bool (fun _ => ?_) (fun _ => ?_) | refine gS64 ?_ | refine gU8 ?_ | refine gI12 ?_ | refine fE.of rfl ?_ | refine gBq ?_ | refine gNum12 ?_ | refine gSet ?_ | refine gRd ?_ | refine gLk ?_ | refine gRow12 ?_ | refine fB.of (wide_map (fun _ => rfl) _) ?_ | refine fB.of (full_map (fun _ => rfl) _) ?_ | refine fB.of (full_map (fun x => full_rKept x) _) ?_ | refine fB.of (full_map (fun x => full_rInsL x) _) ?_ | refine fB.of (full_map (fun x => full_rItemL x) _) ?_ | refine fB.of (full_map (fun x => full_rEventL x) _) ?_ | refine fB.of (full_map (fun x => full_rState x) _) ?_ | refine gRf ?_)) <;> (try (conv => whnf)))
    refine loop_rule (ι := TH) (fun x => [(0, (.h 1000000 0 0 [] 4 0 l.length)), (1, i64 x.m), (5, i64 (x.j : Nat))])
      (fun x => [(1000000, ⟨0, 0, false, (.tree 0 (.sl 4 (l.map rState)))⟩)])
      (fun x => l.length - x.j) (fun x => x.j ≤ l.length ∧ x.m = m - l.length - wts wSt (l.take x.j) ∧ 0 ≤ x.m) ⟨0, m - l.length⟩ (by (try dsimp only [cond_true, cond_false]); exact ⟨⟨rfl, rfl, rfl, trivial⟩, ⟨rfl, trivial⟩⟩) ⟨Nat.zero_le _, by simp [wts], by show 0 ≤ m - (l.length : Int); omega⟩ (by simp [C]; omega) ?_
    rintro ⟨j, n⟩ sl ob ⟨hj, hn, hn0⟩
    dsimp only at hj hn hn0
    have hn1 : n ≤ 1048576 := by omega
    (try dsimp only [cond_true, cond_false])
    (conv => whnf)
    by_cases hjl : j < l.length
    · have hxj := hx j hjl
      have e := wts_take wSt l j hjl
      have e2 := wts_le wSt l (j + 1)
      have hq := fun k => ok_laws_szState k (rd l j).at_ (rd l j).code (rd l j).regs (rd l j).out n hn0 hn1 hxj.1 hxj.2
      (try simp only [wSt] at e)
      by_cases c2 : n - (((rd l j).regs.length : Int) + (rd l j).out.length) < 0
      · have e3 : left n (((rd l j).regs.length : Int) + (rd l j).out.length) = -1 := by unfold left; rw [if_pos c2]
        rw [e3] at hq
        rw [show left m (l.length + wts wSt l : Nat) = -1 from by unfold left; rw [if_pos (by omega)]]
        repeat' ((with_reducible (first | refine sCall.of (hq _) ?_ | refine gP ?_ | refine gN ?_ | refine fG.split (fun _ => ?_) (fun _ => ?_) | refine fG.not ?_ | refine gY ?_ | refine gF ?_ | refine fG.yes (flat_map (fun _ => rfl) _) ?_ | refine fG.bool (fun _ => ?_) (fun _ => ?_) | refine gS64 ?_ | refine gU8 ?_ | refine gI12 ?_ | refine fE.of rfl ?_ | refine gBq ?_ | refine gNum12 ?_ | refine gSet ?_ | refine gRd ?_ | refine gLk ?_ | refine gRow12 ?_ | refine fB.of (wide_map (fun _ => rfl) _) ?_ | refine fB.of (full_map (fun _ => rfl) _) ?_ | refine fB.of (full_map (fun x => full_rKept x) _) ?_ | refine fB.of (full_map (fun x => full_rInsL x) _) ?_ | refine fB.of (full_map (fun x => full_rItemL x) _) ?_ | refine fB.of (full_map (fun x => full_rEventL x) _) ?_ | refine fB.of (full_map (fun x => full_rState x) _) ?_ | refine gRf ?_)) <;> (try (conv => whnf)))
      · have e3 : left n (((rd l j).regs.length : Int) + (rd l j).out.length) = n - (((rd l j).regs.length : Int) + (rd l j).out.length) := by unfold left; rw [if_neg c2]
        rw [e3] at hq
        repeat' ((with_reducible (first | refine sCall.of (hq _) ?_ | refine gP ?_ | refine gN ?_ | refine fG.split (fun _ => ?_) (fun _ => ?_) | refine fG.not ?_ | refine gY ?_ | refine gF ?_ | refine fG.yes (flat_map (fun _ => rfl) _) ?_ | refine fG.bool (fun _ => ?_) (fun _ => ?_) | refine gS64 ?_ | refine gU8 ?_ | refine gI12 ?_ | refine fE.of rfl ?_ | refine gBq ?_ | refine gNum12 ?_ | refine gSet ?_ | refine gRd ?_ | refine gLk ?_ | refine gRow12 ?_ | refine fB.of (wide_map (fun _ => rfl) _) ?_ | refine fB.of (full_map (fun _ => rfl) _) ?_ | refine fB.of (full_map (fun x => full_rKept x) _) ?_ | refine fB.of (full_map (fun x => full_rInsL x) _) ?_ | refine fB.of (full_map (fun x => full_rItemL x) _) ?_ | refine fB.of (full_map (fun x => full_rEventL x) _) ?_ | refine fB.of (full_map (fun x => full_rState x) _) ?_ | refine gRf ?_)) <;> (try (conv => whnf)))
        refine ⟨⟨⟨j + 1, n - (((rd l j).regs.length : Int) + (rd l j).out.length)⟩, (by (try dsimp only [cond_true, cond_false]); exact ⟨⟨rfl, rfl, rfl, trivial⟩, ⟨rfl, trivial⟩⟩), ?_, ?_⟩⟩
        · refine ⟨by show j + 1 ≤ _; omega, ?_, by show (0 : Int) ≤ n - (((rd l j).regs.length : Int) + (rd l j).out.length); omega⟩
          show n - (((rd l j).regs.length : Int) + (rd l j).out.length) = m - l.length - (wts wSt (l.take (j + 1)) : Nat)
          omega
        · show l.length - (j + 1) < l.length - j; omega
    · have hjj : j = l.length := by omega
      rw [hjj, List.take_length] at hn
      rw [show left m (l.length + wts wSt l : Nat) = n from by unfold left; rw [if_neg (by omega)]; omega]
      repeat' ((with_reducible (first | refine gP ?_ | refine gN ?_ | refine fG.split (fun _ => ?_) (fun _ => ?_) | refine fG.not ?_ | refine gY ?_ | refine gF ?_ | refine fG.yes (flat_map (fun _ => rfl) _) ?_ | refine fG.bool (fun _ => ?_) (fun _ => ?_) | refine gS64 ?_ | refine gU8 ?_ | refine gI12 ?_ | refine fE.of rfl ?_ | refine gBq ?_ | refine gNum12 ?_ | refine gSet ?_ | refine gRd ?_ | refine gLk ?_ | refine gRow12 ?_ | refine fB.of (wide_map (fun _ => rfl) _) ?_ | refine fB.of (full_map (fun _ => rfl) _) ?_ | refine fB.of (full_map (fun x => full_rKept x) _) ?_ | refine fB.of (full_map (fun x => full_rInsL x) _) ?_ | refine fB.of (full_map (fun x => full_rItemL x) _) ?_ | refine fB.of (full_map (fun x => full_rEventL x) _) ?_ | refine fB.of (full_map (fun x => full_rState x) _) ?_ | refine gRf ?_)) <;> (try (conv => whnf)))
theorem ok_laws_toStateS (k : Nat) (l : List State) (hl : l.length ≤ 100000000000) (hx : ∀ j : Nat, j < l.length → (rd l j).regs.length ≤ 100000000000 ∧ (rd l j).out.length ≤ 100000000000) : callE PR C (k + 3) 81 [(.h 1000000 0 0 [] 4 0 l.length)] [(.tree 0 (.sl 4 (l.map rState)))] = some ⟨.h 2000000 1 0 [] 4 0 l.length, [(.tree 9 (.sl 4 (l.map rState)))], [none]⟩ := by
  (refine callE_is (callE_w [ResultVar.tmp 2] rfl Tryz.func81 rfl (by decide +kernel) rfl (by simp) ?_); (conv => whnf))
  repeat' ((with_reducible (first | refine gP ?_ | refine gN ?_ | refine fG.split (fun _ => ?_) (fun _ => ?_) | refine fG.not ?_ | refine gY ?_ | refine gF ?_ | refine fG.yes (flat_map (fun _ => rfl) _) ?_ | refine fG.bool (fun _ => ?_) (fun _ => ?_) | refine gS64 ?_ | refine gU8 ?_ | refine gI12 ?_ | refine fE.of rfl ?_ | refine gBq ?_ | refine gNum12 ?_ | refine gSet ?_ | refine gRd ?_ | refine gLk ?_ | refine gRow12 ?_ | refine fB.of (wide_map (fun _ => rfl) _) ?_ | refine fB.of (full_map (fun _ => rfl) _) ?_ | refine fB.of (full_map (fun x => full_rKept x) _) ?_ | refine fB.of (full_map (fun x => full_rInsL x) _) ?_ | refine fB.of (full_map (fun x => full_rItemL x) _) ?_ | refine fB.of (full_map (fun x => full_rEventL x) _) ?_ | refine fB.of (full_map (fun x => full_rState x) _) ?_ | refine gRf ?_)) <;> (try (conv => whnf)))
  refine loop_rule (ι := TL State) (fun x => [(0, (.h 1000000 0 0 [] 4 0 l.length)), (3, .h 7 1 0 [] 4 0 l.length), (4, i64 (x.j : Nat))])
    (fun x => [(1000000, ⟨0, 0, false, (.tree 0 (.sl 4 (l.map rState)))⟩), (7, ⟨1, x.g, x.d, .tree 9 (.sl 4 (x.l.map rState))⟩)])
    (fun x => l.length - x.j) (fun x => x.j ≤ l.length ∧ x.l = fill l x.j) ⟨0, List.replicate l.length default, 0, false⟩ (by (try dsimp only [cond_true, cond_false]); exact ⟨⟨rfl, rfl, rfl, trivial⟩, ⟨rfl, rfl, trivial⟩⟩) ⟨Nat.zero_le _, (fill_zero l).symm⟩ (by simp [C]; omega) ?_
  rintro ⟨j, out, g, d⟩ sl ob ⟨hj, hout⟩
  dsimp only at hj hout
  have hlen : out.length = l.length := by rw [hout, fill_len]
  (try dsimp only [cond_true, cond_false])
  (conv => whnf)
  by_cases hjl : j < l.length
  · have hxj := hx j hjl
    have hq := fun k => ok_laws_toState k (rd l j).at_ (rd l j).code (rd l j).regs (rd l j).out hxj.1 hxj.2
    repeat' ((with_reducible (first | refine sCall.of (hq _) ?_ | refine gP ?_ | refine gN ?_ | refine fG.split (fun _ => ?_) (fun _ => ?_) | refine fG.not ?_ | refine gY ?_ | refine gF ?_ | refine fG.yes (flat_map (fun _ => rfl) _) ?_ | refine fG.bool (fun _ => ?_) (fun _ => ?_) | refine gS64 ?_ | refine gU8 ?_ | refine gI12 ?_ | refine fE.of rfl ?_ | refine gBq ?_ | refine gNum12 ?_ | refine gSet ?_ | refine gRd ?_ | refine gLk ?_ | refine gRow12 ?_ | refine fB.of (wide_map (fun _ => rfl) _) ?_ | refine fB.of (full_map (fun _ => rfl) _) ?_ | refine fB.of (full_map (fun x => full_rKept x) _) ?_ | refine fB.of (full_map (fun x => full_rInsL x) _) ?_ | refine fB.of (full_map (fun x => full_rItemL x) _) ?_ | refine fB.of (full_map (fun x => full_rEventL x) _) ?_ | refine fB.of (full_map (fun x => full_rState x) _) ?_ | refine gRf ?_)) <;> (try (conv => whnf)))
    refine ⟨⟨⟨j + 1, out.set j (rd l j), _, _⟩, (by (try dsimp only [cond_true, cond_false]); exact ⟨⟨rfl, rfl, rfl, trivial⟩, ⟨rfl, rfl, trivial⟩⟩), ?_, ?_⟩⟩
    · exact ⟨by show j + 1 ≤ _; omega, by show _ = _; rw [hout]; exact fill_set l j (by omega)⟩
    · show l.length - (j + 1) < l.length - j; omega
  · have : j = l.length := by omega
    repeat' ((with_reducible (first | refine gP ?_ | refine gN ?_ | refine fG.split (fun _ => ?_) (fun _ => ?_) | refine fG.not ?_ | refine gY ?_ | refine gF ?_ | refine fG.yes (flat_map (fun _ => rfl) _) ?_ | refine fG.bool (fun _ => ?_) (fun _ => ?_) | refine gS64 ?_ | refine gU8 ?_ | refine gI12 ?_ | refine fE.of rfl ?_ | refine gBq ?_ | refine gNum12 ?_ | refine gSet ?_ | refine gRd ?_ | refine gLk ?_ | refine gRow12 ?_ | refine fB.of (wide_map (fun _ => rfl) _) ?_ | refine fB.of (full_map (fun _ => rfl) _) ?_ | refine fB.of (full_map (fun x => full_rKept x) _) ?_ | refine fB.of (full_map (fun x => full_rInsL x) _) ?_ | refine fB.of (full_map (fun x => full_rItemL x) _) ?_ | refine fB.of (full_map (fun x => full_rEventL x) _) ?_ | refine fB.of (full_map (fun x => full_rState x) _) ?_ | refine gRf ?_)) <;> (try (conv => whnf)))
    rw [hout, this, fill_all, List.take_length]
theorem ok_laws_eqStateS (k : Nat) (l : List State) (hl : l.length ≤ 100000000000) (hx : ∀ j : Nat, j < l.length → (rd l j).regs.length ≤ 100000000000 ∧ (rd l j).out.length ≤ 100000000000) : callE PR C (k + 3) 85 [(.h 1000000 0 0 [] 4 0 l.length), (.h 1000001 0 0 [] 4 0 l.length)] [(.tree 0 (.sl 4 (l.map rState))), (.tree 0 (.sl 4 (l.map rState)))] = some ⟨bl true, [], [none, none]⟩ := by
  (refine callE_is (callE_w [ResultVar.tmp 4] rfl Tryz.func85 rfl (by decide +kernel) rfl (by simp) ?_); (conv => whnf))
  repeat' ((with_reducible (first | refine gP ?_ | refine gN ?_ | refine fG.split (fun _ => ?_) (fun _ => ?_) | refine fG.not ?_ | refine gY ?_ | refine gF ?_ | refine fG.yes (flat_map (fun _ => rfl) _) ?_ | refine fG.bool (fun _ => ?_) (fun _ => ?_) | refine gS64 ?_ | refine gU8 ?_ | refine gI12 ?_ | refine fE.of rfl ?_ | refine gBq ?_ | refine gNum12 ?_ | refine gSet ?_ | refine gRd ?_ | refine gLk ?_ | refine gRow12 ?_ | refine fB.of (wide_map (fun _ => rfl) _) ?_ | refine fB.of (full_map (fun _ => rfl) _) ?_ | refine fB.of (full_map (fun x => full_rKept x) _) ?_ | refine fB.of (full_map (fun x => full_rInsL x) _) ?_ | refine fB.of (full_map (fun x => full_rItemL x) _) ?_ | refine fB.of (full_map (fun x => full_rEventL x) _) ?_ | refine fB.of (full_map (fun x => full_rState x) _) ?_ | refine gRf ?_ | refine sDraw.none (id := 6) (ty := tys) rfl (by decide +kernel) ?_)) <;> (try (conv => whnf)))
  refine loop_rule (ι := Nat) (fun j => [(0, (.h 1000000 0 0 [] 4 0 l.length)), (1, (.h 1000001 0 0 [] 4 0 l.length)), (5, i64 (j : Nat))])
    (fun x => [(1000000, ⟨0, 0, false, (.tree 0 (.sl 4 (l.map rState)))⟩), (1000001, ⟨0, 0, false, (.tree 0 (.sl 4 (l.map rState)))⟩)])
    (fun j => l.length - j) (fun j => j ≤ l.length) 0 (by (try dsimp only [cond_true, cond_false]); exact ⟨⟨rfl, rfl, rfl, trivial⟩, ⟨rfl, rfl, trivial⟩⟩) (Nat.zero_le _) (by simp [C]; omega) ?_
  rintro j sl ob hj
  (try dsimp only [cond_true, cond_false])
  (conv => whnf)
  by_cases hjl : j < l.length
  · have hxj := hx j hjl
    have hq := fun k => ok_laws_eqState k (rd l j).at_ (rd l j).code (rd l j).regs (rd l j).out hxj.1 hxj.2
    repeat' ((with_reducible (first | refine sCall.of (hq _) ?_ | refine gP ?_ | refine gN ?_ | refine fG.split (fun _ => ?_) (fun _ => ?_) | refine fG.not ?_ | refine gY ?_ | refine gF ?_ | refine fG.yes (flat_map (fun _ => rfl) _) ?_ | refine fG.bool (fun _ => ?_) (fun _ => ?_) | refine gS64 ?_ | refine gU8 ?_ | refine gI12 ?_ | refine fE.of rfl ?_ | refine gBq ?_ | refine gNum12 ?_ | refine gSet ?_ | refine gRd ?_ | refine gLk ?_ | refine gRow12 ?_ | refine fB.of (wide_map (fun _ => rfl) _) ?_ | refine fB.of (full_map (fun _ => rfl) _) ?_ | refine fB.of (full_map (fun x => full_rKept x) _) ?_ | refine fB.of (full_map (fun x => full_rInsL x) _) ?_ | refine fB.of (full_map (fun x => full_rItemL x) _) ?_ | refine fB.of (full_map (fun x => full_rEventL x) _) ?_ | refine fB.of (full_map (fun x => full_rState x) _) ?_ | refine gRf ?_ | refine sDraw.none (id := 6) (ty := tys) rfl (by decide +kernel) ?_)) <;> (try (conv => whnf)))
    refine ⟨⟨j + 1, (by (try dsimp only [cond_true, cond_false]); exact ⟨⟨rfl, rfl, rfl, trivial⟩, ⟨rfl, rfl, trivial⟩⟩), ?_, ?_⟩⟩
    · show j + 1 ≤ _; omega
    · show l.length - (j + 1) < l.length - j; omega
  · repeat' ((with_reducible (first | refine gP ?_ | refine gN ?_ | refine fG.split (fun _ => ?_) (fun _ => ?_) | refine fG.not ?_ | refine gY ?_ | refine gF ?_ | refine fG.yes (flat_map (fun _ => rfl) _) ?_ | refine fG.bool (fun _ => ?_) (fun _ => ?_) | refine gS64 ?_ | refine gU8 ?_ | refine gI12 ?_ | refine fE.of rfl ?_ | refine gBq ?_ | refine gNum12 ?_ | refine gSet ?_ | refine gRd ?_ | refine gLk ?_ | refine gRow12 ?_ | refine fB.of (wide_map (fun _ => rfl) _) ?_ | refine fB.of (full_map (fun _ => rfl) _) ?_ | refine fB.of (full_map (fun x => full_rKept x) _) ?_ | refine fB.of (full_map (fun x => full_rInsL x) _) ?_ | refine fB.of (full_map (fun x => full_rItemL x) _) ?_ | refine fB.of (full_map (fun x => full_rEventL x) _) ?_ | refine fB.of (full_map (fun x => full_rState x) _) ?_ | refine gRf ?_ | refine sDraw.none (id := 6) (ty := tys) rfl (by decide +kernel) ?_)) <;> (try (conv => whnf)))
/-- Bounds of a system's lists. -/
structure SysB (B : Nat) (P : List (List Ins)) (S : List State) (W : List (List Item)) (H : List (List Event)) : Prop where
  p : P.length ≤ B
  pp : ∀ j : Nat, j < P.length → (rd P j).length ≤ B
  s : S.length ≤ B
  ss : ∀ j : Nat, j < S.length → (rd S j).regs.length ≤ B ∧ (rd S j).out.length ≤ B
  w : W.length ≤ B
  ww : ∀ j : Nat, j < W.length → (rd W j).length ≤ B
  h : H.length ≤ B
  hh : ∀ j : Nat, j < H.length → (rd H j).length ≤ B
def sysSz (P : List (List Ins)) (S : List State) (W : List (List Item)) (H : List (List Event)) : Nat := (P.length + wts List.length P) + ((S.length + wts wSt S) + ((W.length + wts List.length W) + (H.length + wts List.length H)))
theorem sysB_of {B : Nat} {P : List (List Ins)} {S : List State} {W : List (List Item)} {H : List (List Event)} (h : sysSz P S W H ≤ B) : SysB B P S W H := by
  unfold sysSz at h
  refine ⟨by omega, fun j hj => ?_, by omega, fun j hj => ?_, by omega, fun j hj => ?_, by omega, fun j hj => ?_⟩
  · have := wts_one List.length P j hj; omega
  · have := wts_one wSt S j hj; simp only [wSt] at this; omega
  · have := wts_one List.length W j hj; omega
  · have := wts_one List.length H j hj; omega
theorem SysB.mono {B B' : Nat} {P : List (List Ins)} {S : List State} {W : List (List Item)} {H : List (List Event)} (h : SysB B P S W H) (hb : B ≤ B') : SysB B' P S W H :=
  ⟨by have := h.p; omega, fun j hj => by have := h.pp j hj; omega, by have := h.s; omega, fun j hj => by have := h.ss j hj; omega, by have := h.w; omega, fun j hj => by have := h.ww j hj; omega, by have := h.h; omega, fun j hj => by have := h.hh j hj; omega⟩
theorem ok_laws_szSys (k : Nat) (P : List (List Ins)) (S : List State) (W : List (List Item)) (H : List (List Event)) (m : Int) (h0 : 0 ≤ m) (h1 : m ≤ 1048576) (hb : SysB 140737488355328 P S W H) :
    callE PR C (k + 4) 21 [aSys 0 P S W H, i64 m] [tInsSS P, tStateS S, tItemSS W, tEventSS H] = some ⟨i64 (left m (sysSz P S W H)), [], [none, none, none, none]⟩ := by
  have q1 := fun k => ok_laws_szInsSS k P m h0 h1 hb.p hb.pp
  unfold sysSz
  generalize hp : P.length + wts List.length P = p at q1 ⊢
  generalize hs : S.length + wts wSt S = s
  generalize hw : W.length + wts List.length W = w
  generalize hh : H.length + wts List.length H = h
  by_cases c1 : left m p < 0
  · rw [left_m1 c1] at q1
    rw [show left m ((p + (s + (w + h)) : Nat)) = -1 from by unfold left at c1 ⊢; split at c1 <;> rw [if_pos (by omega)]]
    (refine callE_is (callE_w [ResultVar.tmp 4] rfl Tryz.func21 rfl (by decide +kernel) rfl (by simp) ?_); (conv => whnf))
    repeat' ((with_reducible (first | refine sCall.of (q1 _) ?_ | refine gP ?_ | refine gN ?_ | refine fG.split (fun _ => ?_) (fun _ => ?_) | refine fG.not ?_ | refine gY ?_ | refine gF ?_ | refine fG.yes (flat_map (fun _ => rfl) _) ?_ | refine fG.bool (fun _ => ?_) (fun _ => ?_) | refine gS64 ?_ | refine gU8 ?_ | refine gI12 ?_ | refine fE.of rfl ?_ | refine gBq ?_ | refine gNum12 ?_ | refine gSet ?_ | refine gRd ?_ | refine gLk ?_ | refine gRow12 ?_ | refine fB.of (wide_map (fun _ => rfl) _) ?_ | refine fB.of (full_map (fun _ => rfl) _) ?_ | refine fB.of (full_map (fun x => full_rKept x) _) ?_ | refine fB.of (full_map (fun x => full_rInsL x) _) ?_ | refine fB.of (full_map (fun x => full_rItemL x) _) ?_ | refine fB.of (full_map (fun x => full_rEventL x) _) ?_ | refine fB.of (full_map (fun x => full_rState x) _) ?_ | refine gRf ?_)) <;> (try (conv => whnf)))
  · obtain ⟨d1, d2⟩ := left_pos c1
    have q2 := fun k => ok_laws_szStateS k S (left m p) (by omega) (by omega) hb.s hb.ss
    rw [hs] at q2
    by_cases c2 : left (left m p) s < 0
    · rw [left_m1 c2] at q2
      rw [show left m ((p + (s + (w + h)) : Nat)) = -1 from by rw [d1] at c2; unfold left at c2 ⊢; split at c2 <;> rw [if_pos (by omega)]]
      (refine callE_is (callE_w [ResultVar.tmp 4] rfl Tryz.func21 rfl (by decide +kernel) rfl (by simp) ?_); (conv => whnf))
      repeat' ((with_reducible (first | refine sCall.of (q1 _) ?_ | refine sCall.of (q2 _) ?_ | refine gP ?_ | refine gN ?_ | refine fG.split (fun _ => ?_) (fun _ => ?_) | refine fG.not ?_ | refine gY ?_ | refine gF ?_ | refine fG.yes (flat_map (fun _ => rfl) _) ?_ | refine fG.bool (fun _ => ?_) (fun _ => ?_) | refine gS64 ?_ | refine gU8 ?_ | refine gI12 ?_ | refine fE.of rfl ?_ | refine gBq ?_ | refine gNum12 ?_ | refine gSet ?_ | refine gRd ?_ | refine gLk ?_ | refine gRow12 ?_ | refine fB.of (wide_map (fun _ => rfl) _) ?_ | refine fB.of (full_map (fun _ => rfl) _) ?_ | refine fB.of (full_map (fun x => full_rKept x) _) ?_ | refine fB.of (full_map (fun x => full_rInsL x) _) ?_ | refine fB.of (full_map (fun x => full_rItemL x) _) ?_ | refine fB.of (full_map (fun x => full_rEventL x) _) ?_ | refine fB.of (full_map (fun x => full_rState x) _) ?_ | refine gRf ?_)) <;> (try (conv => whnf)))
    · obtain ⟨d3, d4⟩ := left_pos c2
      have q3 := fun k => ok_laws_szItemSS k W (left (left m p) s) (by omega) (by omega) hb.w hb.ww
      rw [hw] at q3
      by_cases c3 : left (left (left m p) s) w < 0
      · rw [left_m1 c3] at q3
        rw [show left m ((p + (s + (w + h)) : Nat)) = -1 from by rw [d3, d1] at c3; unfold left at c3 ⊢; split at c3 <;> rw [if_pos (by omega)]]
        (refine callE_is (callE_w [ResultVar.tmp 4] rfl Tryz.func21 rfl (by decide +kernel) rfl (by simp) ?_); (conv => whnf))
        repeat' ((with_reducible (first | refine sCall.of (q1 _) ?_ | refine sCall.of (q2 _) ?_ | refine sCall.of (q3 _) ?_ | refine gP ?_ | refine gN ?_ | refine fG.split (fun _ => ?_) (fun _ => ?_) | refine fG.not ?_ | refine gY ?_ | refine gF ?_ | refine fG.yes (flat_map (fun _ => rfl) _) ?_ | refine fG.bool (fun _ => ?_) (fun _ => ?_) | refine gS64 ?_ | refine gU8 ?_ | refine gI12 ?_ | refine fE.of rfl ?_ | refine gBq ?_ | refine gNum12 ?_ | refine gSet ?_ | refine gRd ?_ | refine gLk ?_ | refine gRow12 ?_ | refine fB.of (wide_map (fun _ => rfl) _) ?_ | refine fB.of (full_map (fun _ => rfl) _) ?_ | refine fB.of (full_map (fun x => full_rKept x) _) ?_ | refine fB.of (full_map (fun x => full_rInsL x) _) ?_ | refine fB.of (full_map (fun x => full_rItemL x) _) ?_ | refine fB.of (full_map (fun x => full_rEventL x) _) ?_ | refine fB.of (full_map (fun x => full_rState x) _) ?_ | refine gRf ?_)) <;> (try (conv => whnf)))
      · obtain ⟨d5, d6⟩ := left_pos c3
        have q4 := fun k => ok_laws_szEventSS k H (left (left (left m p) s) w) (by omega) (by omega) hb.h hb.hh
        rw [hh] at q4
        by_cases c4 : left (left (left (left m p) s) w) h < 0
        · rw [left_m1 c4] at q4
          rw [show left m ((p + (s + (w + h)) : Nat)) = -1 from by rw [d5, d3, d1] at c4; unfold left at c4 ⊢; split at c4 <;> rw [if_pos (by omega)]]
          (refine callE_is (callE_w [ResultVar.tmp 4] rfl Tryz.func21 rfl (by decide +kernel) rfl (by simp) ?_); (conv => whnf))
          repeat' ((with_reducible (first | refine sCall.of (q1 _) ?_ | refine sCall.of (q2 _) ?_ | refine sCall.of (q3 _) ?_ | refine sCall.of (q4 _) ?_ | refine gP ?_ | refine gN ?_ | refine fG.split (fun _ => ?_) (fun _ => ?_) | refine fG.not ?_ | refine gY ?_ | refine gF ?_ | refine fG.yes (flat_map (fun _ => rfl) _) ?_ | refine fG.bool (fun _ => ?_) (fun _ => ?_) | refine gS64 ?_ | refine gU8 ?_ | refine gI12 ?_ | refine fE.of rfl ?_ | refine gBq ?_ | refine gNum12 ?_ | refine gSet ?_ | refine gRd ?_ | refine gLk ?_ | refine gRow12 ?_ | refine fB.of (wide_map (fun _ => rfl) _) ?_ | refine fB.of (full_map (fun _ => rfl) _) ?_ | refine fB.of (full_map (fun x => full_rKept x) _) ?_ | refine fB.of (full_map (fun x => full_rInsL x) _) ?_ | refine fB.of (full_map (fun x => full_rItemL x) _) ?_ | refine fB.of (full_map (fun x => full_rEventL x) _) ?_ | refine fB.of (full_map (fun x => full_rState x) _) ?_ | refine gRf ?_)) <;> (try (conv => whnf)))
        · obtain ⟨d7, d8⟩ := left_pos c4
          rw [show left m ((p + (s + (w + h)) : Nat)) = left (left (left (left m p) s) w) h from by rw [d7, d5, d3, d1]; unfold left; rw [if_neg (by omega)]; omega]
          (refine callE_is (callE_w [ResultVar.tmp 4] rfl Tryz.func21 rfl (by decide +kernel) rfl (by simp) ?_); (conv => whnf))
          repeat' ((with_reducible (first | refine sCall.of (q1 _) ?_ | refine sCall.of (q2 _) ?_ | refine sCall.of (q3 _) ?_ | refine sCall.of (q4 _) ?_ | refine gP ?_ | refine gN ?_ | refine fG.split (fun _ => ?_) (fun _ => ?_) | refine fG.not ?_ | refine gY ?_ | refine gF ?_ | refine fG.yes (flat_map (fun _ => rfl) _) ?_ | refine fG.bool (fun _ => ?_) (fun _ => ?_) | refine gS64 ?_ | refine gU8 ?_ | refine gI12 ?_ | refine fE.of rfl ?_ | refine gBq ?_ | refine gNum12 ?_ | refine gSet ?_ | refine gRd ?_ | refine gLk ?_ | refine gRow12 ?_ | refine fB.of (wide_map (fun _ => rfl) _) ?_ | refine fB.of (full_map (fun _ => rfl) _) ?_ | refine fB.of (full_map (fun x => full_rKept x) _) ?_ | refine fB.of (full_map (fun x => full_rInsL x) _) ?_ | refine fB.of (full_map (fun x => full_rItemL x) _) ?_ | refine fB.of (full_map (fun x => full_rEventL x) _) ?_ | refine fB.of (full_map (fun x => full_rState x) _) ?_ | refine gRf ?_)) <;> (try (conv => whnf)))
set_option maxRecDepth 10000 in
theorem ok_laws_toSys (k : Nat) (P : List (List Ins)) (S : List State) (W : List (List Item)) (H : List (List Event)) (hb : SysB 100000000000 P S W H) :
    callE PR C (k + 4) 23 [aSys 0 P S W H] [tInsSS P, tStateS S, tItemSS W, tEventSS H] = some ⟨nSys 0 P S W H, [tInsSS9 P, tStateS9 S, tItemSS9 W, tEventSS9 H], [none, none, none, none]⟩ := by
  have q1 := fun k => ok_laws_toInsSS k P hb.p hb.pp
  have q2 := fun k => ok_laws_toStateS k S hb.s hb.ss
  have q3 := fun k => ok_laws_toItemSS k W hb.w hb.ww
  have q4 := fun k => ok_laws_toEventSS k H hb.h hb.hh
  (refine callE_is (callE_w [ResultVar.cell 2 29] rfl Tryz.func23 rfl (by decide +kernel) rfl (by simp) ?_); (conv => whnf))
  repeat' ((with_reducible (first | refine sCall.of (q1 _) ?_ | refine sCall.of (q2 _) ?_ | refine sCall.of (q3 _) ?_ | refine sCall.of (q4 _) ?_ | refine gP ?_ | refine gN ?_ | refine fG.split (fun _ => ?_) (fun _ => ?_) | refine fG.not ?_ | refine gY ?_ | refine gF ?_ | refine fG.yes (flat_map (fun _ => rfl) _) ?_ | refine fG.bool (fun _ => ?_) (fun _ => ?_) | refine gS64 ?_ | refine gU8 ?_ | refine gI12 ?_ | refine fE.of rfl ?_ | refine gBq ?_ | refine gNum12 ?_ | refine gSet ?_ | refine gRd ?_ | refine gLk ?_ | refine gRow12 ?_ | refine fB.of (wide_map (fun _ => rfl) _) ?_ | refine fB.of (full_map (fun _ => rfl) _) ?_ | refine fB.of (full_map (fun x => full_rKept x) _) ?_ | refine fB.of (full_map (fun x => full_rInsL x) _) ?_ | refine fB.of (full_map (fun x => full_rItemL x) _) ?_ | refine fB.of (full_map (fun x => full_rEventL x) _) ?_ | refine fB.of (full_map (fun x => full_rState x) _) ?_ | refine gRf ?_)) <;> (try (conv => whnf)))
set_option maxRecDepth 10000 in
theorem ok_laws_eqSys (k : Nat) (P : List (List Ins)) (S : List State) (W : List (List Item)) (H : List (List Event)) (hb : SysB 100000000000 P S W H) :
    callE PR C (k + 4) 26 [aSys 0 P S W H, aSys 4 P S W H] [tInsSS P, tStateS S, tItemSS W, tEventSS H, tInsSS P, tStateS S, tItemSS W, tEventSS H] = some ⟨bl true, [], [none, none, none, none, none, none, none, none]⟩ := by
  have q1 := fun k => ok_laws_eqInsSS k P hb.p hb.pp
  have q2 := fun k => ok_laws_eqStateS k S hb.s hb.ss
  have q3 := fun k => ok_laws_eqItemSS k W hb.w hb.ww
  have q4 := fun k => ok_laws_eqEventSS k H hb.h hb.hh
  (refine callE_is (callE_w [ResultVar.tmp 4] rfl Tryz.func26 rfl (by decide +kernel) rfl (by simp) ?_); (conv => whnf))
  repeat' ((with_reducible (first | refine sCall.of (q1 _) ?_ | refine sCall.of (q2 _) ?_ | refine sCall.of (q3 _) ?_ | refine sCall.of (q4 _) ?_ | refine gP ?_ | refine gN ?_ | refine fG.split (fun _ => ?_) (fun _ => ?_) | refine fG.not ?_ | refine gY ?_ | refine gF ?_ | refine fG.yes (flat_map (fun _ => rfl) _) ?_ | refine fG.bool (fun _ => ?_) (fun _ => ?_) | refine gS64 ?_ | refine gU8 ?_ | refine gI12 ?_ | refine fE.of rfl ?_ | refine gBq ?_ | refine gNum12 ?_ | refine gSet ?_ | refine gRd ?_ | refine gLk ?_ | refine gRow12 ?_ | refine fB.of (wide_map (fun _ => rfl) _) ?_ | refine fB.of (full_map (fun _ => rfl) _) ?_ | refine fB.of (full_map (fun x => full_rKept x) _) ?_ | refine fB.of (full_map (fun x => full_rInsL x) _) ?_ | refine fB.of (full_map (fun x => full_rItemL x) _) ?_ | refine fB.of (full_map (fun x => full_rEventL x) _) ?_ | refine fB.of (full_map (fun x => full_rState x) _) ?_ | refine gRf ?_)) <;> (try (conv => whnf)))

end Go.Proofs.YtkmhbofkjcknjaaGreat.Abs
namespace Go.Proofs.YtkmhbofkjcknjaaGreat.Abs
open Go Go.Proofs
set_option linter.unusedVariables false
set_option linter.unusedSimpArgs false
attribute [local irreducible] callE
/-! ### slices.Concat; processes; what fits -/
def rIntL (l : List Int) : List T := [.sl 1 (l.map rI)]
theorem full_rIntL (x : List Int) : (rIntL x).all (fun t => T.full 8 t) = true := by
  simp only [rIntL, List.all_cons, List.all_nil, Bool.and_true]
  exact full_map (n := 7) (s := 1) (fun _ => rfl) x

theorem ok_Grow_int (k : Nat) (n : Int) (h0 : 0 ≤ n) (h1 : n ≤ 100000000000) : callE PR C (k + 1) 240 [.nl 1, i64 n] [] = some ⟨.h 2000000 1 0 [] 1 0 0, [tI9 []], []⟩ := by
  (refine callE_is (callE_w [ResultVar.tmp 4] rfl Tryz.func240 rfl (by decide +kernel) rfl (by simp) ?_); (conv => whnf))
  repeat' ((with_reducible (first | refine gP ?_ | refine gN ?_ | refine fG.split (fun _ => ?_) (fun _ => ?_) | refine fG.not ?_ | refine gY ?_ | refine gF ?_ | refine fG.yes (flat_map (fun _ => rfl) _) ?_ | refine fG.bool (fun _ => ?_) (fun _ => ?_) | refine gS64 ?_ | refine gU8 ?_ | refine gI12 ?_ | refine fE.of rfl ?_ | refine gBq ?_ | refine gNum12 ?_ | refine gSet ?_ | refine gRd ?_ | refine gLk ?_ | refine gRow12 ?_ | refine fB.of (wide_map (fun _ => rfl) _) ?_ | refine fB.of (full_map (fun _ => rfl) _) ?_ | refine fB.of (full_map (fun x => full_rKept x) _) ?_ | refine fB.of (full_map (fun x => full_rInsL x) _) ?_ | refine fB.of (full_map (fun x => full_rItemL x) _) ?_ | refine fB.of (full_map (fun x => full_rEventL x) _) ?_ | refine fB.of (full_map (fun x => full_rState x) _) ?_ | refine fB.of (full_map (fun x => full_rIntL x) _) ?_ | refine gRf ?_)) <;> (try (conv => whnf)))
  all_goals rfl
theorem flatten_wts (l : List (List Int)) : l.flatten.length = wts List.length l := by
  induction l with
  | nil => rfl
  | cons a l ih => simp only [List.flatten_cons, List.length_append, wts, ih]
theorem ok_Concat_int (k : Nat) (l : List (List Int)) (hl : l.length ≤ 100000000000) (hb : wts List.length l ≤ 100000000000) :
    callE PR C (k + 2) 203 [.h 1000000 0 0 [] 1 0 l.length] [.tree 0 (.sl 1 (l.map rIntL))] = some ⟨.h 2000000 1 0 [] 1 0 l.flatten.length, [tI9 l.flatten], [none]⟩ := by
  (refine callE_is (callE_w [ResultVar.tmp 2] rfl Tryz.func203 rfl (by decide +kernel) rfl (by simp) ?_); (conv => whnf))
  refine loop_rule (ι := TH) (fun z => [(0, .h 1000000 0 0 [] 1 0 l.length), (3, i64 z.m), (9, .h 1000000 0 0 [] 1 0 l.length), (10, i64 l.length), (11, i64 (z.j : Nat))])
    (fun z => [(1000000, ⟨0, 0, false, .tree 0 (.sl 1 (l.map rIntL))⟩)])
    (fun z => l.length - z.j) (fun z => z.j ≤ l.length ∧ z.m = (wts List.length (l.take z.j) : Nat)) ⟨0, 0⟩ (by (try dsimp only [cond_true, cond_false]); exact ⟨⟨rfl, rfl, rfl, rfl, rfl, trivial⟩, ⟨rfl, trivial⟩⟩) ⟨Nat.zero_le _, rfl⟩ (by simp [C]; omega) ?_
  rintro ⟨j, m⟩ sl ob ⟨hj, hm⟩
  dsimp only at hj hm
  subst hm
  (try dsimp only [cond_true, cond_false])
  (conv => whnf)
  by_cases hjl : j < l.length
  · have e1 := wts_take List.length l j hjl
    have e2 := wts_le List.length l (j + 1)
    have e4 : (List.map rI (rd l j)).length = (rd l j).length := by simp
    repeat' ((with_reducible (first | refine gP ?_ | refine gN ?_ | refine fG.split (fun _ => ?_) (fun _ => ?_) | refine fG.not ?_ | refine gY ?_ | refine gF ?_ | refine fG.yes (flat_map (fun _ => rfl) _) ?_ | refine fG.bool (fun _ => ?_) (fun _ => ?_) | refine gS64 ?_ | refine gU8 ?_ | refine gI12 ?_ | refine fE.of rfl ?_ | refine gBq ?_ | refine gNum12 ?_ | refine gSet ?_ | refine gRd ?_ | refine gLk ?_ | refine gRow12 ?_ | refine fB.of (wide_map (fun _ => rfl) _) ?_ | refine fB.of (full_map (fun _ => rfl) _) ?_ | refine fB.of (full_map (fun x => full_rKept x) _) ?_ | refine fB.of (full_map (fun x => full_rInsL x) _) ?_ | refine fB.of (full_map (fun x => full_rItemL x) _) ?_ | refine fB.of (full_map (fun x => full_rEventL x) _) ?_ | refine fB.of (full_map (fun x => full_rState x) _) ?_ | refine fB.of (full_map (fun x => full_rIntL x) _) ?_ | refine gRf ?_)) <;> (try (conv => whnf)))
    refine ⟨⟨⟨j + 1, _⟩, (by (try dsimp only [cond_true, cond_false]); exact ⟨⟨rfl, rfl, rfl, rfl, rfl, trivial⟩, ⟨rfl, trivial⟩⟩), ?_, ?_⟩⟩
    · exact ⟨by show j + 1 ≤ _; omega, by show ((wts List.length (l.take j) : Nat) : Int) + ((List.map rI (rd l j)).length : Nat) = (wts List.length (l.take (j + 1)) : Nat); omega⟩
    · show l.length - (j + 1) < l.length - j; omega
  · have e2 := wts_le List.length l j
    have hG := fun k => ok_Grow_int k (wts List.length (l.take j) : Nat) (by omega) (by omega)
    repeat' ((with_reducible (first | refine sCall.of (hG _) ?_ | refine gP ?_ | refine gN ?_ | refine fG.split (fun _ => ?_) (fun _ => ?_) | refine fG.not ?_ | refine gY ?_ | refine gF ?_ | refine fG.yes (flat_map (fun _ => rfl) _) ?_ | refine fG.bool (fun _ => ?_) (fun _ => ?_) | refine gS64 ?_ | refine gU8 ?_ | refine gI12 ?_ | refine fE.of rfl ?_ | refine gBq ?_ | refine gNum12 ?_ | refine gSet ?_ | refine gRd ?_ | refine gLk ?_ | refine gRow12 ?_ | refine fB.of (wide_map (fun _ => rfl) _) ?_ | refine fB.of (full_map (fun _ => rfl) _) ?_ | refine fB.of (full_map (fun x => full_rKept x) _) ?_ | refine fB.of (full_map (fun x => full_rInsL x) _) ?_ | refine fB.of (full_map (fun x => full_rItemL x) _) ?_ | refine fB.of (full_map (fun x => full_rEventL x) _) ?_ | refine fB.of (full_map (fun x => full_rState x) _) ?_ | refine fB.of (full_map (fun x => full_rIntL x) _) ?_ | refine gRf ?_)) <;> (try (conv => whnf)))
    refine loop_rule (ι := VI) (fun z => [(6, .h z.o z.b 0 [] 1 0 z.l.length), (25, .h 1000000 0 0 [] 1 0 l.length), (26, i64 l.length), (27, i64 (z.j : Nat))])
      (fun z => [(1000000, ⟨0, 0, false, .tree 0 (.sl 1 (l.map rIntL))⟩), (z.o, ⟨z.b, 0, false, tI9 z.l⟩)])
      (fun z => l.length - z.j) (fun z => z.j ≤ l.length ∧ z.l = (l.take z.j).flatten ∧ (z.o = 10024 ∨ z.o = 33)) ⟨0, [], 10024, _⟩ (by (try dsimp only [cond_true, cond_false]); exact ⟨⟨rfl, rfl, rfl, rfl, trivial⟩, ⟨rfl, rfl, trivial⟩⟩) ⟨Nat.zero_le _, rfl, .inl rfl⟩ (by simp [C]; omega) ?_
    clear hjl hj e2 hG
    rintro ⟨j, out, o, b⟩ sl ob ⟨hj, hl2, ho⟩
    dsimp only at hj hl2 ho
    have hlen : out.length = wts List.length (l.take j) := by rw [hl2, flatten_wts]
    have e3 := wts_le List.length l (j + 1)
    by_cases hjl : j < l.length
    · have e1 := wts_take List.length l j hjl
      rcases ho with rfl | rfl
      all_goals (try dsimp only [cond_true, cond_false])
      all_goals (conv => whnf)
      all_goals repeat' ((with_reducible (first | refine gP ?_ | refine gN ?_ | refine fG.split (fun _ => ?_) (fun _ => ?_) | refine fG.not ?_ | refine gY ?_ | refine gF ?_ | refine fG.yes (flat_map (fun _ => rfl) _) ?_ | refine fG.bool (fun _ => ?_) (fun _ => ?_) | refine gS64 ?_ | refine gU8 ?_ | refine gI12 ?_ | refine fE.of rfl ?_ | refine gBq ?_ | refine gNum12 ?_ | refine gSet ?_ | refine gRd ?_ | refine gLk ?_ | refine gRow12 ?_ | refine fB.of (wide_map (fun _ => rfl) _) ?_ | refine fB.of (full_map (fun _ => rfl) _) ?_ | refine fB.of (full_map (fun x => full_rKept x) _) ?_ | refine fB.of (full_map (fun x => full_rInsL x) _) ?_ | refine fB.of (full_map (fun x => full_rItemL x) _) ?_ | refine fB.of (full_map (fun x => full_rEventL x) _) ?_ | refine fB.of (full_map (fun x => full_rState x) _) ?_ | refine fB.of (full_map (fun x => full_rIntL x) _) ?_ | refine gRf ?_)) <;> (try (conv => whnf)))
      all_goals
        refine ⟨⟨⟨j + 1, out ++ rd l j, 33, _⟩, (by (try dsimp only [cond_true, cond_false]); exact ⟨⟨rfl, rfl, rfl, rfl, trivial⟩, ⟨rfl, rfl, trivial⟩⟩), ?_, ?_⟩⟩
        · exact ⟨by show j + 1 ≤ _; omega, by show out ++ rd l j = _; rw [take_rd hjl, List.flatten_append, hl2]; simp, .inr rfl⟩
        · show l.length - (j + 1) < l.length - j; omega
    · rw [List.take_of_length_le (by omega)] at hl2
      subst hl2
      rcases ho with rfl | rfl
      all_goals (try dsimp only [cond_true, cond_false])
      all_goals (conv => whnf)
      all_goals repeat' ((with_reducible (first | refine gP ?_ | refine gN ?_ | refine fG.split (fun _ => ?_) (fun _ => ?_) | refine fG.not ?_ | refine gY ?_ | refine gF ?_ | refine fG.yes (flat_map (fun _ => rfl) _) ?_ | refine fG.bool (fun _ => ?_) (fun _ => ?_) | refine gS64 ?_ | refine gU8 ?_ | refine gI12 ?_ | refine fE.of rfl ?_ | refine gBq ?_ | refine gNum12 ?_ | refine gSet ?_ | refine gRd ?_ | refine gLk ?_ | refine gRow12 ?_ | refine fB.of (wide_map (fun _ => rfl) _) ?_ | refine fB.of (full_map (fun _ => rfl) _) ?_ | refine fB.of (full_map (fun x => full_rKept x) _) ?_ | refine fB.of (full_map (fun x => full_rInsL x) _) ?_ | refine fB.of (full_map (fun x => full_rItemL x) _) ?_ | refine fB.of (full_map (fun x => full_rEventL x) _) ?_ | refine fB.of (full_map (fun x => full_rState x) _) ?_ | refine fB.of (full_map (fun x => full_rIntL x) _) ?_ | refine gRf ?_)) <;> (try (conv => whnf)))
      all_goals rfl
/-! ### Processes, what fits, the order -/
theorem ok_impl_wayAt (k : Nat) (P : List (List Ins)) (S : List State) (W : List (List Item)) (H : List (List Event)) (a b : Nat) (hb : SysB 100000000000 P S W H) (ha : a < P.length) (hb2 : b < P.length) (hn : P.length ≤ 4) (hw : W.length = P.length * P.length) :
    callE PR C (k + 2) 205 [aSys 0 P S W H, i64 (a : Nat), i64 (b : Nat)] [tInsSS P, tStateS S, tItemSS W, tEventSS H] = some ⟨i64 (a * P.length + b : Nat), [], [none, none, none, none]⟩ := by
  have hpl := place_lt ha hb2
  rw [← hw] at hpl
  have hm : ((a : Int) * (P.length : Int)) = ((a * P.length : Nat) : Int) := by simp
  have hle : a * P.length ≤ 4 * 4 := Nat.mul_le_mul (by omega) hn
  have w1 : IntKind.i64.wrap ((a : Int) * (P.length : Int)) = ((a * P.length : Nat) : Int) := by rw [hm]; exact wrap_i64 _ (by omega) (by omega)
  have w2 : IntKind.i64.wrap (((a * P.length : Nat) : Int) + (b : Int)) = ((a * P.length + b : Nat) : Int) := by rw [wrap_i64 _ (by omega) (by omega)]; simp
  have q1 := fun k => ok_impl_in k (a : Int) 0 ((P.length : Int) - 1)
  have q2 := fun k => ok_impl_in k (b : Int) 0 ((P.length : Int) - 1)
  rw [decide_eq_true (by omega)] at q1 q2
  (refine callE_is (callE_w [ResultVar.tmp 6] rfl Tryz.func205 rfl (by decide +kernel) rfl (by simp) ?_); (conv => whnf))
  repeat' ((with_reducible (first | refine sCall.of (q1 _) ?_ | refine sCall.of (q2 _) ?_ | refine sW.eq (w1) ?_ | refine sW.eq (w2) ?_ | refine gP ?_ | refine gN ?_ | refine fG.split (fun _ => ?_) (fun _ => ?_) | refine fG.not ?_ | refine gY ?_ | refine gF ?_ | refine fG.yes (flat_map (fun _ => rfl) _) ?_ | refine fG.bool (fun _ => ?_) (fun _ => ?_) | refine gS64 ?_ | refine gU8 ?_ | refine gI12 ?_ | refine fE.of rfl ?_ | refine gBq ?_ | refine gNum12 ?_ | refine gSet ?_ | refine gRd ?_ | refine gLk ?_ | refine gRow12 ?_ | refine fB.of (wide_map (fun _ => rfl) _) ?_ | refine fB.of (full_map (fun _ => rfl) _) ?_ | refine fB.of (full_map (fun x => full_rKept x) _) ?_ | refine fB.of (full_map (fun x => full_rInsL x) _) ?_ | refine fB.of (full_map (fun x => full_rItemL x) _) ?_ | refine fB.of (full_map (fun x => full_rEventL x) _) ?_ | refine fB.of (full_map (fun x => full_rState x) _) ?_ | refine fB.of (full_map (fun x => full_rIntL x) _) ?_ | refine gRf ?_)) <;> (try (conv => whnf)))
  all_goals first
    | rfl
    | (exfalso; omega)

end Go.Proofs.YtkmhbofkjcknjaaGreat.Abs
namespace Go.Proofs.YtkmhbofkjcknjaaGreat.Abs
open Go Go.Proofs
set_option linter.unusedVariables false
set_option linter.unusedSimpArgs false
attribute [local irreducible] callE
theorem ok_impl_procOk (k : Nat) (P : List (List Ins)) (S : List State) (W : List (List Item)) (H : List (List Event)) (p : Nat) (hb : SysB 100000000000 P S W H) (hp : p < P.length) (hn : P.length ≤ 4) (hs : S.length = P.length) (hh : H.length = P.length) :
    callE PR C (k + 10) 130 [aSys 0 P S W H, i64 (p : Nat)] [tInsSS P, tStateS S, tItemSS W, tEventSS H] = some ⟨bl (procOk P S H p), [], [none, none, none, none]⟩ := by
  have b1 := hb.pp p hp
  have b2 := hb.hh p (by omega)
  have b3 := hb.ss p (by omega)
  have q1 := fun k => ok_impl_ProgOk k (rd P p) P.length b1 (by omega) (by omega)
  have q2 := fun k => ok_impl_peersOk k (rd H p) P.length b2 (by omega) (by omega)
  have q3 := fun k => ok_impl_Replay' k (rd P p) (rd H p) b1 b2
  have hst := stOf_len (rd P p) (rd H p)
  unfold procOk
  cases e1 : progOk (rd P p) P.length with
  | false =>
    simp only [e1] at q1
    (refine callE_is (callE_w [ResultVar.tmp 4] rfl Tryz.func130 rfl (by decide +kernel) rfl (by simp) ?_); (conv => whnf))
    repeat' ((with_reducible (first | refine sCall.of (q1 _) ?_ | refine gP ?_ | refine gN ?_ | refine fG.split (fun _ => ?_) (fun _ => ?_) | refine fG.not ?_ | refine gY ?_ | refine gF ?_ | refine fG.yes (flat_map (fun _ => rfl) _) ?_ | refine fG.bool (fun _ => ?_) (fun _ => ?_) | refine gS64 ?_ | refine gU8 ?_ | refine gI12 ?_ | refine fE.of rfl ?_ | refine gBq ?_ | refine gNum12 ?_ | refine gSet ?_ | refine gRd ?_ | refine gLk ?_ | refine gRow12 ?_ | refine fB.of (wide_map (fun _ => rfl) _) ?_ | refine fB.of (full_map (fun _ => rfl) _) ?_ | refine fB.of (full_map (fun x => full_rKept x) _) ?_ | refine fB.of (full_map (fun x => full_rInsL x) _) ?_ | refine fB.of (full_map (fun x => full_rItemL x) _) ?_ | refine fB.of (full_map (fun x => full_rEventL x) _) ?_ | refine fB.of (full_map (fun x => full_rState x) _) ?_ | refine fB.of (full_map (fun x => full_rIntL x) _) ?_ | refine gRf ?_ | refine sDraw.none (id := 1) (ty := tys) rfl (by decide +kernel) ?_ | refine sDraw.mk' (id := 3) [(1, 14), (4, 14), (6, 14), (9, 14), (10, 14)] (ty := tys) rfl (by decide +kernel) ?_ | refine sDraw.none (id := 4) (ty := tys) rfl (by decide +kernel) ?_)) <;> (try (conv => whnf)))
    all_goals rfl
  | true =>
    simp only [e1] at q1
    cases e2 : peersOk (rd H p) P.length with
    | false =>
      simp only [e2] at q2
      (refine callE_is (callE_w [ResultVar.tmp 4] rfl Tryz.func130 rfl (by decide +kernel) rfl (by simp) ?_); (conv => whnf))
      repeat' ((with_reducible (first | refine sCall.of (q1 _) ?_ | refine sCall.of (q2 _) ?_ | refine gP ?_ | refine gN ?_ | refine fG.split (fun _ => ?_) (fun _ => ?_) | refine fG.not ?_ | refine gY ?_ | refine gF ?_ | refine fG.yes (flat_map (fun _ => rfl) _) ?_ | refine fG.bool (fun _ => ?_) (fun _ => ?_) | refine gS64 ?_ | refine gU8 ?_ | refine gI12 ?_ | refine fE.of rfl ?_ | refine gBq ?_ | refine gNum12 ?_ | refine gSet ?_ | refine gRd ?_ | refine gLk ?_ | refine gRow12 ?_ | refine fB.of (wide_map (fun _ => rfl) _) ?_ | refine fB.of (full_map (fun _ => rfl) _) ?_ | refine fB.of (full_map (fun x => full_rKept x) _) ?_ | refine fB.of (full_map (fun x => full_rInsL x) _) ?_ | refine fB.of (full_map (fun x => full_rItemL x) _) ?_ | refine fB.of (full_map (fun x => full_rEventL x) _) ?_ | refine fB.of (full_map (fun x => full_rState x) _) ?_ | refine fB.of (full_map (fun x => full_rIntL x) _) ?_ | refine gRf ?_ | refine sDraw.none (id := 1) (ty := tys) rfl (by decide +kernel) ?_ | refine sDraw.mk' (id := 3) [(1, 14), (4, 14), (6, 14), (9, 14), (10, 14)] (ty := tys) rfl (by decide +kernel) ?_ | refine sDraw.none (id := 4) (ty := tys) rfl (by decide +kernel) ?_)) <;> (try (conv => whnf)))
      all_goals rfl
    | true =>
      simp only [e2] at q2
      unfold stoodAs
      cases e3 : (replayAll (rd P p) (rd H p)).isSome with
      | false =>
        simp only [e3] at q3
        (refine callE_is (callE_w [ResultVar.tmp 4] rfl Tryz.func130 rfl (by decide +kernel) rfl (by simp) ?_); (conv => whnf))
        repeat' ((with_reducible (first | refine sCall.of (q1 _) ?_ | refine sCall.of (q2 _) ?_ | refine sCall.of (q3 _) ?_ | refine gP ?_ | refine gN ?_ | refine fG.split (fun _ => ?_) (fun _ => ?_) | refine fG.not ?_ | refine gY ?_ | refine gF ?_ | refine fG.yes (flat_map (fun _ => rfl) _) ?_ | refine fG.bool (fun _ => ?_) (fun _ => ?_) | refine gS64 ?_ | refine gU8 ?_ | refine gI12 ?_ | refine fE.of rfl ?_ | refine gBq ?_ | refine gNum12 ?_ | refine gSet ?_ | refine gRd ?_ | refine gLk ?_ | refine gRow12 ?_ | refine fB.of (wide_map (fun _ => rfl) _) ?_ | refine fB.of (full_map (fun _ => rfl) _) ?_ | refine fB.of (full_map (fun x => full_rKept x) _) ?_ | refine fB.of (full_map (fun x => full_rInsL x) _) ?_ | refine fB.of (full_map (fun x => full_rItemL x) _) ?_ | refine fB.of (full_map (fun x => full_rEventL x) _) ?_ | refine fB.of (full_map (fun x => full_rState x) _) ?_ | refine fB.of (full_map (fun x => full_rIntL x) _) ?_ | refine gRf ?_ | refine sDraw.none (id := 1) (ty := tys) rfl (by decide +kernel) ?_ | refine sDraw.mk' (id := 3) [(1, 14), (4, 14), (6, 14), (9, 14), (10, 14)] (ty := tys) rfl (by decide +kernel) ?_ | refine sDraw.none (id := 4) (ty := tys) rfl (by decide +kernel) ?_)) <;> (try (conv => whnf)))
        all_goals rfl
      | true =>
        simp only [e3] at q3
        generalize stOf (replayAll (rd P p) (rd H p)) = st at q3 hst ⊢
        have q4 := fun k => ok_impl_sameState k st.at_ st.regs st.out st.code (rd S p).at_ (rd S p).regs (rd S p).out (rd S p).code (by omega) (by omega) b3.1 b3.2
        rw [show sameS st.at_ st.regs st.out st.code (rd S p).at_ (rd S p).regs (rd S p).out (rd S p).code = decide (st = rd S p) from rfl] at q4
        (refine callE_is (callE_w [ResultVar.tmp 4] rfl Tryz.func130 rfl (by decide +kernel) rfl (by simp) ?_); (conv => whnf))
        repeat' ((with_reducible (first | refine sCall.of (q1 _) ?_ | refine sCall.of (q2 _) ?_ | refine sCall.of (q3 _) ?_ | refine sCall.of (q4 _) ?_ | refine gP ?_ | refine gN ?_ | refine fG.split (fun _ => ?_) (fun _ => ?_) | refine fG.not ?_ | refine gY ?_ | refine gF ?_ | refine fG.yes (flat_map (fun _ => rfl) _) ?_ | refine fG.bool (fun _ => ?_) (fun _ => ?_) | refine gS64 ?_ | refine gU8 ?_ | refine gI12 ?_ | refine fE.of rfl ?_ | refine gBq ?_ | refine gNum12 ?_ | refine gSet ?_ | refine gRd ?_ | refine gLk ?_ | refine gRow12 ?_ | refine fB.of (wide_map (fun _ => rfl) _) ?_ | refine fB.of (full_map (fun _ => rfl) _) ?_ | refine fB.of (full_map (fun x => full_rKept x) _) ?_ | refine fB.of (full_map (fun x => full_rInsL x) _) ?_ | refine fB.of (full_map (fun x => full_rItemL x) _) ?_ | refine fB.of (full_map (fun x => full_rEventL x) _) ?_ | refine fB.of (full_map (fun x => full_rState x) _) ?_ | refine fB.of (full_map (fun x => full_rIntL x) _) ?_ | refine gRf ?_ | refine sDraw.none (id := 1) (ty := tys) rfl (by decide +kernel) ?_ | refine sDraw.mk' (id := 3) [(1, 14), (4, 14), (6, 14), (9, 14), (10, 14)] (ty := tys) rfl (by decide +kernel) ?_ | refine sDraw.none (id := 4) (ty := tys) rfl (by decide +kernel) ?_)) <;> (try (conv => whnf)))
        all_goals simp
theorem ok_impl_fits (k : Nat) (P : List (List Ins)) (S : List State) (W : List (List Item)) (H : List (List Event)) (a b : Nat) (hb : SysB 10000000000 P S W H) (ha : a < P.length) (hb2 : b < P.length) (hn : P.length ≤ 4) (hh : H.length = P.length) (hw : W.length = P.length * P.length) :
    callE PR C (k + 3) 131 [aSys 0 P S W H, i64 (a : Nat), i64 (b : Nat)] [tInsSS P, tStateS S, tItemSS W, tEventSS H] = some ⟨bl (fits P.length W H a b), [], [none, none, none, none]⟩ := by
  have hpl := place_lt ha hb2
  rw [← hw] at hpl
  have b1 := hb.hh a (by omega)
  have b2 := hb.hh b (by omega)
  have b3 := hb.ww _ hpl
  have q1 := fun k => ok_impl_Values k (rd H b) 3 a (by omega)
  have q2 := fun k => ok_impl_wayAt k P S W H a b (hb.mono (by decide)) ha hb2 hn hw
  have q3 := fun k => ok_impl_Numbers k (rd W (a * P.length + b)) (by omega)
  have q4 := fun k => ok_impl_Values k (rd H a) 2 b (by omega)
  have l1 := vals_le (rd H b) 3 a
  have l2 := numbers_le (rd W (a * P.length + b))
  have l3 := vals_le (rd H a) 2 b
  have q5 := fun k => ok_Concat_int k [vals (rd H b) 3 a, numbersOf (rd W (a * P.length + b))] (by simp) (by simp only [wts]; omega)
  have q6 := fun k => ok_Equal_int k (vals (rd H b) 3 a ++ numbersOf (rd W (a * P.length + b))) (vals (rd H a) 2 b) (by simp only [List.length_append]; omega) (by omega)
  simp only [List.map_cons, List.map_nil, rIntL, List.length_cons, List.length_nil, List.flatten_cons, List.flatten_nil, List.append_nil] at q5
  (refine callE_is (callE_w [ResultVar.tmp 6] rfl Tryz.func131 rfl (by decide +kernel) rfl (by simp) ?_); (conv => whnf))
  repeat' ((with_reducible (first | refine sCall.of (q1 _) ?_ | refine sCall.of (q2 _) ?_ | refine sCall.of (q3 _) ?_ | refine sCall.of (q5 _) ?_ | refine sCall.of (q4 _) ?_ | refine sCall.of (q6 _) ?_ | refine gP ?_ | refine gN ?_ | refine fG.split (fun _ => ?_) (fun _ => ?_) | refine fG.not ?_ | refine gY ?_ | refine gF ?_ | refine fG.yes (flat_map (fun _ => rfl) _) ?_ | refine fG.bool (fun _ => ?_) (fun _ => ?_) | refine gS64 ?_ | refine gU8 ?_ | refine gI12 ?_ | refine fE.of rfl ?_ | refine gBq ?_ | refine gNum12 ?_ | refine gSet ?_ | refine gRd ?_ | refine gLk ?_ | refine gRow12 ?_ | refine fB.of (wide_map (fun _ => rfl) _) ?_ | refine fB.of (full_map (fun _ => rfl) _) ?_ | refine fB.of (full_map (fun x => full_rKept x) _) ?_ | refine fB.of (full_map (fun x => full_rInsL x) _) ?_ | refine fB.of (full_map (fun x => full_rItemL x) _) ?_ | refine fB.of (full_map (fun x => full_rEventL x) _) ?_ | refine fB.of (full_map (fun x => full_rState x) _) ?_ | refine fB.of (full_map (fun x => full_rIntL x) _) ?_ | refine gRf ?_ | refine sDraw.mk' (id := 2) [(2, 6), (6, 13), (9, 13), (10, 13), (11, 13), (6, 16), (9, 16), (10, 16), (11, 16)] (ty := tys) rfl (by decide +kernel) ?_)) <;> (try (conv => whnf)))
  all_goals rfl
theorem allEv_wts (H : List (List Event)) : allEv H = wts List.length H := by
  induction H with
  | nil => rfl
  | cons a H ih => simp only [allEv, List.map_cons, List.sum_cons, wts] at ih ⊢; rw [ih]
theorem allEv_take {H : List (List Event)} {j : Nat} (hj : j < H.length) : allEv (H.take (j + 1)) = allEv (H.take j) + (rd H j).length := by
  rw [take_rd hj]; simp [allEv]
theorem allEv_le (H : List (List Event)) (j : Nat) : allEv (H.take j) ≤ allEv H := by
  conv => rhs; rw [← List.take_append_drop j H]
  simp only [allEv, List.map_append, List.sum_append]
  omega
theorem ok_impl_allEvents (k : Nat) (H : List (List Event)) (hl : H.length ≤ 100000000000) (ht : allEv H ≤ 1000000000000) : callE PR C (k + 1) 73 [.h 1000000 0 0 [] 1 0 H.length] [tEventSS H] = some ⟨i64 (allEv H : Nat), [], [none]⟩ := by
  (refine callE_is (callE_w [ResultVar.tmp 2] rfl Tryz.func73 rfl (by decide +kernel) rfl (by simp) ?_); (conv => whnf))
  refine loop_rule (ι := TH) (fun z => [(3, i64 z.m), (6, .h 1000000 0 0 [] 1 0 H.length), (7, i64 H.length), (8, i64 (z.j : Nat))])
    (fun z => [(1000000, ⟨0, 0, false, tEventSS H⟩)])
    (fun z => H.length - z.j) (fun z => z.j ≤ H.length ∧ z.m = (allEv (H.take z.j) : Nat)) ⟨0, 0⟩ (by (try dsimp only [cond_true, cond_false]); exact ⟨⟨rfl, rfl, rfl, rfl, trivial⟩, ⟨rfl, trivial⟩⟩) ⟨Nat.zero_le _, rfl⟩ (by simp [C]; omega) ?_
  rintro ⟨j, m⟩ sl ob ⟨hj, hm⟩
  dsimp only at hj hm
  subst hm
  (try dsimp only [cond_true, cond_false])
  (conv => whnf)
  by_cases hjl : j < H.length
  · have e1 := allEv_take hjl
    have e2 := allEv_le H (j + 1)
    have e4 : (List.map rEvent (rd H j)).length = (rd H j).length := by simp
    repeat' ((with_reducible (first | refine gP ?_ | refine gN ?_ | refine fG.split (fun _ => ?_) (fun _ => ?_) | refine fG.not ?_ | refine gY ?_ | refine gF ?_ | refine fG.yes (flat_map (fun _ => rfl) _) ?_ | refine fG.bool (fun _ => ?_) (fun _ => ?_) | refine gS64 ?_ | refine gU8 ?_ | refine gI12 ?_ | refine fE.of rfl ?_ | refine gBq ?_ | refine gNum12 ?_ | refine gSet ?_ | refine gRd ?_ | refine gLk ?_ | refine gRow12 ?_ | refine fB.of (wide_map (fun _ => rfl) _) ?_ | refine fB.of (full_map (fun _ => rfl) _) ?_ | refine fB.of (full_map (fun x => full_rKept x) _) ?_ | refine fB.of (full_map (fun x => full_rInsL x) _) ?_ | refine fB.of (full_map (fun x => full_rItemL x) _) ?_ | refine fB.of (full_map (fun x => full_rEventL x) _) ?_ | refine fB.of (full_map (fun x => full_rState x) _) ?_ | refine fB.of (full_map (fun x => full_rIntL x) _) ?_ | refine gRf ?_)) <;> (try (conv => whnf)))
    refine ⟨⟨⟨j + 1, _⟩, (by (try dsimp only [cond_true, cond_false]); exact ⟨⟨rfl, rfl, rfl, rfl, trivial⟩, ⟨rfl, trivial⟩⟩), ?_, ?_⟩⟩
    · exact ⟨by show j + 1 ≤ _; omega, by show ((allEv (H.take j) : Nat) : Int) + ((List.map rEvent (rd H j)).length : Nat) = (allEv (H.take (j + 1)) : Nat); omega⟩
    · show H.length - (j + 1) < H.length - j; omega
  · rw [List.take_of_length_le (by omega)]
    repeat' ((with_reducible (first | refine gP ?_ | refine gN ?_ | refine fG.split (fun _ => ?_) (fun _ => ?_) | refine fG.not ?_ | refine gY ?_ | refine gF ?_ | refine fG.yes (flat_map (fun _ => rfl) _) ?_ | refine fG.bool (fun _ => ?_) (fun _ => ?_) | refine gS64 ?_ | refine gU8 ?_ | refine gI12 ?_ | refine fE.of rfl ?_ | refine gBq ?_ | refine gNum12 ?_ | refine gSet ?_ | refine gRd ?_ | refine gLk ?_ | refine gRow12 ?_ | refine fB.of (wide_map (fun _ => rfl) _) ?_ | refine fB.of (full_map (fun _ => rfl) _) ?_ | refine fB.of (full_map (fun x => full_rKept x) _) ?_ | refine fB.of (full_map (fun x => full_rInsL x) _) ?_ | refine fB.of (full_map (fun x => full_rItemL x) _) ?_ | refine fB.of (full_map (fun x => full_rEventL x) _) ?_ | refine fB.of (full_map (fun x => full_rState x) _) ?_ | refine fB.of (full_map (fun x => full_rIntL x) _) ?_ | refine gRf ?_)) <;> (try (conv => whnf)))
def rWho (x : Who) : List T := [.v (.int .i64 x.p), .v (.int .i64 x.i)]
theorem snoc_rWho (l : List Who) (a b : Int) : l.map rWho ++ [[.v (.int .i64 a), .v (.int .i64 b)]] = (l ++ [(⟨a, b⟩ : Who)]).map rWho := by simp [rWho]
theorem gI13 {p A : Prop} (h : A) (e : p := by first | with_reducible assumption | omega | (simp only [Nat.zero_add, Nat.add_zero, Nat.sub_zero, Int.toNat_natCast, Int.toNat_zero, Int.toNat_one, List.length_map, List.length_nil, Int.reduceToNat, Nat.reduceAdd, Nat.reduceSub, Int.sub_zero, Int.reduceAdd, Int.reduceSub, Nat.sub_self, Int.toNat_natCast_add_one, marks_len, bs_len, List.length_append, List.length_cons, List.length_set, List.length_replicate, List.length_range]; first | done | omega)) : sI p A := sI.mk e h
theorem gNum13 {r r' : Nat} {F : Nat → Prop} (h : F r') (e : r = r' := by first | (simp only [Nat.zero_add, Nat.add_zero, Nat.sub_zero, Int.toNat_natCast, Int.toNat_zero, Int.toNat_one, List.length_map, List.length_nil, Int.reduceToNat, Nat.reduceAdd, Nat.reduceSub, Int.sub_zero, Int.reduceAdd, Int.reduceSub, Nat.sub_self, Int.toNat_natCast_add_one, marks_len, bs_len]; rfl) | rfl) : sN r F := sN.eq e h
theorem gRow13 {r r' : List (List T)} {F : List (List T) → Prop} (h : F r') (e : r = r' := by first | (simp only [Nat.add_zero, Nat.zero_add, Nat.reduceAdd, List.drop_zero, List.take_succ_cons, List.take_nil, List.drop_succ_cons, List.drop_nil, List.take_zero, List.nil_append, List.append_nil, List.map_nil, drop_suf, take_pre, drop_map, List.take_length, take_len_set, take_len_app, List.set_set, List.length_map, snoc_rWho, set_rState, rep_rState, set_rInsL, rep_rInsL, set_rItemL, rep_rItemL, set_rEventL, rep_rEventL, set_rItem, rep_rItem, rep_rKept, marks_take, set_rKept, set_rIns, rep_rIns, set_rEvent, rep_rEvent, snoc_rKept, snoc_rEvent, snoc_rIns, bytesT_bs, snoc_rI, snoc_rB, snoc_rBool, set_rI, set_rBool, rep_rI, rep_rBool, map_app]; rfl) | rfl) : sR r F := sR.eq e h
abbrev tWho9 (l : List Who) : Cont := .tree 9 (.sl 2 (l.map rWho))
structure RW where
  l : List Who
  f : List Int
  p : Nat
  o : Nat
  b : Nat
  g : Nat
  d : Bool
theorem greedy_go {H : List (List Event)} {f : List Int} {p m : Nat} (hp : p < H.length) (hc : canCome H f p = true) (h : ∀ q, q < p → canCome H f q = false) : greedy H (m + 1) f = ⟨p, rd f p⟩ :: greedy H m (goOn f p) := by
  simp only [greedy, firstP_some hp hc h]
theorem greedy_stop {H : List (List Event)} {f : List Int} {m : Nat} (h : Stuck H f) : greedy H m f = [] := by
  cases m with
  | zero => rfl
  | succ m => simp only [greedy, firstP_stuck h]
theorem no_more {H : List (List Event)} {f : List Int} {p : Nat} (h : ∀ q, q < p → canCome H f q = false) (hc : canCome H f p = false) : ∀ q, q < p + 1 → canCome H f q = false := by
  intro q hq
  rcases Nat.lt_succ_iff_lt_or_eq.1 hq with h1 | h1
  · exact h q h1
  · rw [h1]; exact hc
theorem row_step {H : List (List Event)} {f : List Int} {p : Nat} {out : List Who} (hr : Reach H f out.length) (hp : p < H.length) (hc : canCome H f p = true) (hno : ∀ q, q < p → canCome H f q = false) (hrow : out ++ greedy H (allEv H - out.length) f = rowOf H) :
    Reach H (goOn f p) (out ++ [(⟨p, rd f p⟩ : Who)]).length ∧ (out ++ [(⟨p, rd f p⟩ : Who)]) ++ greedy H (allEv H - (out ++ [(⟨p, rd f p⟩ : Who)]).length) (goOn f p) = rowOf H ∧
      (allEv H - (out ++ [(⟨p, rd f p⟩ : Who)]).length) * (H.length + 1) + (H.length - 0) < (allEv H - out.length) * (H.length + 1) + (H.length - p) := by
  have h1 := hr.step hp hc
  have h2 := h1.le_all
  have e : (out ++ [(⟨p, rd f p⟩ : Who)]).length = out.length + 1 := by simp
  rw [e]
  obtain ⟨m, hm⟩ : ∃ m, allEv H - out.length = m + 1 := ⟨allEv H - out.length - 1, by omega⟩
  have hm2 : allEv H - (out.length + 1) = m := by omega
  rw [hm, greedy_go hp hc hno] at hrow
  rw [hm, hm2]
  refine ⟨h1, by rw [← hrow]; simp, ?_⟩
  rw [Nat.add_mul]
  omega
set_option maxHeartbeats 4000000 in
theorem ok_impl_rowOf (k : Nat) (H : List (List Event)) (hl : H.length ≤ 1000) (hh : ∀ j : Nat, j < H.length → (rd H j).length ≤ 1000) (hP : PeersIn H) :
    callE PR C (k + 4) 64 [.h 1000000 0 0 [] 1 0 H.length] [tEventSS H] = some ⟨.h 2000000 1 0 [] 2 0 (rowOf H).length, [tWho9 (rowOf H)], [none]⟩ := by
  have htot : allEv H ≤ 1000 * 1000 := by
    have := wts_bound List.length 1000 H hh
    rw [allEv_wts]
    exact Nat.le_trans this (Nat.mul_le_mul_left _ hl)
  (refine callE_is (callE_w [ResultVar.tmp 2] rfl Tryz.func64 rfl (by decide +kernel) rfl (by simp) ?_); (conv => whnf))
  repeat' ((with_reducible (first | refine gP ?_ | refine gN ?_ | refine fG.split (fun _ => ?_) (fun _ => ?_) | refine fG.not ?_ | refine gY ?_ | refine gF ?_ | refine fG.yes (flat_map (fun _ => rfl) _) ?_ | refine fG.bool (fun _ => ?_) (fun _ => ?_) | refine gS64 ?_ | refine gU8 ?_ | refine gI13 ?_ | refine fE.of rfl ?_ | refine gBq ?_ | refine gNum13 ?_ | refine gSet ?_ | refine gRd ?_ | refine gLk ?_ | refine gRow13 ?_ | refine fB.of (wide_map (fun _ => rfl) _) ?_ | refine fB.of (full_map (fun _ => rfl) _) ?_ | refine fB.of (full_map (fun x => full_rKept x) _) ?_ | refine fB.of (full_map (fun x => full_rInsL x) _) ?_ | refine fB.of (full_map (fun x => full_rItemL x) _) ?_ | refine fB.of (full_map (fun x => full_rEventL x) _) ?_ | refine fB.of (full_map (fun x => full_rState x) _) ?_ | refine fB.of (full_map (fun x => full_rIntL x) _) ?_ | refine gRf ?_ | refine sDraw.none (id := 6) (ty := tys) rfl (by decide +kernel) ?_ | refine sDraw.mk' (id := 7) [(3, 10), (7, 10), (9, 10)] (ty := tys) rfl (by decide +kernel) ?_ | refine sDraw.mk' (id := 8) [(15, 18), (15, 20), (15, 23), (15, 25)] (ty := tys) rfl (by decide +kernel) ?_)) <;> (try (conv => whnf)))
  refine loop_rule (ι := RW) (fun z => [(0, .h 1000000 0 0 [] 1 0 H.length), (3, .h z.o z.b 0 [] 2 0 z.l.length), (4, .h 10 1 0 [] 1 0 H.length), (5, i64 (z.p : Nat))])
    (fun z => [(1000000, ⟨0, 0, false, tEventSS H⟩), (z.o, ⟨z.b, 0, false, tWho9 z.l⟩), (10, ⟨1, z.g, z.d, tI9 z.f⟩)])
    (fun z => (allEv H - z.l.length) * (H.length + 1) + (H.length - z.p))
    (fun z => Reach H z.f z.l.length ∧ z.p ≤ H.length ∧ (∀ q, q < z.p → canCome H z.f q = false) ∧ z.l ++ greedy H (allEv H - z.l.length) z.f = rowOf H ∧ (z.o = 7 ∨ z.o = 76))
    ⟨[], List.replicate H.length 0, 0, 7, _, _, _⟩ (by (try dsimp only [cond_true, cond_false]); exact ⟨⟨rfl, rfl, rfl, rfl, trivial⟩, ⟨rfl, rfl, rfl, trivial⟩⟩) ⟨.zero, Nat.zero_le _, fun q h => absurd h (Nat.not_lt_zero q), by simp [rowOf], .inl rfl⟩ (by
      have : allEv H * (H.length + 1) ≤ 1000000 * 1001 := Nat.mul_le_mul (by omega) (by omega)
      simp [C]; omega) ?_
  rintro ⟨out, f, p, o, b, g, d⟩ sl ob ⟨hr, hp, hno, hrow, ho⟩
  dsimp only at hr hp hno hrow ho
  have hf := hr.fok
  have hfl := hf.len
  have hle := hr.le_all
  (try dsimp only [cond_true, cond_false])
  (conv => whnf)
  by_cases hpl : p < H.length
  · have hfp := hf.rng p hpl
    have hhp := hh p hpl
    have e4 : (List.map rEvent (rd H p)).length = (rd H p).length := by simp
    by_cases c1 : rd f p = ((rd H p).length : Int)
    · have hcan : canCome H f p = false := by simp [canCome, c1]
      rcases ho with rfl | rfl
      all_goals repeat' ((with_reducible (first | refine gP ?_ | refine gN ?_ | refine fG.split (fun _ => ?_) (fun _ => ?_) | refine fG.not ?_ | refine gY ?_ | refine gF ?_ | refine fG.yes (flat_map (fun _ => rfl) _) ?_ | refine fG.bool (fun _ => ?_) (fun _ => ?_) | refine gS64 ?_ | refine gU8 ?_ | refine gI13 ?_ | refine fE.of rfl ?_ | refine gBq ?_ | refine gNum13 ?_ | refine gSet ?_ | refine gRd ?_ | refine gLk ?_ | refine gRow13 ?_ | refine fB.of (wide_map (fun _ => rfl) _) ?_ | refine fB.of (full_map (fun _ => rfl) _) ?_ | refine fB.of (full_map (fun x => full_rKept x) _) ?_ | refine fB.of (full_map (fun x => full_rInsL x) _) ?_ | refine fB.of (full_map (fun x => full_rItemL x) _) ?_ | refine fB.of (full_map (fun x => full_rEventL x) _) ?_ | refine fB.of (full_map (fun x => full_rState x) _) ?_ | refine fB.of (full_map (fun x => full_rIntL x) _) ?_ | refine gRf ?_ | refine sDraw.none (id := 6) (ty := tys) rfl (by decide +kernel) ?_ | refine sDraw.mk' (id := 7) [(3, 10), (7, 10), (9, 10)] (ty := tys) rfl (by decide +kernel) ?_ | refine sDraw.mk' (id := 8) [(15, 18), (15, 20), (15, 23), (15, 25)] (ty := tys) rfl (by decide +kernel) ?_)) <;> (try (conv => whnf)))
      all_goals first
        | (refine ⟨⟨⟨out, f, p + 1, 7, _, _, _⟩, (by (try dsimp only [cond_true, cond_false]); exact ⟨⟨rfl, rfl, rfl, rfl, trivial⟩, ⟨rfl, rfl, rfl, trivial⟩⟩), ?_, ?_⟩⟩
           · exact ⟨hr, by show p + 1 ≤ _; omega, no_more hno hcan, hrow, .inl rfl⟩
           · show (allEv H - out.length) * (H.length + 1) + (H.length - (p + 1)) < (allEv H - out.length) * (H.length + 1) + (H.length - p); omega)
        | (refine ⟨⟨⟨out, f, p + 1, 76, _, _, _⟩, (by (try dsimp only [cond_true, cond_false]); exact ⟨⟨rfl, rfl, rfl, rfl, trivial⟩, ⟨rfl, rfl, rfl, trivial⟩⟩), ?_, ?_⟩⟩
           · exact ⟨hr, by show p + 1 ≤ _; omega, no_more hno hcan, hrow, .inr rfl⟩
           · show (allEv H - out.length) * (H.length + 1) + (H.length - (p + 1)) < (allEv H - out.length) * (H.length + 1) + (H.length - p); omega)
    · by_cases c2 : (rd (rd H p) (rd f p).toNat).kind = 3
      · have hq := hP p hpl (rd f p).toNat (by omega) c2
        have hfq := hf.rng (rd (rd H p) (rd f p).toNat).peer.toNat (by omega)
        have hhq := hh (rd (rd H p) (rd f p).toNat).peer.toNat (by omega)
        have e5 : (List.map rEvent (rd H (rd (rd H p) (rd f p).toNat).peer.toNat)).length = (rd H (rd (rd H p) (rd f p).toNat).peer.toNat).length := by simp
        have qa := fun k => ok_impl_Count k ((rd H p).take (rd f p).toNat) 3 (rd (rd H p) (rd f p).toNat).peer (by simp; omega)
        have qb := fun k => ok_impl_Count k ((rd H (rd (rd H p) (rd f p).toNat).peer.toNat).take (rd f (rd (rd H p) (rd f p).toNat).peer.toNat).toNat) 2 p (by simp; omega)
        by_cases c3 : (cnt ((rd H (rd (rd H p) (rd f p).toNat).peer.toNat).take (rd f (rd (rd H p) (rd f p).toNat).peer.toNat).toNat) 2 p : Int) ≤ (cnt ((rd H p).take (rd f p).toNat) 3 (rd (rd H p) (rd f p).toNat).peer : Int)
        · have hcan : canCome H f p = false := by simp [canCome, c2]; intro _; omega
          rcases ho with rfl | rfl
          all_goals repeat' ((with_reducible (first | refine sCall.of (qa _) ?_ | refine sCall.of (qb _) ?_ | refine gP ?_ | refine gN ?_ | refine fG.split (fun _ => ?_) (fun _ => ?_) | refine fG.not ?_ | refine gY ?_ | refine gF ?_ | refine fG.yes (flat_map (fun _ => rfl) _) ?_ | refine fG.bool (fun _ => ?_) (fun _ => ?_) | refine gS64 ?_ | refine gU8 ?_ | refine gI13 ?_ | refine fE.of rfl ?_ | refine gBq ?_ | refine gNum13 ?_ | refine gSet ?_ | refine gRd ?_ | refine gLk ?_ | refine gRow13 ?_ | refine fB.of (wide_map (fun _ => rfl) _) ?_ | refine fB.of (full_map (fun _ => rfl) _) ?_ | refine fB.of (full_map (fun x => full_rKept x) _) ?_ | refine fB.of (full_map (fun x => full_rInsL x) _) ?_ | refine fB.of (full_map (fun x => full_rItemL x) _) ?_ | refine fB.of (full_map (fun x => full_rEventL x) _) ?_ | refine fB.of (full_map (fun x => full_rState x) _) ?_ | refine fB.of (full_map (fun x => full_rIntL x) _) ?_ | refine gRf ?_ | refine sDraw.none (id := 6) (ty := tys) rfl (by decide +kernel) ?_ | refine sDraw.mk' (id := 7) [(3, 10), (7, 10), (9, 10)] (ty := tys) rfl (by decide +kernel) ?_ | refine sDraw.mk' (id := 8) [(15, 18), (15, 20), (15, 23), (15, 25)] (ty := tys) rfl (by decide +kernel) ?_)) <;> (try (conv => whnf)))
          all_goals first
            | (refine ⟨⟨⟨out, f, p + 1, 7, _, _, _⟩, (by (try dsimp only [cond_true, cond_false]); exact ⟨⟨rfl, rfl, rfl, rfl, trivial⟩, ⟨rfl, rfl, rfl, trivial⟩⟩), ?_, ?_⟩⟩
               · exact ⟨hr, by show p + 1 ≤ _; omega, no_more hno hcan, hrow, .inl rfl⟩
               · show (allEv H - out.length) * (H.length + 1) + (H.length - (p + 1)) < (allEv H - out.length) * (H.length + 1) + (H.length - p); omega)
            | (refine ⟨⟨⟨out, f, p + 1, 76, _, _, _⟩, (by (try dsimp only [cond_true, cond_false]); exact ⟨⟨rfl, rfl, rfl, rfl, trivial⟩, ⟨rfl, rfl, rfl, trivial⟩⟩), ?_, ?_⟩⟩
               · exact ⟨hr, by show p + 1 ≤ _; omega, no_more hno hcan, hrow, .inr rfl⟩
               · show (allEv H - out.length) * (H.length + 1) + (H.length - (p + 1)) < (allEv H - out.length) * (H.length + 1) + (H.length - p); omega)
        · have hcan : canCome H f p = true := by simp [canCome, c1, c2]; omega
          obtain ⟨h1, h2, h3⟩ := row_step hr hpl hcan hno hrow
          rcases ho with rfl | rfl
          all_goals repeat' ((with_reducible (first | refine sCall.of (qa _) ?_ | refine sCall.of (qb _) ?_ | refine gP ?_ | refine gN ?_ | refine fG.split (fun _ => ?_) (fun _ => ?_) | refine fG.not ?_ | refine gY ?_ | refine gF ?_ | refine fG.yes (flat_map (fun _ => rfl) _) ?_ | refine fG.bool (fun _ => ?_) (fun _ => ?_) | refine gS64 ?_ | refine gU8 ?_ | refine gI13 ?_ | refine fE.of rfl ?_ | refine gBq ?_ | refine gNum13 ?_ | refine gSet ?_ | refine gRd ?_ | refine gLk ?_ | refine gRow13 ?_ | refine fB.of (wide_map (fun _ => rfl) _) ?_ | refine fB.of (full_map (fun _ => rfl) _) ?_ | refine fB.of (full_map (fun x => full_rKept x) _) ?_ | refine fB.of (full_map (fun x => full_rInsL x) _) ?_ | refine fB.of (full_map (fun x => full_rItemL x) _) ?_ | refine fB.of (full_map (fun x => full_rEventL x) _) ?_ | refine fB.of (full_map (fun x => full_rState x) _) ?_ | refine fB.of (full_map (fun x => full_rIntL x) _) ?_ | refine gRf ?_ | refine sDraw.none (id := 6) (ty := tys) rfl (by decide +kernel) ?_ | refine sDraw.mk' (id := 7) [(3, 10), (7, 10), (9, 10)] (ty := tys) rfl (by decide +kernel) ?_ | refine sDraw.mk' (id := 8) [(15, 18), (15, 20), (15, 23), (15, 25)] (ty := tys) rfl (by decide +kernel) ?_)) <;> (try (conv => whnf)))
          all_goals
            refine ⟨⟨⟨out ++ [⟨p, rd f p⟩], goOn f p, 0, 76, _, _, _⟩, (by (try dsimp only [cond_true, cond_false]); exact ⟨⟨rfl, rfl, rfl, rfl, trivial⟩, ⟨rfl, rfl, rfl, trivial⟩⟩), ?_, ?_⟩⟩
            · exact ⟨h1, Nat.zero_le _, fun q h => absurd h (Nat.not_lt_zero q), h2, .inr rfl⟩
            · exact h3
      · have hcan : canCome H f p = true := by simp [canCome, c1, c2]
        obtain ⟨h1, h2, h3⟩ := row_step hr hpl hcan hno hrow
        rcases ho with rfl | rfl
        all_goals repeat' ((with_reducible (first | refine gP ?_ | refine gN ?_ | refine fG.split (fun _ => ?_) (fun _ => ?_) | refine fG.not ?_ | refine gY ?_ | refine gF ?_ | refine fG.yes (flat_map (fun _ => rfl) _) ?_ | refine fG.bool (fun _ => ?_) (fun _ => ?_) | refine gS64 ?_ | refine gU8 ?_ | refine gI13 ?_ | refine fE.of rfl ?_ | refine gBq ?_ | refine gNum13 ?_ | refine gSet ?_ | refine gRd ?_ | refine gLk ?_ | refine gRow13 ?_ | refine fB.of (wide_map (fun _ => rfl) _) ?_ | refine fB.of (full_map (fun _ => rfl) _) ?_ | refine fB.of (full_map (fun x => full_rKept x) _) ?_ | refine fB.of (full_map (fun x => full_rInsL x) _) ?_ | refine fB.of (full_map (fun x => full_rItemL x) _) ?_ | refine fB.of (full_map (fun x => full_rEventL x) _) ?_ | refine fB.of (full_map (fun x => full_rState x) _) ?_ | refine fB.of (full_map (fun x => full_rIntL x) _) ?_ | refine gRf ?_ | refine sDraw.none (id := 6) (ty := tys) rfl (by decide +kernel) ?_ | refine sDraw.mk' (id := 7) [(3, 10), (7, 10), (9, 10)] (ty := tys) rfl (by decide +kernel) ?_ | refine sDraw.mk' (id := 8) [(15, 18), (15, 20), (15, 23), (15, 25)] (ty := tys) rfl (by decide +kernel) ?_)) <;> (try (conv => whnf)))
        all_goals
          refine ⟨⟨⟨out ++ [⟨p, rd f p⟩], goOn f p, 0, 76, _, _, _⟩, (by (try dsimp only [cond_true, cond_false]); exact ⟨⟨rfl, rfl, rfl, rfl, trivial⟩, ⟨rfl, rfl, rfl, trivial⟩⟩), ?_, ?_⟩⟩
          · exact ⟨h1, Nat.zero_le _, fun q h => absurd h (Nat.not_lt_zero q), h2, .inr rfl⟩
          · exact h3
  · have hst : Stuck H f := fun q hq => hno q (by omega)
    rw [greedy_stop hst, List.append_nil] at hrow
    subst hrow
    rcases ho with rfl | rfl
    all_goals repeat' ((with_reducible (first | refine gP ?_ | refine gN ?_ | refine fG.split (fun _ => ?_) (fun _ => ?_) | refine fG.not ?_ | refine gY ?_ | refine gF ?_ | refine fG.yes (flat_map (fun _ => rfl) _) ?_ | refine fG.bool (fun _ => ?_) (fun _ => ?_) | refine gS64 ?_ | refine gU8 ?_ | refine gI13 ?_ | refine fE.of rfl ?_ | refine gBq ?_ | refine gNum13 ?_ | refine gSet ?_ | refine gRd ?_ | refine gLk ?_ | refine gRow13 ?_ | refine fB.of (wide_map (fun _ => rfl) _) ?_ | refine fB.of (full_map (fun _ => rfl) _) ?_ | refine fB.of (full_map (fun x => full_rKept x) _) ?_ | refine fB.of (full_map (fun x => full_rInsL x) _) ?_ | refine fB.of (full_map (fun x => full_rItemL x) _) ?_ | refine fB.of (full_map (fun x => full_rEventL x) _) ?_ | refine fB.of (full_map (fun x => full_rState x) _) ?_ | refine fB.of (full_map (fun x => full_rIntL x) _) ?_ | refine gRf ?_ | refine sDraw.none (id := 6) (ty := tys) rfl (by decide +kernel) ?_ | refine sDraw.mk' (id := 7) [(3, 10), (7, 10), (9, 10)] (ty := tys) rfl (by decide +kernel) ?_ | refine sDraw.mk' (id := 8) [(15, 18), (15, 20), (15, 23), (15, 25)] (ty := tys) rfl (by decide +kernel) ?_)) <;> (try (conv => whnf)))
    all_goals rfl

end Go.Proofs.YtkmhbofkjcknjaaGreat.Abs
namespace Go.Proofs.YtkmhbofkjcknjaaGreat.Abs
open Go Go.Proofs
set_option linter.unusedVariables false
set_option linter.unusedSimpArgs false
attribute [local irreducible] callE
/-! ### Systems that are right -/
theorem peersIn_of {P : List (List Ins)} {S : List State} {H : List (List Event)} (hn : 1 ≤ P.length ∧ P.length ≤ 4) (hh : H.length = P.length) (h : ∀ p, p < P.length → procOk P S H p = true) : PeersIn H ∧ ∀ p, p < H.length → (rd H p).length ≤ 200 := by
  refine ⟨fun p hp i hi hk => ?_, fun p hp => ?_⟩
  · have h1 := h p (by omega)
    simp only [procOk, Bool.and_eq_true] at h1
    have h2 := h1.2.1
    simp only [peersOk, List.all_eq_true] at h2
    have h3 := h2 _ (rd_mem hi)
    simp [peerOk, inB, hk] at h3
    omega
  · have h1 := h p (by omega)
    simp only [procOk, Bool.and_eq_true] at h1
    exact (stood_evOk h1.2.2).2.2.2.1
theorem sysOk_sizes {P : List (List Ins)} {S : List State} {W : List (List Item)} {H : List (List Event)} (h : sizesOk P S W H = false) : sysOk P S W H = false := by simp [sysOk, h]
structure SysIs (P : List (List Ins)) (S : List State) (W : List (List Item)) (H : List (List Event)) : Prop where
  n : 1 ≤ P.length ∧ P.length ≤ 4
  s : S.length = P.length
  h : H.length = P.length
  w : W.length = P.length * P.length
theorem SysIs.sizes {P : List (List Ins)} {S : List State} {W : List (List Item)} {H : List (List Event)} (h : SysIs P S W H) : sizesOk P S W H = true := by
  have := h.n
  simp only [sizesOk, inB, Bool.and_eq_true, decide_eq_true_eq]
  exact ⟨by omega, h.s, h.h, h.w⟩
abbrev bSys (P : List (List Ins)) (S : List State) (W : List (List Item)) (H : List (List Event)) : Cont := .box [.h 1000000 0 0 [] 1 0 P.length, .h 1000001 0 0 [] 4 0 S.length, .h 1000002 0 0 [] 1 0 W.length, .h 1000003 0 0 [] 1 0 H.length]
set_option maxHeartbeats 8000000 in
theorem ok_impl_SysOk (k : Nat) (P : List (List Ins)) (S : List State) (W : List (List Item)) (H : List (List Event)) (hb : SysB 10000000000 P S W H) :
    callE PR C (k + 11) 63 [aSys 0 P S W H] [tInsSS P, tStateS S, tItemSS W, tEventSS H] = some ⟨bl (sysOk P S W H), [], [none, none, none, none]⟩ := by
  have b1 := hb.p
  have b2 := hb.s
  have b3 := hb.w
  have b4 := hb.h
  have q0 := fun k => ok_impl_in k (P.length : Int) 1 4
  by_cases d1 : 1 ≤ (P.length : Int) ∧ (P.length : Int) ≤ 4
  · rw [decide_eq_true d1] at q0
    have hnn : P.length * P.length ≤ 4 * 4 := Nat.mul_le_mul (by omega) (by omega)
    have w1 : IntKind.i64.wrap ((P.length : Int) * (P.length : Int)) = ((P.length * P.length : Nat) : Int) := by
      rw [show (P.length : Int) * (P.length : Int) = ((P.length * P.length : Nat) : Int) by simp]; exact wrap_i64 _ (by omega) (by omega)
    by_cases d2 : S.length = P.length
    · by_cases d3 : H.length = P.length
      · by_cases d4 : W.length = P.length * P.length
        · have hI : SysIs P S W H := ⟨by omega, d2, d3, d4⟩
          have qW := fun k => ok_ContainsFunc_Way k W (by omega) (fun j hj => by have := hb.ww j hj; omega)
          cases eW : W.all wayOk with
          | false =>
            simp only [eW] at qW
            rw [show sysOk P S W H = false by simp [sysOk, eW]]
            (refine callE_is (callE_w [ResultVar.tmp 2] rfl Tryz.func63 rfl (by decide +kernel) rfl (by simp) ?_); (conv => whnf))
            repeat' ((with_reducible (first | refine sCall.of (q0 _) ?_ | refine sW.eq (w1) ?_ | refine sCall.of (qW _) ?_ | refine gP ?_ | refine gN ?_ | refine fG.split (fun _ => ?_) (fun _ => ?_) | refine fG.not ?_ | refine gY ?_ | refine gF ?_ | refine fG.yes (flat_map (fun _ => rfl) _) ?_ | refine fG.bool (fun _ => ?_) (fun _ => ?_) | refine gS64 ?_ | refine gU8 ?_ | refine gI13 ?_ | refine fE.of rfl ?_ | refine gBq ?_ | refine gNum13 ?_ | refine gSet ?_ | refine gRd ?_ | refine gLk ?_ | refine gRow13 ?_ | refine fB.of (wide_map (fun _ => rfl) _) ?_ | refine fB.of (full_map (fun _ => rfl) _) ?_ | refine fB.of (full_map (fun x => full_rKept x) _) ?_ | refine fB.of (full_map (fun x => full_rInsL x) _) ?_ | refine fB.of (full_map (fun x => full_rItemL x) _) ?_ | refine fB.of (full_map (fun x => full_rEventL x) _) ?_ | refine fB.of (full_map (fun x => full_rState x) _) ?_ | refine fB.of (full_map (fun x => full_rIntL x) _) ?_ | refine gRf ?_ | refine sDraw.mk' (id := 20) [(2, 5)] (ty := tys) rfl (by decide +kernel) ?_)) <;> (try (conv => whnf)))
          | true =>
            simp only [eW] at qW
            (refine callE_is (callE_w [ResultVar.tmp 2] rfl Tryz.func63 rfl (by decide +kernel) rfl (by simp) ?_); (conv => whnf))
            repeat' ((with_reducible (first | refine sCall.of (q0 _) ?_ | refine sW.eq (w1) ?_ | refine sCall.of (qW _) ?_ | refine gP ?_ | refine gN ?_ | refine fG.split (fun _ => ?_) (fun _ => ?_) | refine fG.not ?_ | refine gY ?_ | refine gF ?_ | refine fG.yes (flat_map (fun _ => rfl) _) ?_ | refine fG.bool (fun _ => ?_) (fun _ => ?_) | refine gS64 ?_ | refine gU8 ?_ | refine gI13 ?_ | refine fE.of rfl ?_ | refine gBq ?_ | refine gNum13 ?_ | refine gSet ?_ | refine gRd ?_ | refine gLk ?_ | refine gRow13 ?_ | refine fB.of (wide_map (fun _ => rfl) _) ?_ | refine fB.of (full_map (fun _ => rfl) _) ?_ | refine fB.of (full_map (fun x => full_rKept x) _) ?_ | refine fB.of (full_map (fun x => full_rInsL x) _) ?_ | refine fB.of (full_map (fun x => full_rItemL x) _) ?_ | refine fB.of (full_map (fun x => full_rEventL x) _) ?_ | refine fB.of (full_map (fun x => full_rState x) _) ?_ | refine fB.of (full_map (fun x => full_rIntL x) _) ?_ | refine gRf ?_ | refine sDraw.mk' (id := 20) [(2, 5)] (ty := tys) rfl (by decide +kernel) ?_)) <;> (try (conv => whnf)))
            refine loop_rule (ι := Nat) (fun j => [(1, .pt 1 1 0 [] 0 0), (3, i64 P.length), (41, i64 P.length), (42, i64 (j : Nat))])
              (fun _ => [(1000000, ⟨0, 0, false, tInsSS P⟩), (1000001, ⟨0, 0, false, tStateS S⟩), (1000002, ⟨0, 0, false, tItemSS W⟩), (1000003, ⟨0, 0, false, tEventSS H⟩), (1, ⟨1, 0, false, bSys P S W H⟩)])
              (fun j => P.length - j) (fun j => j ≤ P.length ∧ ∀ q, q < j → procOk P S H q = true) 0 (by (try dsimp only [cond_true, cond_false]); exact ⟨⟨rfl, rfl, rfl, rfl, trivial⟩, ⟨rfl, rfl, rfl, rfl, rfl, trivial⟩⟩) ⟨Nat.zero_le _, fun q h => absurd h (Nat.not_lt_zero q)⟩ (by simp [C]; omega) ?_
            rintro j sl ob ⟨hj, hpr⟩
            (try dsimp only [cond_true, cond_false])
            (conv => whnf)
            by_cases hjl : j < P.length
            · have q1 := fun k => ok_impl_procOk k P S W H j (hb.mono (by decide)) hjl (by omega) d2 d3
              cases e : procOk P S H j with
              | false =>
                simp only [e] at q1
                rw [show sysOk P S W H = false by simp [sysOk, allBelow_no hjl e]]
                repeat' ((with_reducible (first | refine sCall.of (q1 _) ?_ | refine gP ?_ | refine gN ?_ | refine fG.split (fun _ => ?_) (fun _ => ?_) | refine fG.not ?_ | refine gY ?_ | refine gF ?_ | refine fG.yes (flat_map (fun _ => rfl) _) ?_ | refine fG.bool (fun _ => ?_) (fun _ => ?_) | refine gS64 ?_ | refine gU8 ?_ | refine gI13 ?_ | refine fE.of rfl ?_ | refine gBq ?_ | refine gNum13 ?_ | refine gSet ?_ | refine gRd ?_ | refine gLk ?_ | refine gRow13 ?_ | refine fB.of (wide_map (fun _ => rfl) _) ?_ | refine fB.of (full_map (fun _ => rfl) _) ?_ | refine fB.of (full_map (fun x => full_rKept x) _) ?_ | refine fB.of (full_map (fun x => full_rInsL x) _) ?_ | refine fB.of (full_map (fun x => full_rItemL x) _) ?_ | refine fB.of (full_map (fun x => full_rEventL x) _) ?_ | refine fB.of (full_map (fun x => full_rState x) _) ?_ | refine fB.of (full_map (fun x => full_rIntL x) _) ?_ | refine gRf ?_ | refine sDraw.mk' (id := 20) [(2, 5)] (ty := tys) rfl (by decide +kernel) ?_)) <;> (try (conv => whnf)))
              | true =>
                simp only [e] at q1
                repeat' ((with_reducible (first | refine sCall.of (q1 _) ?_ | refine gP ?_ | refine gN ?_ | refine fG.split (fun _ => ?_) (fun _ => ?_) | refine fG.not ?_ | refine gY ?_ | refine gF ?_ | refine fG.yes (flat_map (fun _ => rfl) _) ?_ | refine fG.bool (fun _ => ?_) (fun _ => ?_) | refine gS64 ?_ | refine gU8 ?_ | refine gI13 ?_ | refine fE.of rfl ?_ | refine gBq ?_ | refine gNum13 ?_ | refine gSet ?_ | refine gRd ?_ | refine gLk ?_ | refine gRow13 ?_ | refine fB.of (wide_map (fun _ => rfl) _) ?_ | refine fB.of (full_map (fun _ => rfl) _) ?_ | refine fB.of (full_map (fun x => full_rKept x) _) ?_ | refine fB.of (full_map (fun x => full_rInsL x) _) ?_ | refine fB.of (full_map (fun x => full_rItemL x) _) ?_ | refine fB.of (full_map (fun x => full_rEventL x) _) ?_ | refine fB.of (full_map (fun x => full_rState x) _) ?_ | refine fB.of (full_map (fun x => full_rIntL x) _) ?_ | refine gRf ?_ | refine sDraw.mk' (id := 20) [(2, 5)] (ty := tys) rfl (by decide +kernel) ?_)) <;> (try (conv => whnf)))
                refine ⟨⟨j + 1, (by (try dsimp only [cond_true, cond_false]); exact ⟨⟨rfl, rfl, rfl, rfl, trivial⟩, ⟨rfl, rfl, rfl, rfl, rfl, trivial⟩⟩), ?_, ?_⟩⟩
                · exact ⟨by show j + 1 ≤ _; omega, fun q hq => by rcases Nat.lt_succ_iff_lt_or_eq.1 hq with h | h; exact hpr q h; rw [h]; exact e⟩
                · show P.length - (j + 1) < P.length - j; omega
            · have hpr' : ∀ p, p < P.length → procOk P S H p = true := fun p hp => hpr p (by omega)
              obtain ⟨hPI, h200⟩ := peersIn_of hI.n d3 hpr'
              have ePr := allBelow_yes hpr'
              clear hpr
              repeat' ((with_reducible (first | refine gP ?_ | refine gN ?_ | refine fG.split (fun _ => ?_) (fun _ => ?_) | refine fG.not ?_ | refine gY ?_ | refine gF ?_ | refine fG.yes (flat_map (fun _ => rfl) _) ?_ | refine fG.bool (fun _ => ?_) (fun _ => ?_) | refine gS64 ?_ | refine gU8 ?_ | refine gI13 ?_ | refine fE.of rfl ?_ | refine gBq ?_ | refine gNum13 ?_ | refine gSet ?_ | refine gRd ?_ | refine gLk ?_ | refine gRow13 ?_ | refine fB.of (wide_map (fun _ => rfl) _) ?_ | refine fB.of (full_map (fun _ => rfl) _) ?_ | refine fB.of (full_map (fun x => full_rKept x) _) ?_ | refine fB.of (full_map (fun x => full_rInsL x) _) ?_ | refine fB.of (full_map (fun x => full_rItemL x) _) ?_ | refine fB.of (full_map (fun x => full_rEventL x) _) ?_ | refine fB.of (full_map (fun x => full_rState x) _) ?_ | refine fB.of (full_map (fun x => full_rIntL x) _) ?_ | refine gRf ?_ | refine sDraw.mk' (id := 20) [(2, 5)] (ty := tys) rfl (by decide +kernel) ?_)) <;> (try (conv => whnf)))
              refine loop_rule (ι := Nat) (fun j => [(1, .pt 1 1 0 [] 0 0), (3, i64 P.length), (50, i64 P.length), (51, i64 (j : Nat))])
                (fun _ => [(1000000, ⟨0, 0, false, tInsSS P⟩), (1000001, ⟨0, 0, false, tStateS S⟩), (1000002, ⟨0, 0, false, tItemSS W⟩), (1000003, ⟨0, 0, false, tEventSS H⟩), (1, ⟨1, 0, false, bSys P S W H⟩)])
                (fun j => P.length - j) (fun j => j ≤ P.length ∧ ∀ a, a < j → allBelow P.length (fun b => fits P.length W H a b) = true) 0 (by (try dsimp only [cond_true, cond_false]); exact ⟨⟨rfl, rfl, rfl, rfl, trivial⟩, ⟨rfl, rfl, rfl, rfl, rfl, trivial⟩⟩) ⟨Nat.zero_le _, fun q h => absurd h (Nat.not_lt_zero q)⟩ (by simp [C]; omega) ?_
              clear sl ob
              rintro a sl ob ⟨ha, hfa⟩
              (try dsimp only [cond_true, cond_false])
              (conv => whnf)
              by_cases hal : a < P.length
              · repeat' ((with_reducible (first | refine gP ?_ | refine gN ?_ | refine fG.split (fun _ => ?_) (fun _ => ?_) | refine fG.not ?_ | refine gY ?_ | refine gF ?_ | refine fG.yes (flat_map (fun _ => rfl) _) ?_ | refine fG.bool (fun _ => ?_) (fun _ => ?_) | refine gS64 ?_ | refine gU8 ?_ | refine gI13 ?_ | refine fE.of rfl ?_ | refine gBq ?_ | refine gNum13 ?_ | refine gSet ?_ | refine gRd ?_ | refine gLk ?_ | refine gRow13 ?_ | refine fB.of (wide_map (fun _ => rfl) _) ?_ | refine fB.of (full_map (fun _ => rfl) _) ?_ | refine fB.of (full_map (fun x => full_rKept x) _) ?_ | refine fB.of (full_map (fun x => full_rInsL x) _) ?_ | refine fB.of (full_map (fun x => full_rItemL x) _) ?_ | refine fB.of (full_map (fun x => full_rEventL x) _) ?_ | refine fB.of (full_map (fun x => full_rState x) _) ?_ | refine fB.of (full_map (fun x => full_rIntL x) _) ?_ | refine gRf ?_ | refine sDraw.mk' (id := 20) [(2, 5)] (ty := tys) rfl (by decide +kernel) ?_)) <;> (try (conv => whnf)))
                refine loop_rule (ι := Nat) (fun j => [(1, .pt 1 1 0 [] 0 0), (3, i64 P.length), (5, i64 (a : Nat)), (50, i64 P.length), (51, i64 (a : Nat)), (54, i64 P.length), (55, i64 (j : Nat))])
                  (fun _ => [(1000000, ⟨0, 0, false, tInsSS P⟩), (1000001, ⟨0, 0, false, tStateS S⟩), (1000002, ⟨0, 0, false, tItemSS W⟩), (1000003, ⟨0, 0, false, tEventSS H⟩), (1, ⟨1, 0, false, bSys P S W H⟩)])
                  (fun j => P.length - j) (fun j => j ≤ P.length ∧ ∀ b, b < j → fits P.length W H a b = true) 0 (by (try dsimp only [cond_true, cond_false]); exact ⟨⟨rfl, rfl, rfl, rfl, rfl, rfl, rfl, trivial⟩, ⟨rfl, rfl, rfl, rfl, rfl, trivial⟩⟩) ⟨Nat.zero_le _, fun q h => absurd h (Nat.not_lt_zero q)⟩ (by simp [C]; omega) ?_
                clear sl ob
                rintro b sl ob ⟨hb', hfb⟩
                (try dsimp only [cond_true, cond_false])
                (conv => whnf)
                by_cases hbl : b < P.length
                · have q2 := fun k => ok_impl_fits k P S W H a b hb hal hbl (by omega) d3 d4
                  cases e : fits P.length W H a b with
                  | false =>
                    simp only [e] at q2
                    rw [show sysOk P S W H = false by simp [sysOk, allBelow_no (f := fun a => allBelow P.length fun b => fits P.length W H a b) hal (allBelow_no hbl e)]]
                    repeat' ((with_reducible (first | refine sCall.of (q2 _) ?_ | refine gP ?_ | refine gN ?_ | refine fG.split (fun _ => ?_) (fun _ => ?_) | refine fG.not ?_ | refine gY ?_ | refine gF ?_ | refine fG.yes (flat_map (fun _ => rfl) _) ?_ | refine fG.bool (fun _ => ?_) (fun _ => ?_) | refine gS64 ?_ | refine gU8 ?_ | refine gI13 ?_ | refine fE.of rfl ?_ | refine gBq ?_ | refine gNum13 ?_ | refine gSet ?_ | refine gRd ?_ | refine gLk ?_ | refine gRow13 ?_ | refine fB.of (wide_map (fun _ => rfl) _) ?_ | refine fB.of (full_map (fun _ => rfl) _) ?_ | refine fB.of (full_map (fun x => full_rKept x) _) ?_ | refine fB.of (full_map (fun x => full_rInsL x) _) ?_ | refine fB.of (full_map (fun x => full_rItemL x) _) ?_ | refine fB.of (full_map (fun x => full_rEventL x) _) ?_ | refine fB.of (full_map (fun x => full_rState x) _) ?_ | refine fB.of (full_map (fun x => full_rIntL x) _) ?_ | refine gRf ?_ | refine sDraw.mk' (id := 20) [(2, 5)] (ty := tys) rfl (by decide +kernel) ?_)) <;> (try (conv => whnf)))
                  | true =>
                    simp only [e] at q2
                    repeat' ((with_reducible (first | refine sCall.of (q2 _) ?_ | refine gP ?_ | refine gN ?_ | refine fG.split (fun _ => ?_) (fun _ => ?_) | refine fG.not ?_ | refine gY ?_ | refine gF ?_ | refine fG.yes (flat_map (fun _ => rfl) _) ?_ | refine fG.bool (fun _ => ?_) (fun _ => ?_) | refine gS64 ?_ | refine gU8 ?_ | refine gI13 ?_ | refine fE.of rfl ?_ | refine gBq ?_ | refine gNum13 ?_ | refine gSet ?_ | refine gRd ?_ | refine gLk ?_ | refine gRow13 ?_ | refine fB.of (wide_map (fun _ => rfl) _) ?_ | refine fB.of (full_map (fun _ => rfl) _) ?_ | refine fB.of (full_map (fun x => full_rKept x) _) ?_ | refine fB.of (full_map (fun x => full_rInsL x) _) ?_ | refine fB.of (full_map (fun x => full_rItemL x) _) ?_ | refine fB.of (full_map (fun x => full_rEventL x) _) ?_ | refine fB.of (full_map (fun x => full_rState x) _) ?_ | refine fB.of (full_map (fun x => full_rIntL x) _) ?_ | refine gRf ?_ | refine sDraw.mk' (id := 20) [(2, 5)] (ty := tys) rfl (by decide +kernel) ?_)) <;> (try (conv => whnf)))
                    refine ⟨⟨b + 1, (by (try dsimp only [cond_true, cond_false]); exact ⟨⟨rfl, rfl, rfl, rfl, rfl, rfl, rfl, trivial⟩, ⟨rfl, rfl, rfl, rfl, rfl, trivial⟩⟩), ?_, ?_⟩⟩
                    · exact ⟨by show b + 1 ≤ _; omega, fun q hq => by rcases Nat.lt_succ_iff_lt_or_eq.1 hq with h | h; exact hfb q h; rw [h]; exact e⟩
                    · show P.length - (b + 1) < P.length - b; omega
                · repeat' ((with_reducible (first | refine gP ?_ | refine gN ?_ | refine fG.split (fun _ => ?_) (fun _ => ?_) | refine fG.not ?_ | refine gY ?_ | refine gF ?_ | refine fG.yes (flat_map (fun _ => rfl) _) ?_ | refine fG.bool (fun _ => ?_) (fun _ => ?_) | refine gS64 ?_ | refine gU8 ?_ | refine gI13 ?_ | refine fE.of rfl ?_ | refine gBq ?_ | refine gNum13 ?_ | refine gSet ?_ | refine gRd ?_ | refine gLk ?_ | refine gRow13 ?_ | refine fB.of (wide_map (fun _ => rfl) _) ?_ | refine fB.of (full_map (fun _ => rfl) _) ?_ | refine fB.of (full_map (fun x => full_rKept x) _) ?_ | refine fB.of (full_map (fun x => full_rInsL x) _) ?_ | refine fB.of (full_map (fun x => full_rItemL x) _) ?_ | refine fB.of (full_map (fun x => full_rEventL x) _) ?_ | refine fB.of (full_map (fun x => full_rState x) _) ?_ | refine fB.of (full_map (fun x => full_rIntL x) _) ?_ | refine gRf ?_ | refine sDraw.mk' (id := 20) [(2, 5)] (ty := tys) rfl (by decide +kernel) ?_)) <;> (try (conv => whnf)))
                  refine ⟨⟨a + 1, (by (try dsimp only [cond_true, cond_false]); exact ⟨⟨rfl, rfl, rfl, rfl, trivial⟩, ⟨rfl, rfl, rfl, rfl, rfl, trivial⟩⟩), ?_, ?_⟩⟩
                  · exact ⟨by show a + 1 ≤ _; omega, fun q hq => by rcases Nat.lt_succ_iff_lt_or_eq.1 hq with h | h; exact hfa q h; rw [h]; exact allBelow_yes fun b hb => hfb b (by omega)⟩
                  · show P.length - (a + 1) < P.length - a; omega
              · have eF : allBelow P.length (fun a => allBelow P.length fun b => fits P.length W H a b) = true := allBelow_yes fun a h => hfa a (by omega)
                have q3 := fun k => ok_impl_rowOf k H (by omega) (fun j hj => by have := h200 j hj; omega) hPI
                have hall : allEv H ≤ 1000000000000 := by
                  have h1 := wts_bound List.length 200 H h200
                  rw [← allEv_wts] at h1
                  omega
                have q4 := fun k => ok_impl_allEvents k H (by omega) hall
                rw [show sysOk P S W H = inRow H by simp [sysOk, hI.sizes, eW, ePr, eF]]
                repeat' ((with_reducible (first | refine sCall.of (q3 _) ?_ | refine sCall.of (q4 _) ?_ | refine gP ?_ | refine gN ?_ | refine fG.split (fun _ => ?_) (fun _ => ?_) | refine fG.not ?_ | refine gY ?_ | refine gF ?_ | refine fG.yes (flat_map (fun _ => rfl) _) ?_ | refine fG.bool (fun _ => ?_) (fun _ => ?_) | refine gS64 ?_ | refine gU8 ?_ | refine gI13 ?_ | refine fE.of rfl ?_ | refine gBq ?_ | refine gNum13 ?_ | refine gSet ?_ | refine gRd ?_ | refine gLk ?_ | refine gRow13 ?_ | refine fB.of (wide_map (fun _ => rfl) _) ?_ | refine fB.of (full_map (fun _ => rfl) _) ?_ | refine fB.of (full_map (fun x => full_rKept x) _) ?_ | refine fB.of (full_map (fun x => full_rInsL x) _) ?_ | refine fB.of (full_map (fun x => full_rItemL x) _) ?_ | refine fB.of (full_map (fun x => full_rEventL x) _) ?_ | refine fB.of (full_map (fun x => full_rState x) _) ?_ | refine fB.of (full_map (fun x => full_rIntL x) _) ?_ | refine gRf ?_ | refine sDraw.mk' (id := 20) [(2, 5)] (ty := tys) rfl (by decide +kernel) ?_)) <;> (try (conv => whnf)))
                simp [inRow]
                omega
        · rw [sysOk_sizes (by simp [sizesOk, d4])]
          (refine callE_is (callE_w [ResultVar.tmp 2] rfl Tryz.func63 rfl (by decide +kernel) rfl (by simp) ?_); (conv => whnf))
          repeat' ((with_reducible (first | refine sCall.of (q0 _) ?_ | refine sW.eq (w1) ?_ | refine gP ?_ | refine gN ?_ | refine fG.split (fun _ => ?_) (fun _ => ?_) | refine fG.not ?_ | refine gY ?_ | refine gF ?_ | refine fG.yes (flat_map (fun _ => rfl) _) ?_ | refine fG.bool (fun _ => ?_) (fun _ => ?_) | refine gS64 ?_ | refine gU8 ?_ | refine gI13 ?_ | refine fE.of rfl ?_ | refine gBq ?_ | refine gNum13 ?_ | refine gSet ?_ | refine gRd ?_ | refine gLk ?_ | refine gRow13 ?_ | refine fB.of (wide_map (fun _ => rfl) _) ?_ | refine fB.of (full_map (fun _ => rfl) _) ?_ | refine fB.of (full_map (fun x => full_rKept x) _) ?_ | refine fB.of (full_map (fun x => full_rInsL x) _) ?_ | refine fB.of (full_map (fun x => full_rItemL x) _) ?_ | refine fB.of (full_map (fun x => full_rEventL x) _) ?_ | refine fB.of (full_map (fun x => full_rState x) _) ?_ | refine fB.of (full_map (fun x => full_rIntL x) _) ?_ | refine gRf ?_ | refine sDraw.mk' (id := 20) [(2, 5)] (ty := tys) rfl (by decide +kernel) ?_)) <;> (try (conv => whnf)))
          all_goals first
            | rfl
            | (exfalso; omega)
      · rw [sysOk_sizes (by simp [sizesOk, d3])]
        (refine callE_is (callE_w [ResultVar.tmp 2] rfl Tryz.func63 rfl (by decide +kernel) rfl (by simp) ?_); (conv => whnf))
        repeat' ((with_reducible (first | refine sCall.of (q0 _) ?_ | refine sW.eq (w1) ?_ | refine gP ?_ | refine gN ?_ | refine fG.split (fun _ => ?_) (fun _ => ?_) | refine fG.not ?_ | refine gY ?_ | refine gF ?_ | refine fG.yes (flat_map (fun _ => rfl) _) ?_ | refine fG.bool (fun _ => ?_) (fun _ => ?_) | refine gS64 ?_ | refine gU8 ?_ | refine gI13 ?_ | refine fE.of rfl ?_ | refine gBq ?_ | refine gNum13 ?_ | refine gSet ?_ | refine gRd ?_ | refine gLk ?_ | refine gRow13 ?_ | refine fB.of (wide_map (fun _ => rfl) _) ?_ | refine fB.of (full_map (fun _ => rfl) _) ?_ | refine fB.of (full_map (fun x => full_rKept x) _) ?_ | refine fB.of (full_map (fun x => full_rInsL x) _) ?_ | refine fB.of (full_map (fun x => full_rItemL x) _) ?_ | refine fB.of (full_map (fun x => full_rEventL x) _) ?_ | refine fB.of (full_map (fun x => full_rState x) _) ?_ | refine fB.of (full_map (fun x => full_rIntL x) _) ?_ | refine gRf ?_ | refine sDraw.mk' (id := 20) [(2, 5)] (ty := tys) rfl (by decide +kernel) ?_)) <;> (try (conv => whnf)))
        all_goals first
          | rfl
          | (exfalso; omega)
    · rw [sysOk_sizes (by simp [sizesOk, d2])]
      (refine callE_is (callE_w [ResultVar.tmp 2] rfl Tryz.func63 rfl (by decide +kernel) rfl (by simp) ?_); (conv => whnf))
      repeat' ((with_reducible (first | refine sCall.of (q0 _) ?_ | refine sW.eq (w1) ?_ | refine gP ?_ | refine gN ?_ | refine fG.split (fun _ => ?_) (fun _ => ?_) | refine fG.not ?_ | refine gY ?_ | refine gF ?_ | refine fG.yes (flat_map (fun _ => rfl) _) ?_ | refine fG.bool (fun _ => ?_) (fun _ => ?_) | refine gS64 ?_ | refine gU8 ?_ | refine gI13 ?_ | refine fE.of rfl ?_ | refine gBq ?_ | refine gNum13 ?_ | refine gSet ?_ | refine gRd ?_ | refine gLk ?_ | refine gRow13 ?_ | refine fB.of (wide_map (fun _ => rfl) _) ?_ | refine fB.of (full_map (fun _ => rfl) _) ?_ | refine fB.of (full_map (fun x => full_rKept x) _) ?_ | refine fB.of (full_map (fun x => full_rInsL x) _) ?_ | refine fB.of (full_map (fun x => full_rItemL x) _) ?_ | refine fB.of (full_map (fun x => full_rEventL x) _) ?_ | refine fB.of (full_map (fun x => full_rState x) _) ?_ | refine fB.of (full_map (fun x => full_rIntL x) _) ?_ | refine gRf ?_ | refine sDraw.mk' (id := 20) [(2, 5)] (ty := tys) rfl (by decide +kernel) ?_)) <;> (try (conv => whnf)))
      all_goals first
        | rfl
        | (exfalso; omega)
  · rw [decide_eq_false d1] at q0
    rw [sysOk_sizes (by simp [sizesOk, inB, d1])]
    (refine callE_is (callE_w [ResultVar.tmp 2] rfl Tryz.func63 rfl (by decide +kernel) rfl (by simp) ?_); (conv => whnf))
    repeat' ((with_reducible (first | refine sCall.of (q0 _) ?_ | refine gP ?_ | refine gN ?_ | refine fG.split (fun _ => ?_) (fun _ => ?_) | refine fG.not ?_ | refine gY ?_ | refine gF ?_ | refine fG.yes (flat_map (fun _ => rfl) _) ?_ | refine fG.bool (fun _ => ?_) (fun _ => ?_) | refine gS64 ?_ | refine gU8 ?_ | refine gI13 ?_ | refine fE.of rfl ?_ | refine gBq ?_ | refine gNum13 ?_ | refine gSet ?_ | refine gRd ?_ | refine gLk ?_ | refine gRow13 ?_ | refine fB.of (wide_map (fun _ => rfl) _) ?_ | refine fB.of (full_map (fun _ => rfl) _) ?_ | refine fB.of (full_map (fun x => full_rKept x) _) ?_ | refine fB.of (full_map (fun x => full_rInsL x) _) ?_ | refine fB.of (full_map (fun x => full_rItemL x) _) ?_ | refine fB.of (full_map (fun x => full_rEventL x) _) ?_ | refine fB.of (full_map (fun x => full_rState x) _) ?_ | refine fB.of (full_map (fun x => full_rIntL x) _) ?_ | refine gRf ?_ | refine sDraw.mk' (id := 20) [(2, 5)] (ty := tys) rfl (by decide +kernel) ?_)) <;> (try (conv => whnf)))

end Go.Proofs.YtkmhbofkjcknjaaGreat.Abs
namespace Go.Proofs.YtkmhbofkjcknjaaGreat.Abs
open Go Go.Proofs
set_option linter.unusedVariables false
set_option linter.unusedSimpArgs false
attribute [local irreducible] callE
theorem ok_spec_l4Way (k : Nat) (w : List Item) (sent : List Int) (tk : Nat) (hw : w.length ≤ 10000000000) (hs : sent.length ≤ 10000000000) (ht : tk ≤ 10000000000) :
    callE PR C (k + 3) 71 [.h 1000000 0 0 [] 2 0 w.length, .h 1000001 0 0 [] 1 0 sent.length, i64 (tk : Nat)] [tItem w, tI sent] = some ⟨bl (l4way w sent tk), [], [none, none]⟩ := by
  have hnl := numbers_le w
  (refine callE_is (callE_w [ResultVar.tmp 6] rfl Tryz.func71 rfl (by decide +kernel) rfl (by simp) ?_); (conv => whnf))
  refine loop_rule (ι := Nat) (fun j => [(0, .h 1000000 0 0 [] 2 0 w.length), (1, .h 1000001 0 0 [] 1 0 sent.length), (2, i64 (tk : Nat)), (7, i64 (j : Nat))])
    (fun _ => [(1000000, ⟨0, 0, false, tItem w⟩), (1000001, ⟨0, 0, false, tI sent⟩)])
    (fun j => w.length - j) (fun j => j ≤ w.length ∧ ∀ i, i < j → itemOk (rd w i) = true) 0 (by (try dsimp only [cond_true, cond_false]); exact ⟨⟨rfl, rfl, rfl, rfl, trivial⟩, ⟨rfl, rfl, trivial⟩⟩) ⟨Nat.zero_le _, fun q h => absurd h (Nat.not_lt_zero q)⟩ (by simp [C]; omega) ?_
  rintro j sl ob ⟨hj, hok⟩
  (try dsimp only [cond_true, cond_false])
  (conv => whnf)
  by_cases hjl : j < w.length
  · have q1 : ∀ k, callE PR C (k + 2) 136 [i64 (rd w j).v] [] = some ⟨bl (numOk (rd w j).v), [], []⟩ := fun k => ok_spec_l1Num k (rd w j).v
    cases e : itemOk (rd w j) with
    | false =>
      rw [show l4way w sent tk = false by
        have : w.all itemOk = false := by rw [List.all_eq_false]; exact ⟨_, rd_mem hjl, by rw [e]; decide⟩
        simp [l4way, this]]
      cases en : numOk (rd w j).v with
      | false =>
        rw [en] at q1
        repeat' ((with_reducible (first | refine sCall.of (q1 _) ?_ | refine gP ?_ | refine gN ?_ | refine fG.split (fun _ => ?_) (fun _ => ?_) | refine fG.not ?_ | refine gY ?_ | refine gF ?_ | refine fG.yes (flat_map (fun _ => rfl) _) ?_ | refine fG.bool (fun _ => ?_) (fun _ => ?_) | refine gS64 ?_ | refine gU8 ?_ | refine gI13 ?_ | refine fE.of rfl ?_ | refine gBq ?_ | refine gNum13 ?_ | refine gSet ?_ | refine gRd ?_ | refine gLk ?_ | refine gRow13 ?_ | refine fB.of (wide_map (fun _ => rfl) _) ?_ | refine fB.of (full_map (fun _ => rfl) _) ?_ | refine fB.of (full_map (fun x => full_rKept x) _) ?_ | refine fB.of (full_map (fun x => full_rInsL x) _) ?_ | refine fB.of (full_map (fun x => full_rItemL x) _) ?_ | refine fB.of (full_map (fun x => full_rEventL x) _) ?_ | refine fB.of (full_map (fun x => full_rState x) _) ?_ | refine fB.of (full_map (fun x => full_rIntL x) _) ?_ | refine gRf ?_ | refine sDraw.none (id := 12) (ty := tys) rfl (by decide +kernel) ?_)) <;> (try (conv => whnf)))
      | true =>
        rw [en] at q1
        cases em : (rd w j).mark with
        | false => simp [itemOk, en, em] at e
        | true =>
          have hv : ¬ (rd w j).v = 0 := by intro h; unfold itemOk at e; rw [en, em] at e; simp [h] at e
          repeat' ((with_reducible (first | refine sCall.of (q1 _) ?_ | refine gP ?_ | refine gN ?_ | refine fG.split (fun _ => ?_) (fun _ => ?_) | refine fG.not ?_ | refine gY ?_ | refine gF ?_ | refine fG.yes (flat_map (fun _ => rfl) _) ?_ | refine fG.bool (fun _ => ?_) (fun _ => ?_) | refine gS64 ?_ | refine gU8 ?_ | refine gI13 ?_ | refine fE.of rfl ?_ | refine gBq ?_ | refine gNum13 ?_ | refine gSet ?_ | refine gRd ?_ | refine gLk ?_ | refine gRow13 ?_ | refine fB.of (wide_map (fun _ => rfl) _) ?_ | refine fB.of (full_map (fun _ => rfl) _) ?_ | refine fB.of (full_map (fun x => full_rKept x) _) ?_ | refine fB.of (full_map (fun x => full_rInsL x) _) ?_ | refine fB.of (full_map (fun x => full_rItemL x) _) ?_ | refine fB.of (full_map (fun x => full_rEventL x) _) ?_ | refine fB.of (full_map (fun x => full_rState x) _) ?_ | refine fB.of (full_map (fun x => full_rIntL x) _) ?_ | refine gRf ?_ | refine sDraw.none (id := 12) (ty := tys) rfl (by decide +kernel) ?_)) <;> (try (conv => whnf)))
          all_goals first
            | (exfalso; simp [em] at *; done)
            | skip
    | true =>
      have en : numOk (rd w j).v = true := by simp only [itemOk, Bool.and_eq_true] at e; exact e.1
      rw [en] at q1
      have e' := e
      simp only [itemOk, en, Bool.true_and, Bool.not_eq_true', Bool.and_eq_false_iff, Bool.not_eq_false', decide_eq_true_eq] at e'
      repeat' ((with_reducible (first | refine sCall.of (q1 _) ?_ | refine gP ?_ | refine gN ?_ | refine fG.split (fun _ => ?_) (fun _ => ?_) | refine fG.not ?_ | refine gY ?_ | refine gF ?_ | refine fG.yes (flat_map (fun _ => rfl) _) ?_ | refine fG.bool (fun _ => ?_) (fun _ => ?_) | refine gS64 ?_ | refine gU8 ?_ | refine gI13 ?_ | refine fE.of rfl ?_ | refine gBq ?_ | refine gNum13 ?_ | refine gSet ?_ | refine gRd ?_ | refine gLk ?_ | refine gRow13 ?_ | refine fB.of (wide_map (fun _ => rfl) _) ?_ | refine fB.of (full_map (fun _ => rfl) _) ?_ | refine fB.of (full_map (fun x => full_rKept x) _) ?_ | refine fB.of (full_map (fun x => full_rInsL x) _) ?_ | refine fB.of (full_map (fun x => full_rItemL x) _) ?_ | refine fB.of (full_map (fun x => full_rEventL x) _) ?_ | refine fB.of (full_map (fun x => full_rState x) _) ?_ | refine fB.of (full_map (fun x => full_rIntL x) _) ?_ | refine gRf ?_ | refine sDraw.none (id := 12) (ty := tys) rfl (by decide +kernel) ?_)) <;> (try (conv => whnf)))
      all_goals first
        | (exfalso; rcases e' with h | h <;> simp_all; done)
        | (refine ⟨⟨j + 1, (by (try dsimp only [cond_true, cond_false]); exact ⟨⟨rfl, rfl, rfl, rfl, trivial⟩, ⟨rfl, rfl, trivial⟩⟩), ?_, ?_⟩⟩
           · exact ⟨by show j + 1 ≤ _; omega, fun q hq => by rcases Nat.lt_succ_iff_lt_or_eq.1 hq with h | h; exact hok q h; rw [h]; exact e⟩
           · show w.length - (j + 1) < w.length - j; omega)
  · have eA : w.all itemOk = true := by
      rw [List.all_eq_true]
      intro x hx
      obtain ⟨i, hi, rfl⟩ := List.mem_iff_getElem.1 hx
      have := hok i (by omega)
      simpa [rd, hi] using this
    have q2 := fun k => ok_spec_Numbers k w (by omega)
    by_cases d1 : w.length ≤ 12
    · by_cases d2 : (sent.length : Int) - (tk : Int) = ((numbersOf w).length : Int)
      · rw [show l4way w sent tk = decide (sent.drop tk = numbersOf w) by simp [l4way, eA, d1, d2]]
        repeat' ((with_reducible (first | refine sCall.of (q2 _) ?_ | refine gP ?_ | refine gN ?_ | refine fG.split (fun _ => ?_) (fun _ => ?_) | refine fG.not ?_ | refine gY ?_ | refine gF ?_ | refine fG.yes (flat_map (fun _ => rfl) _) ?_ | refine fG.bool (fun _ => ?_) (fun _ => ?_) | refine gS64 ?_ | refine gU8 ?_ | refine gI13 ?_ | refine fE.of rfl ?_ | refine gBq ?_ | refine gNum13 ?_ | refine gSet ?_ | refine gRd ?_ | refine gLk ?_ | refine gRow13 ?_ | refine fB.of (wide_map (fun _ => rfl) _) ?_ | refine fB.of (full_map (fun _ => rfl) _) ?_ | refine fB.of (full_map (fun x => full_rKept x) _) ?_ | refine fB.of (full_map (fun x => full_rInsL x) _) ?_ | refine fB.of (full_map (fun x => full_rItemL x) _) ?_ | refine fB.of (full_map (fun x => full_rEventL x) _) ?_ | refine fB.of (full_map (fun x => full_rState x) _) ?_ | refine fB.of (full_map (fun x => full_rIntL x) _) ?_ | refine gRf ?_ | refine sDraw.none (id := 12) (ty := tys) rfl (by decide +kernel) ?_)) <;> (try (conv => whnf)))
        refine loop_rule (ι := VI) (fun z => [(1, .h 1000001 0 0 [] 1 0 sent.length), (2, i64 (tk : Nat)), (8, .h 10039 z.b 0 [] 1 0 (numbersOf w).length), (9, i64 (z.j : Nat))])
          (fun z => [(1000000, ⟨0, 0, false, tItem w⟩), (1000001, ⟨0, 0, false, tI sent⟩), (10039, ⟨z.b, 0, false, tI9 (numbersOf w)⟩)])
          (fun z => (numbersOf w).length - z.j) (fun z => z.j ≤ (numbersOf w).length ∧ ∀ i, i < z.j → rd (numbersOf w) i = rd sent (tk + i)) ⟨0, [], 0, _⟩ (by (try dsimp only [cond_true, cond_false]); exact ⟨⟨rfl, rfl, rfl, rfl, trivial⟩, ⟨rfl, rfl, rfl, trivial⟩⟩) ⟨Nat.zero_le _, fun q h => absurd h (Nat.not_lt_zero q)⟩ (by simp [C]; omega) ?_
        clear hok hj hjl sl ob j
        rintro ⟨j, _, _, bb⟩ sl ob ⟨hj, hok⟩
        dsimp only at hj hok
        (try dsimp only [cond_true, cond_false])
        (conv => whnf)
        by_cases hjl : j < (numbersOf w).length
        · have et : ((tk : Int) + (j : Int)).toNat = tk + j := by omega
          by_cases e : rd (numbersOf w) j = rd sent (tk + j)
          · have e' : rd (numbersOf w) j = rd sent ((tk : Int) + (j : Int)).toNat := by rw [et]; exact e
            repeat' ((with_reducible (first | refine gP ?_ | refine gN ?_ | refine fG.split (fun _ => ?_) (fun _ => ?_) | refine fG.not ?_ | refine gY ?_ | refine gF ?_ | refine fG.yes (flat_map (fun _ => rfl) _) ?_ | refine fG.bool (fun _ => ?_) (fun _ => ?_) | refine gS64 ?_ | refine gU8 ?_ | refine gI13 ?_ | refine fE.of rfl ?_ | refine gBq ?_ | refine gNum13 ?_ | refine gSet ?_ | refine gRd ?_ | refine gLk ?_ | refine gRow13 ?_ | refine fB.of (wide_map (fun _ => rfl) _) ?_ | refine fB.of (full_map (fun _ => rfl) _) ?_ | refine fB.of (full_map (fun x => full_rKept x) _) ?_ | refine fB.of (full_map (fun x => full_rInsL x) _) ?_ | refine fB.of (full_map (fun x => full_rItemL x) _) ?_ | refine fB.of (full_map (fun x => full_rEventL x) _) ?_ | refine fB.of (full_map (fun x => full_rState x) _) ?_ | refine fB.of (full_map (fun x => full_rIntL x) _) ?_ | refine gRf ?_ | refine sDraw.none (id := 12) (ty := tys) rfl (by decide +kernel) ?_)) <;> (try (conv => whnf)))
            refine ⟨⟨⟨j + 1, [], 0, _⟩, (by (try dsimp only [cond_true, cond_false]); exact ⟨⟨rfl, rfl, rfl, rfl, trivial⟩, ⟨rfl, rfl, rfl, trivial⟩⟩), ?_, ?_⟩⟩
            · exact ⟨by show j + 1 ≤ _; omega, fun q hq => by rcases Nat.lt_succ_iff_lt_or_eq.1 hq with h | h; exact hok q h; rw [h]; exact e⟩
            · show (numbersOf w).length - (j + 1) < (numbersOf w).length - j; omega
          · have e' : ¬ rd (numbersOf w) j = rd sent ((tk : Int) + (j : Int)).toNat := by rw [et]; exact e
            rw [decide_eq_false (p := sent.drop tk = numbersOf w) (fun h => e (by rw [← h]; simp [rd]))]
            repeat' ((with_reducible (first | refine gP ?_ | refine gN ?_ | refine fG.split (fun _ => ?_) (fun _ => ?_) | refine fG.not ?_ | refine gY ?_ | refine gF ?_ | refine fG.yes (flat_map (fun _ => rfl) _) ?_ | refine fG.bool (fun _ => ?_) (fun _ => ?_) | refine gS64 ?_ | refine gU8 ?_ | refine gI13 ?_ | refine fE.of rfl ?_ | refine gBq ?_ | refine gNum13 ?_ | refine gSet ?_ | refine gRd ?_ | refine gLk ?_ | refine gRow13 ?_ | refine fB.of (wide_map (fun _ => rfl) _) ?_ | refine fB.of (full_map (fun _ => rfl) _) ?_ | refine fB.of (full_map (fun x => full_rKept x) _) ?_ | refine fB.of (full_map (fun x => full_rInsL x) _) ?_ | refine fB.of (full_map (fun x => full_rItemL x) _) ?_ | refine fB.of (full_map (fun x => full_rEventL x) _) ?_ | refine fB.of (full_map (fun x => full_rState x) _) ?_ | refine fB.of (full_map (fun x => full_rIntL x) _) ?_ | refine gRf ?_ | refine sDraw.none (id := 12) (ty := tys) rfl (by decide +kernel) ?_)) <;> (try (conv => whnf)))
        · rw [decide_eq_true (p := sent.drop tk = numbersOf w) (rd_ext (by simp; omega) fun q hq => by
            have := hok q (by simp at hq; omega)
            rw [this]; simp [rd])]
          repeat' ((with_reducible (first | refine gP ?_ | refine gN ?_ | refine fG.split (fun _ => ?_) (fun _ => ?_) | refine fG.not ?_ | refine gY ?_ | refine gF ?_ | refine fG.yes (flat_map (fun _ => rfl) _) ?_ | refine fG.bool (fun _ => ?_) (fun _ => ?_) | refine gS64 ?_ | refine gU8 ?_ | refine gI13 ?_ | refine fE.of rfl ?_ | refine gBq ?_ | refine gNum13 ?_ | refine gSet ?_ | refine gRd ?_ | refine gLk ?_ | refine gRow13 ?_ | refine fB.of (wide_map (fun _ => rfl) _) ?_ | refine fB.of (full_map (fun _ => rfl) _) ?_ | refine fB.of (full_map (fun x => full_rKept x) _) ?_ | refine fB.of (full_map (fun x => full_rInsL x) _) ?_ | refine fB.of (full_map (fun x => full_rItemL x) _) ?_ | refine fB.of (full_map (fun x => full_rEventL x) _) ?_ | refine fB.of (full_map (fun x => full_rState x) _) ?_ | refine fB.of (full_map (fun x => full_rIntL x) _) ?_ | refine gRf ?_ | refine sDraw.none (id := 12) (ty := tys) rfl (by decide +kernel) ?_)) <;> (try (conv => whnf)))
      · rw [show l4way w sent tk = false by simp [l4way, d2]]
        repeat' ((with_reducible (first | refine sCall.of (q2 _) ?_ | refine gP ?_ | refine gN ?_ | refine fG.split (fun _ => ?_) (fun _ => ?_) | refine fG.not ?_ | refine gY ?_ | refine gF ?_ | refine fG.yes (flat_map (fun _ => rfl) _) ?_ | refine fG.bool (fun _ => ?_) (fun _ => ?_) | refine gS64 ?_ | refine gU8 ?_ | refine gI13 ?_ | refine fE.of rfl ?_ | refine gBq ?_ | refine gNum13 ?_ | refine gSet ?_ | refine gRd ?_ | refine gLk ?_ | refine gRow13 ?_ | refine fB.of (wide_map (fun _ => rfl) _) ?_ | refine fB.of (full_map (fun _ => rfl) _) ?_ | refine fB.of (full_map (fun x => full_rKept x) _) ?_ | refine fB.of (full_map (fun x => full_rInsL x) _) ?_ | refine fB.of (full_map (fun x => full_rItemL x) _) ?_ | refine fB.of (full_map (fun x => full_rEventL x) _) ?_ | refine fB.of (full_map (fun x => full_rState x) _) ?_ | refine fB.of (full_map (fun x => full_rIntL x) _) ?_ | refine gRf ?_ | refine sDraw.none (id := 12) (ty := tys) rfl (by decide +kernel) ?_)) <;> (try (conv => whnf)))
    · rw [show l4way w sent tk = false by simp [l4way, d1]]
      repeat' ((with_reducible (first | refine sCall.of (q2 _) ?_ | refine gP ?_ | refine gN ?_ | refine fG.split (fun _ => ?_) (fun _ => ?_) | refine fG.not ?_ | refine gY ?_ | refine gF ?_ | refine fG.yes (flat_map (fun _ => rfl) _) ?_ | refine fG.bool (fun _ => ?_) (fun _ => ?_) | refine gS64 ?_ | refine gU8 ?_ | refine gI13 ?_ | refine fE.of rfl ?_ | refine gBq ?_ | refine gNum13 ?_ | refine gSet ?_ | refine gRd ?_ | refine gLk ?_ | refine gRow13 ?_ | refine fB.of (wide_map (fun _ => rfl) _) ?_ | refine fB.of (full_map (fun _ => rfl) _) ?_ | refine fB.of (full_map (fun x => full_rKept x) _) ?_ | refine fB.of (full_map (fun x => full_rInsL x) _) ?_ | refine fB.of (full_map (fun x => full_rItemL x) _) ?_ | refine fB.of (full_map (fun x => full_rEventL x) _) ?_ | refine fB.of (full_map (fun x => full_rState x) _) ?_ | refine fB.of (full_map (fun x => full_rIntL x) _) ?_ | refine gRf ?_ | refine sDraw.none (id := 12) (ty := tys) rfl (by decide +kernel) ?_)) <;> (try (conv => whnf)))

structure LO where
  f : List Int
  n : Nat
  p : Nat
  m : Bool
  x : Int
  g : Nat
  d : Bool
set_option maxHeartbeats 4000000 in
theorem ok_spec_l4Order (k : Nat) (P : List (List Ins)) (S : List State) (W : List (List Item)) (H : List (List Event)) (hl : H.length ≤ 1000) (hh : ∀ j : Nat, j < H.length → (rd H j).length ≤ 1000) (hP : PeersIn H) :
    callE PR C (k + 3) 72 [aSys 0 P S W H] [tInsSS P, tStateS S, tItemSS W, tEventSS H] = some ⟨bl (inRow H), [], [none, none, none, none]⟩ := by
  have htot : allEv H ≤ 1000 * 1000 := by
    have := wts_bound List.length 1000 H hh
    rw [allEv_wts]
    exact Nat.le_trans this (Nat.mul_le_mul_left _ hl)
  (refine callE_is (callE_w [ResultVar.tmp 2] rfl Tryz.func72 rfl (by decide +kernel) rfl (by simp) ?_); (conv => whnf))
  repeat' ((with_reducible (first | refine gP ?_ | refine gN ?_ | refine fG.split (fun _ => ?_) (fun _ => ?_) | refine fG.not ?_ | refine gY ?_ | refine gF ?_ | refine fG.yes (flat_map (fun _ => rfl) _) ?_ | refine fG.bool (fun _ => ?_) (fun _ => ?_) | refine gS64 ?_ | refine gU8 ?_ | refine gI13 ?_ | refine fE.of rfl ?_ | refine gBq ?_ | refine gNum13 ?_ | refine gSet ?_ | refine gRd ?_ | refine gLk ?_ | refine gRow13 ?_ | refine fB.of (wide_map (fun _ => rfl) _) ?_ | refine fB.of (full_map (fun _ => rfl) _) ?_ | refine fB.of (full_map (fun x => full_rKept x) _) ?_ | refine fB.of (full_map (fun x => full_rInsL x) _) ?_ | refine fB.of (full_map (fun x => full_rItemL x) _) ?_ | refine fB.of (full_map (fun x => full_rEventL x) _) ?_ | refine fB.of (full_map (fun x => full_rState x) _) ?_ | refine fB.of (full_map (fun x => full_rIntL x) _) ?_ | refine gRf ?_ | refine sDraw.none (id := 14) (ty := tys) rfl (by decide +kernel) ?_ | refine sDraw.mk' (id := 15) [(1, 11), (4, 11), (8, 11), (10, 11)] (ty := tys) rfl (by decide +kernel) ?_ | refine sDraw.mk' (id := 16) [(16, 18), (16, 20), (16, 22), (16, 25), (16, 27)] (ty := tys) rfl (by decide +kernel) ?_)) <;> (try (conv => whnf)))
  refine loop_rule (ι := TH) (fun z => [(1, .pt 1 1 0 [] 0 0), (3, i64 H.length), (4, .h 14 1 0 [] 1 0 H.length), (5, bl true), (6, i64 z.m), (7, i64 (z.j : Nat))])
    (fun _ => [(1000000, ⟨0, 0, false, tInsSS P⟩), (1000001, ⟨0, 0, false, tStateS S⟩), (1000002, ⟨0, 0, false, tItemSS W⟩), (1000003, ⟨0, 0, false, tEventSS H⟩), (1, ⟨1, 0, false, bSys P S W H⟩), (14, ⟨1, 0, false, tI9 (List.replicate H.length 0)⟩)])
    (fun z => H.length - z.j) (fun z => z.j ≤ H.length ∧ z.m = (allEv (H.take z.j) : Nat)) ⟨0, 0⟩ (by (try dsimp only [cond_true, cond_false]); exact ⟨⟨rfl, rfl, rfl, rfl, rfl, rfl, trivial⟩, ⟨rfl, rfl, rfl, rfl, rfl, rfl, trivial⟩⟩) ⟨Nat.zero_le _, rfl⟩ (by simp [C]; omega) ?_
  rintro ⟨j, m⟩ sl ob ⟨hj, hm⟩
  dsimp only at hj hm
  subst hm
  (try dsimp only [cond_true, cond_false])
  (conv => whnf)
  by_cases hjl : j < H.length
  · have e1 := allEv_take hjl
    have e2 := allEv_le H (j + 1)
    have e4 : (List.map rEvent (rd H j)).length = (rd H j).length := by simp
    repeat' ((with_reducible (first | refine gP ?_ | refine gN ?_ | refine fG.split (fun _ => ?_) (fun _ => ?_) | refine fG.not ?_ | refine gY ?_ | refine gF ?_ | refine fG.yes (flat_map (fun _ => rfl) _) ?_ | refine fG.bool (fun _ => ?_) (fun _ => ?_) | refine gS64 ?_ | refine gU8 ?_ | refine gI13 ?_ | refine fE.of rfl ?_ | refine gBq ?_ | refine gNum13 ?_ | refine gSet ?_ | refine gRd ?_ | refine gLk ?_ | refine gRow13 ?_ | refine fB.of (wide_map (fun _ => rfl) _) ?_ | refine fB.of (full_map (fun _ => rfl) _) ?_ | refine fB.of (full_map (fun x => full_rKept x) _) ?_ | refine fB.of (full_map (fun x => full_rInsL x) _) ?_ | refine fB.of (full_map (fun x => full_rItemL x) _) ?_ | refine fB.of (full_map (fun x => full_rEventL x) _) ?_ | refine fB.of (full_map (fun x => full_rState x) _) ?_ | refine fB.of (full_map (fun x => full_rIntL x) _) ?_ | refine gRf ?_ | refine sDraw.none (id := 14) (ty := tys) rfl (by decide +kernel) ?_ | refine sDraw.mk' (id := 15) [(1, 11), (4, 11), (8, 11), (10, 11)] (ty := tys) rfl (by decide +kernel) ?_ | refine sDraw.mk' (id := 16) [(16, 18), (16, 20), (16, 22), (16, 25), (16, 27)] (ty := tys) rfl (by decide +kernel) ?_)) <;> (try (conv => whnf)))
    refine ⟨⟨⟨j + 1, _⟩, (by (try dsimp only [cond_true, cond_false]); exact ⟨⟨rfl, rfl, rfl, rfl, rfl, rfl, trivial⟩, ⟨rfl, rfl, rfl, rfl, rfl, rfl, trivial⟩⟩), ?_, ?_⟩⟩
    · exact ⟨by show j + 1 ≤ _; omega, by show ((allEv (H.take j) : Nat) : Int) + ((List.map rEvent (rd H j)).length : Nat) = (allEv (H.take (j + 1)) : Nat); omega⟩
    · show H.length - (j + 1) < H.length - j; omega
  · rw [List.take_of_length_le (by omega)]
    repeat' ((with_reducible (first | refine gP ?_ | refine gN ?_ | refine fG.split (fun _ => ?_) (fun _ => ?_) | refine fG.not ?_ | refine gY ?_ | refine gF ?_ | refine fG.yes (flat_map (fun _ => rfl) _) ?_ | refine fG.bool (fun _ => ?_) (fun _ => ?_) | refine gS64 ?_ | refine gU8 ?_ | refine gI13 ?_ | refine fE.of rfl ?_ | refine gBq ?_ | refine gNum13 ?_ | refine gSet ?_ | refine gRd ?_ | refine gLk ?_ | refine gRow13 ?_ | refine fB.of (wide_map (fun _ => rfl) _) ?_ | refine fB.of (full_map (fun _ => rfl) _) ?_ | refine fB.of (full_map (fun x => full_rKept x) _) ?_ | refine fB.of (full_map (fun x => full_rInsL x) _) ?_ | refine fB.of (full_map (fun x => full_rItemL x) _) ?_ | refine fB.of (full_map (fun x => full_rEventL x) _) ?_ | refine fB.of (full_map (fun x => full_rState x) _) ?_ | refine fB.of (full_map (fun x => full_rIntL x) _) ?_ | refine gRf ?_ | refine sDraw.none (id := 14) (ty := tys) rfl (by decide +kernel) ?_ | refine sDraw.mk' (id := 15) [(1, 11), (4, 11), (8, 11), (10, 11)] (ty := tys) rfl (by decide +kernel) ?_ | refine sDraw.mk' (id := 16) [(16, 18), (16, 20), (16, 22), (16, 25), (16, 27)] (ty := tys) rfl (by decide +kernel) ?_)) <;> (try (conv => whnf)))
    refine loop_rule (ι := LO) (fun z => [(1, .pt 1 1 0 [] 0 0), (3, i64 H.length), (4, .h 14 1 0 [] 1 0 H.length), (5, bl z.m), (6, i64 z.x)])
      (fun z => [(1000000, ⟨0, 0, false, tInsSS P⟩), (1000001, ⟨0, 0, false, tStateS S⟩), (1000002, ⟨0, 0, false, tItemSS W⟩), (1000003, ⟨0, 0, false, tEventSS H⟩), (1, ⟨1, 0, false, bSys P S W H⟩), (14, ⟨1, z.g, z.d, tI9 z.f⟩)])
      (fun z => 2 * (allEv H - z.n) + (bif z.m then 1 else 0)) (fun z => Reach H z.f z.n ∧ z.x = (allEv H : Int) - z.n ∧ (z.m = false → Stuck H z.f))
      ⟨List.replicate H.length 0, 0, 0, true, _, _, _⟩ (by (try dsimp only [cond_true, cond_false]); exact ⟨⟨rfl, rfl, rfl, rfl, rfl, trivial⟩, ⟨rfl, rfl, rfl, rfl, rfl, rfl, trivial⟩⟩) ⟨.zero, by simp, fun h => by cases h⟩ (by simp [C]; omega) ?_
    clear hj hjl sl ob
    rintro ⟨f0, n0, _, m0, x0, g0, d0⟩ sl ob ⟨hr0, hx0, hs0⟩
    dsimp only at hr0 hx0 hs0
    have hle0 := hr0.le_all
    cases m0 with
    | false =>
      have hrl := row_len hP hr0 (hs0 rfl)
      (try dsimp only [cond_true, cond_false])
      (conv => whnf)
      repeat' ((with_reducible (first | refine gP ?_ | refine gN ?_ | refine fG.split (fun _ => ?_) (fun _ => ?_) | refine fG.not ?_ | refine gY ?_ | refine gF ?_ | refine fG.yes (flat_map (fun _ => rfl) _) ?_ | refine fG.bool (fun _ => ?_) (fun _ => ?_) | refine gS64 ?_ | refine gU8 ?_ | refine gI13 ?_ | refine fE.of rfl ?_ | refine gBq ?_ | refine gNum13 ?_ | refine gSet ?_ | refine gRd ?_ | refine gLk ?_ | refine gRow13 ?_ | refine fB.of (wide_map (fun _ => rfl) _) ?_ | refine fB.of (full_map (fun _ => rfl) _) ?_ | refine fB.of (full_map (fun x => full_rKept x) _) ?_ | refine fB.of (full_map (fun x => full_rInsL x) _) ?_ | refine fB.of (full_map (fun x => full_rItemL x) _) ?_ | refine fB.of (full_map (fun x => full_rEventL x) _) ?_ | refine fB.of (full_map (fun x => full_rState x) _) ?_ | refine fB.of (full_map (fun x => full_rIntL x) _) ?_ | refine gRf ?_ | refine sDraw.none (id := 14) (ty := tys) rfl (by decide +kernel) ?_ | refine sDraw.mk' (id := 15) [(1, 11), (4, 11), (8, 11), (10, 11)] (ty := tys) rfl (by decide +kernel) ?_ | refine sDraw.mk' (id := 16) [(16, 18), (16, 20), (16, 22), (16, 25), (16, 27)] (ty := tys) rfl (by decide +kernel) ?_)) <;> (try (conv => whnf)))
      simp only [inRow, hrl, hx0]
      congr 3
      rw [decide_eq_decide]
      omega
    | true =>
      clear hs0
      (try dsimp only [cond_true, cond_false])
      (conv => whnf)
      repeat' ((with_reducible (first | refine gP ?_ | refine gN ?_ | refine fG.split (fun _ => ?_) (fun _ => ?_) | refine fG.not ?_ | refine gY ?_ | refine gF ?_ | refine fG.yes (flat_map (fun _ => rfl) _) ?_ | refine fG.bool (fun _ => ?_) (fun _ => ?_) | refine gS64 ?_ | refine gU8 ?_ | refine gI13 ?_ | refine fE.of rfl ?_ | refine gBq ?_ | refine gNum13 ?_ | refine gSet ?_ | refine gRd ?_ | refine gLk ?_ | refine gRow13 ?_ | refine fB.of (wide_map (fun _ => rfl) _) ?_ | refine fB.of (full_map (fun _ => rfl) _) ?_ | refine fB.of (full_map (fun x => full_rKept x) _) ?_ | refine fB.of (full_map (fun x => full_rInsL x) _) ?_ | refine fB.of (full_map (fun x => full_rItemL x) _) ?_ | refine fB.of (full_map (fun x => full_rEventL x) _) ?_ | refine fB.of (full_map (fun x => full_rState x) _) ?_ | refine fB.of (full_map (fun x => full_rIntL x) _) ?_ | refine gRf ?_ | refine sDraw.none (id := 14) (ty := tys) rfl (by decide +kernel) ?_ | refine sDraw.mk' (id := 15) [(1, 11), (4, 11), (8, 11), (10, 11)] (ty := tys) rfl (by decide +kernel) ?_ | refine sDraw.mk' (id := 16) [(16, 18), (16, 20), (16, 22), (16, 25), (16, 27)] (ty := tys) rfl (by decide +kernel) ?_)) <;> (try (conv => whnf)))
      refine loop_rule (ι := LO) (fun z => [(1, .pt 1 1 0 [] 0 0), (3, i64 H.length), (4, .h 14 1 0 [] 1 0 H.length), (5, bl z.m), (6, i64 z.x), (8, i64 (z.p : Nat))])
        (fun z => [(1000000, ⟨0, 0, false, tInsSS P⟩), (1000001, ⟨0, 0, false, tStateS S⟩), (1000002, ⟨0, 0, false, tItemSS W⟩), (1000003, ⟨0, 0, false, tEventSS H⟩), (1, ⟨1, 0, false, bSys P S W H⟩), (14, ⟨1, z.g, z.d, tI9 z.f⟩)])
        (fun z => H.length - z.p) (fun z => z.p ≤ H.length ∧ Reach H z.f z.n ∧ z.x = (allEv H : Int) - z.n ∧ n0 ≤ z.n ∧ (z.m = true → n0 < z.n) ∧ (z.m = false → ∀ q, q < z.p → canCome H z.f q = false))
        ⟨f0, n0, 0, false, x0, _, _⟩ (by (try dsimp only [cond_true, cond_false]); exact ⟨⟨rfl, rfl, rfl, rfl, rfl, rfl, trivial⟩, ⟨rfl, rfl, rfl, rfl, rfl, rfl, trivial⟩⟩) ⟨Nat.zero_le _, hr0, hx0, Nat.le_refl _, (fun h => by cases h), fun _ q h => absurd h (Nat.not_lt_zero q)⟩ (by simp [C]; omega) ?_
      clear hr0 hx0 sl ob
      rintro ⟨f, n, p, m, x, g, d⟩ sl ob ⟨hp, hr, hx, hn0, hmt, hmf⟩
      dsimp only at hp hr hx hn0 hmt hmf
      have hf := hr.fok
      have hfl := hf.len
      have hle := hr.le_all
      (try dsimp only [cond_true, cond_false])
      (conv => whnf)
      by_cases hpl : p < H.length
      · have hfp := hf.rng p hpl
        have hhp := hh p hpl
        have e4 : (List.map rEvent (rd H p)).length = (rd H p).length := by simp
        by_cases c1 : rd f p = ((rd H p).length : Int)
        · have hcan : canCome H f p = false := by simp [canCome, c1]
          repeat' ((with_reducible (first | refine gP ?_ | refine gN ?_ | refine fG.split (fun _ => ?_) (fun _ => ?_) | refine fG.not ?_ | refine gY ?_ | refine gF ?_ | refine fG.yes (flat_map (fun _ => rfl) _) ?_ | refine fG.bool (fun _ => ?_) (fun _ => ?_) | refine gS64 ?_ | refine gU8 ?_ | refine gI13 ?_ | refine fE.of rfl ?_ | refine gBq ?_ | refine gNum13 ?_ | refine gSet ?_ | refine gRd ?_ | refine gLk ?_ | refine gRow13 ?_ | refine fB.of (wide_map (fun _ => rfl) _) ?_ | refine fB.of (full_map (fun _ => rfl) _) ?_ | refine fB.of (full_map (fun x => full_rKept x) _) ?_ | refine fB.of (full_map (fun x => full_rInsL x) _) ?_ | refine fB.of (full_map (fun x => full_rItemL x) _) ?_ | refine fB.of (full_map (fun x => full_rEventL x) _) ?_ | refine fB.of (full_map (fun x => full_rState x) _) ?_ | refine fB.of (full_map (fun x => full_rIntL x) _) ?_ | refine gRf ?_ | refine sDraw.none (id := 14) (ty := tys) rfl (by decide +kernel) ?_ | refine sDraw.mk' (id := 15) [(1, 11), (4, 11), (8, 11), (10, 11)] (ty := tys) rfl (by decide +kernel) ?_ | refine sDraw.mk' (id := 16) [(16, 18), (16, 20), (16, 22), (16, 25), (16, 27)] (ty := tys) rfl (by decide +kernel) ?_)) <;> (try (conv => whnf)))
          refine ⟨⟨⟨f, n, p + 1, m, x, _, _⟩, (by (try dsimp only [cond_true, cond_false]); exact ⟨⟨rfl, rfl, rfl, rfl, rfl, rfl, trivial⟩, ⟨rfl, rfl, rfl, rfl, rfl, rfl, trivial⟩⟩), ?_, ?_⟩⟩
          · exact ⟨by show p + 1 ≤ _; omega, hr, hx, hn0, hmt, fun h => no_more (hmf h) hcan⟩
          · show H.length - (p + 1) < H.length - p; omega
        · by_cases c2 : (rd (rd H p) (rd f p).toNat).kind = 3
          · have hq := hP p hpl (rd f p).toNat (by omega) c2
            have hfq := hf.rng (rd (rd H p) (rd f p).toNat).peer.toNat (by omega)
            have hhq := hh (rd (rd H p) (rd f p).toNat).peer.toNat (by omega)
            have e5 : (List.map rEvent (rd H (rd (rd H p) (rd f p).toNat).peer.toNat)).length = (rd H (rd (rd H p) (rd f p).toNat).peer.toNat).length := by simp
            have qa := fun k => ok_spec_Count k ((rd H p).take (rd f p).toNat) 3 (rd (rd H p) (rd f p).toNat).peer (by simp; omega)
            have qb := fun k => ok_spec_Count k ((rd H (rd (rd H p) (rd f p).toNat).peer.toNat).take (rd f (rd (rd H p) (rd f p).toNat).peer.toNat).toNat) 2 p (by simp; omega)
            by_cases c3 : (cnt ((rd H (rd (rd H p) (rd f p).toNat).peer.toNat).take (rd f (rd (rd H p) (rd f p).toNat).peer.toNat).toNat) 2 p : Int) ≤ (cnt ((rd H p).take (rd f p).toNat) 3 (rd (rd H p) (rd f p).toNat).peer : Int)
            · have hcan : canCome H f p = false := by simp [canCome, c2]; intro _; omega
              repeat' ((with_reducible (first | refine sCall.of (qa _) ?_ | refine sCall.of (qb _) ?_ | refine gP ?_ | refine gN ?_ | refine fG.split (fun _ => ?_) (fun _ => ?_) | refine fG.not ?_ | refine gY ?_ | refine gF ?_ | refine fG.yes (flat_map (fun _ => rfl) _) ?_ | refine fG.bool (fun _ => ?_) (fun _ => ?_) | refine gS64 ?_ | refine gU8 ?_ | refine gI13 ?_ | refine fE.of rfl ?_ | refine gBq ?_ | refine gNum13 ?_ | refine gSet ?_ | refine gRd ?_ | refine gLk ?_ | refine gRow13 ?_ | refine fB.of (wide_map (fun _ => rfl) _) ?_ | refine fB.of (full_map (fun _ => rfl) _) ?_ | refine fB.of (full_map (fun x => full_rKept x) _) ?_ | refine fB.of (full_map (fun x => full_rInsL x) _) ?_ | refine fB.of (full_map (fun x => full_rItemL x) _) ?_ | refine fB.of (full_map (fun x => full_rEventL x) _) ?_ | refine fB.of (full_map (fun x => full_rState x) _) ?_ | refine fB.of (full_map (fun x => full_rIntL x) _) ?_ | refine gRf ?_ | refine sDraw.none (id := 14) (ty := tys) rfl (by decide +kernel) ?_ | refine sDraw.mk' (id := 15) [(1, 11), (4, 11), (8, 11), (10, 11)] (ty := tys) rfl (by decide +kernel) ?_ | refine sDraw.mk' (id := 16) [(16, 18), (16, 20), (16, 22), (16, 25), (16, 27)] (ty := tys) rfl (by decide +kernel) ?_)) <;> (try (conv => whnf)))
              refine ⟨⟨⟨f, n, p + 1, m, x, _, _⟩, (by (try dsimp only [cond_true, cond_false]); exact ⟨⟨rfl, rfl, rfl, rfl, rfl, rfl, trivial⟩, ⟨rfl, rfl, rfl, rfl, rfl, rfl, trivial⟩⟩), ?_, ?_⟩⟩
              · exact ⟨by show p + 1 ≤ _; omega, hr, hx, hn0, hmt, fun h => no_more (hmf h) hcan⟩
              · show H.length - (p + 1) < H.length - p; omega
            · have hcan : canCome H f p = true := by simp [canCome, c1, c2]; omega
              repeat' ((with_reducible (first | refine sCall.of (qa _) ?_ | refine sCall.of (qb _) ?_ | refine gP ?_ | refine gN ?_ | refine fG.split (fun _ => ?_) (fun _ => ?_) | refine fG.not ?_ | refine gY ?_ | refine gF ?_ | refine fG.yes (flat_map (fun _ => rfl) _) ?_ | refine fG.bool (fun _ => ?_) (fun _ => ?_) | refine gS64 ?_ | refine gU8 ?_ | refine gI13 ?_ | refine fE.of rfl ?_ | refine gBq ?_ | refine gNum13 ?_ | refine gSet ?_ | refine gRd ?_ | refine gLk ?_ | refine gRow13 ?_ | refine fB.of (wide_map (fun _ => rfl) _) ?_ | refine fB.of (full_map (fun _ => rfl) _) ?_ | refine fB.of (full_map (fun x => full_rKept x) _) ?_ | refine fB.of (full_map (fun x => full_rInsL x) _) ?_ | refine fB.of (full_map (fun x => full_rItemL x) _) ?_ | refine fB.of (full_map (fun x => full_rEventL x) _) ?_ | refine fB.of (full_map (fun x => full_rState x) _) ?_ | refine fB.of (full_map (fun x => full_rIntL x) _) ?_ | refine gRf ?_ | refine sDraw.none (id := 14) (ty := tys) rfl (by decide +kernel) ?_ | refine sDraw.mk' (id := 15) [(1, 11), (4, 11), (8, 11), (10, 11)] (ty := tys) rfl (by decide +kernel) ?_ | refine sDraw.mk' (id := 16) [(16, 18), (16, 20), (16, 22), (16, 25), (16, 27)] (ty := tys) rfl (by decide +kernel) ?_)) <;> (try (conv => whnf)))
              refine ⟨⟨⟨goOn f p, n + 1, p + 1, true, x - 1, _, _⟩, (by (try dsimp only [cond_true, cond_false]); exact ⟨⟨rfl, rfl, rfl, rfl, rfl, rfl, trivial⟩, ⟨rfl, rfl, rfl, rfl, rfl, rfl, trivial⟩⟩), ?_, ?_⟩⟩
              · exact ⟨by show p + 1 ≤ _; omega, hr.step hpl hcan, by show x - 1 = (allEv H : Int) - ((n + 1 : Nat) : Int); omega, by show n0 ≤ n + 1; omega, (fun _ => by show n0 < n + 1; omega), fun h => by cases h⟩
              · show H.length - (p + 1) < H.length - p; omega
          · have hcan : canCome H f p = true := by simp [canCome, c1, c2]
            repeat' ((with_reducible (first | refine gP ?_ | refine gN ?_ | refine fG.split (fun _ => ?_) (fun _ => ?_) | refine fG.not ?_ | refine gY ?_ | refine gF ?_ | refine fG.yes (flat_map (fun _ => rfl) _) ?_ | refine fG.bool (fun _ => ?_) (fun _ => ?_) | refine gS64 ?_ | refine gU8 ?_ | refine gI13 ?_ | refine fE.of rfl ?_ | refine gBq ?_ | refine gNum13 ?_ | refine gSet ?_ | refine gRd ?_ | refine gLk ?_ | refine gRow13 ?_ | refine fB.of (wide_map (fun _ => rfl) _) ?_ | refine fB.of (full_map (fun _ => rfl) _) ?_ | refine fB.of (full_map (fun x => full_rKept x) _) ?_ | refine fB.of (full_map (fun x => full_rInsL x) _) ?_ | refine fB.of (full_map (fun x => full_rItemL x) _) ?_ | refine fB.of (full_map (fun x => full_rEventL x) _) ?_ | refine fB.of (full_map (fun x => full_rState x) _) ?_ | refine fB.of (full_map (fun x => full_rIntL x) _) ?_ | refine gRf ?_ | refine sDraw.none (id := 14) (ty := tys) rfl (by decide +kernel) ?_ | refine sDraw.mk' (id := 15) [(1, 11), (4, 11), (8, 11), (10, 11)] (ty := tys) rfl (by decide +kernel) ?_ | refine sDraw.mk' (id := 16) [(16, 18), (16, 20), (16, 22), (16, 25), (16, 27)] (ty := tys) rfl (by decide +kernel) ?_)) <;> (try (conv => whnf)))
            refine ⟨⟨⟨goOn f p, n + 1, p + 1, true, x - 1, _, _⟩, (by (try dsimp only [cond_true, cond_false]); exact ⟨⟨rfl, rfl, rfl, rfl, rfl, rfl, trivial⟩, ⟨rfl, rfl, rfl, rfl, rfl, rfl, trivial⟩⟩), ?_, ?_⟩⟩
            · exact ⟨by show p + 1 ≤ _; omega, hr.step hpl hcan, by show x - 1 = (allEv H : Int) - ((n + 1 : Nat) : Int); omega, by show n0 ≤ n + 1; omega, (fun _ => by show n0 < n + 1; omega), fun h => by cases h⟩
            · show H.length - (p + 1) < H.length - p; omega
      · repeat' ((with_reducible (first | refine gP ?_ | refine gN ?_ | refine fG.split (fun _ => ?_) (fun _ => ?_) | refine fG.not ?_ | refine gY ?_ | refine gF ?_ | refine fG.yes (flat_map (fun _ => rfl) _) ?_ | refine fG.bool (fun _ => ?_) (fun _ => ?_) | refine gS64 ?_ | refine gU8 ?_ | refine gI13 ?_ | refine fE.of rfl ?_ | refine gBq ?_ | refine gNum13 ?_ | refine gSet ?_ | refine gRd ?_ | refine gLk ?_ | refine gRow13 ?_ | refine fB.of (wide_map (fun _ => rfl) _) ?_ | refine fB.of (full_map (fun _ => rfl) _) ?_ | refine fB.of (full_map (fun x => full_rKept x) _) ?_ | refine fB.of (full_map (fun x => full_rInsL x) _) ?_ | refine fB.of (full_map (fun x => full_rItemL x) _) ?_ | refine fB.of (full_map (fun x => full_rEventL x) _) ?_ | refine fB.of (full_map (fun x => full_rState x) _) ?_ | refine fB.of (full_map (fun x => full_rIntL x) _) ?_ | refine gRf ?_ | refine sDraw.none (id := 14) (ty := tys) rfl (by decide +kernel) ?_ | refine sDraw.mk' (id := 15) [(1, 11), (4, 11), (8, 11), (10, 11)] (ty := tys) rfl (by decide +kernel) ?_ | refine sDraw.mk' (id := 16) [(16, 18), (16, 20), (16, 22), (16, 25), (16, 27)] (ty := tys) rfl (by decide +kernel) ?_)) <;> (try (conv => whnf)))
        refine ⟨⟨⟨f, n, 0, m, x, _, _⟩, (by (try dsimp only [cond_true, cond_false]); exact ⟨⟨rfl, rfl, rfl, rfl, rfl, trivial⟩, ⟨rfl, rfl, rfl, rfl, rfl, rfl, trivial⟩⟩), ?_, ?_⟩⟩
        · exact ⟨hr, hx, fun h q hq => hmf h q (by omega)⟩
        · show 2 * (allEv H - n) + (bif m then 1 else 0) < 2 * (allEv H - n0) + (bif true then 1 else 0)
          cases m with
          | true => have := hmt rfl; simp only [cond_true]; omega
          | false => simp only [cond_true, cond_false]; omega

end Go.Proofs.YtkmhbofkjcknjaaGreat.Abs
