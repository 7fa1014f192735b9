/- FnExactBack returns true for every input, and leaves its arguments as they read. Conditions: none beside the row's own. -/
import Derived.ChangeSame
import Derived.SizedLaws
import Derived.DataReads
import Derived.Carry
import Derived.WideShapes
import Derived.KernelRfl
import Derived.Test.YtlobpiebphnkiaaGreatRows
import Derived.WalkKit
import Derived.ProofKit
import Derived.OpenShut
import Derived.ShutString
import Derived.ChangeOld
import Derived.Below
import Derived.Test.YtlobpiebphnkiaaGreatJC6
namespace Go.Proofs.YtlobpiebphnkiaaGreat.Abs
open Go Go.Proofs
set_option linter.unusedVariables false
set_option linter.unusedSimpArgs false
attribute [local irreducible] callE
/-! ### A number named anew -/
theorem sW.eq {k : IntKind} {n r : Int} {F : Int → Prop} (e : k.wrap n = r) (h : F r) : sW k n F := ⟨by rw [e]; exact h⟩

/-! ### The system of programs and events -/
theorem drop_min (l : List Int) (t : Nat) : l.drop t = l.drop (min t l.length) := by
  rcases Nat.le_total t l.length with h | h
  · rw [Nat.min_eq_left h]
  · rw [Nat.min_eq_right h, List.drop_eq_nil_of_le h, List.drop_eq_nil_of_le (Nat.le_refl _)]
theorem rd_drop (l : List Int) (t j : Nat) : rd (l.drop t) j = rd l (t + j) := by simp [rd]
theorem gHole {α : Type} {l : List α} {n : Nat} {x : α} {F : α → Prop} (h : F x) (e : n < l.length := by first | omega | (simp only [List.length_map]; omega)) : fO (l.set n x)[n]? F := fO.of (by simp [e]) h
theorem snoc_rItem (l : List Item) (b : Bool) (x : Int) : l.map rItem ++ [[.v (.bool b), .v (.int .i64 x)]] = (l ++ [(⟨b, x⟩ : Item)]).map rItem := by simp [rItem]
theorem fill_self {α : Type} [Inhabited α] (l : List α) (j : Nat) (h : j < l.length) : (fill l j).set j default = fill l j := by
  apply List.ext_getElem?
  intro i
  simp only [fill, List.getElem?_set, List.getElem?_append, List.length_take, List.getElem?_take, List.getElem?_replicate, List.length_append, List.length_replicate]
  by_cases e : j = i
  · subst e
    simp [h, Nat.min_eq_left (Nat.le_of_lt h)]
  · simp [e]
theorem gI16 {p A : Prop} (h : A) (e : p := by first | with_reducible assumption | omega | (simp only [Nat.zero_add, Nat.add_zero, Nat.sub_zero, Int.toNat_natCast, Int.toNat_zero, Int.toNat_one, List.length_map, List.length_nil, Int.reduceToNat, Nat.reduceAdd, Nat.reduceSub, Int.sub_zero, Int.reduceAdd, Int.reduceSub, Nat.sub_self, Int.toNat_natCast_add_one, marks_len, bs_len, List.length_append, List.length_cons, List.length_set, List.length_replicate, List.length_range]; first | done | omega)) : sI p A := sI.mk e h
theorem gNum16 {r r' : Nat} {F : Nat → Prop} (h : F r') (e : r = r' := by first | (simp only [Nat.zero_add, Nat.add_zero, Nat.sub_zero, Int.toNat_natCast, Int.toNat_zero, Int.toNat_one, List.length_map, List.length_nil, Int.reduceToNat, Nat.reduceAdd, Nat.reduceSub, Int.sub_zero, Int.reduceAdd, Int.reduceSub, Nat.sub_self, Int.toNat_natCast_add_one, marks_len, bs_len]; rfl) | rfl) : sN r F := sN.eq e h
theorem gRow16 {r r' : List (List T)} {F : List (List T) → Prop} (h : F r') (e : r = r' := by first | (simp only [Nat.add_zero, Nat.zero_add, Nat.reduceAdd, List.drop_zero, List.take_succ_cons, List.take_nil, List.drop_succ_cons, List.drop_nil, List.take_zero, List.nil_append, List.append_nil, List.map_nil, drop_suf, take_pre, drop_map, List.take_length, take_len_set, take_len_app, List.set_set, List.length_map, snoc_rItem, snoc_rInsL, snoc_rItemL, snoc_rEventL, snoc_rState, set_rWho, rep_rWho, snoc_rWho, set_rState, rep_rState, set_rInsL, rep_rInsL, set_rItemL, rep_rItemL, set_rEventL, rep_rEventL, set_rItem, rep_rItem, rep_rKept, marks_take, set_rKept, set_rIns, rep_rIns, set_rEvent, rep_rEvent, snoc_rKept, snoc_rEvent, snoc_rIns, bytesT_bs, snoc_rI, snoc_rB, snoc_rBool, set_rI, set_rBool, rep_rI, rep_rBool, map_app]; rfl) | rfl) : sR r F := sR.eq e h
def procsOk (P : List (List Ins)) (H : List (List Event)) : Bool := allBelow P.length fun p => (replayAll (rd P p) (rd H p)).isSome && peersOk (rd H p) P.length
/-- Is there a system of these programs and events? -/
def ofOk (P : List (List Ins)) (H : List (List Event)) : Bool := procsOk P H && sysOk P (stsOf P H) (waysOf H P.length) H
structure SB where
  j : Nat
  lp : List (List Ins)
  ls : List State
  lh : List (List Event)
  v0 : AV
  v1 : AV
  v3 : AV
  b0 : Nat
  b1 : Nat
  b3 : Nat
  c0 : Cont
  c1 : Cont
  c3 : Cont
  dd : Bool
def SB.ok (P : List (List Ins)) (H : List (List Event)) (n0 n1 n3 : Nat) (z : SB) : Prop :=
  (z.lp = P.take z.j ∧ z.ls = (stsOf P H).take z.j ∧ z.lh = H.take z.j) ∧
  ((z.j = 0 ∧ (z.v0 = .nl 1 ∧ z.v1 = .nl 4 ∧ z.v3 = .nl 1) ∧ (z.b0 = 0 ∧ z.b1 = 0 ∧ z.b3 = 0) ∧ (z.c0 = .dead ∧ z.c1 = .dead ∧ z.c3 = .dead)) ∨
   (0 < z.j ∧ (z.v0 = .h n0 z.b0 0 [] 1 0 z.lp.length ∧ z.v1 = .h n1 z.b1 0 [] 4 0 z.ls.length ∧ z.v3 = .h n3 z.b3 0 [] 1 0 z.lh.length) ∧ (z.c0 = tInsSS9 z.lp ∧ z.c1 = tStateS9 z.ls ∧ z.c3 = tEventSS9 z.lh)))
theorem stsOf_len (P : List (List Ins)) (H : List (List Event)) : (stsOf P H).length = P.length := by simp [stsOf]
theorem stsOf_rd {P : List (List Ins)} {H : List (List Event)} {p : Nat} (hp : p < P.length) : rd (stsOf P H) p = stOf (replayAll (rd P p) (rd H p)) := rd_range _ hp
theorem waysOf_len (H : List (List Event)) (n : Nat) : (waysOf H n).length = n * n := by simp [waysOf]
theorem ofB {P : List (List Ins)} {H : List (List Event)} (hn1 : 1 ≤ P.length) (hp : P.length ≤ 4) (hh : H.length = P.length) (hx : ∀ j : Nat, j < P.length → (rd P j).length ≤ 1000000000) (hy : ∀ j : Nat, j < H.length → (rd H j).length ≤ 1000000000) (h : procsOk P H = true) :
    SysB 10000000000 P (stsOf P H) (waysOf H P.length) H := by
  have hnn : P.length * P.length ≤ 4 * 4 := Nat.mul_le_mul hp hp
  refine ⟨by omega, fun j hj => by have := hx j hj; omega, by rw [stsOf_len]; omega, fun j hj => ?_, by rw [waysOf_len]; omega, fun j hj => ?_, by omega, fun j hj => by have := hy j hj; omega⟩
  · rw [stsOf_len] at hj
    rw [stsOf_rd hj]
    have h1 := allBelow_eq.1 h j hj
    rw [Bool.and_eq_true] at h1
    have h2 := replay_take h1.1 (rd H j).length
    rw [List.take_length] at h2
    have h3 := h2.2.regs
    have h4 := h2.2.out
    omega
  · rw [waysOf_len] at hj
    have hm : j / P.length < H.length := by rw [hh]; exact Nat.div_lt_of_lt_mul (by omega)
    have h1 := hy (j / P.length) hm
    have h2 := vals_le (rd H (j / P.length)) 2 (j % P.length : Nat)
    show (rd (waysOf H P.length) j).length ≤ _
    unfold waysOf
    rw [rd_range _ hj]
    simp only [wayOf, leftOf, List.length_map, List.length_drop]
    omega
structure WB where
  a : Nat
  w : List (List Item)
  g : Nat
  d : Bool
structure WI where
  j : Nat
  w : List (List Item)
  g : Nat
  d : Bool
  bb : Nat
set_option maxRecDepth 20000 in
set_option maxHeartbeats 8000000 in
theorem ok_impl_systemOf (k : Nat) (P : List (List Ins)) (H : List (List Event)) (hn1 : 1 ≤ P.length) (hp : P.length ≤ 4) (hh : H.length = P.length) (hx : ∀ j : Nat, j < P.length → (rd P j).length ≤ 1000000000) (hy : ∀ j : Nat, j < H.length → (rd H j).length ≤ 1000000000) :
    callE PR C (k + 12) 185 [.h 1000000 0 0 [] 1 0 P.length, .h 1000001 0 0 [] 1 0 H.length] [tInsSS P, tEventSS H] =
      some (if ofOk P H = true then ⟨.tu [nSys 0 P (stsOf P H) (waysOf H P.length) H, bl true], [tInsSS9 P, tStateS9 (stsOf P H), tItemSS9 (waysOf H P.length), tEventSS9 H], [none, none]⟩ else ⟨.tu [nSys 0 [] [] [] [], bl false], [tInsSS9 [], tStateS9 [], tItemSS9 [], tEventSS9 []], [none, none]⟩) := by
  have hnn : P.length * P.length ≤ 4 * 4 := Nat.mul_le_mul hp hp
  have w1 : IntKind.i64.wrap ((P.length : Int) * (P.length : Int)) = ((P.length * P.length : Nat) : Int) := by
    rw [show (P.length : Int) * (P.length : Int) = ((P.length * P.length : Nat) : Int) by simp]; exact wrap_i64 _ (by omega) (by omega)
  have hTl := waysOf_len H P.length
  have hsl := stsOf_len P H
  (refine callE_is (callE_w [ResultVar.cell 4 42, ResultVar.tmp 5] rfl Tryz.func185 rfl (by decide +kernel) rfl (by simp) ?_); (conv => whnf))
  repeat' ((with_reducible (first | refine sW.eq (w1) ?_|refine gP ?_|refine gN ?_|refine fG.split (fun _ => ?_) (fun _ => ?_)|refine fG.not ?_|refine gY ?_|refine gF ?_|refine fG.yes (flat_map (fun _ => rfl) _) ?_|refine fG.bool (fun _ => ?_) (fun _ => ?_)|refine gS64 ?_|refine gU8 ?_|refine gI16 ?_|refine fE.of rfl ?_|refine gNum16 ?_|refine gSet ?_|refine gRd ?_|refine gLk ?_|refine gRow16 ?_|refine gRf4 ?_|refine sDraw.mk' (id := 9) [(1, 3), (1, 4)] (ty := tys) rfl (by decide +kernel) ?_|refine sDraw.mk' (id := 11) [(1, 6), (1, 7)] (ty := tys) rfl (by decide +kernel) ?_|refine sDraw.mk' (id := 24) [(1, 18), (8, 18), (15, 18), (1, 19)] (ty := tys) rfl (by decide +kernel) ?_)) <;> (try (conv => whnf)))
  refine loop_rule (ι := SB) (fun z => [(1, .h 1000001 0 0 [] 1 0 H.length), (4, .pt 4 1 0 [] 0 0), (6, i64 P.length), (7, .pt 7 1 0 [] 0 0), (25, .h 1000000 0 0 [] 1 0 P.length), (26, i64 P.length), (27, i64 (z.j : Nat))])
    (fun z => [(1000000, ⟨0, 0, false, tInsSS P⟩), (1000001, ⟨0, 0, false, tEventSS H⟩), (4, ⟨1, 0, false, .box [.nl 1, .nl 4, .nl 1, .nl 1]⟩), (7, ⟨1, 0, z.dd, .box [z.v0, z.v1, .h 23 1 0 [] 1 0 (P.length * P.length), z.v3]⟩), (23, ⟨1, 0, false, tItemSS9 (List.replicate (P.length * P.length) default)⟩), (58, ⟨z.b0, 0, false, z.c0⟩), (64, ⟨z.b1, 0, false, z.c1⟩), (74, ⟨z.b3, 0, false, z.c3⟩)])
    (fun z => P.length - z.j) (fun z => z.j ≤ P.length ∧ (∀ q, q < z.j → ((replayAll (rd P q) (rd H q)).isSome && peersOk (rd H q) P.length) = true) ∧ SB.ok P H 58 64 74 z)
    ⟨0, [], [], [], .nl 1, .nl 4, .nl 1, 0, 0, 0, .dead, .dead, .dead, _⟩ (by (try dsimp only [cond_true, cond_false]); exact ⟨⟨rfl, rfl, rfl, rfl, rfl, rfl, rfl, trivial⟩, ⟨rfl, rfl, rfl, rfl, rfl, rfl, rfl, rfl, trivial⟩⟩) ⟨Nat.zero_le _, fun q h => absurd h (Nat.not_lt_zero q), ⟨rfl, rfl, rfl⟩, .inl ⟨rfl, ⟨rfl, rfl, rfl⟩, ⟨rfl, rfl, rfl⟩, ⟨rfl, rfl, rfl⟩⟩⟩ (by simp [C]; omega) ?_
  rintro ⟨j, lp, ls, lh, v0, v1, v3, b0, b1, b3, c0, c1, c3, dd⟩ sl ob ⟨hj, hok, ⟨hlp, hls, hlh⟩, hg⟩
  dsimp only at hj hok hlp hls hlh hg
  by_cases hjl : j < P.length
  · have hxj := hx j hjl
    have hyj := hy j (by omega)
    have q1 := fun k => ok_impl_Replay' k (rd P j) (rd H j) (by omega) (by omega)
    have q2 := fun k => ok_impl_peersOk k (rd H j) P.length (by omega) (by omega) (by omega)
    have q3 := fun k => ok_Clone_Ins k (rd P j) (by omega)
    have q4 := fun k => ok_Clone_Event k (rd H j) (by omega)
    have er : rd (stsOf P H) j = stOf (replayAll (rd P j) (rd H j)) := stsOf_rd hjl
    cases hb : ((replayAll (rd P j) (rd H j)).isSome && peersOk (rd H j) P.length) with
    | false =>
      have e0 : ofOk P H = false := by
        unfold ofOk procsOk
        rw [allBelow_no (f := fun p => (replayAll (rd P p) (rd H p)).isSome && peersOk (rd H p) P.length) hjl hb, Bool.false_and]
      rw [e0]
      cases hb1 : (replayAll (rd P j) (rd H j)).isSome with
      | false =>
        simp only [hb1] at q1
        rcases hg with ⟨e1, ⟨f1, f2, f3⟩, ⟨f4, f5, f6⟩, ⟨f7, f8, f9⟩⟩ | ⟨h0, ⟨f1, f2, f3⟩, ⟨f7, f8, f9⟩⟩
        all_goals subst f1 f2 f3 f7 f8 f9
        all_goals (try dsimp only [cond_true, cond_false])
        all_goals (conv => whnf)
        all_goals repeat' ((with_reducible (first | refine sCall.of (q1 _) ?_|refine gP ?_|refine gN ?_|refine fG.split (fun _ => ?_) (fun _ => ?_)|refine fG.not ?_|refine gY ?_|refine gF ?_|refine fG.yes (flat_map (fun _ => rfl) _) ?_|refine fG.bool (fun _ => ?_) (fun _ => ?_)|refine gS64 ?_|refine gU8 ?_|refine gI16 ?_|refine fE.of rfl ?_|refine gNum16 ?_|refine gSet ?_|refine gRd ?_|refine gLk ?_|refine gRow16 ?_|refine gRf4 ?_|refine sDraw.mk' (id := 9) [(1, 3), (1, 4)] (ty := tys) rfl (by decide +kernel) ?_|refine sDraw.mk' (id := 11) [(1, 6), (1, 7)] (ty := tys) rfl (by decide +kernel) ?_|refine sDraw.mk' (id := 24) [(1, 18), (8, 18), (15, 18), (1, 19)] (ty := tys) rfl (by decide +kernel) ?_)) <;> (try (conv => whnf)))
        all_goals rfl
      | true =>
        rw [hb1, Bool.true_and] at hb
        simp only [hb1] at q1
        simp only [hb] at q2
        rcases hg with ⟨e1, ⟨f1, f2, f3⟩, ⟨f4, f5, f6⟩, ⟨f7, f8, f9⟩⟩ | ⟨h0, ⟨f1, f2, f3⟩, ⟨f7, f8, f9⟩⟩
        all_goals subst f1 f2 f3 f7 f8 f9
        all_goals (try dsimp only [cond_true, cond_false])
        all_goals (conv => whnf)
        all_goals repeat' ((with_reducible (first | refine sCall.of (q1 _) ?_|refine sCall.of (q2 _) ?_|refine gP ?_|refine gN ?_|refine fG.split (fun _ => ?_) (fun _ => ?_)|refine fG.not ?_|refine gY ?_|refine gF ?_|refine fG.yes (flat_map (fun _ => rfl) _) ?_|refine fG.bool (fun _ => ?_) (fun _ => ?_)|refine gS64 ?_|refine gU8 ?_|refine gI16 ?_|refine fE.of rfl ?_|refine gNum16 ?_|refine gSet ?_|refine gRd ?_|refine gLk ?_|refine gRow16 ?_|refine gRf4 ?_|refine sDraw.mk' (id := 9) [(1, 3), (1, 4)] (ty := tys) rfl (by decide +kernel) ?_|refine sDraw.mk' (id := 11) [(1, 6), (1, 7)] (ty := tys) rfl (by decide +kernel) ?_|refine sDraw.mk' (id := 24) [(1, 18), (8, 18), (15, 18), (1, 19)] (ty := tys) rfl (by decide +kernel) ?_)) <;> (try (conv => whnf)))
        all_goals rfl
    | true =>
      rw [Bool.and_eq_true] at hb
      simp only [hb.1] at q1
      simp only [hb.2] at q2
      rw [← er] at q1
      have hok' : ∀ q, q < j + 1 → ((replayAll (rd P q) (rd H q)).isSome && peersOk (rd H q) P.length) = true := fun q hq => by
        rcases Nat.lt_succ_iff_lt_or_eq.1 hq with h | h
        · exact hok q h
        · rw [h, hb.1, hb.2]; rfl
      have hst := (hb.1)
      rcases hg with ⟨e1, ⟨f1, f2, f3⟩, ⟨f4, f5, f6⟩, ⟨f7, f8, f9⟩⟩ | ⟨h0, ⟨f1, f2, f3⟩, ⟨f7, f8, f9⟩⟩
      · subst e1 f1 f2 f3 f4 f5 f6 f7 f8 f9 hlp hls hlh
        (try dsimp only [cond_true, cond_false])
        (conv => whnf)
        repeat' ((with_reducible (first | refine sCall.of (q1 _) ?_|refine sCall.of (q2 _) ?_|refine sCall.of (q3 _) ?_|refine sCall.of (q4 _) ?_|refine gP ?_|refine gN ?_|refine fG.split (fun _ => ?_) (fun _ => ?_)|refine fG.not ?_|refine gY ?_|refine gF ?_|refine fG.yes (flat_map (fun _ => rfl) _) ?_|refine fG.bool (fun _ => ?_) (fun _ => ?_)|refine gS64 ?_|refine gU8 ?_|refine gI16 ?_|refine fE.of rfl ?_|refine gNum16 ?_|refine gSet ?_|refine gRd ?_|refine gLk ?_|refine gRow16 ?_|refine gRf4 ?_|refine sDraw.mk' (id := 9) [(1, 3), (1, 4)] (ty := tys) rfl (by decide +kernel) ?_|refine sDraw.mk' (id := 11) [(1, 6), (1, 7)] (ty := tys) rfl (by decide +kernel) ?_|refine sDraw.mk' (id := 24) [(1, 18), (8, 18), (15, 18), (1, 19)] (ty := tys) rfl (by decide +kernel) ?_)) <;> (try (conv => whnf)))
        refine ⟨⟨⟨0 + 1, [rd P 0], [rd (stsOf P H) 0], [rd H 0], _, _, _, _, _, _, _, _, _, _⟩, (by (try dsimp only [cond_true, cond_false]); exact ⟨⟨rfl, rfl, rfl, rfl, rfl, rfl, rfl, trivial⟩, ⟨rfl, rfl, rfl, rfl, rfl, rfl, rfl, rfl, trivial⟩⟩), ?_, ?_⟩⟩
        · exact ⟨by show 0 + 1 ≤ _; omega, hok', ⟨by show _ = P.take (0 + 1); rw [take_rd hjl]; rfl, by show _ = (stsOf P H).take (0 + 1); rw [take_rd (by omega)]; rfl, by show _ = H.take (0 + 1); rw [take_rd (by omega)]; rfl⟩, .inr ⟨Nat.one_pos, ⟨rfl, rfl, rfl⟩, ⟨rfl, rfl, rfl⟩⟩⟩
        · show P.length - (0 + 1) < P.length - 0; omega
      · have l0 : lp.length = j := by rw [hlp]; simp; omega
        have l1 : ls.length = j := by rw [hls]; simp; omega
        have l3 : lh.length = j := by rw [hlh]; simp; omega
        subst f1 f2 f3 f7 f8 f9
        (try dsimp only [cond_true, cond_false])
        (conv => whnf)
        repeat' ((with_reducible (first | refine sCall.of (q1 _) ?_|refine sCall.of (q2 _) ?_|refine sCall.of (q3 _) ?_|refine sCall.of (q4 _) ?_|refine gP ?_|refine gN ?_|refine fG.split (fun _ => ?_) (fun _ => ?_)|refine fG.not ?_|refine gY ?_|refine gF ?_|refine fG.yes (flat_map (fun _ => rfl) _) ?_|refine fG.bool (fun _ => ?_) (fun _ => ?_)|refine gS64 ?_|refine gU8 ?_|refine gI16 ?_|refine fE.of rfl ?_|refine gNum16 ?_|refine gSet ?_|refine gRd ?_|refine gLk ?_|refine gRow16 ?_|refine gRf4 ?_|refine sDraw.mk' (id := 9) [(1, 3), (1, 4)] (ty := tys) rfl (by decide +kernel) ?_|refine sDraw.mk' (id := 11) [(1, 6), (1, 7)] (ty := tys) rfl (by decide +kernel) ?_|refine sDraw.mk' (id := 24) [(1, 18), (8, 18), (15, 18), (1, 19)] (ty := tys) rfl (by decide +kernel) ?_)) <;> (try (conv => whnf)))
        refine ⟨⟨⟨j + 1, lp ++ [rd P j], ls ++ [rd (stsOf P H) j], lh ++ [rd H j], _, _, _, _, _, _, _, _, _, _⟩, (by (try dsimp only [cond_true, cond_false]); exact ⟨⟨rfl, rfl, rfl, rfl, rfl, rfl, rfl, trivial⟩, ⟨rfl, rfl, rfl, rfl, rfl, rfl, rfl, rfl, trivial⟩⟩), ?_, ?_⟩⟩
        · exact ⟨by show j + 1 ≤ _; omega, hok', ⟨by show _ = P.take (j + 1); rw [take_rd hjl, hlp], by show _ = (stsOf P H).take (j + 1); rw [take_rd (by omega), hls], by show _ = H.take (j + 1); rw [take_rd (by omega), hlh]⟩, .inr ⟨Nat.succ_pos j, ⟨rfl, rfl, rfl⟩, ⟨rfl, rfl, rfl⟩⟩⟩
        · show P.length - (j + 1) < P.length - j; omega
  · have hpo : procsOk P H = true := allBelow_yes fun q hq => hok q (by omega)
    rw [List.take_of_length_le (by omega)] at hlp hls hlh
    rcases hg with ⟨e1, ⟨f1, f2, f3⟩, ⟨f4, f5, f6⟩, ⟨f7, f8, f9⟩⟩ | ⟨h0, ⟨f1, f2, f3⟩, ⟨f7, f8, f9⟩⟩
    · exfalso; omega
    · rw [hlp] at f1 f7
      rw [hls] at f2 f8
      rw [hlh] at f3 f9
      subst f1 f2 f3 f7 f8 f9
      clear hlp hls hlh hok
      (try dsimp only [cond_true, cond_false])
      (conv => whnf)
      repeat' ((with_reducible (first | refine gP ?_|refine gN ?_|refine fG.split (fun _ => ?_) (fun _ => ?_)|refine fG.not ?_|refine gY ?_|refine gF ?_|refine fG.yes (flat_map (fun _ => rfl) _) ?_|refine fG.bool (fun _ => ?_) (fun _ => ?_)|refine gS64 ?_|refine gU8 ?_|refine gI16 ?_|refine fE.of rfl ?_|refine gNum16 ?_|refine gSet ?_|refine gRd ?_|refine gLk ?_|refine gRow16 ?_|refine gRf4 ?_|refine sDraw.mk' (id := 9) [(1, 3), (1, 4)] (ty := tys) rfl (by decide +kernel) ?_|refine sDraw.mk' (id := 11) [(1, 6), (1, 7)] (ty := tys) rfl (by decide +kernel) ?_|refine sDraw.mk' (id := 24) [(1, 18), (8, 18), (15, 18), (1, 19)] (ty := tys) rfl (by decide +kernel) ?_)) <;> (try (conv => whnf)))
      refine loop_rule (ι := WB) (fun z => [(4, .pt 4 1 0 [] 0 0), (6, i64 P.length), (7, .pt 7 1 0 [] 0 0), (77, i64 P.length), (78, i64 (z.a : Nat))])
        (fun z => [(1000000, ⟨0, 0, false, tInsSS P⟩), (1000001, ⟨0, 0, false, tEventSS H⟩), (4, ⟨1, 0, false, .box [.nl 1, .nl 4, .nl 1, .nl 1]⟩), (7, ⟨1, 0, dd, .box [.h 58 b0 0 [] 1 0 P.length, .h 64 b1 0 [] 4 0 (stsOf P H).length, .h 23 1 0 [] 1 0 (P.length * P.length), .h 74 b3 0 [] 1 0 H.length]⟩), (23, ⟨1, z.g, z.d, tItemSS9 z.w⟩), (58, ⟨b0, 0, false, tInsSS9 P⟩), (64, ⟨b1, 0, false, tStateS9 (stsOf P H)⟩), (74, ⟨b3, 0, false, tEventSS9 H⟩)])
        (fun z => P.length - z.a) (fun z => z.a ≤ P.length ∧ z.w = fill (waysOf H P.length) (z.a * P.length)) ⟨0, List.replicate (P.length * P.length) default, _, _⟩ (by (try dsimp only [cond_true, cond_false]); exact ⟨⟨rfl, rfl, rfl, rfl, rfl, trivial⟩, ⟨rfl, rfl, rfl, rfl, rfl, rfl, rfl, rfl, trivial⟩⟩) ⟨Nat.zero_le _, by show _ = fill _ (0 * P.length); rw [Nat.zero_mul, fill_zero, hTl]⟩ (by simp [C]; omega) ?_
      clear sl ob
      rintro ⟨a, w, g, d⟩ sl ob ⟨ha, hw⟩
      dsimp only at ha hw
      (try dsimp only [cond_true, cond_false])
      (conv => whnf)
      by_cases hal : a < P.length
      · repeat' ((with_reducible (first | refine gP ?_|refine gN ?_|refine fG.split (fun _ => ?_) (fun _ => ?_)|refine fG.not ?_|refine gY ?_|refine gF ?_|refine fG.yes (flat_map (fun _ => rfl) _) ?_|refine fG.bool (fun _ => ?_) (fun _ => ?_)|refine gS64 ?_|refine gU8 ?_|refine gI16 ?_|refine fE.of rfl ?_|refine gNum16 ?_|refine gSet ?_|refine gRd ?_|refine gLk ?_|refine gRow16 ?_|refine gRf4 ?_|refine sDraw.mk' (id := 9) [(1, 3), (1, 4)] (ty := tys) rfl (by decide +kernel) ?_|refine sDraw.mk' (id := 11) [(1, 6), (1, 7)] (ty := tys) rfl (by decide +kernel) ?_|refine sDraw.mk' (id := 24) [(1, 18), (8, 18), (15, 18), (1, 19)] (ty := tys) rfl (by decide +kernel) ?_)) <;> (try (conv => whnf)))
        refine loop_rule (ι := WB) (fun z => [(4, .pt 4 1 0 [] 0 0), (6, i64 P.length), (7, .pt 7 1 0 [] 0 0), (12, i64 (a : Nat)), (77, i64 P.length), (78, i64 (a : Nat)), (81, i64 P.length), (82, i64 (z.a : Nat))])
          (fun z => [(1000000, ⟨0, 0, false, tInsSS P⟩), (1000001, ⟨0, 0, false, tEventSS H⟩), (4, ⟨1, 0, false, .box [.nl 1, .nl 4, .nl 1, .nl 1]⟩), (7, ⟨1, 0, dd, .box [.h 58 b0 0 [] 1 0 P.length, .h 64 b1 0 [] 4 0 (stsOf P H).length, .h 23 1 0 [] 1 0 (P.length * P.length), .h 74 b3 0 [] 1 0 H.length]⟩), (23, ⟨1, z.g, z.d, tItemSS9 z.w⟩), (58, ⟨b0, 0, false, tInsSS9 P⟩), (64, ⟨b1, 0, false, tStateS9 (stsOf P H)⟩), (74, ⟨b3, 0, false, tEventSS9 H⟩)])
          (fun z => P.length - z.a) (fun z => z.a ≤ P.length ∧ z.w = fill (waysOf H P.length) (a * P.length + z.a)) ⟨0, w, _, _⟩ (by (try dsimp only [cond_true, cond_false]); exact ⟨⟨rfl, rfl, rfl, rfl, rfl, rfl, rfl, rfl, trivial⟩, ⟨rfl, rfl, rfl, rfl, rfl, rfl, rfl, rfl, trivial⟩⟩) ⟨Nat.zero_le _, hw⟩ (by simp [C]; omega) ?_
        clear sl ob hw w g d
        rintro ⟨b, w, g, d⟩ sl ob ⟨hb, hw⟩
        dsimp only at hb hw
        (try dsimp only [cond_true, cond_false])
        (conv => whnf)
        by_cases hbl : b < P.length
        · have hya := hy a (by omega)
          have hyb := hy b (by omega)
          have hva := vals_le (rd H a) 2 b
          have hcb := vals_le (rd H b) 3 a
          have q5 := fun k => ok_impl_Values k (rd H a) 2 b (by omega)
          have q6 := fun k => ok_impl_Count k (rd H b) 3 a (by omega)
          have hL : leftOf H a b = (vals (rd H a) 2 b).drop (min (cnt (rd H b) 3 a) (vals (rd H a) 2 b).length) := drop_min _ _
          have hcnt : cnt (rd H b) 3 a = (vals (rd H b) 3 a).length := rfl
          have hmin : (if ((vals (rd H a) 2 b).length : Int) < (cnt (rd H b) 3 a : Int) then ((vals (rd H a) 2 b).length : Int) else (cnt (rd H b) 3 a : Int)) = ((min (cnt (rd H b) 3 a) (vals (rd H a) 2 b).length : Nat) : Int) := by
            split <;> omega
          have htl : min (cnt (rd H b) 3 a) (vals (rd H a) 2 b).length ≤ (vals (rd H a) 2 b).length := Nat.min_le_right _ _
          generalize vals (rd H a) 2 b = sent at *
          generalize cnt (rd H b) 3 a = took at *
          generalize min took sent.length = tk at *
          have hpl := place_lt hal hbl
          have hT : rd (waysOf H P.length) (a * P.length + b) = wayOf (leftOf H a b) := rd_waysOf hal hbl
          have wm : IntKind.i64.wrap ((a : Int) * (P.length : Int)) = ((a * P.length : Nat) : Int) := by
            rw [show (a : Int) * (P.length : Int) = ((a * P.length : Nat) : Int) by simp]; exact wrap_i64 _ (by omega) (by omega)
          have wa : IntKind.i64.wrap (((a * P.length : Nat) : Int) + (b : Int)) = ((a * P.length + b : Nat) : Int) := by rw [wrap_i64 _ (by omega) (by omega)]; simp
          generalize ham : a * P.length = am at *
          generalize hix : am + b = ix at *
          repeat' ((with_reducible (first | refine sCall.of (q5 _) ?_|refine sCall.of (q6 _) ?_|refine sZ.eq (hmin) ?_|refine gP ?_|refine gN ?_|refine fG.split (fun _ => ?_) (fun _ => ?_)|refine fG.not ?_|refine gY ?_|refine gF ?_|refine fG.yes (flat_map (fun _ => rfl) _) ?_|refine fG.bool (fun _ => ?_) (fun _ => ?_)|refine gS64 ?_|refine gU8 ?_|refine gI16 ?_|refine fE.of rfl ?_|refine gNum16 ?_|refine gSet ?_|refine gRd ?_|refine gLk ?_|refine gRow16 ?_|refine gRf4 ?_|refine sDraw.mk' (id := 9) [(1, 3), (1, 4)] (ty := tys) rfl (by decide +kernel) ?_|refine sDraw.mk' (id := 11) [(1, 6), (1, 7)] (ty := tys) rfl (by decide +kernel) ?_|refine sDraw.mk' (id := 24) [(1, 18), (8, 18), (15, 18), (1, 19)] (ty := tys) rfl (by decide +kernel) ?_)) <;> (try (conv => whnf)))
          refine loop_rule (ι := WI) (fun z => [(4, .pt 4 1 0 [] 0 0), (6, i64 P.length), (7, .pt 7 1 0 [] 0 0), (12, i64 (a : Nat)), (13, i64 (b : Nat)), (77, i64 P.length), (78, i64 (a : Nat)), (81, i64 P.length), (82, i64 (b : Nat)), (104, .h 10091 z.bb 0 [] 1 tk (sent.length - tk)), (105, i64 (sent.length - tk : Nat)), (106, i64 (z.j : Nat))])
            (fun z => [(1000000, ⟨0, 0, false, tInsSS P⟩), (1000001, ⟨0, 0, false, tEventSS H⟩), (4, ⟨1, 0, false, .box [.nl 1, .nl 4, .nl 1, .nl 1]⟩), (7, ⟨1, 0, dd, .box [.h 58 b0 0 [] 1 0 P.length, .h 64 b1 0 [] 4 0 (stsOf P H).length, .h 23 1 0 [] 1 0 (P.length * P.length), .h 74 b3 0 [] 1 0 H.length]⟩), (23, ⟨1, z.g, z.d, tItemSS9 z.w⟩), (58, ⟨b0, 0, false, tInsSS9 P⟩), (64, ⟨b1, 0, false, tStateS9 (stsOf P H)⟩), (74, ⟨b3, 0, false, tEventSS9 H⟩), (10091, ⟨z.bb, 0, false, tI9 sent⟩)])
            (fun z => sent.length - tk - z.j) (fun z => z.j ≤ sent.length - tk ∧ z.w = (fill (waysOf H P.length) ix).set ix (wayOf ((leftOf H a b).take z.j))) ⟨0, w, _, _, _⟩ (by (try dsimp only [cond_true, cond_false]); exact ⟨⟨rfl, rfl, rfl, rfl, rfl, rfl, rfl, rfl, rfl, rfl, rfl, rfl, trivial⟩, ⟨rfl, rfl, rfl, rfl, rfl, rfl, rfl, rfl, rfl, trivial⟩⟩) ⟨Nat.zero_le _, by show w = (fill _ ix).set ix default; rw [fill_self _ _ (by omega)]; exact hw⟩ (by simp [C]; omega) ?_
          clear sl ob hw w g d
          rintro ⟨j, w, g, d, bb⟩ sl ob ⟨hj, hw⟩
          dsimp only at hj hw
          have hwl : w.length = P.length * P.length := by rw [hw, List.length_set, fill_len, hTl]
          have hll : (leftOf H a b).length = sent.length - tk := by rw [hL, List.length_drop]
          (try dsimp only [cond_true, cond_false])
          (conv => whnf)
          by_cases hjl : j < sent.length - tk
          · have hwx : rd w ix = wayOf ((leftOf H a b).take j) := by rw [hw]; simp [rd, fill_len, hTl, hpl]
            have hwxl : (rd w ix).length = j := by rw [hwx]; simp [wayOf]; omega
            have hnx : rd (leftOf H a b) j = rd sent (tk + j) := by rw [hL, rd_drop]
            repeat' ((with_reducible (first | refine sW.eq (wm) ?_|refine sW.eq (wa) ?_|refine gHole ?_|refine gP ?_|refine gN ?_|refine fG.split (fun _ => ?_) (fun _ => ?_)|refine fG.not ?_|refine gY ?_|refine gF ?_|refine fG.yes (flat_map (fun _ => rfl) _) ?_|refine fG.bool (fun _ => ?_) (fun _ => ?_)|refine gS64 ?_|refine gU8 ?_|refine gI16 ?_|refine fE.of rfl ?_|refine gNum16 ?_|refine gSet ?_|refine gRd ?_|refine gLk ?_|refine gRow16 ?_|refine gRf4 ?_|refine sDraw.mk' (id := 9) [(1, 3), (1, 4)] (ty := tys) rfl (by decide +kernel) ?_|refine sDraw.mk' (id := 11) [(1, 6), (1, 7)] (ty := tys) rfl (by decide +kernel) ?_|refine sDraw.mk' (id := 24) [(1, 18), (8, 18), (15, 18), (1, 19)] (ty := tys) rfl (by decide +kernel) ?_)) <;> (try (conv => whnf)))
            refine ⟨⟨⟨j + 1, w.set ix (rd w ix ++ [⟨false, rd sent (tk + j)⟩]), _, _, _⟩, (by (try dsimp only [cond_true, cond_false]); exact ⟨⟨rfl, rfl, rfl, rfl, rfl, rfl, rfl, rfl, rfl, rfl, rfl, rfl, trivial⟩, ⟨rfl, rfl, rfl, rfl, rfl, rfl, rfl, rfl, rfl, trivial⟩⟩), ?_, ?_⟩⟩
            · exact ⟨by show j + 1 ≤ _; omega, by show w.set ix _ = _; rw [hwx, hw, List.set_set, take_rd (by omega), hnx]; simp [wayOf]⟩
            · show sent.length - tk - (j + 1) < sent.length - tk - j; omega
          · repeat' ((with_reducible (first | refine gP ?_|refine gN ?_|refine fG.split (fun _ => ?_) (fun _ => ?_)|refine fG.not ?_|refine gY ?_|refine gF ?_|refine fG.yes (flat_map (fun _ => rfl) _) ?_|refine fG.bool (fun _ => ?_) (fun _ => ?_)|refine gS64 ?_|refine gU8 ?_|refine gI16 ?_|refine fE.of rfl ?_|refine gNum16 ?_|refine gSet ?_|refine gRd ?_|refine gLk ?_|refine gRow16 ?_|refine gRf4 ?_|refine sDraw.mk' (id := 9) [(1, 3), (1, 4)] (ty := tys) rfl (by decide +kernel) ?_|refine sDraw.mk' (id := 11) [(1, 6), (1, 7)] (ty := tys) rfl (by decide +kernel) ?_|refine sDraw.mk' (id := 24) [(1, 18), (8, 18), (15, 18), (1, 19)] (ty := tys) rfl (by decide +kernel) ?_)) <;> (try (conv => whnf)))
            refine ⟨⟨⟨b + 1, w, _, _⟩, (by (try dsimp only [cond_true, cond_false]); exact ⟨⟨rfl, rfl, rfl, rfl, rfl, rfl, rfl, rfl, trivial⟩, ⟨rfl, rfl, rfl, rfl, rfl, rfl, rfl, rfl, trivial⟩⟩), ?_, ?_⟩⟩
            · refine ⟨by show b + 1 ≤ _; omega, ?_⟩
              show w = fill _ (am + (b + 1))
              rw [hw, List.take_of_length_le (by omega), ← hT, fill_set _ _ (by omega), ← Nat.add_assoc, hix]
            · show P.length - (b + 1) < P.length - b; omega
        · repeat' ((with_reducible (first | refine gP ?_|refine gN ?_|refine fG.split (fun _ => ?_) (fun _ => ?_)|refine fG.not ?_|refine gY ?_|refine gF ?_|refine fG.yes (flat_map (fun _ => rfl) _) ?_|refine fG.bool (fun _ => ?_) (fun _ => ?_)|refine gS64 ?_|refine gU8 ?_|refine gI16 ?_|refine fE.of rfl ?_|refine gNum16 ?_|refine gSet ?_|refine gRd ?_|refine gLk ?_|refine gRow16 ?_|refine gRf4 ?_|refine sDraw.mk' (id := 9) [(1, 3), (1, 4)] (ty := tys) rfl (by decide +kernel) ?_|refine sDraw.mk' (id := 11) [(1, 6), (1, 7)] (ty := tys) rfl (by decide +kernel) ?_|refine sDraw.mk' (id := 24) [(1, 18), (8, 18), (15, 18), (1, 19)] (ty := tys) rfl (by decide +kernel) ?_)) <;> (try (conv => whnf)))
          refine ⟨⟨⟨a + 1, w, _, _⟩, (by (try dsimp only [cond_true, cond_false]); exact ⟨⟨rfl, rfl, rfl, rfl, rfl, trivial⟩, ⟨rfl, rfl, rfl, rfl, rfl, rfl, rfl, rfl, trivial⟩⟩), ?_, ?_⟩⟩
          · exact ⟨by show a + 1 ≤ _; omega, by show w = fill _ ((a + 1) * P.length); rw [hw, Nat.add_mul, Nat.one_mul, show b = P.length by omega]⟩
          · show P.length - (a + 1) < P.length - a; omega
      · have hwT : w = waysOf H P.length := by rw [hw, show a = P.length by omega, ← hTl, fill_all]
        subst hwT
        have et : List.take (P.length * P.length) (waysOf H P.length) = waysOf H P.length := List.take_of_length_le (by omega)
        have q7 : ∀ k, callE PR C (k + 11) 66 [.ag [.h 1000000 0 0 [] 1 0 P.length, .h 1000001 0 0 [] 4 0 (stsOf P H).length, .h 1000002 0 0 [] 1 0 (List.take (P.length * P.length) (waysOf H P.length)).length, .h 1000003 0 0 [] 1 0 H.length]] [tInsSS P, tStateS (stsOf P H), tItemSS (List.take (P.length * P.length) (waysOf H P.length)), tEventSS H] = some ⟨bl (sysOk P (stsOf P H) (waysOf H P.length) H), [], [none, none, none, none]⟩ := by
          intro k
          rw [et]
          exact ok_impl_SysOk k P (stsOf P H) (waysOf H P.length) H (ofB hn1 hp hh hx hy hpo)
        have e0 : ofOk P H = sysOk P (stsOf P H) (waysOf H P.length) H := by unfold ofOk; rw [hpo, Bool.true_and]
        rw [e0]
        cases e : sysOk P (stsOf P H) (waysOf H P.length) H with
        | false =>
          simp only [e] at q7
          repeat' ((with_reducible (first | refine sCall.of (q7 _) ?_|refine gP ?_|refine gN ?_|refine fG.split (fun _ => ?_) (fun _ => ?_)|refine fG.not ?_|refine gY ?_|refine gF ?_|refine fG.yes (flat_map (fun _ => rfl) _) ?_|refine fG.bool (fun _ => ?_) (fun _ => ?_)|refine gS64 ?_|refine gU8 ?_|refine gI16 ?_|refine fE.of rfl ?_|refine gNum16 ?_|refine gSet ?_|refine gRd ?_|refine gLk ?_|refine gRow16 ?_|refine gRf4 ?_|refine sDraw.mk' (id := 9) [(1, 3), (1, 4)] (ty := tys) rfl (by decide +kernel) ?_|refine sDraw.mk' (id := 11) [(1, 6), (1, 7)] (ty := tys) rfl (by decide +kernel) ?_|refine sDraw.mk' (id := 24) [(1, 18), (8, 18), (15, 18), (1, 19)] (ty := tys) rfl (by decide +kernel) ?_)) <;> (try (conv => whnf)))
          all_goals rfl
        | true =>
          simp only [e] at q7
          repeat' ((with_reducible (first | refine sCall.of (q7 _) ?_|refine gP ?_|refine gN ?_|refine fG.split (fun _ => ?_) (fun _ => ?_)|refine fG.not ?_|refine gY ?_|refine gF ?_|refine fG.yes (flat_map (fun _ => rfl) _) ?_|refine fG.bool (fun _ => ?_) (fun _ => ?_)|refine gS64 ?_|refine gU8 ?_|refine gI16 ?_|refine fE.of rfl ?_|refine gNum16 ?_|refine gSet ?_|refine gRd ?_|refine gLk ?_|refine gRow16 ?_|refine gRf4 ?_|refine sDraw.mk' (id := 9) [(1, 3), (1, 4)] (ty := tys) rfl (by decide +kernel) ?_|refine sDraw.mk' (id := 11) [(1, 6), (1, 7)] (ty := tys) rfl (by decide +kernel) ?_|refine sDraw.mk' (id := 24) [(1, 18), (8, 18), (15, 18), (1, 19)] (ty := tys) rfl (by decide +kernel) ?_)) <;> (try (conv => whnf)))
          simp only [et, if_true, nSys, hTl] <;> rfl

end Go.Proofs.YtlobpiebphnkiaaGreat.Abs
namespace Go.Proofs.YtlobpiebphnkiaaGreat.Abs
open Go Go.Proofs
set_option linter.unusedVariables false
set_option linter.unusedSimpArgs false
attribute [local irreducible] callE
/-! ### The system at a cut: both programs -/
theorem cut_ofOk {P : List (List Ins)} {S : List State} {W : List (List Item)} {H : List (List Event)} {c : List Int} (h : sysOk P S W H = true) (hc : FOk H c) (hw : wholeB H c = true) : ofOk P (cutH H c) = waysFit (cutH H c) P.length := by
  unfold ofOk
  rw [cut_sysOk h hc hw]
  simp only [sysOk, sizesOk, inB, Bool.and_eq_true, decide_eq_true_eq, allBelow_eq] at h
  obtain ⟨⟨a1, a2, a3, a4⟩, b1, b2, b3, b4⟩ := h
  have : procsOk P (cutH H c) = true := by
    unfold procsOk
    rw [allBelow_eq]
    intro p hp
    have h1 := b2 p hp
    simp only [procOk, Bool.and_eq_true, stoodAs] at h1 ⊢
    rw [rd_cutH (by omega)]
    refine ⟨replayAll_cut h1.2.2.1 _, ?_⟩
    have h2 := h1.2.1
    simp only [peersOk, List.all_eq_true] at h2 ⊢
    intro e he
    exact h2 e (List.mem_of_mem_take he)
  rw [this, Bool.true_and]
def zeroRes (b : List (Option Cont)) : Res := ⟨.tu [nSys 0 [] [] [] [], bl false], [tInsSS9 [], tStateS9 [], tItemSS9 [], tEventSS9 []], b⟩
def atRes (P : List (List Ins)) (H : List (List Event)) (b : List (Option Cont)) : Res := ⟨.tu [nSys 0 P (stsOf P H) (waysOf H P.length) H, bl true], [tInsSS9 P, tStateS9 (stsOf P H), tItemSS9 (waysOf H P.length), tEventSS9 H], b⟩
structure AT where
  j : Nat
  l : List (List Event)
  o : Nat
  b : Nat
  lv : Nat
set_option maxHeartbeats 4000000 in
theorem ok_impl_At (k : Nat) (P : List (List Ins)) (S : List State) (W : List (List Item)) (H : List (List Event)) (c : List Int) (hb : SysB 1000000000 P S W H) (e : sysOk P S W H = true) (hc : FOk H c) :
    callE PR C (k + 14) 96 [aSys 0 P S W H, .h 1000004 0 0 [] 1 0 c.length] [tInsSS P, tStateS S, tItemSS W, tEventSS H, tI c] =
      some (if wholeB H c = true ∧ waysFit (cutH H c) P.length = true then atRes P (cutH H c) [none, none, none, none, none] else zeroRes [none, none, none, none, none]) := by
  have q1 := fun k => ok_impl_Whole k P S W H c (hb.mono (by decide)) e hc
  cases hw : wholeB H c with
  | false =>
    simp only [hw] at q1
    rw [if_neg (by simp)]
    (refine callE_is (callE_w [ResultVar.cell 4 42, ResultVar.tmp 5] rfl Tryz.func96 rfl (by decide +kernel) rfl (by simp) ?_); (conv => whnf))
    repeat' ((with_reducible (first | refine sCall.of (q1 _) ?_|refine gP ?_|refine gN ?_|refine fG.split (fun _ => ?_) (fun _ => ?_)|refine fG.not ?_|refine gY ?_|refine gF ?_|refine fG.yes (flat_map (fun _ => rfl) _) ?_|refine fG.bool (fun _ => ?_) (fun _ => ?_)|refine gS64 ?_|refine gU8 ?_|refine gI16 ?_|refine fE.of rfl ?_|refine gNum16 ?_|refine gSet ?_|refine gRd ?_|refine gLk ?_|refine gRow16 ?_|refine gRf4 ?_)) <;> (try (conv => whnf)))
    all_goals rfl
  | true =>
    simp only [hw] at q1
    obtain ⟨hI, hP, hS, h200⟩ := sysOk_facts e
    have hN := hI.n
    have hHl := hI.h
    have hcl := hc.len
    have hcut := cutH_len H c
    have q2 := fun k => ok_impl_systemOf k P (cutH H c) hN.1 hN.2 (by omega) (fun j hj => hb.pp j hj) (fun j hj => by
      rw [cutH_len] at hj
      rw [rd_cutH hj, List.length_take]
      have := h200 j hj
      omega)
    rw [cut_ofOk e hc hw] at q2
    (refine callE_is (callE_w [ResultVar.cell 4 42, ResultVar.tmp 5] rfl Tryz.func96 rfl (by decide +kernel) rfl (by simp) ?_); (conv => whnf))
    repeat' ((with_reducible (first | refine sCall.of (q1 _) ?_|refine gP ?_|refine gN ?_|refine fG.split (fun _ => ?_) (fun _ => ?_)|refine fG.not ?_|refine gY ?_|refine gF ?_|refine fG.yes (flat_map (fun _ => rfl) _) ?_|refine fG.bool (fun _ => ?_) (fun _ => ?_)|refine gS64 ?_|refine gU8 ?_|refine gI16 ?_|refine fE.of rfl ?_|refine gNum16 ?_|refine gSet ?_|refine gRd ?_|refine gLk ?_|refine gRow16 ?_|refine gRf4 ?_)) <;> (try (conv => whnf)))
    refine loop_rule (ι := AT) (fun z => [(2, .pt 2 1 0 [] 0 0), (4, .pt 4 1 0 [] 0 0), (6, .h z.o z.b 0 [] 1 0 z.l.length), (15, .h 1000004 0 0 [] 1 0 c.length), (16, i64 c.length), (17, i64 (z.j : Nat))])
      (fun z => [(1000000, ⟨0, 0, false, tInsSS P⟩), (1000001, ⟨0, 0, false, tStateS S⟩), (1000002, ⟨0, 0, false, tItemSS W⟩), (1000003, ⟨0, 0, false, tEventSS H⟩), (1000004, ⟨0, 0, false, tI c⟩), (2, ⟨1, 0, false, bSys P S W H⟩), (4, ⟨1, 0, false, .box [.nl 1, .nl 4, .nl 1, .nl 1]⟩), (z.o, ⟨z.b, 0, false, .tree z.lv (.sl 1 (z.l.map rEventL))⟩)])
      (fun z => c.length - z.j) (fun z => z.j ≤ c.length ∧ z.l = (cutH H c).take z.j ∧ (z.o = 14 ∧ z.lv = 9 ∨ z.o = 31 ∧ z.lv = 1)) ⟨0, [], 14, _, 9⟩ (by (try dsimp only [cond_true, cond_false]); exact ⟨⟨rfl, rfl, rfl, rfl, rfl, rfl, trivial⟩, ⟨rfl, rfl, rfl, rfl, rfl, rfl, rfl, rfl, trivial⟩⟩) ⟨Nat.zero_le _, rfl, .inl ⟨rfl, rfl⟩⟩ (by simp [C]; omega) ?_
    clear q1
    rintro ⟨j, out, o, b, lv⟩ sl ob ⟨hj, hout, ho⟩
    dsimp only at hj hout ho
    have hle : out.length ≤ H.length := by rw [hout]; simp; omega
    by_cases hjl : j < c.length
    · have hr := hc.rng j (by omega)
      have hlj := h200 j (by omega)
      have e4 : (List.map rEvent (rd H j)).length = (rd H j).length := by simp
      rcases ho with ⟨rfl, rfl⟩ | ⟨rfl, rfl⟩
      all_goals (try dsimp only [cond_true, cond_false])
      all_goals (conv => whnf)
      all_goals repeat' ((with_reducible (first | refine gP ?_|refine gN ?_|refine fG.split (fun _ => ?_) (fun _ => ?_)|refine fG.not ?_|refine gY ?_|refine gF ?_|refine fG.yes (flat_map (fun _ => rfl) _) ?_|refine fG.bool (fun _ => ?_) (fun _ => ?_)|refine gS64 ?_|refine gU8 ?_|refine gI16 ?_|refine fE.of rfl ?_|refine gNum16 ?_|refine gSet ?_|refine gRd ?_|refine gLk ?_|refine gRow16 ?_|refine gRf4 ?_)) <;> (try (conv => whnf)))
      all_goals
        refine ⟨⟨⟨j + 1, out ++ [(rd H j).take (rd c j).toNat], 31, _, 1⟩, (by (try dsimp only [cond_true, cond_false]); exact ⟨⟨rfl, rfl, rfl, rfl, rfl, rfl, trivial⟩, ⟨rfl, rfl, rfl, rfl, rfl, rfl, rfl, rfl, trivial⟩⟩), ?_, ?_⟩⟩
        · exact ⟨by show j + 1 ≤ _; omega, by show _ = (cutH H c).take (j + 1); rw [take_rd (by omega), hout, rd_cutH (by omega)], .inr ⟨rfl, rfl⟩⟩
        · show c.length - (j + 1) < c.length - j; omega
    · rw [List.take_of_length_le (by omega)] at hout
      subst hout
      cases hf : waysFit (cutH H c) P.length
      all_goals simp only [hf, if_true, Bool.false_eq_true, if_false, and_false, and_self] at q2 ⊢
      all_goals rcases ho with ⟨rfl, rfl⟩ | ⟨rfl, rfl⟩
      all_goals (try dsimp only [cond_true, cond_false])
      all_goals (conv => whnf)
      all_goals repeat' ((with_reducible (first | refine sCall.of (q2 _) ?_|refine gP ?_|refine gN ?_|refine fG.split (fun _ => ?_) (fun _ => ?_)|refine fG.not ?_|refine gY ?_|refine gF ?_|refine fG.yes (flat_map (fun _ => rfl) _) ?_|refine fG.bool (fun _ => ?_) (fun _ => ?_)|refine gS64 ?_|refine gU8 ?_|refine gI16 ?_|refine fE.of rfl ?_|refine gNum16 ?_|refine gSet ?_|refine gRd ?_|refine gLk ?_|refine gRow16 ?_|refine gRf4 ?_)) <;> (try (conv => whnf)))
      all_goals rfl

/-! ### The reference's system at a cut -/
theorem waysFit_no {H : List (List Event)} {n a b : Nat} (ha : a < n) (hb : b < n) (h : ¬ (leftOf H a b).length ≤ 12) : waysFit H n = false :=
  allBelow_no (f := fun a => allBelow n fun b => decide ((leftOf H a b).length ≤ 12)) ha (allBelow_no (f := fun b => decide ((leftOf H a b).length ≤ 12)) hb (decide_eq_false h))
theorem waysFit_yes {H : List (List Event)} {n : Nat} (h : ∀ a, a < n → ∀ b, b < n → (leftOf H a b).length ≤ 12) : waysFit H n = true :=
  allBelow_yes fun a ha => allBelow_yes fun b hb => decide_eq_true (h a ha b hb)
set_option maxRecDepth 20000 in
set_option maxHeartbeats 8000000 in
theorem ok_spec_l8At (k : Nat) (P : List (List Ins)) (S : List State) (W : List (List Item)) (H : List (List Event)) (c : List Int) (hb : SysB 1000000000 P S W H) (e : sysOk P S W H = true) (hc : FOk H c) (hw : wholeB H c = true) :
    callE PR C (k + 8) 94 [aSys 0 P S W H, .h 1000004 0 0 [] 1 0 c.length] [tInsSS P, tStateS S, tItemSS W, tEventSS H, tI c] =
      some (if waysFit (cutH H c) P.length = true then atRes P (cutH H c) [none, none, none, none, none] else zeroRes [none, none, none, none, none]) := by
  obtain ⟨hI, hP, hS, h200⟩ := sysOk_facts e
  have hN := hI.n
  have hHl := hI.h
  have hcl := hc.len
  have hcut := cutH_len H c
  have hnn : P.length * P.length ≤ 4 * 4 := Nat.mul_le_mul hN.2 hN.2
  have w1 : IntKind.i64.wrap ((P.length : Int) * (P.length : Int)) = ((P.length * P.length : Nat) : Int) := by
    rw [show (P.length : Int) * (P.length : Int) = ((P.length * P.length : Nat) : Int) by simp]; exact wrap_i64 _ (by omega) (by omega)
  have hTl := waysOf_len (cutH H c) P.length
  have hsl := stsOf_len P (cutH H c)
  have q0 := fun k => ok_spec_l4Ins k P (by omega) (fun j hj => by have := hb.pp j hj; omega)
  have hwh : ∀ a b, a < P.length → b < P.length → (vals (rd (cutH H c) b) 3 a).length ≤ (vals (rd (cutH H c) a) 2 b).length := fun a b ha hb => by
    have := wholeB_eq.1 hw a b (by omega) (by omega)
    rw [rd_cutH (by omega), rd_cutH (by omega)]
    exact this
  have h2c : ∀ j : Nat, j < P.length → (rd (cutH H c) j).length ≤ 200 := fun j hj => by
    rw [rd_cutH (by omega), List.length_take]
    have := h200 j (by omega)
    omega
  (refine callE_is (callE_w [ResultVar.cell 4 42, ResultVar.tmp 5] rfl Tryz.func94 rfl (by decide +kernel) rfl (by simp) ?_); (conv => whnf))
  repeat' ((with_reducible (first | refine sCall.of (q0 _) ?_|refine sW.eq (w1) ?_|refine gP ?_|refine gN ?_|refine fG.split (fun _ => ?_) (fun _ => ?_)|refine fG.not ?_|refine gY ?_|refine gF ?_|refine fG.yes (flat_map (fun _ => rfl) _) ?_|refine fG.bool (fun _ => ?_) (fun _ => ?_)|refine gS64 ?_|refine gU8 ?_|refine gI16 ?_|refine fE.of rfl ?_|refine gNum16 ?_|refine gSet ?_|refine gRd ?_|refine gLk ?_|refine gRow16 ?_|refine gRf4 ?_|refine sDraw.mk' (id := 2) [(1, 6), (2, 6), (1, 8), (2, 8), (6, 8)] (ty := tys) rfl (by decide +kernel) ?_|refine sDraw.mk' (id := 6) [(0, 2), (0, 5), (0, 9)] (ty := tys) rfl (by decide +kernel) ?_|refine sDraw.mk' (id := 21) [(1, 21), (8, 21), (15, 21), (1, 22)] (ty := tys) rfl (by decide +kernel) ?_)) <;> (try (conv => whnf)))
  refine loop_rule (ι := SB) (fun z => [(1, .h 1000004 0 0 [] 1 0 c.length), (2, .pt 2 1 0 [] 0 0), (4, .pt 4 1 0 [] 0 0), (6, i64 P.length), (7, .pt 7 1 0 [] 0 0), (8, i64 (z.j : Nat))])
    (fun z => [(1000000, ⟨0, 0, false, tInsSS P⟩), (1000001, ⟨0, 0, false, tStateS S⟩), (1000002, ⟨0, 0, false, tItemSS W⟩), (1000003, ⟨0, 0, false, tEventSS H⟩), (1000004, ⟨0, 0, false, tI c⟩), (2, ⟨1, 0, false, bSys P S W H⟩), (4, ⟨1, 0, false, .box [.nl 1, .nl 4, .nl 1, .nl 1]⟩), (7, ⟨1, 0, z.dd, .box [.h 10022 1 0 [] 1 0 P.length, z.v1, .h 26 1 0 [] 1 0 (P.length * P.length), z.v3]⟩), (10022, ⟨1, 0, false, tInsSS9 P⟩), (26, ⟨1, 0, false, tItemSS9 (List.replicate (P.length * P.length) default)⟩), (65, ⟨z.b1, 0, false, z.c1⟩), (59, ⟨z.b3, 0, false, z.c3⟩)])
    (fun z => P.length - z.j) (fun z => z.j ≤ P.length ∧ SB.ok P (cutH H c) 58 65 59 z)
    ⟨0, [], [], [], .nl 1, .nl 4, .nl 1, 0, 0, 0, .dead, .dead, .dead, _⟩ (by (try dsimp only [cond_true, cond_false]); exact ⟨⟨rfl, rfl, rfl, rfl, rfl, rfl, trivial⟩, ⟨rfl, rfl, rfl, rfl, rfl, rfl, rfl, rfl, rfl, rfl, rfl, rfl, trivial⟩⟩) ⟨Nat.zero_le _, ⟨rfl, rfl, rfl⟩, .inl ⟨rfl, ⟨rfl, rfl, rfl⟩, ⟨rfl, rfl, rfl⟩, ⟨rfl, rfl, rfl⟩⟩⟩ (by simp [C]; omega) ?_
  rintro ⟨j, lp, ls, lh, v0, v1, v3, b0, b1, b3, c0, c1, c3, dd⟩ sl ob ⟨hj, ⟨hlp, hls, hlh⟩, hg⟩
  dsimp only at hj hlp hls hlh hg
  by_cases hjl : j < P.length
  · have hxj := hb.pp j hjl
    have hyj := h200 j (by omega)
    have hr := hc.rng j (by omega)
    have e4 : (List.map rEvent (rd H j)).length = (rd H j).length := by simp
    have e5 : (List.take (rd c j).toNat (rd H j)).length ≤ (rd H j).length := by simp; omega
    have q1 := fun k => ok_spec_Replay' k (rd P j) (rd (cutH H c) j) (by omega) (by have := h2c j hjl; omega)
    have er : rd (stsOf P (cutH H c)) j = stOf (replayAll (rd P j) (rd (cutH H c) j)) := stsOf_rd hjl
    rw [← er] at q1
    rw [rd_cutH (show j < H.length by omega)] at q1
    have ec : (rd H j).take (rd c j).toNat = rd (cutH H c) j := (rd_cutH (by omega)).symm
    rcases hg with ⟨e1, ⟨f1, f2, f3⟩, ⟨f4, f5, f6⟩, ⟨f7, f8, f9⟩⟩ | ⟨h0, ⟨f1, f2, f3⟩, ⟨f7, f8, f9⟩⟩
    · subst e1 f1 f2 f3 f4 f5 f6 f7 f8 f9 hlp hls hlh
      (try dsimp only [cond_true, cond_false])
      (conv => whnf)
      repeat' ((with_reducible (first | refine sCall.of (q1 _) ?_|refine gP ?_|refine gN ?_|refine fG.split (fun _ => ?_) (fun _ => ?_)|refine fG.not ?_|refine gY ?_|refine gF ?_|refine fG.yes (flat_map (fun _ => rfl) _) ?_|refine fG.bool (fun _ => ?_) (fun _ => ?_)|refine gS64 ?_|refine gU8 ?_|refine gI16 ?_|refine fE.of rfl ?_|refine gNum16 ?_|refine gSet ?_|refine gRd ?_|refine gLk ?_|refine gRow16 ?_|refine gRf4 ?_|refine sDraw.mk' (id := 2) [(1, 6), (2, 6), (1, 8), (2, 8), (6, 8)] (ty := tys) rfl (by decide +kernel) ?_|refine sDraw.mk' (id := 6) [(0, 2), (0, 5), (0, 9)] (ty := tys) rfl (by decide +kernel) ?_|refine sDraw.mk' (id := 21) [(1, 21), (8, 21), (15, 21), (1, 22)] (ty := tys) rfl (by decide +kernel) ?_)) <;> (try (conv => whnf)))
      refine ⟨⟨⟨0 + 1, [rd P 0], [rd (stsOf P (cutH H c)) 0], [(rd H 0).take (rd c 0).toNat], .h 58 0 0 [] 1 0 1, _, _, 0, _, _, tInsSS9 [rd P 0], _, _, _⟩, (by (try dsimp only [cond_true, cond_false]); exact ⟨⟨rfl, rfl, rfl, rfl, rfl, rfl, trivial⟩, ⟨rfl, rfl, rfl, rfl, rfl, rfl, rfl, rfl, rfl, rfl, rfl, rfl, trivial⟩⟩), ?_, ?_⟩⟩
      · exact ⟨by show 0 + 1 ≤ _; omega, ⟨by show _ = P.take (0 + 1); rw [take_rd hjl]; rfl, by show _ = (stsOf P (cutH H c)).take (0 + 1); rw [take_rd (by omega)]; rfl, by show _ = (cutH H c).take (0 + 1); rw [take_rd (by omega), ← ec]; rfl⟩, .inr ⟨Nat.one_pos, ⟨rfl, rfl, rfl⟩, ⟨rfl, rfl, rfl⟩⟩⟩
      · show P.length - (0 + 1) < P.length - 0; omega
    · have l1 : ls.length = j := by rw [hls]; simp; omega
      have l3 : lh.length = j := by rw [hlh]; simp; omega
      subst f1 f2 f3 f7 f8 f9
      (try dsimp only [cond_true, cond_false])
      (conv => whnf)
      repeat' ((with_reducible (first | refine sCall.of (q1 _) ?_|refine gP ?_|refine gN ?_|refine fG.split (fun _ => ?_) (fun _ => ?_)|refine fG.not ?_|refine gY ?_|refine gF ?_|refine fG.yes (flat_map (fun _ => rfl) _) ?_|refine fG.bool (fun _ => ?_) (fun _ => ?_)|refine gS64 ?_|refine gU8 ?_|refine gI16 ?_|refine fE.of rfl ?_|refine gNum16 ?_|refine gSet ?_|refine gRd ?_|refine gLk ?_|refine gRow16 ?_|refine gRf4 ?_|refine sDraw.mk' (id := 2) [(1, 6), (2, 6), (1, 8), (2, 8), (6, 8)] (ty := tys) rfl (by decide +kernel) ?_|refine sDraw.mk' (id := 6) [(0, 2), (0, 5), (0, 9)] (ty := tys) rfl (by decide +kernel) ?_|refine sDraw.mk' (id := 21) [(1, 21), (8, 21), (15, 21), (1, 22)] (ty := tys) rfl (by decide +kernel) ?_)) <;> (try (conv => whnf)))
      refine ⟨⟨⟨j + 1, lp ++ [rd P j], ls ++ [rd (stsOf P (cutH H c)) j], lh ++ [(rd H j).take (rd c j).toNat], .h 58 0 0 [] 1 0 (lp ++ [rd P j]).length, _, _, 0, _, _, tInsSS9 (lp ++ [rd P j]), _, _, _⟩, (by (try dsimp only [cond_true, cond_false]); exact ⟨⟨rfl, rfl, rfl, rfl, rfl, rfl, trivial⟩, ⟨rfl, rfl, rfl, rfl, rfl, rfl, rfl, rfl, rfl, rfl, rfl, rfl, trivial⟩⟩), ?_, ?_⟩⟩
      · exact ⟨by show j + 1 ≤ _; omega, ⟨by show _ = P.take (j + 1); rw [take_rd hjl, hlp], by show _ = (stsOf P (cutH H c)).take (j + 1); rw [take_rd (by omega), hls], by show _ = (cutH H c).take (j + 1); rw [take_rd (by omega), hlh, ← ec]⟩, .inr ⟨Nat.succ_pos j, ⟨rfl, rfl, rfl⟩, ⟨rfl, rfl, rfl⟩⟩⟩
      · show P.length - (j + 1) < P.length - j; omega
  · rw [List.take_of_length_le (by omega)] at hls hlh
    rcases hg with ⟨e1, ⟨f1, f2, f3⟩, ⟨f4, f5, f6⟩, ⟨f7, f8, f9⟩⟩ | ⟨h0, ⟨f1, f2, f3⟩, ⟨f7, f8, f9⟩⟩
    · exfalso; omega
    · rw [hls] at f2 f8
      rw [hlh] at f3 f9
      subst f1 f2 f3 f7 f8 f9
      clear hlp hls hlh
      generalize cutH H c = H' at *
      (try dsimp only [cond_true, cond_false])
      (conv => whnf)
      repeat' ((with_reducible (first | refine gP ?_|refine gN ?_|refine fG.split (fun _ => ?_) (fun _ => ?_)|refine fG.not ?_|refine gY ?_|refine gF ?_|refine fG.yes (flat_map (fun _ => rfl) _) ?_|refine fG.bool (fun _ => ?_) (fun _ => ?_)|refine gS64 ?_|refine gU8 ?_|refine gI16 ?_|refine fE.of rfl ?_|refine gNum16 ?_|refine gSet ?_|refine gRd ?_|refine gLk ?_|refine gRow16 ?_|refine gRf4 ?_|refine sDraw.mk' (id := 2) [(1, 6), (2, 6), (1, 8), (2, 8), (6, 8)] (ty := tys) rfl (by decide +kernel) ?_|refine sDraw.mk' (id := 6) [(0, 2), (0, 5), (0, 9)] (ty := tys) rfl (by decide +kernel) ?_|refine sDraw.mk' (id := 21) [(1, 21), (8, 21), (15, 21), (1, 22)] (ty := tys) rfl (by decide +kernel) ?_)) <;> (try (conv => whnf)))
      refine loop_rule (ι := WB) (fun z => [(4, .pt 4 1 0 [] 0 0), (6, i64 P.length), (7, .pt 7 1 0 [] 0 0), (12, i64 (z.a : Nat))])
        (fun z => [(1000000, ⟨0, 0, false, tInsSS P⟩), (1000001, ⟨0, 0, false, tStateS S⟩), (1000002, ⟨0, 0, false, tItemSS W⟩), (1000003, ⟨0, 0, false, tEventSS H⟩), (1000004, ⟨0, 0, false, tI c⟩), (4, ⟨1, 0, false, .box [.nl 1, .nl 4, .nl 1, .nl 1]⟩), (7, ⟨1, 0, dd, .box [.h 10022 1 0 [] 1 0 P.length, .h 65 b1 0 [] 4 0 (stsOf P H').length, .h 26 1 0 [] 1 0 (P.length * P.length), .h 59 b3 0 [] 1 0 H'.length]⟩), (10022, ⟨1, 0, false, tInsSS9 P⟩), (26, ⟨1, z.g, z.d, tItemSS9 z.w⟩), (65, ⟨b1, 0, false, tStateS9 (stsOf P H')⟩), (59, ⟨b3, 0, false, tEventSS9 H'⟩)])
        (fun z => P.length - z.a) (fun z => z.a ≤ P.length ∧ z.w = fill (waysOf H' P.length) (z.a * P.length) ∧ ∀ x, x < z.a → ∀ y, y < P.length → (leftOf H' x y).length ≤ 12) ⟨0, List.replicate (P.length * P.length) default, _, _⟩ (by (try dsimp only [cond_true, cond_false]); exact ⟨⟨rfl, rfl, rfl, rfl, trivial⟩, ⟨rfl, rfl, rfl, rfl, rfl, rfl, rfl, rfl, rfl, rfl, rfl, trivial⟩⟩) ⟨Nat.zero_le _, by show _ = fill _ (0 * P.length); rw [Nat.zero_mul, fill_zero, hTl], fun x h => absurd h (Nat.not_lt_zero x)⟩ (by simp [C]; omega) ?_
      clear sl ob
      rintro ⟨a, w, g, d⟩ sl ob ⟨ha, hw', hfa⟩
      dsimp only at ha hw' hfa
      (try dsimp only [cond_true, cond_false])
      (conv => whnf)
      by_cases hal : a < P.length
      · repeat' ((with_reducible (first | refine gP ?_|refine gN ?_|refine fG.split (fun _ => ?_) (fun _ => ?_)|refine fG.not ?_|refine gY ?_|refine gF ?_|refine fG.yes (flat_map (fun _ => rfl) _) ?_|refine fG.bool (fun _ => ?_) (fun _ => ?_)|refine gS64 ?_|refine gU8 ?_|refine gI16 ?_|refine fE.of rfl ?_|refine gNum16 ?_|refine gSet ?_|refine gRd ?_|refine gLk ?_|refine gRow16 ?_|refine gRf4 ?_|refine sDraw.mk' (id := 2) [(1, 6), (2, 6), (1, 8), (2, 8), (6, 8)] (ty := tys) rfl (by decide +kernel) ?_|refine sDraw.mk' (id := 6) [(0, 2), (0, 5), (0, 9)] (ty := tys) rfl (by decide +kernel) ?_|refine sDraw.mk' (id := 21) [(1, 21), (8, 21), (15, 21), (1, 22)] (ty := tys) rfl (by decide +kernel) ?_)) <;> (try (conv => whnf)))
        refine loop_rule (ι := WB) (fun z => [(4, .pt 4 1 0 [] 0 0), (6, i64 P.length), (7, .pt 7 1 0 [] 0 0), (12, i64 (a : Nat)), (13, i64 (z.a : Nat))])
          (fun z => [(1000000, ⟨0, 0, false, tInsSS P⟩), (1000001, ⟨0, 0, false, tStateS S⟩), (1000002, ⟨0, 0, false, tItemSS W⟩), (1000003, ⟨0, 0, false, tEventSS H⟩), (1000004, ⟨0, 0, false, tI c⟩), (4, ⟨1, 0, false, .box [.nl 1, .nl 4, .nl 1, .nl 1]⟩), (7, ⟨1, 0, dd, .box [.h 10022 1 0 [] 1 0 P.length, .h 65 b1 0 [] 4 0 (stsOf P H').length, .h 26 1 0 [] 1 0 (P.length * P.length), .h 59 b3 0 [] 1 0 H'.length]⟩), (10022, ⟨1, 0, false, tInsSS9 P⟩), (26, ⟨1, z.g, z.d, tItemSS9 z.w⟩), (65, ⟨b1, 0, false, tStateS9 (stsOf P H')⟩), (59, ⟨b3, 0, false, tEventSS9 H'⟩)])
          (fun z => P.length - z.a) (fun z => z.a ≤ P.length ∧ z.w = fill (waysOf H' P.length) (a * P.length + z.a) ∧ ∀ y, y < z.a → (leftOf H' a y).length ≤ 12) ⟨0, w, _, _⟩ (by (try dsimp only [cond_true, cond_false]); exact ⟨⟨rfl, rfl, rfl, rfl, rfl, trivial⟩, ⟨rfl, rfl, rfl, rfl, rfl, rfl, rfl, rfl, rfl, rfl, rfl, trivial⟩⟩) ⟨Nat.zero_le _, hw', fun x h => absurd h (Nat.not_lt_zero x)⟩ (by simp [C]; omega) ?_
        clear sl ob hw' w g d
        rintro ⟨b, w, g, d⟩ sl ob ⟨hb', hw', hfb⟩
        dsimp only at hb' hw' hfb
        (try dsimp only [cond_true, cond_false])
        (conv => whnf)
        by_cases hbl : b < P.length
        · have hya := h2c a hal
          have hyb := h2c b hbl
          have hva := vals_le (rd H' a) 2 b
          have q5 := fun k => ok_spec_Values k (rd H' a) 2 b (by omega)
          have q6 := fun k => ok_spec_Count k (rd H' b) 3 a (by omega)
          have hL : leftOf H' a b = (vals (rd H' a) 2 b).drop (cnt (rd H' b) 3 a) := rfl
          have htl : cnt (rd H' b) 3 a ≤ (vals (rd H' a) 2 b).length := hwh a b hal hbl
          generalize vals (rd H' a) 2 b = sent at *
          generalize cnt (rd H' b) 3 a = tk at *
          have hpl := place_lt hal hbl
          have hT : rd (waysOf H' P.length) (a * P.length + b) = wayOf (leftOf H' a b) := rd_waysOf hal hbl
          have hll : (leftOf H' a b).length = sent.length - tk := by rw [hL, List.length_drop]
          have wm : IntKind.i64.wrap ((a : Int) * (P.length : Int)) = ((a * P.length : Nat) : Int) := by
            rw [show (a : Int) * (P.length : Int) = ((a * P.length : Nat) : Int) by simp]; exact wrap_i64 _ (by omega) (by omega)
          have wa : IntKind.i64.wrap (((a * P.length : Nat) : Int) + (b : Int)) = ((a * P.length + b : Nat) : Int) := by rw [wrap_i64 _ (by omega) (by omega)]; simp
          generalize ham : a * P.length = am at *
          generalize hix : am + b = ix at *
          repeat' ((with_reducible (first | refine sCall.of (q5 _) ?_|refine sCall.of (q6 _) ?_|refine gP ?_|refine gN ?_|refine fG.split (fun _ => ?_) (fun _ => ?_)|refine fG.not ?_|refine gY ?_|refine gF ?_|refine fG.yes (flat_map (fun _ => rfl) _) ?_|refine fG.bool (fun _ => ?_) (fun _ => ?_)|refine gS64 ?_|refine gU8 ?_|refine gI16 ?_|refine fE.of rfl ?_|refine gNum16 ?_|refine gSet ?_|refine gRd ?_|refine gLk ?_|refine gRow16 ?_|refine gRf4 ?_|refine sDraw.mk' (id := 2) [(1, 6), (2, 6), (1, 8), (2, 8), (6, 8)] (ty := tys) rfl (by decide +kernel) ?_|refine sDraw.mk' (id := 6) [(0, 2), (0, 5), (0, 9)] (ty := tys) rfl (by decide +kernel) ?_|refine sDraw.mk' (id := 21) [(1, 21), (8, 21), (15, 21), (1, 22)] (ty := tys) rfl (by decide +kernel) ?_)) <;> (try (conv => whnf)))
          refine loop_rule (ι := WI) (fun z => [(4, .pt 4 1 0 [] 0 0), (6, i64 P.length), (7, .pt 7 1 0 [] 0 0), (12, i64 (a : Nat)), (13, i64 (b : Nat)), (14, .h 10083 z.bb 0 [] 1 0 sent.length), (15, i64 (tk : Nat)), (16, i64 (z.j : Nat))])
            (fun z => [(1000000, ⟨0, 0, false, tInsSS P⟩), (1000001, ⟨0, 0, false, tStateS S⟩), (1000002, ⟨0, 0, false, tItemSS W⟩), (1000003, ⟨0, 0, false, tEventSS H⟩), (1000004, ⟨0, 0, false, tI c⟩), (4, ⟨1, 0, false, .box [.nl 1, .nl 4, .nl 1, .nl 1]⟩), (7, ⟨1, 0, dd, .box [.h 10022 1 0 [] 1 0 P.length, .h 65 b1 0 [] 4 0 (stsOf P H').length, .h 26 1 0 [] 1 0 (P.length * P.length), .h 59 b3 0 [] 1 0 H'.length]⟩), (10022, ⟨1, 0, false, tInsSS9 P⟩), (26, ⟨1, z.g, z.d, tItemSS9 z.w⟩), (65, ⟨b1, 0, false, tStateS9 (stsOf P H')⟩), (59, ⟨b3, 0, false, tEventSS9 H'⟩), (10083, ⟨z.bb, 0, false, tI9 sent⟩)])
            (fun z => sent.length - z.j) (fun z => tk ≤ z.j ∧ z.j ≤ sent.length ∧ z.w = (fill (waysOf H' P.length) ix).set ix (wayOf ((leftOf H' a b).take (z.j - tk)))) ⟨tk, w, _, _, _⟩ (by (try dsimp only [cond_true, cond_false]); exact ⟨⟨rfl, rfl, rfl, rfl, rfl, rfl, rfl, rfl, trivial⟩, ⟨rfl, rfl, rfl, rfl, rfl, rfl, rfl, rfl, rfl, rfl, rfl, rfl, trivial⟩⟩) ⟨Nat.le_refl _, htl, by show w = (fill _ ix).set ix (wayOf (List.take (tk - tk) _)); rw [Nat.sub_self]; show w = (fill _ ix).set ix default; rw [fill_self _ _ (by omega)]; exact hw'⟩ (by simp [C]; omega) ?_
          clear sl ob hw' w g d
          rintro ⟨j', w, g, d, bb⟩ sl ob ⟨hj0, hj', hw'⟩
          dsimp only at hj0 hj' hw'
          have hwl : w.length = P.length * P.length := by rw [hw', List.length_set, fill_len, hTl]
          (try dsimp only [cond_true, cond_false])
          (conv => whnf)
          by_cases hjl' : j' < sent.length
          · have hwx : rd w ix = wayOf ((leftOf H' a b).take (j' - tk)) := by rw [hw']; simp [rd, fill_len, hTl, hpl]
            have hwxl : (rd w ix).length = j' - tk := by rw [hwx]; simp [wayOf]; omega
            have hnx : rd (leftOf H' a b) (j' - tk) = rd sent j' := by rw [hL, rd_drop, show tk + (j' - tk) = j' by omega]
            repeat' ((with_reducible (first | refine sW.eq (wm) ?_|refine sW.eq (wa) ?_|refine gHole ?_|refine gP ?_|refine gN ?_|refine fG.split (fun _ => ?_) (fun _ => ?_)|refine fG.not ?_|refine gY ?_|refine gF ?_|refine fG.yes (flat_map (fun _ => rfl) _) ?_|refine fG.bool (fun _ => ?_) (fun _ => ?_)|refine gS64 ?_|refine gU8 ?_|refine gI16 ?_|refine fE.of rfl ?_|refine gNum16 ?_|refine gSet ?_|refine gRd ?_|refine gLk ?_|refine gRow16 ?_|refine gRf4 ?_|refine sDraw.mk' (id := 2) [(1, 6), (2, 6), (1, 8), (2, 8), (6, 8)] (ty := tys) rfl (by decide +kernel) ?_|refine sDraw.mk' (id := 6) [(0, 2), (0, 5), (0, 9)] (ty := tys) rfl (by decide +kernel) ?_|refine sDraw.mk' (id := 21) [(1, 21), (8, 21), (15, 21), (1, 22)] (ty := tys) rfl (by decide +kernel) ?_)) <;> (try (conv => whnf)))
            refine ⟨⟨⟨j' + 1, w.set ix (rd w ix ++ [⟨false, rd sent j'⟩]), _, _, _⟩, (by (try dsimp only [cond_true, cond_false]); exact ⟨⟨rfl, rfl, rfl, rfl, rfl, rfl, rfl, rfl, trivial⟩, ⟨rfl, rfl, rfl, rfl, rfl, rfl, rfl, rfl, rfl, rfl, rfl, rfl, trivial⟩⟩), ?_, ?_⟩⟩
            · exact ⟨by show tk ≤ j' + 1; omega, by show j' + 1 ≤ _; omega, by show w.set ix _ = (fill _ ix).set ix (wayOf (List.take (j' + 1 - tk) _)); rw [hwx, hw', List.set_set, show j' + 1 - tk = (j' - tk) + 1 by omega, take_rd (by omega), hnx]; simp [wayOf]⟩
            · show sent.length - (j' + 1) < sent.length - j'; omega
          · rw [List.take_of_length_le (by omega)] at hw'
            by_cases hf : (leftOf H' a b).length ≤ 12
            · repeat' ((with_reducible (first | refine gP ?_|refine gN ?_|refine fG.split (fun _ => ?_) (fun _ => ?_)|refine fG.not ?_|refine gY ?_|refine gF ?_|refine fG.yes (flat_map (fun _ => rfl) _) ?_|refine fG.bool (fun _ => ?_) (fun _ => ?_)|refine gS64 ?_|refine gU8 ?_|refine gI16 ?_|refine fE.of rfl ?_|refine gNum16 ?_|refine gSet ?_|refine gRd ?_|refine gLk ?_|refine gRow16 ?_|refine gRf4 ?_|refine sDraw.mk' (id := 2) [(1, 6), (2, 6), (1, 8), (2, 8), (6, 8)] (ty := tys) rfl (by decide +kernel) ?_|refine sDraw.mk' (id := 6) [(0, 2), (0, 5), (0, 9)] (ty := tys) rfl (by decide +kernel) ?_|refine sDraw.mk' (id := 21) [(1, 21), (8, 21), (15, 21), (1, 22)] (ty := tys) rfl (by decide +kernel) ?_)) <;> (try (conv => whnf)))
              refine ⟨⟨⟨b + 1, w, _, _⟩, (by (try dsimp only [cond_true, cond_false]); exact ⟨⟨rfl, rfl, rfl, rfl, rfl, trivial⟩, ⟨rfl, rfl, rfl, rfl, rfl, rfl, rfl, rfl, rfl, rfl, rfl, trivial⟩⟩), ?_, ?_⟩⟩
              · refine ⟨by show b + 1 ≤ _; omega, ?_, fun y hy => by rcases Nat.lt_succ_iff_lt_or_eq.1 hy with h | h; exact hfb y h; rw [h]; exact hf⟩
                show w = fill _ (am + (b + 1))
                rw [hw', ← hT, fill_set _ _ (by omega), ← Nat.add_assoc, hix]
              · show P.length - (b + 1) < P.length - b; omega
            · rw [waysFit_no hal hbl hf]
              repeat' ((with_reducible (first | refine gP ?_|refine gN ?_|refine fG.split (fun _ => ?_) (fun _ => ?_)|refine fG.not ?_|refine gY ?_|refine gF ?_|refine fG.yes (flat_map (fun _ => rfl) _) ?_|refine fG.bool (fun _ => ?_) (fun _ => ?_)|refine gS64 ?_|refine gU8 ?_|refine gI16 ?_|refine fE.of rfl ?_|refine gNum16 ?_|refine gSet ?_|refine gRd ?_|refine gLk ?_|refine gRow16 ?_|refine gRf4 ?_|refine sDraw.mk' (id := 2) [(1, 6), (2, 6), (1, 8), (2, 8), (6, 8)] (ty := tys) rfl (by decide +kernel) ?_|refine sDraw.mk' (id := 6) [(0, 2), (0, 5), (0, 9)] (ty := tys) rfl (by decide +kernel) ?_|refine sDraw.mk' (id := 21) [(1, 21), (8, 21), (15, 21), (1, 22)] (ty := tys) rfl (by decide +kernel) ?_)) <;> (try (conv => whnf)))
              all_goals rfl
        · repeat' ((with_reducible (first | refine gP ?_|refine gN ?_|refine fG.split (fun _ => ?_) (fun _ => ?_)|refine fG.not ?_|refine gY ?_|refine gF ?_|refine fG.yes (flat_map (fun _ => rfl) _) ?_|refine fG.bool (fun _ => ?_) (fun _ => ?_)|refine gS64 ?_|refine gU8 ?_|refine gI16 ?_|refine fE.of rfl ?_|refine gNum16 ?_|refine gSet ?_|refine gRd ?_|refine gLk ?_|refine gRow16 ?_|refine gRf4 ?_|refine sDraw.mk' (id := 2) [(1, 6), (2, 6), (1, 8), (2, 8), (6, 8)] (ty := tys) rfl (by decide +kernel) ?_|refine sDraw.mk' (id := 6) [(0, 2), (0, 5), (0, 9)] (ty := tys) rfl (by decide +kernel) ?_|refine sDraw.mk' (id := 21) [(1, 21), (8, 21), (15, 21), (1, 22)] (ty := tys) rfl (by decide +kernel) ?_)) <;> (try (conv => whnf)))
          refine ⟨⟨⟨a + 1, w, _, _⟩, (by (try dsimp only [cond_true, cond_false]); exact ⟨⟨rfl, rfl, rfl, rfl, trivial⟩, ⟨rfl, rfl, rfl, rfl, rfl, rfl, rfl, rfl, rfl, rfl, rfl, trivial⟩⟩), ?_, ?_⟩⟩
          · refine ⟨by show a + 1 ≤ _; omega, by show w = fill _ ((a + 1) * P.length); rw [hw', Nat.add_mul, Nat.one_mul, show b = P.length by omega], fun x hx y hy => ?_⟩
            rcases Nat.lt_succ_iff_lt_or_eq.1 hx with h | h
            · exact hfa x h y hy
            · rw [h]; exact hfb y (by omega)
          · show P.length - (a + 1) < P.length - a; omega
      · have hwT : w = waysOf H' P.length := by rw [hw', show a = P.length by omega, ← hTl, fill_all]
        subst hwT
        have et : List.take (P.length * P.length) (waysOf H' P.length) = waysOf H' P.length := List.take_of_length_le (by omega)
        rw [waysFit_yes fun x hx y hy => hfa x (by omega) y hy]
        repeat' ((with_reducible (first | refine gP ?_|refine gN ?_|refine fG.split (fun _ => ?_) (fun _ => ?_)|refine fG.not ?_|refine gY ?_|refine gF ?_|refine fG.yes (flat_map (fun _ => rfl) _) ?_|refine fG.bool (fun _ => ?_) (fun _ => ?_)|refine gS64 ?_|refine gU8 ?_|refine gI16 ?_|refine fE.of rfl ?_|refine gNum16 ?_|refine gSet ?_|refine gRd ?_|refine gLk ?_|refine gRow16 ?_|refine gRf4 ?_|refine sDraw.mk' (id := 2) [(1, 6), (2, 6), (1, 8), (2, 8), (6, 8)] (ty := tys) rfl (by decide +kernel) ?_|refine sDraw.mk' (id := 6) [(0, 2), (0, 5), (0, 9)] (ty := tys) rfl (by decide +kernel) ?_|refine sDraw.mk' (id := 21) [(1, 21), (8, 21), (15, 21), (1, 22)] (ty := tys) rfl (by decide +kernel) ?_)) <;> (try (conv => whnf)))
        simp only [et, if_true, atRes, nSys, hTl] <;> rfl

end Go.Proofs.YtlobpiebphnkiaaGreat.Abs
namespace Go.Proofs.YtlobpiebphnkiaaGreat.Abs
open Go Go.Proofs
set_option linter.unusedVariables false
set_option linter.unusedSimpArgs false
attribute [local irreducible] callE
/-! ### Back, Undone, BackOne (printed by gen/back.py) -/
theorem lensOf_len (H : List (List Event)) : (lensOf H).length = H.length := by simp [lensOf]
theorem lensOf_rd {H : List (List Event)} {q : Nat} (h : q < H.length) : rd (lensOf H) q = ((rd H q).length : Int) := by simp [lensOf, rd, h]
/-- Is there such an event? -/
def hasCut (H : List (List Event)) (p i : Int) : Bool := decide (0 ≤ p ∧ p ≤ (H.length : Int) - 1) && decide (0 ≤ i ∧ i ≤ ((rd H p.toNat).length : Int))
theorem fok_back {H : List (List Event)} {p i : Int} (h : hasCut H p i = true) : FOk H ((lensOf H).set p.toNat i) := by
  simp only [hasCut, Bool.and_eq_true, decide_eq_true_eq] at h
  refine ⟨by simp [lensOf], fun q hq => ?_⟩
  rw [rd_set _ (by rw [lensOf_len]; omega)]
  split
  · rename_i e; rw [e]; omega
  · rw [lensOf_rd hq]; omega
noncomputable def backCutOf (H : List (List Event)) (p i : Int) : List Int := closeOf H ((lensOf H).set p.toNat i)
theorem backCut_is {H : List (List Event)} {p i : Int} (h : hasCut H p i = true) : FOk H (backCutOf H p i) ∧ wholeB H (backCutOf H p i) = true :=
  ⟨(closeOf_is (fok_back h)).1.fok (fok_back h), (closeOf_is (fok_back h)).2⟩
def atSys (P : List (List Ins)) (H : List (List Event)) : Sys := ⟨P, stsOf P H, waysOf H P.length, H⟩
/-- What taking back comes to. -/
noncomputable def backIs (P : List (List Ins)) (S : List State) (W : List (List Item)) (H : List (List Event)) (p i : Int) : Sys × Int :=
  if sysOk P S W H = true then (if hasCut H p i = true then (if waysFit (cutH H (backCutOf H p i)) P.length = true then (atSys P (cutH H (backCutOf H p i)), 0) else (⟨P, S, W, H⟩, 3)) else (⟨P, S, W, H⟩, 2)) else (⟨[], [], [], []⟩, 1)
def sysRes (X : Sys) (n : Int) (b : List (Option Cont)) : Res := ⟨.tu [nSys 0 X.progs X.states X.ways X.hist, i64 n], [tInsSS9 X.progs, tStateS9 X.states, tItemSS9 X.ways, tEventSS9 X.hist], b⟩
theorem ok_impl_backCut (k : Nat) (P : List (List Ins)) (S : List State) (W : List (List Item)) (H : List (List Event)) (p i : Int) (hb : SysB 1000000000 P S W H) (e : sysOk P S W H = true) (hp : hasCut H p i = true) :
    callE PR C (k + 14) 97 [aSys 0 P S W H, i64 p, i64 i] [tInsSS P, tStateS S, tItemSS W, tEventSS H] = some ⟨.h 2000000 1 0 [] 1 0 (backCutOf H p i).length, [tI9 (backCutOf H p i)], [none, none, none, none]⟩ := by
  have q1 := fun k => ok_impl_Full k P S W H (hb.mono (by decide)) e
  have q2 := fun k => ok_impl_Close k P S W H ((lensOf H).set p.toNat i) (hb.mono (by decide)) e (fok_back hp)
  have hl := lensOf_len H
  simp only [hasCut, Bool.and_eq_true, decide_eq_true_eq] at hp
  unfold backCutOf
  (refine callE_is (callE_w [ResultVar.tmp 6] rfl Tryz.func97 rfl (by decide +kernel) rfl (by simp) ?_); (conv => whnf))
  repeat' ((with_reducible (first | refine sCall.of (q1 _) ?_|refine sCall.of (q2 _) ?_|refine gP ?_|refine gN ?_|refine fG.split (fun _ => ?_) (fun _ => ?_)|refine fG.not ?_|refine gY ?_|refine gF ?_|refine fG.yes (flat_map (fun _ => rfl) _) ?_|refine fG.bool (fun _ => ?_) (fun _ => ?_)|refine gS64 ?_|refine gU8 ?_|refine gI16 ?_|refine fE.of rfl ?_|refine gNum16 ?_|refine gSet ?_|refine gRd ?_|refine gLk ?_|refine gRow16 ?_|refine gRf4 ?_)) <;> (try (conv => whnf)))
theorem at_closed {P : List (List Ins)} {H : List (List Event)} {c : List Int} {b : List (Option Cont)} (hw : wholeB H c = true) : (if wholeB H c = true ∧ waysFit (cutH H c) P.length = true then atRes P (cutH H c) b else zeroRes b) = (if waysFit (cutH H c) P.length = true then atRes P (cutH H c) b else zeroRes b) := by
  simp only [hw, true_and]
set_option maxRecDepth 20000 in
set_option maxHeartbeats 4000000 in
theorem ok_impl_Back (k : Nat) (P : List (List Ins)) (S : List State) (W : List (List Item)) (H : List (List Event)) (p i : Int) (hb : SysB 1000000000 P S W H) :
    callE PR C (k + 16) 36 [aSys 0 P S W H, i64 p, i64 i] [tInsSS P, tStateS S, tItemSS W, tEventSS H] = some (sysRes (backIs P S W H p i).1 (backIs P S W H p i).2 [none, none, none, none]) := by
  have q1 := fun k => ok_impl_SysOk k P S W H (hb.mono (by decide))
  unfold backIs
  cases e : sysOk P S W H with
  | false =>
    simp only [e] at q1
    rw [if_neg (by decide)]
    (refine callE_is (callE_w [ResultVar.cell 6 42, ResultVar.tmp 7] rfl Tryz.func36 rfl (by decide +kernel) rfl (by simp) ?_); (conv => whnf))
    repeat' ((with_reducible (first | refine sCall.of (q1 _) ?_|refine gP ?_|refine gN ?_|refine fG.split (fun _ => ?_) (fun _ => ?_)|refine fG.not ?_|refine gY ?_|refine gF ?_|refine fG.yes (flat_map (fun _ => rfl) _) ?_|refine fG.bool (fun _ => ?_) (fun _ => ?_)|refine gS64 ?_|refine gU8 ?_|refine gI16 ?_|refine fE.of rfl ?_|refine gNum16 ?_|refine gSet ?_|refine gRd ?_|refine gLk ?_|refine gRow16 ?_|refine gRf4 ?_|refine sDraw.mk' (id := 5) [(0, 4), (0, 9), (1, 9), (4, 9), (5, 9)] (ty := tys) rfl (by decide +kernel) ?_)) <;> (try (conv => whnf)))
    all_goals rfl
  | true =>
    simp only [e] at q1
    rw [if_pos rfl]
    obtain ⟨hI, hP, hS, h200⟩ := sysOk_facts e
    have hN := hI.n
    have hHl := hI.h
    have q2 := fun k => ok_impl_cloneSys k P S W H (hb.mono (by decide)) hI.some
    have q3 := fun k => ok_impl_in k p 0 ((H.length : Int) - 1)
    have e4 : (List.map rEvent (rd H p.toNat)).length = (rd H p.toNat).length := by simp
    have q4 := fun k => ok_impl_in k i 0 ((List.map rEvent (rd H p.toNat)).length : Int)
    by_cases c1 : 0 ≤ p ∧ p ≤ (H.length : Int) - 1
    · rw [decide_eq_true c1] at q3
      by_cases c2 : 0 ≤ i ∧ i ≤ ((List.map rEvent (rd H p.toNat)).length : Int)
      · rw [decide_eq_true c2] at q4
        have hp : hasCut H p i = true := by simp only [hasCut, Bool.and_eq_true, decide_eq_true_eq]; omega
        obtain ⟨hf, hw⟩ := backCut_is hp
        rw [if_pos hp]
        have q5 := fun k => ok_impl_backCut k P S W H p i hb e hp
        have q6 := fun k => ok_impl_At k P S W H (backCutOf H p i) hb e hf
        rw [at_closed hw] at q6
        generalize backCutOf H p i = c at *
        cases hfit : waysFit (cutH H c) P.length
        all_goals simp only [hfit, if_true, if_false, Bool.false_eq_true] at q6 ⊢
        all_goals simp only [atRes, zeroRes] at q6
        all_goals (refine callE_is (callE_w [ResultVar.cell 6 42, ResultVar.tmp 7] rfl Tryz.func36 rfl (by decide +kernel) rfl (by simp) ?_); (conv => whnf))
        all_goals repeat' ((with_reducible (first | refine sCall.of (q1 _) ?_|refine sCall.of (q2 _) ?_|refine sCall.of (q3 _) ?_|refine sCall.of (q4 _) ?_|refine sCall.of (q5 _) ?_|refine sCall.of (q6 _) ?_|refine gP ?_|refine gN ?_|refine fG.split (fun _ => ?_) (fun _ => ?_)|refine fG.not ?_|refine gY ?_|refine gF ?_|refine fG.yes (flat_map (fun _ => rfl) _) ?_|refine fG.bool (fun _ => ?_) (fun _ => ?_)|refine gS64 ?_|refine gU8 ?_|refine gI16 ?_|refine fE.of rfl ?_|refine gNum16 ?_|refine gSet ?_|refine gRd ?_|refine gLk ?_|refine gRow16 ?_|refine gRf4 ?_|refine sDraw.mk' (id := 5) [(0, 4), (0, 9), (1, 9), (4, 9), (5, 9)] (ty := tys) rfl (by decide +kernel) ?_)) <;> (try (conv => whnf)))
        all_goals rfl
      · rw [decide_eq_false c2] at q4
        rw [if_neg (by simp only [hasCut, Bool.and_eq_true, decide_eq_true_eq]; omega)]
        (refine callE_is (callE_w [ResultVar.cell 6 42, ResultVar.tmp 7] rfl Tryz.func36 rfl (by decide +kernel) rfl (by simp) ?_); (conv => whnf))
        repeat' ((with_reducible (first | refine sCall.of (q1 _) ?_|refine sCall.of (q2 _) ?_|refine sCall.of (q3 _) ?_|refine sCall.of (q4 _) ?_|refine gP ?_|refine gN ?_|refine fG.split (fun _ => ?_) (fun _ => ?_)|refine fG.not ?_|refine gY ?_|refine gF ?_|refine fG.yes (flat_map (fun _ => rfl) _) ?_|refine fG.bool (fun _ => ?_) (fun _ => ?_)|refine gS64 ?_|refine gU8 ?_|refine gI16 ?_|refine fE.of rfl ?_|refine gNum16 ?_|refine gSet ?_|refine gRd ?_|refine gLk ?_|refine gRow16 ?_|refine gRf4 ?_|refine sDraw.mk' (id := 5) [(0, 4), (0, 9), (1, 9), (4, 9), (5, 9)] (ty := tys) rfl (by decide +kernel) ?_)) <;> (try (conv => whnf)))
        all_goals rfl
    · rw [decide_eq_false c1] at q3
      rw [if_neg (by simp only [hasCut, Bool.and_eq_true, decide_eq_true_eq]; omega)]
      (refine callE_is (callE_w [ResultVar.cell 6 42, ResultVar.tmp 7] rfl Tryz.func36 rfl (by decide +kernel) rfl (by simp) ?_); (conv => whnf))
      repeat' ((with_reducible (first | refine sCall.of (q1 _) ?_|refine sCall.of (q2 _) ?_|refine sCall.of (q3 _) ?_|refine gP ?_|refine gN ?_|refine fG.split (fun _ => ?_) (fun _ => ?_)|refine fG.not ?_|refine gY ?_|refine gF ?_|refine fG.yes (flat_map (fun _ => rfl) _) ?_|refine fG.bool (fun _ => ?_) (fun _ => ?_)|refine gS64 ?_|refine gU8 ?_|refine gI16 ?_|refine fE.of rfl ?_|refine gNum16 ?_|refine gSet ?_|refine gRd ?_|refine gLk ?_|refine gRow16 ?_|refine gRf4 ?_|refine sDraw.mk' (id := 5) [(0, 4), (0, 9), (1, 9), (4, 9), (5, 9)] (ty := tys) rfl (by decide +kernel) ?_)) <;> (try (conv => whnf)))
      all_goals rfl
set_option maxRecDepth 20000 in
set_option maxHeartbeats 4000000 in
theorem ok_spec_Back (k : Nat) (P : List (List Ins)) (S : List State) (W : List (List Item)) (H : List (List Event)) (p i : Int) (hb : SysB 1000000000 P S W H) :
    callE PR C (k + 9) 35 [aSys 0 P S W H, i64 p, i64 i] [tInsSS P, tStateS S, tItemSS W, tEventSS H] = some (sysRes (backIs P S W H p i).1 (backIs P S W H p i).2 [none, none, none, none]) := by
  have q1 := fun k => ok_spec_SysOk k P S W H (hb.mono (by decide))
  unfold backIs
  cases e : sysOk P S W H with
  | false =>
    simp only [e] at q1
    rw [if_neg (by decide)]
    (refine callE_is (callE_w [ResultVar.cell 6 42, ResultVar.tmp 7] rfl Tryz.func35 rfl (by decide +kernel) rfl (by simp) ?_); (conv => whnf))
    repeat' ((with_reducible (first | refine sCall.of (q1 _) ?_|refine gP ?_|refine gN ?_|refine fG.split (fun _ => ?_) (fun _ => ?_)|refine fG.not ?_|refine gY ?_|refine gF ?_|refine fG.yes (flat_map (fun _ => rfl) _) ?_|refine fG.bool (fun _ => ?_) (fun _ => ?_)|refine gS64 ?_|refine gU8 ?_|refine gI16 ?_|refine fE.of rfl ?_|refine gNum16 ?_|refine gSet ?_|refine gRd ?_|refine gLk ?_|refine gRow16 ?_|refine gRf4 ?_|refine sDraw.mk' (id := 7) [(0, 3), (0, 8), (1, 8), (3, 8), (4, 8)] (ty := tys) rfl (by decide +kernel) ?_)) <;> (try (conv => whnf)))
    all_goals rfl
  | true =>
    simp only [e] at q1
    rw [if_pos rfl]
    obtain ⟨hI, hP, hS, h200⟩ := sysOk_facts e
    have hN := hI.n
    have hHl := hI.h
    have q2 := fun k => ok_spec_l4Copy k P S W H (hb.mono (by decide)) hI.some
    have q3 := fun k => ok_spec_l1In k p 0 ((P.length : Int) - 1)
    have e4 : (List.map rEvent (rd H p.toNat)).length = (rd H p.toNat).length := by simp
    have q4 := fun k => ok_spec_l1In k i 0 ((List.map rEvent (rd H p.toNat)).length : Int)
    by_cases c1 : 0 ≤ p ∧ p ≤ (P.length : Int) - 1
    · rw [decide_eq_true c1] at q3
      by_cases c2 : 0 ≤ i ∧ i ≤ ((List.map rEvent (rd H p.toNat)).length : Int)
      · rw [decide_eq_true c2] at q4
        have hp : hasCut H p i = true := by simp only [hasCut, Bool.and_eq_true, decide_eq_true_eq]; omega
        obtain ⟨hf, hw⟩ := backCut_is hp
        rw [if_pos hp]
        have hl := lensOf_len H
        have q5 := fun k => ok_spec_l8Full k P S W H h200 (by omega)
        have q7 := fun k => ok_spec_l8Close k P S W H ((lensOf H).set p.toNat i) h200 (by omega) (fok_back hp)
        have q6 := fun k => ok_spec_l8At k P S W H (backCutOf H p i) hb e hf hw
        rw [show closeOf H ((lensOf H).set p.toNat i) = backCutOf H p i from rfl] at q7
        generalize backCutOf H p i = c at *
        cases hfit : waysFit (cutH H c) P.length
        all_goals simp only [hfit, if_true, if_false, Bool.false_eq_true] at q6 ⊢
        all_goals simp only [atRes, zeroRes] at q6
        all_goals (refine callE_is (callE_w [ResultVar.cell 6 42, ResultVar.tmp 7] rfl Tryz.func35 rfl (by decide +kernel) rfl (by simp) ?_); (conv => whnf))
        all_goals repeat' ((with_reducible (first | refine sCall.of (q1 _) ?_|refine sCall.of (q2 _) ?_|refine sCall.of (q3 _) ?_|refine sCall.of (q4 _) ?_|refine sCall.of (q5 _) ?_|refine sCall.of (q6 _) ?_|refine sCall.of (q7 _) ?_|refine gP ?_|refine gN ?_|refine fG.split (fun _ => ?_) (fun _ => ?_)|refine fG.not ?_|refine gY ?_|refine gF ?_|refine fG.yes (flat_map (fun _ => rfl) _) ?_|refine fG.bool (fun _ => ?_) (fun _ => ?_)|refine gS64 ?_|refine gU8 ?_|refine gI16 ?_|refine fE.of rfl ?_|refine gNum16 ?_|refine gSet ?_|refine gRd ?_|refine gLk ?_|refine gRow16 ?_|refine gRf4 ?_|refine sDraw.mk' (id := 7) [(0, 3), (0, 8), (1, 8), (3, 8), (4, 8)] (ty := tys) rfl (by decide +kernel) ?_)) <;> (try (conv => whnf)))
        all_goals rfl
      · rw [decide_eq_false c2] at q4
        rw [if_neg (by simp only [hasCut, Bool.and_eq_true, decide_eq_true_eq]; omega)]
        (refine callE_is (callE_w [ResultVar.cell 6 42, ResultVar.tmp 7] rfl Tryz.func35 rfl (by decide +kernel) rfl (by simp) ?_); (conv => whnf))
        repeat' ((with_reducible (first | refine sCall.of (q1 _) ?_|refine sCall.of (q2 _) ?_|refine sCall.of (q3 _) ?_|refine sCall.of (q4 _) ?_|refine gP ?_|refine gN ?_|refine fG.split (fun _ => ?_) (fun _ => ?_)|refine fG.not ?_|refine gY ?_|refine gF ?_|refine fG.yes (flat_map (fun _ => rfl) _) ?_|refine fG.bool (fun _ => ?_) (fun _ => ?_)|refine gS64 ?_|refine gU8 ?_|refine gI16 ?_|refine fE.of rfl ?_|refine gNum16 ?_|refine gSet ?_|refine gRd ?_|refine gLk ?_|refine gRow16 ?_|refine gRf4 ?_|refine sDraw.mk' (id := 7) [(0, 3), (0, 8), (1, 8), (3, 8), (4, 8)] (ty := tys) rfl (by decide +kernel) ?_)) <;> (try (conv => whnf)))
        all_goals rfl
    · rw [decide_eq_false c1] at q3
      rw [if_neg (by simp only [hasCut, Bool.and_eq_true, decide_eq_true_eq]; omega)]
      (refine callE_is (callE_w [ResultVar.cell 6 42, ResultVar.tmp 7] rfl Tryz.func35 rfl (by decide +kernel) rfl (by simp) ?_); (conv => whnf))
      repeat' ((with_reducible (first | refine sCall.of (q1 _) ?_|refine sCall.of (q2 _) ?_|refine sCall.of (q3 _) ?_|refine gP ?_|refine gN ?_|refine fG.split (fun _ => ?_) (fun _ => ?_)|refine fG.not ?_|refine gY ?_|refine gF ?_|refine fG.yes (flat_map (fun _ => rfl) _) ?_|refine fG.bool (fun _ => ?_) (fun _ => ?_)|refine gS64 ?_|refine gU8 ?_|refine gI16 ?_|refine fE.of rfl ?_|refine gNum16 ?_|refine gSet ?_|refine gRd ?_|refine gLk ?_|refine gRow16 ?_|refine gRf4 ?_|refine sDraw.mk' (id := 7) [(0, 3), (0, 8), (1, 8), (3, 8), (4, 8)] (ty := tys) rfl (by decide +kernel) ?_)) <;> (try (conv => whnf)))
      all_goals rfl
noncomputable def undoneIs (P : List (List Ins)) (S : List State) (W : List (List Item)) (H : List (List Event)) (p i : Int) : List Int := if (backIs P S W H p i).2 = 0 then (List.range H.length).map fun q => ((rd H q).length : Int) - ((rd (backIs P S W H p i).1.hist q).length : Int) else []
/-- The last event's place. -/
def lastOf (H : List (List Event)) (p : Int) : Int := if 0 ≤ p ∧ p ≤ (H.length : Int) - 1 then ((rd H p.toNat).length : Int) - 1 else -1
end Go.Proofs.YtlobpiebphnkiaaGreat.Abs
namespace Go.Proofs.YtlobpiebphnkiaaGreat.Abs
open Go Go.Proofs
set_option linter.unusedVariables false
set_option linter.unusedSimpArgs false
attribute [local irreducible] callE
/-! ### Marks in systems (printed by a program in NOTES: gen/marks.py) -/
def mItem (m : Int) (x : Item) : Item := ⟨decide (m.tmod 3 = 0), m + 1⟩
def wItem (x : Item) : Nat := 2
theorem wts_wItem (l : List Item) : wts wItem l = 2 * l.length := wts_const 2 l
def mWho (m : Int) (x : Who) : Who := ⟨m, m + 1⟩
def wWho (x : Who) : Nat := 2
theorem ok_laws_markInsS8 (k : Nat) (l : List Ins) (m : Int) (hl : l.length ≤ 100000000000) (h0 : 0 ≤ m) (h1 : m ≤ 100000000000) : callE PR C (k + 1) 166 [(.h 1000000 0 0 [] 5 0 l.length), i64 m] [(.tree 8 (.sl 5 (l.map rIns)))] = some ⟨i64 (m + 5 * l.length), [], [some (.tree 8 (.sl 5 ((marks mIns wIns m l).map rIns)))]⟩ := by
  (refine callE_is (callE_w [ResultVar.tmp 4] rfl Tryz.func166 rfl (by decide +kernel) rfl (by simp) ?_); (conv => whnf))
  repeat' ((with_reducible (first | refine gP ?_|refine gN ?_|refine fG.split (fun _ => ?_) (fun _ => ?_)|refine fG.not ?_|refine gY ?_|refine gF ?_|refine fG.yes (flat_map (fun _ => rfl) _) ?_|refine fG.bool (fun _ => ?_) (fun _ => ?_)|refine gS64 ?_|refine gU8 ?_|refine gI16 ?_|refine fE.of rfl ?_|refine gNum16 ?_|refine gSet ?_|refine gRd ?_|refine gLk ?_|refine gRow16 ?_|refine gRf4 ?_)) <;> (try (conv => whnf)))
  refine loop_rule (ι := TM Ins) (fun x => [(0, (.h 1000000 0 0 [] 5 0 l.length)), (1, i64 x.m), (5, i64 (x.j : Nat))])
    (fun x => [(1000000, ⟨0, x.g, x.d, .tree 8 (.sl 5 (x.l.map rIns))⟩)])
    (fun x => l.length - x.j) (fun x => x.j ≤ l.length ∧ x.l = half mIns wIns m l x.j ∧ x.m = m + 5 * x.j) ⟨0, m, l, 0, false⟩ (by (try dsimp only [cond_true, cond_false]); exact ⟨⟨rfl, rfl, rfl, trivial⟩, ⟨rfl, trivial⟩⟩) ⟨Nat.zero_le _, (half_zero _ _ m l).symm, by simp⟩ (by simp [C]; omega) ?_
  rintro ⟨j, n, out, g, d⟩ sl ob ⟨hj, hout, hn⟩
  dsimp only at hj hout hn
  have hlen : out.length = l.length := by rw [hout, half_len]
  have hz : n.tmod 3 = n.tmod 3 := rfl
  (try dsimp only [cond_true, cond_false])
  (conv => whnf)
  repeat' ((with_reducible (first | refine sZ.eq (hz) ?_|refine gP ?_|refine gN ?_|refine fG.split (fun _ => ?_) (fun _ => ?_)|refine fG.not ?_|refine gY ?_|refine gF ?_|refine fG.yes (flat_map (fun _ => rfl) _) ?_|refine fG.bool (fun _ => ?_) (fun _ => ?_)|refine gS64 ?_|refine gU8 ?_|refine gI16 ?_|refine fE.of rfl ?_|refine gNum16 ?_|refine gSet ?_|refine gRd ?_|refine gLk ?_|refine gRow16 ?_|refine gRf4 ?_)) <;> (try (conv => whnf)))
  case' refine_1 h =>
    refine ⟨⟨⟨j + 1, n + 1 + 1 + 1 + 1 + 1, out.set j (mIns n (rd out j)), _, _⟩, (by (try dsimp only [cond_true, cond_false]); exact ⟨⟨rfl, rfl, rfl, trivial⟩, ⟨rfl, trivial⟩⟩), ?_, ?_⟩⟩
    · refine ⟨by show j + 1 ≤ _; omega, ?_, by show _ = _; push_cast; omega⟩
      show _ = _
      rw [← half_set _ _ m l j (by omega), hout, hn]
      simp only [wts_wIns, List.length_take, mIns, show min j l.length = j by omega, Int.natCast_mul]
      rfl
    · show l.length - (j + 1) < l.length - j; omega
  case refine_2 h =>
    have : j = l.length := by omega
    rw [hout, hn, this, half_all]
theorem ok_laws_markItemS8 (k : Nat) (l : List Item) (m : Int) (hl : l.length ≤ 100000000000) (h0 : 0 ≤ m) (h1 : m ≤ 100000000000) : callE PR C (k + 1) 167 [(.h 1000000 0 0 [] 2 0 l.length), i64 m] [(.tree 8 (.sl 2 (l.map rItem)))] = some ⟨i64 (m + 2 * l.length), [], [some (.tree 8 (.sl 2 ((marks mItem wItem m l).map rItem)))]⟩ := by
  (refine callE_is (callE_w [ResultVar.tmp 4] rfl Tryz.func167 rfl (by decide +kernel) rfl (by simp) ?_); (conv => whnf))
  repeat' ((with_reducible (first | refine gP ?_|refine gN ?_|refine fG.split (fun _ => ?_) (fun _ => ?_)|refine fG.not ?_|refine gY ?_|refine gF ?_|refine fG.yes (flat_map (fun _ => rfl) _) ?_|refine fG.bool (fun _ => ?_) (fun _ => ?_)|refine gS64 ?_|refine gU8 ?_|refine gI16 ?_|refine fE.of rfl ?_|refine gNum16 ?_|refine gSet ?_|refine gRd ?_|refine gLk ?_|refine gRow16 ?_|refine gRf4 ?_)) <;> (try (conv => whnf)))
  refine loop_rule (ι := TM Item) (fun x => [(0, (.h 1000000 0 0 [] 2 0 l.length)), (1, i64 x.m), (5, i64 (x.j : Nat))])
    (fun x => [(1000000, ⟨0, x.g, x.d, .tree 8 (.sl 2 (x.l.map rItem))⟩)])
    (fun x => l.length - x.j) (fun x => x.j ≤ l.length ∧ x.l = half mItem wItem m l x.j ∧ x.m = m + 2 * x.j) ⟨0, m, l, 0, false⟩ (by (try dsimp only [cond_true, cond_false]); exact ⟨⟨rfl, rfl, rfl, trivial⟩, ⟨rfl, trivial⟩⟩) ⟨Nat.zero_le _, (half_zero _ _ m l).symm, by simp⟩ (by simp [C]; omega) ?_
  rintro ⟨j, n, out, g, d⟩ sl ob ⟨hj, hout, hn⟩
  dsimp only at hj hout hn
  have hlen : out.length = l.length := by rw [hout, half_len]
  have hz : n.tmod 3 = n.tmod 3 := rfl
  (try dsimp only [cond_true, cond_false])
  (conv => whnf)
  repeat' ((with_reducible (first | refine sZ.eq (hz) ?_|refine gP ?_|refine gN ?_|refine fG.split (fun _ => ?_) (fun _ => ?_)|refine fG.not ?_|refine gY ?_|refine gF ?_|refine fG.yes (flat_map (fun _ => rfl) _) ?_|refine fG.bool (fun _ => ?_) (fun _ => ?_)|refine gS64 ?_|refine gU8 ?_|refine gI16 ?_|refine fE.of rfl ?_|refine gNum16 ?_|refine gSet ?_|refine gRd ?_|refine gLk ?_|refine gRow16 ?_|refine gRf4 ?_)) <;> (try (conv => whnf)))
  case' refine_1 h =>
    refine ⟨⟨⟨j + 1, n + 1 + 1, out.set j (mItem n (rd out j)), _, _⟩, (by (try dsimp only [cond_true, cond_false]); exact ⟨⟨rfl, rfl, rfl, trivial⟩, ⟨rfl, trivial⟩⟩), ?_, ?_⟩⟩
    · refine ⟨by show j + 1 ≤ _; omega, ?_, by show _ = _; push_cast; omega⟩
      show _ = _
      rw [← half_set _ _ m l j (by omega), hout, hn]
      simp only [wts_wItem, List.length_take, mItem, show min j l.length = j by omega, Int.natCast_mul]
      rfl
    · show l.length - (j + 1) < l.length - j; omega
  case refine_2 h =>
    have : j = l.length := by omega
    rw [hout, hn, this, half_all]
theorem ok_laws_markEventS8 (k : Nat) (l : List Event) (m : Int) (hl : l.length ≤ 100000000000) (h0 : 0 ≤ m) (h1 : m ≤ 100000000000) : callE PR C (k + 1) 168 [(.h 1000000 0 0 [] 3 0 l.length), i64 m] [(.tree 8 (.sl 3 (l.map rEvent)))] = some ⟨i64 (m + 3 * l.length), [], [some (.tree 8 (.sl 3 ((marks mEvent wEvent m l).map rEvent)))]⟩ := by
  (refine callE_is (callE_w [ResultVar.tmp 4] rfl Tryz.func168 rfl (by decide +kernel) rfl (by simp) ?_); (conv => whnf))
  repeat' ((with_reducible (first | refine gP ?_|refine gN ?_|refine fG.split (fun _ => ?_) (fun _ => ?_)|refine fG.not ?_|refine gY ?_|refine gF ?_|refine fG.yes (flat_map (fun _ => rfl) _) ?_|refine fG.bool (fun _ => ?_) (fun _ => ?_)|refine gS64 ?_|refine gU8 ?_|refine gI16 ?_|refine fE.of rfl ?_|refine gNum16 ?_|refine gSet ?_|refine gRd ?_|refine gLk ?_|refine gRow16 ?_|refine gRf4 ?_)) <;> (try (conv => whnf)))
  refine loop_rule (ι := TM Event) (fun x => [(0, (.h 1000000 0 0 [] 3 0 l.length)), (1, i64 x.m), (5, i64 (x.j : Nat))])
    (fun x => [(1000000, ⟨0, x.g, x.d, .tree 8 (.sl 3 (x.l.map rEvent))⟩)])
    (fun x => l.length - x.j) (fun x => x.j ≤ l.length ∧ x.l = half mEvent wEvent m l x.j ∧ x.m = m + 3 * x.j) ⟨0, m, l, 0, false⟩ (by (try dsimp only [cond_true, cond_false]); exact ⟨⟨rfl, rfl, rfl, trivial⟩, ⟨rfl, trivial⟩⟩) ⟨Nat.zero_le _, (half_zero _ _ m l).symm, by simp⟩ (by simp [C]; omega) ?_
  rintro ⟨j, n, out, g, d⟩ sl ob ⟨hj, hout, hn⟩
  dsimp only at hj hout hn
  have hlen : out.length = l.length := by rw [hout, half_len]
  have hz : n.tmod 3 = n.tmod 3 := rfl
  (try dsimp only [cond_true, cond_false])
  (conv => whnf)
  repeat' ((with_reducible (first | refine sZ.eq (hz) ?_|refine gP ?_|refine gN ?_|refine fG.split (fun _ => ?_) (fun _ => ?_)|refine fG.not ?_|refine gY ?_|refine gF ?_|refine fG.yes (flat_map (fun _ => rfl) _) ?_|refine fG.bool (fun _ => ?_) (fun _ => ?_)|refine gS64 ?_|refine gU8 ?_|refine gI16 ?_|refine fE.of rfl ?_|refine gNum16 ?_|refine gSet ?_|refine gRd ?_|refine gLk ?_|refine gRow16 ?_|refine gRf4 ?_)) <;> (try (conv => whnf)))
  case' refine_1 h =>
    refine ⟨⟨⟨j + 1, n + 1 + 1 + 1, out.set j (mEvent n (rd out j)), _, _⟩, (by (try dsimp only [cond_true, cond_false]); exact ⟨⟨rfl, rfl, rfl, trivial⟩, ⟨rfl, trivial⟩⟩), ?_, ?_⟩⟩
    · refine ⟨by show j + 1 ≤ _; omega, ?_, by show _ = _; push_cast; omega⟩
      show _ = _
      rw [← half_set _ _ m l j (by omega), hout, hn]
      simp only [wts_wEvent, List.length_take, mEvent, show min j l.length = j by omega, Int.natCast_mul]
      rfl
    · show l.length - (j + 1) < l.length - j; omega
  case refine_2 h =>
    have : j = l.length := by omega
    rw [hout, hn, this, half_all]
def mInsL (m : Int) (x : List Ins) : List Ins := marks mIns wIns m x
def wInsL (x : List Ins) : Nat := 5 * x.length
theorem ok_laws_markInsSS (k : Nat) (l : List (List Ins)) (m : Int) (hl : l.length ≤ 100000000000) (h0 : 0 ≤ m) (h1 : m + wts wInsL l ≤ 10000000000) (hx : ∀ j : Nat, j < l.length → (rd l j).length ≤ 10000000000) :
    callE PR C (k + 2) 84 [.h 1000000 0 0 [] 1 0 l.length, i64 m] [.tree 9 (.sl 1 (l.map rInsL))] = some ⟨i64 (m + wts wInsL l), [], [some (.tree 9 (.sl 1 ((marks mInsL wInsL m l).map rInsL)))]⟩ := by
  (refine callE_is (callE_w [ResultVar.tmp 4] rfl Tryz.func84 rfl (by decide +kernel) rfl (by simp) ?_); (conv => whnf))
  repeat' ((with_reducible (first | refine gP ?_|refine gN ?_|refine fG.split (fun _ => ?_) (fun _ => ?_)|refine fG.not ?_|refine gY ?_|refine gF ?_|refine fG.yes (flat_map (fun _ => rfl) _) ?_|refine fG.bool (fun _ => ?_) (fun _ => ?_)|refine gS64 ?_|refine gU8 ?_|refine gI16 ?_|refine fE.of rfl ?_|refine gNum16 ?_|refine gSet ?_|refine gRd ?_|refine gLk ?_|refine gRow16 ?_|refine gRf4 ?_)) <;> (try (conv => whnf)))
  refine loop_rule (ι := TM (List Ins)) (fun x => [(0, .h 1000000 0 0 [] 1 0 l.length), (1, i64 x.m), (5, i64 (x.j : Nat))])
    (fun x => [(1000000, ⟨0, x.g, x.d, .tree 9 (.sl 1 (x.l.map rInsL))⟩)])
    (fun x => l.length - x.j) (fun x => x.j ≤ l.length ∧ x.l = half mInsL wInsL m l x.j ∧ x.m = m + wts wInsL (l.take x.j)) ⟨0, m, l, 0, false⟩ (by (try dsimp only [cond_true, cond_false]); exact ⟨⟨rfl, rfl, rfl, trivial⟩, ⟨rfl, trivial⟩⟩) ⟨Nat.zero_le _, (half_zero _ _ m l).symm, by simp [wts]⟩ (by simp [C]; omega) ?_
  rintro ⟨j, n, out, g, d⟩ sl ob ⟨hj, hout, hn⟩
  dsimp only at hj hout hn
  have hlen : out.length = l.length := by rw [hout, half_len]
  have hn1 : n ≤ 10000000000 := by have := wts_le wInsL l j; omega
  have hn0 : 0 ≤ n := by omega
  have hrd : j < l.length → rd out j = rd l j := fun h => by rw [hout]; exact half_rd _ _ m l j h
  (try dsimp only [cond_true, cond_false])
  (conv => whnf)
  by_cases hjl : j < l.length
  · have hx1 : (rd out j).length ≤ 10000000000 := by rw [hrd hjl]; exact hx j hjl
    have hq : ∀ k, callE PR C (k + 1) 166 [.h 1000000 0 0 [] 5 0 ((rd out j).map rIns).length, i64 n] [.tree 8 (.sl 5 ((rd out j).map rIns))] = some ⟨i64 (n + 5 * (rd out j).length), [], [some (.tree 8 (.sl 5 ((marks mIns wIns n (rd out j)).map rIns)))]⟩ := by
      intro k
      rw [List.length_map]
      exact ok_laws_markInsS8 k (rd out j) n (by omega) (by omega) (by omega)
    repeat' ((with_reducible (first | refine sCall.of (hq _) ?_|refine gP ?_|refine gN ?_|refine fG.split (fun _ => ?_) (fun _ => ?_)|refine fG.not ?_|refine gY ?_|refine gF ?_|refine fG.yes (flat_map (fun _ => rfl) _) ?_|refine fG.bool (fun _ => ?_) (fun _ => ?_)|refine gS64 ?_|refine gU8 ?_|refine gI16 ?_|refine fE.of rfl ?_|refine gNum16 ?_|refine gSet ?_|refine gRd ?_|refine gLk ?_|refine gRow16 ?_|refine gRf4 ?_)) <;> (try (conv => whnf)))
    refine ⟨⟨⟨j + 1, n + 5 * (rd out j).length, out.set j (mInsL n (rd out j)), _, _⟩, (by (try dsimp only [cond_true, cond_false]); exact ⟨⟨rfl, rfl, rfl, trivial⟩, ⟨rfl, trivial⟩⟩), ?_, ?_⟩⟩
    · have e := wts_take wInsL l j hjl
      refine ⟨by show j + 1 ≤ _; omega, ?_, ?_⟩
      · show _ = _
        rw [← half_set _ _ m l j hjl, hrd hjl, hout, hn]
      · show _ = _
        rw [e, hrd hjl]
        simp only [wInsL]
        omega
    · show l.length - (j + 1) < l.length - j; omega
  · have : j = l.length := by omega
    repeat' ((with_reducible (first | refine gP ?_|refine gN ?_|refine fG.split (fun _ => ?_) (fun _ => ?_)|refine fG.not ?_|refine gY ?_|refine gF ?_|refine fG.yes (flat_map (fun _ => rfl) _) ?_|refine fG.bool (fun _ => ?_) (fun _ => ?_)|refine gS64 ?_|refine gU8 ?_|refine gI16 ?_|refine fE.of rfl ?_|refine gNum16 ?_|refine gSet ?_|refine gRd ?_|refine gLk ?_|refine gRow16 ?_|refine gRf4 ?_)) <;> (try (conv => whnf)))
    rw [hout, hn, this, half_all, List.take_length]
def mItemL (m : Int) (x : List Item) : List Item := marks mItem wItem m x
def wItemL (x : List Item) : Nat := 2 * x.length
theorem ok_laws_markItemSS (k : Nat) (l : List (List Item)) (m : Int) (hl : l.length ≤ 100000000000) (h0 : 0 ≤ m) (h1 : m + wts wItemL l ≤ 10000000000) (hx : ∀ j : Nat, j < l.length → (rd l j).length ≤ 10000000000) :
    callE PR C (k + 2) 86 [.h 1000000 0 0 [] 1 0 l.length, i64 m] [.tree 9 (.sl 1 (l.map rItemL))] = some ⟨i64 (m + wts wItemL l), [], [some (.tree 9 (.sl 1 ((marks mItemL wItemL m l).map rItemL)))]⟩ := by
  (refine callE_is (callE_w [ResultVar.tmp 4] rfl Tryz.func86 rfl (by decide +kernel) rfl (by simp) ?_); (conv => whnf))
  repeat' ((with_reducible (first | refine gP ?_|refine gN ?_|refine fG.split (fun _ => ?_) (fun _ => ?_)|refine fG.not ?_|refine gY ?_|refine gF ?_|refine fG.yes (flat_map (fun _ => rfl) _) ?_|refine fG.bool (fun _ => ?_) (fun _ => ?_)|refine gS64 ?_|refine gU8 ?_|refine gI16 ?_|refine fE.of rfl ?_|refine gNum16 ?_|refine gSet ?_|refine gRd ?_|refine gLk ?_|refine gRow16 ?_|refine gRf4 ?_)) <;> (try (conv => whnf)))
  refine loop_rule (ι := TM (List Item)) (fun x => [(0, .h 1000000 0 0 [] 1 0 l.length), (1, i64 x.m), (5, i64 (x.j : Nat))])
    (fun x => [(1000000, ⟨0, x.g, x.d, .tree 9 (.sl 1 (x.l.map rItemL))⟩)])
    (fun x => l.length - x.j) (fun x => x.j ≤ l.length ∧ x.l = half mItemL wItemL m l x.j ∧ x.m = m + wts wItemL (l.take x.j)) ⟨0, m, l, 0, false⟩ (by (try dsimp only [cond_true, cond_false]); exact ⟨⟨rfl, rfl, rfl, trivial⟩, ⟨rfl, trivial⟩⟩) ⟨Nat.zero_le _, (half_zero _ _ m l).symm, by simp [wts]⟩ (by simp [C]; omega) ?_
  rintro ⟨j, n, out, g, d⟩ sl ob ⟨hj, hout, hn⟩
  dsimp only at hj hout hn
  have hlen : out.length = l.length := by rw [hout, half_len]
  have hn1 : n ≤ 10000000000 := by have := wts_le wItemL l j; omega
  have hn0 : 0 ≤ n := by omega
  have hrd : j < l.length → rd out j = rd l j := fun h => by rw [hout]; exact half_rd _ _ m l j h
  (try dsimp only [cond_true, cond_false])
  (conv => whnf)
  by_cases hjl : j < l.length
  · have hx1 : (rd out j).length ≤ 10000000000 := by rw [hrd hjl]; exact hx j hjl
    have hq : ∀ k, callE PR C (k + 1) 167 [.h 1000000 0 0 [] 2 0 ((rd out j).map rItem).length, i64 n] [.tree 8 (.sl 2 ((rd out j).map rItem))] = some ⟨i64 (n + 2 * (rd out j).length), [], [some (.tree 8 (.sl 2 ((marks mItem wItem n (rd out j)).map rItem)))]⟩ := by
      intro k
      rw [List.length_map]
      exact ok_laws_markItemS8 k (rd out j) n (by omega) (by omega) (by omega)
    repeat' ((with_reducible (first | refine sCall.of (hq _) ?_|refine gP ?_|refine gN ?_|refine fG.split (fun _ => ?_) (fun _ => ?_)|refine fG.not ?_|refine gY ?_|refine gF ?_|refine fG.yes (flat_map (fun _ => rfl) _) ?_|refine fG.bool (fun _ => ?_) (fun _ => ?_)|refine gS64 ?_|refine gU8 ?_|refine gI16 ?_|refine fE.of rfl ?_|refine gNum16 ?_|refine gSet ?_|refine gRd ?_|refine gLk ?_|refine gRow16 ?_|refine gRf4 ?_)) <;> (try (conv => whnf)))
    refine ⟨⟨⟨j + 1, n + 2 * (rd out j).length, out.set j (mItemL n (rd out j)), _, _⟩, (by (try dsimp only [cond_true, cond_false]); exact ⟨⟨rfl, rfl, rfl, trivial⟩, ⟨rfl, trivial⟩⟩), ?_, ?_⟩⟩
    · have e := wts_take wItemL l j hjl
      refine ⟨by show j + 1 ≤ _; omega, ?_, ?_⟩
      · show _ = _
        rw [← half_set _ _ m l j hjl, hrd hjl, hout, hn]
      · show _ = _
        rw [e, hrd hjl]
        simp only [wItemL]
        omega
    · show l.length - (j + 1) < l.length - j; omega
  · have : j = l.length := by omega
    repeat' ((with_reducible (first | refine gP ?_|refine gN ?_|refine fG.split (fun _ => ?_) (fun _ => ?_)|refine fG.not ?_|refine gY ?_|refine gF ?_|refine fG.yes (flat_map (fun _ => rfl) _) ?_|refine fG.bool (fun _ => ?_) (fun _ => ?_)|refine gS64 ?_|refine gU8 ?_|refine gI16 ?_|refine fE.of rfl ?_|refine gNum16 ?_|refine gSet ?_|refine gRd ?_|refine gLk ?_|refine gRow16 ?_|refine gRf4 ?_)) <;> (try (conv => whnf)))
    rw [hout, hn, this, half_all, List.take_length]
def mEventL (m : Int) (x : List Event) : List Event := marks mEvent wEvent m x
def wEventL (x : List Event) : Nat := 3 * x.length
theorem ok_laws_markEventSS (k : Nat) (l : List (List Event)) (m : Int) (hl : l.length ≤ 100000000000) (h0 : 0 ≤ m) (h1 : m + wts wEventL l ≤ 10000000000) (hx : ∀ j : Nat, j < l.length → (rd l j).length ≤ 10000000000) :
    callE PR C (k + 2) 87 [.h 1000000 0 0 [] 1 0 l.length, i64 m] [.tree 9 (.sl 1 (l.map rEventL))] = some ⟨i64 (m + wts wEventL l), [], [some (.tree 9 (.sl 1 ((marks mEventL wEventL m l).map rEventL)))]⟩ := by
  (refine callE_is (callE_w [ResultVar.tmp 4] rfl Tryz.func87 rfl (by decide +kernel) rfl (by simp) ?_); (conv => whnf))
  repeat' ((with_reducible (first | refine gP ?_|refine gN ?_|refine fG.split (fun _ => ?_) (fun _ => ?_)|refine fG.not ?_|refine gY ?_|refine gF ?_|refine fG.yes (flat_map (fun _ => rfl) _) ?_|refine fG.bool (fun _ => ?_) (fun _ => ?_)|refine gS64 ?_|refine gU8 ?_|refine gI16 ?_|refine fE.of rfl ?_|refine gNum16 ?_|refine gSet ?_|refine gRd ?_|refine gLk ?_|refine gRow16 ?_|refine gRf4 ?_)) <;> (try (conv => whnf)))
  refine loop_rule (ι := TM (List Event)) (fun x => [(0, .h 1000000 0 0 [] 1 0 l.length), (1, i64 x.m), (5, i64 (x.j : Nat))])
    (fun x => [(1000000, ⟨0, x.g, x.d, .tree 9 (.sl 1 (x.l.map rEventL))⟩)])
    (fun x => l.length - x.j) (fun x => x.j ≤ l.length ∧ x.l = half mEventL wEventL m l x.j ∧ x.m = m + wts wEventL (l.take x.j)) ⟨0, m, l, 0, false⟩ (by (try dsimp only [cond_true, cond_false]); exact ⟨⟨rfl, rfl, rfl, trivial⟩, ⟨rfl, trivial⟩⟩) ⟨Nat.zero_le _, (half_zero _ _ m l).symm, by simp [wts]⟩ (by simp [C]; omega) ?_
  rintro ⟨j, n, out, g, d⟩ sl ob ⟨hj, hout, hn⟩
  dsimp only at hj hout hn
  have hlen : out.length = l.length := by rw [hout, half_len]
  have hn1 : n ≤ 10000000000 := by have := wts_le wEventL l j; omega
  have hn0 : 0 ≤ n := by omega
  have hrd : j < l.length → rd out j = rd l j := fun h => by rw [hout]; exact half_rd _ _ m l j h
  (try dsimp only [cond_true, cond_false])
  (conv => whnf)
  by_cases hjl : j < l.length
  · have hx1 : (rd out j).length ≤ 10000000000 := by rw [hrd hjl]; exact hx j hjl
    have hq : ∀ k, callE PR C (k + 1) 168 [.h 1000000 0 0 [] 3 0 ((rd out j).map rEvent).length, i64 n] [.tree 8 (.sl 3 ((rd out j).map rEvent))] = some ⟨i64 (n + 3 * (rd out j).length), [], [some (.tree 8 (.sl 3 ((marks mEvent wEvent n (rd out j)).map rEvent)))]⟩ := by
      intro k
      rw [List.length_map]
      exact ok_laws_markEventS8 k (rd out j) n (by omega) (by omega) (by omega)
    repeat' ((with_reducible (first | refine sCall.of (hq _) ?_|refine gP ?_|refine gN ?_|refine fG.split (fun _ => ?_) (fun _ => ?_)|refine fG.not ?_|refine gY ?_|refine gF ?_|refine fG.yes (flat_map (fun _ => rfl) _) ?_|refine fG.bool (fun _ => ?_) (fun _ => ?_)|refine gS64 ?_|refine gU8 ?_|refine gI16 ?_|refine fE.of rfl ?_|refine gNum16 ?_|refine gSet ?_|refine gRd ?_|refine gLk ?_|refine gRow16 ?_|refine gRf4 ?_)) <;> (try (conv => whnf)))
    refine ⟨⟨⟨j + 1, n + 3 * (rd out j).length, out.set j (mEventL n (rd out j)), _, _⟩, (by (try dsimp only [cond_true, cond_false]); exact ⟨⟨rfl, rfl, rfl, trivial⟩, ⟨rfl, trivial⟩⟩), ?_, ?_⟩⟩
    · have e := wts_take wEventL l j hjl
      refine ⟨by show j + 1 ≤ _; omega, ?_, ?_⟩
      · show _ = _
        rw [← half_set _ _ m l j hjl, hrd hjl, hout, hn]
      · show _ = _
        rw [e, hrd hjl]
        simp only [wEventL]
        omega
    · show l.length - (j + 1) < l.length - j; omega
  · have : j = l.length := by omega
    repeat' ((with_reducible (first | refine gP ?_|refine gN ?_|refine fG.split (fun _ => ?_) (fun _ => ?_)|refine fG.not ?_|refine gY ?_|refine gF ?_|refine fG.yes (flat_map (fun _ => rfl) _) ?_|refine fG.bool (fun _ => ?_) (fun _ => ?_)|refine gS64 ?_|refine gU8 ?_|refine gI16 ?_|refine fE.of rfl ?_|refine gNum16 ?_|refine gSet ?_|refine gRd ?_|refine gLk ?_|refine gRow16 ?_|refine gRf4 ?_)) <;> (try (conv => whnf)))
    rw [hout, hn, this, half_all, List.take_length]

theorem wts_mul {α : Type} (n : Nat) (l : List (List α)) : wts (fun x => n * x.length) l = n * wts List.length l := by
  induction l with
  | nil => rfl
  | cons a l ih => simp only [wts] at ih ⊢; rw [ih, Nat.mul_add]
def mState (m : Int) (x : State) : State := ⟨m, marksI (m + 1) x.regs, marksI (m + 1 + x.regs.length) x.out, m + 1 + x.regs.length + x.out.length⟩
def wState (x : State) : Nat := 2 + x.regs.length + x.out.length
theorem wts_wState (l : List State) : wts wState l = 2 * l.length + wts wSt l := by
  induction l with
  | nil => rfl
  | cons a l ih => simp only [wts, List.length_cons, wState, wSt] at ih ⊢; omega
set_option maxHeartbeats 4000000 in
theorem ok_laws_markStateS (k : Nat) (l : List State) (m : Int) (hl : l.length ≤ 100000000000) (h0 : 0 ≤ m) (h1 : m + wts wState l ≤ 10000000000) (hx : ∀ j : Nat, j < l.length → (rd l j).regs.length ≤ 10000000000 ∧ (rd l j).out.length ≤ 10000000000) :
    callE PR C (k + 2) 85 [.h 1000000 0 0 [] 4 0 l.length, i64 m] [tStateS9 l] = some ⟨i64 (m + wts wState l), [], [some (tStateS9 (marks mState wState m l))]⟩ := by
  (refine callE_is (callE_w [ResultVar.tmp 4] rfl Tryz.func85 rfl (by decide +kernel) rfl (by simp) ?_); (conv => whnf))
  repeat' ((with_reducible (first | refine gP ?_|refine gN ?_|refine fG.split (fun _ => ?_) (fun _ => ?_)|refine fG.not ?_|refine gY ?_|refine gF ?_|refine fG.yes (flat_map (fun _ => rfl) _) ?_|refine fG.bool (fun _ => ?_) (fun _ => ?_)|refine gS64 ?_|refine gU8 ?_|refine gI16 ?_|refine fE.of rfl ?_|refine gNum16 ?_|refine gSet ?_|refine gRd ?_|refine gLk ?_|refine gRow16 ?_|refine gRf4 ?_)) <;> (try (conv => whnf)))
  refine loop_rule (ι := TM State) (fun x => [(0, .h 1000000 0 0 [] 4 0 l.length), (1, i64 x.m), (5, i64 (x.j : Nat))])
    (fun x => [(1000000, ⟨0, x.g, x.d, tStateS9 x.l⟩)])
    (fun x => l.length - x.j) (fun x => x.j ≤ l.length ∧ x.l = half mState wState m l x.j ∧ x.m = m + wts wState (l.take x.j)) ⟨0, m, l, 0, false⟩ (by (try dsimp only [cond_true, cond_false]); exact ⟨⟨rfl, rfl, rfl, trivial⟩, ⟨rfl, trivial⟩⟩) ⟨Nat.zero_le _, (half_zero _ _ m l).symm, by simp [wts]⟩ (by simp [C]; omega) ?_
  rintro ⟨j, n, out, g, d⟩ sl ob ⟨hj, hout, hn⟩
  dsimp only at hj hout hn
  have hlen : out.length = l.length := by rw [hout, half_len]
  have hn1 : n ≤ 10000000000 := by have := wts_le wState l j; omega
  have hn0 : 0 ≤ n := by omega
  have hrd : j < l.length → rd out j = rd l j := fun h => by rw [hout]; exact half_rd _ _ m l j h
  have hx' : j < l.length → (rd out j).regs.length ≤ 10000000000 ∧ (rd out j).out.length ≤ 10000000000 := fun h => by rw [hrd h]; exact hx j h
  (try dsimp only [cond_true, cond_false])
  (conv => whnf)
  by_cases hjl : j < l.length
  · have hx1 := (hx' hjl).1
    have hx2 := (hx' hjl).2
    have hq1 := fun k => ok_laws_markIntS' k (rd out j).regs (n + 1) (by omega) (by omega) (by omega)
    have hq2 := fun k => ok_laws_markIntS' k (rd out j).out (n + 1 + (rd out j).regs.length) (by omega) (by omega) (by omega)
    repeat' ((with_reducible (first | refine sCall.of (hq1 _) ?_|refine sCall.of (hq2 _) ?_|refine gP ?_|refine gN ?_|refine fG.split (fun _ => ?_) (fun _ => ?_)|refine fG.not ?_|refine gY ?_|refine gF ?_|refine fG.yes (flat_map (fun _ => rfl) _) ?_|refine fG.bool (fun _ => ?_) (fun _ => ?_)|refine gS64 ?_|refine gU8 ?_|refine gI16 ?_|refine fE.of rfl ?_|refine gNum16 ?_|refine gSet ?_|refine gRd ?_|refine gLk ?_|refine gRow16 ?_|refine gRf4 ?_)) <;> (try (conv => whnf)))
    refine ⟨⟨⟨j + 1, n + 1 + (rd out j).regs.length + (rd out j).out.length + 1, out.set j (mState n (rd out j)), _, _⟩, (by (try dsimp only [cond_true, cond_false]); exact ⟨⟨rfl, rfl, rfl, trivial⟩, ⟨rfl, trivial⟩⟩), ?_, ?_⟩⟩
    · have e := wts_take wState l j hjl
      refine ⟨by show j + 1 ≤ _; omega, ?_, ?_⟩
      · show _ = _
        rw [← half_set _ _ m l j hjl, hrd hjl, hout, hn]
      · show _ = _
        rw [e, hrd hjl]
        simp only [wState]
        omega
    · show l.length - (j + 1) < l.length - j; omega
  · have : j = l.length := by omega
    repeat' ((with_reducible (first | refine gP ?_|refine gN ?_|refine fG.split (fun _ => ?_) (fun _ => ?_)|refine fG.not ?_|refine gY ?_|refine gF ?_|refine fG.yes (flat_map (fun _ => rfl) _) ?_|refine fG.bool (fun _ => ?_) (fun _ => ?_)|refine gS64 ?_|refine gU8 ?_|refine gI16 ?_|refine fE.of rfl ?_|refine gNum16 ?_|refine gSet ?_|refine gRd ?_|refine gLk ?_|refine gRow16 ?_|refine gRf4 ?_)) <;> (try (conv => whnf)))
    rw [hout, hn, this, half_all, List.take_length]
/-- How much marks a system takes. -/
def sysW (P : List (List Ins)) (S : List State) (W : List (List Item)) (H : List (List Event)) : Nat := wts wInsL P + (wts wState S + (wts wItemL W + wts wEventL H))
theorem sysW_le (P : List (List Ins)) (S : List State) (W : List (List Item)) (H : List (List Event)) : sysW P S W H ≤ 5 * sysSz P S W H := by
  have h1 : wts wInsL P = 5 * wts List.length P := wts_mul 5 P
  have h2 := wts_wState S
  have h3 : wts wItemL W = 2 * wts List.length W := wts_mul 2 W
  have h4 : wts wEventL H = 3 * wts List.length H := wts_mul 3 H
  unfold sysW sysSz
  omega
def mkP (m : Int) (P : List (List Ins)) : List (List Ins) := marks mInsL wInsL m P
def mkS (m : Int) (P : List (List Ins)) (S : List State) : List State := marks mState wState (m + wts wInsL P) S
def mkW (m : Int) (P : List (List Ins)) (S : List State) (W : List (List Item)) : List (List Item) := marks mItemL wItemL (m + wts wInsL P + wts wState S) W
def mkH (m : Int) (P : List (List Ins)) (S : List State) (W : List (List Item)) (H : List (List Event)) : List (List Event) := marks mEventL wEventL (m + wts wInsL P + wts wState S + wts wItemL W) H
theorem ok_laws_markSys (k : Nat) (P : List (List Ins)) (S : List State) (W : List (List Item)) (H : List (List Event)) (m : Int) (hb : SysB 1048576 P S W H) (h0 : 0 ≤ m) (h1 : m + sysW P S W H ≤ 1000000000) :
    callE PR C (k + 3) 28 [aSys 0 P S W H, i64 m] [tInsSS9 P, tStateS9 S, tItemSS9 W, tEventSS9 H] = some ⟨i64 (m + sysW P S W H), [], [some (tInsSS9 (mkP m P)), some (tStateS9 (mkS m P S)), some (tItemSS9 (mkW m P S W)), some (tEventSS9 (mkH m P S W H))]⟩ := by
  rw [show m + ((sysW P S W H : Nat) : Int) = m + wts wInsL P + wts wState S + wts wItemL W + wts wEventL H by simp only [sysW]; omega]
  unfold sysW at h1
  unfold mkP mkS mkW mkH
  have b1 := hb.p
  have b2 := hb.s
  have b3 := hb.w
  have b4 := hb.h
  have q1 := fun k => ok_laws_markInsSS k P m (by omega) h0 (by omega) (fun j hj => by have := hb.pp j hj; omega)
  have q2 := fun k => ok_laws_markStateS k S (m + wts wInsL P) (by omega) (by omega) (by omega) (fun j hj => by have := hb.ss j hj; omega)
  have q3 := fun k => ok_laws_markItemSS k W (m + wts wInsL P + wts wState S) (by omega) (by omega) (by omega) (fun j hj => by have := hb.ww j hj; omega)
  have q4 := fun k => ok_laws_markEventSS k H (m + wts wInsL P + wts wState S + wts wItemL W) (by omega) (by omega) (by omega) (fun j hj => by have := hb.hh j hj; omega)
  have e1 := marks_len mInsL wInsL P m
  have e2 := marks_len mState wState S (m + wts wInsL P)
  have e3 := marks_len mItemL wItemL W (m + wts wInsL P + wts wState S)
  have e4 := marks_len mEventL wEventL H (m + wts wInsL P + wts wState S + wts wItemL W)
  (refine callE_is (callE_w [ResultVar.tmp 4] rfl Tryz.func28 rfl (by decide +kernel) rfl (by simp) ?_); (conv => whnf))
  repeat' ((with_reducible (first | refine sCall.of (q1 _) ?_|refine sCall.of (q2 _) ?_|refine sCall.of (q3 _) ?_|refine sCall.of (q4 _) ?_|refine gP ?_|refine gN ?_|refine fG.split (fun _ => ?_) (fun _ => ?_)|refine fG.not ?_|refine gY ?_|refine gF ?_|refine fG.yes (flat_map (fun _ => rfl) _) ?_|refine fG.bool (fun _ => ?_) (fun _ => ?_)|refine gS64 ?_|refine gU8 ?_|refine gI16 ?_|refine fE.of rfl ?_|refine gNum16 ?_|refine gSet ?_|refine gRd ?_|refine gLk ?_|refine gRow16 ?_|refine gRf4 ?_)) <;> (try (conv => whnf)))

/-! ### Marks that are held, in systems (printed by gen/held.py) -/
theorem gBeq {a b : Bool} {A B : Prop} (h : B) (e : a = b := by with_reducible assumption) : fG (!(a == b)) A B := by subst e; cases a <;> exact h
theorem ok_laws_heldInsS (k : Nat) (x l : List Ins) (m : Int) (hl : l.length ≤ 1000000000) (h0 : 0 ≤ m) (h1 : m ≤ 10000000000) (e : x = marks mIns wIns m l) : callE PR C (k + 1) 188 [.h 1000000 0 0 [] 5 0 x.length, i64 m] [.tree 0 (.sl 5 (x.map rIns))] = some ⟨i64 (m + 5 * l.length), [], [none]⟩ := by
  have hxl : x.length = l.length := by rw [e, marks_len]
  (refine callE_is (callE_w [ResultVar.tmp 4] rfl Tryz.func188 rfl (by decide +kernel) rfl (by simp) ?_); (conv => whnf))
  repeat' ((with_reducible (first | refine gP ?_|refine gN ?_|refine fG.split (fun _ => ?_) (fun _ => ?_)|refine fG.not ?_|refine gY ?_|refine gF ?_|refine fG.yes (flat_map (fun _ => rfl) _) ?_|refine fG.bool (fun _ => ?_) (fun _ => ?_)|refine gS64 ?_|refine gU8 ?_|refine gI16 ?_|refine fE.of rfl ?_|refine gNum16 ?_|refine gSet ?_|refine gRd ?_|refine gLk ?_|refine gRow16 ?_|refine gRf4 ?_)) <;> (try (conv => whnf)))
  refine loop_rule (ι := TH) (fun z => [(0, .h 1000000 0 0 [] 5 0 x.length), (1, i64 z.m), (5, i64 (z.j : Nat))])
    (fun z => [(1000000, ⟨0, 0, false, .tree 0 (.sl 5 (x.map rIns))⟩)])
    (fun z => l.length - z.j) (fun z => z.j ≤ l.length ∧ z.m = m + 5 * z.j) ⟨0, m⟩ (by (try dsimp only [cond_true, cond_false]); exact ⟨⟨rfl, rfl, rfl, trivial⟩, ⟨rfl, trivial⟩⟩) ⟨Nat.zero_le _, by simp⟩ (by simp [C]; omega) ?_
  rintro ⟨j, n⟩ sl ob ⟨hj, hn⟩
  dsimp only at hj hn
  (try dsimp only [cond_true, cond_false])
  (conv => whnf)
  by_cases hjl : j < l.length
  · have hr : rd x j = mIns n (rd l j) := by
      rw [e, marks_rd _ _ _ _ _ hjl, wts_wIns, List.length_take, hn]
      rw [show min j l.length = j by omega]
      simp
    have hr1 : (rd x j).op = n := by rw [hr]; rfl
    have hr2 : (rd x j).r = n + 1 := by rw [hr]; rfl
    have hr3 : (rd x j).a = n + 1 + 1 := by rw [hr]; rfl
    have hr4 : (rd x j).b = n + 1 + 1 + 1 := by rw [hr]; rfl
    have hr5 : (rd x j).n = n + 1 + 1 + 1 + 1 := by rw [hr]; rfl
    clear hr e
    repeat' ((with_reducible (first | refine gP ?_|refine gN ?_|refine fG.split (fun _ => ?_) (fun _ => ?_)|refine fG.not ?_|refine gY ?_|refine gF ?_|refine fG.yes (flat_map (fun _ => rfl) _) ?_|refine fG.bool (fun _ => ?_) (fun _ => ?_)|refine gS64 ?_|refine gU8 ?_|refine gI16 ?_|refine fE.of rfl ?_|refine gNum16 ?_|refine gSet ?_|refine gRd ?_|refine gLk ?_|refine gRow16 ?_|refine gRf4 ?_)) <;> (try (conv => whnf)))
    refine ⟨⟨⟨j + 1, n + 1 + 1 + 1 + 1 + 1⟩, (by (try dsimp only [cond_true, cond_false]); exact ⟨⟨rfl, rfl, rfl, trivial⟩, ⟨rfl, trivial⟩⟩), ?_, ?_⟩⟩
    · exact ⟨by show j + 1 ≤ _; omega, by show _ = _; push_cast; omega⟩
    · show l.length - (j + 1) < l.length - j; omega
  · have : j = l.length := by omega
    repeat' ((with_reducible (first | refine gP ?_|refine gN ?_|refine fG.split (fun _ => ?_) (fun _ => ?_)|refine fG.not ?_|refine gY ?_|refine gF ?_|refine fG.yes (flat_map (fun _ => rfl) _) ?_|refine fG.bool (fun _ => ?_) (fun _ => ?_)|refine gS64 ?_|refine gU8 ?_|refine gI16 ?_|refine fE.of rfl ?_|refine gNum16 ?_|refine gSet ?_|refine gRd ?_|refine gLk ?_|refine gRow16 ?_|refine gRf4 ?_)) <;> (try (conv => whnf)))
    rw [hn, this]
theorem ok_laws_heldItemS (k : Nat) (x l : List Item) (m : Int) (hl : l.length ≤ 1000000000) (h0 : 0 ≤ m) (h1 : m ≤ 10000000000) (e : x = marks mItem wItem m l) : callE PR C (k + 1) 189 [.h 1000000 0 0 [] 2 0 x.length, i64 m] [.tree 0 (.sl 2 (x.map rItem))] = some ⟨i64 (m + 2 * l.length), [], [none]⟩ := by
  have hxl : x.length = l.length := by rw [e, marks_len]
  (refine callE_is (callE_w [ResultVar.tmp 4] rfl Tryz.func189 rfl (by decide +kernel) rfl (by simp) ?_); (conv => whnf))
  repeat' ((with_reducible (first | refine gP ?_|refine gN ?_|refine fG.split (fun _ => ?_) (fun _ => ?_)|refine fG.not ?_|refine gY ?_|refine gF ?_|refine fG.yes (flat_map (fun _ => rfl) _) ?_|refine fG.bool (fun _ => ?_) (fun _ => ?_)|refine gS64 ?_|refine gU8 ?_|refine gI16 ?_|refine fE.of rfl ?_|refine gNum16 ?_|refine gSet ?_|refine gRd ?_|refine gLk ?_|refine gRow16 ?_|refine gRf4 ?_)) <;> (try (conv => whnf)))
  refine loop_rule (ι := TH) (fun z => [(0, .h 1000000 0 0 [] 2 0 x.length), (1, i64 z.m), (5, i64 (z.j : Nat))])
    (fun z => [(1000000, ⟨0, 0, false, .tree 0 (.sl 2 (x.map rItem))⟩)])
    (fun z => l.length - z.j) (fun z => z.j ≤ l.length ∧ z.m = m + 2 * z.j) ⟨0, m⟩ (by (try dsimp only [cond_true, cond_false]); exact ⟨⟨rfl, rfl, rfl, trivial⟩, ⟨rfl, trivial⟩⟩) ⟨Nat.zero_le _, by simp⟩ (by simp [C]; omega) ?_
  rintro ⟨j, n⟩ sl ob ⟨hj, hn⟩
  dsimp only at hj hn
  (try dsimp only [cond_true, cond_false])
  (conv => whnf)
  by_cases hjl : j < l.length
  · have hr : rd x j = mItem n (rd l j) := by
      rw [e, marks_rd _ _ _ _ _ hjl, wts_wItem, List.length_take, hn]
      rw [show min j l.length = j by omega]
      simp
    have hr1 : (rd x j).mark = decide (Int.tmod (n) 3 = 0) := by rw [hr]; rfl
    have hr2 : (rd x j).v = n + 1 := by rw [hr]; rfl
    clear hr e
    have hz : n.tmod 3 = n.tmod 3 := rfl
    repeat' ((with_reducible (first | refine sZ.eq (hz) ?_|refine gBeq ?_|refine gP ?_|refine gN ?_|refine fG.split (fun _ => ?_) (fun _ => ?_)|refine fG.not ?_|refine gY ?_|refine gF ?_|refine fG.yes (flat_map (fun _ => rfl) _) ?_|refine fG.bool (fun _ => ?_) (fun _ => ?_)|refine gS64 ?_|refine gU8 ?_|refine gI16 ?_|refine fE.of rfl ?_|refine gNum16 ?_|refine gSet ?_|refine gRd ?_|refine gLk ?_|refine gRow16 ?_|refine gRf4 ?_)) <;> (try (conv => whnf)))
    refine ⟨⟨⟨j + 1, n + 1 + 1⟩, (by (try dsimp only [cond_true, cond_false]); exact ⟨⟨rfl, rfl, rfl, trivial⟩, ⟨rfl, trivial⟩⟩), ?_, ?_⟩⟩
    · exact ⟨by show j + 1 ≤ _; omega, by show _ = _; push_cast; omega⟩
    · show l.length - (j + 1) < l.length - j; omega
  · have : j = l.length := by omega
    repeat' ((with_reducible (first | refine gP ?_|refine gN ?_|refine fG.split (fun _ => ?_) (fun _ => ?_)|refine fG.not ?_|refine gY ?_|refine gF ?_|refine fG.yes (flat_map (fun _ => rfl) _) ?_|refine fG.bool (fun _ => ?_) (fun _ => ?_)|refine gS64 ?_|refine gU8 ?_|refine gI16 ?_|refine fE.of rfl ?_|refine gNum16 ?_|refine gSet ?_|refine gRd ?_|refine gLk ?_|refine gRow16 ?_|refine gRf4 ?_)) <;> (try (conv => whnf)))
    rw [hn, this]
theorem ok_laws_heldEventS (k : Nat) (x l : List Event) (m : Int) (hl : l.length ≤ 1000000000) (h0 : 0 ≤ m) (h1 : m ≤ 10000000000) (e : x = marks mEvent wEvent m l) : callE PR C (k + 1) 190 [.h 1000000 0 0 [] 3 0 x.length, i64 m] [.tree 0 (.sl 3 (x.map rEvent))] = some ⟨i64 (m + 3 * l.length), [], [none]⟩ := by
  have hxl : x.length = l.length := by rw [e, marks_len]
  (refine callE_is (callE_w [ResultVar.tmp 4] rfl Tryz.func190 rfl (by decide +kernel) rfl (by simp) ?_); (conv => whnf))
  repeat' ((with_reducible (first | refine gP ?_|refine gN ?_|refine fG.split (fun _ => ?_) (fun _ => ?_)|refine fG.not ?_|refine gY ?_|refine gF ?_|refine fG.yes (flat_map (fun _ => rfl) _) ?_|refine fG.bool (fun _ => ?_) (fun _ => ?_)|refine gS64 ?_|refine gU8 ?_|refine gI16 ?_|refine fE.of rfl ?_|refine gNum16 ?_|refine gSet ?_|refine gRd ?_|refine gLk ?_|refine gRow16 ?_|refine gRf4 ?_)) <;> (try (conv => whnf)))
  refine loop_rule (ι := TH) (fun z => [(0, .h 1000000 0 0 [] 3 0 x.length), (1, i64 z.m), (5, i64 (z.j : Nat))])
    (fun z => [(1000000, ⟨0, 0, false, .tree 0 (.sl 3 (x.map rEvent))⟩)])
    (fun z => l.length - z.j) (fun z => z.j ≤ l.length ∧ z.m = m + 3 * z.j) ⟨0, m⟩ (by (try dsimp only [cond_true, cond_false]); exact ⟨⟨rfl, rfl, rfl, trivial⟩, ⟨rfl, trivial⟩⟩) ⟨Nat.zero_le _, by simp⟩ (by simp [C]; omega) ?_
  rintro ⟨j, n⟩ sl ob ⟨hj, hn⟩
  dsimp only at hj hn
  (try dsimp only [cond_true, cond_false])
  (conv => whnf)
  by_cases hjl : j < l.length
  · have hr : rd x j = mEvent n (rd l j) := by
      rw [e, marks_rd _ _ _ _ _ hjl, wts_wEvent, List.length_take, hn]
      rw [show min j l.length = j by omega]
      simp
    have hr1 : (rd x j).kind = n := by rw [hr]; rfl
    have hr2 : (rd x j).peer = n + 1 := by rw [hr]; rfl
    have hr3 : (rd x j).v = n + 1 + 1 := by rw [hr]; rfl
    clear hr e
    repeat' ((with_reducible (first | refine gP ?_|refine gN ?_|refine fG.split (fun _ => ?_) (fun _ => ?_)|refine fG.not ?_|refine gY ?_|refine gF ?_|refine fG.yes (flat_map (fun _ => rfl) _) ?_|refine fG.bool (fun _ => ?_) (fun _ => ?_)|refine gS64 ?_|refine gU8 ?_|refine gI16 ?_|refine fE.of rfl ?_|refine gNum16 ?_|refine gSet ?_|refine gRd ?_|refine gLk ?_|refine gRow16 ?_|refine gRf4 ?_)) <;> (try (conv => whnf)))
    refine ⟨⟨⟨j + 1, n + 1 + 1 + 1⟩, (by (try dsimp only [cond_true, cond_false]); exact ⟨⟨rfl, rfl, rfl, trivial⟩, ⟨rfl, trivial⟩⟩), ?_, ?_⟩⟩
    · exact ⟨by show j + 1 ≤ _; omega, by show _ = _; push_cast; omega⟩
    · show l.length - (j + 1) < l.length - j; omega
  · have : j = l.length := by omega
    repeat' ((with_reducible (first | refine gP ?_|refine gN ?_|refine fG.split (fun _ => ?_) (fun _ => ?_)|refine fG.not ?_|refine gY ?_|refine gF ?_|refine fG.yes (flat_map (fun _ => rfl) _) ?_|refine fG.bool (fun _ => ?_) (fun _ => ?_)|refine gS64 ?_|refine gU8 ?_|refine gI16 ?_|refine fE.of rfl ?_|refine gNum16 ?_|refine gSet ?_|refine gRd ?_|refine gLk ?_|refine gRow16 ?_|refine gRf4 ?_)) <;> (try (conv => whnf)))
    rw [hn, this]
theorem ok_laws_heldInsSS (k : Nat) (x l : List (List Ins)) (m : Int) (hl : l.length ≤ 1000000000) (h0 : 0 ≤ m) (h1 : m + wts wInsL l ≤ 10000000000) (hx : ∀ j : Nat, j < l.length → (rd l j).length ≤ 1000000000) (e : x = marks mInsL wInsL m l) :
    callE PR C (k + 2) 98 [.h 1000000 0 0 [] 1 0 x.length, i64 m] [.tree 0 (.sl 1 (x.map rInsL))] = some ⟨i64 (m + wts wInsL l), [], [none]⟩ := by
  have hxl : x.length = l.length := by rw [e, marks_len]
  (refine callE_is (callE_w [ResultVar.tmp 4] rfl Tryz.func98 rfl (by decide +kernel) rfl (by simp) ?_); (conv => whnf))
  repeat' ((with_reducible (first | refine gP ?_|refine gN ?_|refine fG.split (fun _ => ?_) (fun _ => ?_)|refine fG.not ?_|refine gY ?_|refine gF ?_|refine fG.yes (flat_map (fun _ => rfl) _) ?_|refine fG.bool (fun _ => ?_) (fun _ => ?_)|refine gS64 ?_|refine gU8 ?_|refine gI16 ?_|refine fE.of rfl ?_|refine gNum16 ?_|refine gSet ?_|refine gRd ?_|refine gLk ?_|refine gRow16 ?_|refine gRf4 ?_)) <;> (try (conv => whnf)))
  refine loop_rule (ι := TH) (fun z => [(0, .h 1000000 0 0 [] 1 0 x.length), (1, i64 z.m), (5, i64 (z.j : Nat))])
    (fun z => [(1000000, ⟨0, 0, false, .tree 0 (.sl 1 (x.map rInsL))⟩)])
    (fun z => l.length - z.j) (fun z => z.j ≤ l.length ∧ z.m = m + wts wInsL (l.take z.j)) ⟨0, m⟩ (by (try dsimp only [cond_true, cond_false]); exact ⟨⟨rfl, rfl, rfl, trivial⟩, ⟨rfl, trivial⟩⟩) ⟨Nat.zero_le _, by simp [wts]⟩ (by simp [C]; omega) ?_
  rintro ⟨j, n⟩ sl ob ⟨hj, hn⟩
  dsimp only at hj hn
  have hn1 : n ≤ 10000000000 := by have := wts_le wInsL l j; omega
  (try dsimp only [cond_true, cond_false])
  (conv => whnf)
  by_cases hjl : j < l.length
  · have hr : rd x j = marks mIns wIns n (rd l j) := by rw [e, marks_rd _ _ _ _ _ hjl, hn]; rfl
    have hln : (rd x j).length = (rd l j).length := by rw [hr, marks_len]
    have hw := wts_take wInsL l j hjl
    have hw2 := wts_le wInsL l (j + 1)
    have hwj : wInsL (rd l j) = 5 * (rd l j).length := rfl
    have hq := fun k => ok_laws_heldInsS k (rd x j) (rd l j) n (hx j hjl) (by omega) hn1 hr
    clear hr e
    repeat' ((with_reducible (first | refine sCall.of (hq _) ?_|refine gP ?_|refine gN ?_|refine fG.split (fun _ => ?_) (fun _ => ?_)|refine fG.not ?_|refine gY ?_|refine gF ?_|refine fG.yes (flat_map (fun _ => rfl) _) ?_|refine fG.bool (fun _ => ?_) (fun _ => ?_)|refine gS64 ?_|refine gU8 ?_|refine gI16 ?_|refine fE.of rfl ?_|refine gNum16 ?_|refine gSet ?_|refine gRd ?_|refine gLk ?_|refine gRow16 ?_|refine gRf4 ?_)) <;> (try (conv => whnf)))
    refine ⟨⟨⟨j + 1, n + 5 * (rd l j).length⟩, (by (try dsimp only [cond_true, cond_false]); exact ⟨⟨rfl, rfl, rfl, trivial⟩, ⟨rfl, trivial⟩⟩), ?_, ?_⟩⟩
    · exact ⟨by show j + 1 ≤ _; omega, by show _ = _; rw [hw, hwj]; push_cast; omega⟩
    · show l.length - (j + 1) < l.length - j; omega
  · have : j = l.length := by omega
    repeat' ((with_reducible (first | refine gP ?_|refine gN ?_|refine fG.split (fun _ => ?_) (fun _ => ?_)|refine fG.not ?_|refine gY ?_|refine gF ?_|refine fG.yes (flat_map (fun _ => rfl) _) ?_|refine fG.bool (fun _ => ?_) (fun _ => ?_)|refine gS64 ?_|refine gU8 ?_|refine gI16 ?_|refine fE.of rfl ?_|refine gNum16 ?_|refine gSet ?_|refine gRd ?_|refine gLk ?_|refine gRow16 ?_|refine gRf4 ?_)) <;> (try (conv => whnf)))
    rw [hn, this, List.take_length]
theorem ok_laws_heldItemSS (k : Nat) (x l : List (List Item)) (m : Int) (hl : l.length ≤ 1000000000) (h0 : 0 ≤ m) (h1 : m + wts wItemL l ≤ 10000000000) (hx : ∀ j : Nat, j < l.length → (rd l j).length ≤ 1000000000) (e : x = marks mItemL wItemL m l) :
    callE PR C (k + 2) 100 [.h 1000000 0 0 [] 1 0 x.length, i64 m] [.tree 0 (.sl 1 (x.map rItemL))] = some ⟨i64 (m + wts wItemL l), [], [none]⟩ := by
  have hxl : x.length = l.length := by rw [e, marks_len]
  (refine callE_is (callE_w [ResultVar.tmp 4] rfl Tryz.func100 rfl (by decide +kernel) rfl (by simp) ?_); (conv => whnf))
  repeat' ((with_reducible (first | refine gP ?_|refine gN ?_|refine fG.split (fun _ => ?_) (fun _ => ?_)|refine fG.not ?_|refine gY ?_|refine gF ?_|refine fG.yes (flat_map (fun _ => rfl) _) ?_|refine fG.bool (fun _ => ?_) (fun _ => ?_)|refine gS64 ?_|refine gU8 ?_|refine gI16 ?_|refine fE.of rfl ?_|refine gNum16 ?_|refine gSet ?_|refine gRd ?_|refine gLk ?_|refine gRow16 ?_|refine gRf4 ?_)) <;> (try (conv => whnf)))
  refine loop_rule (ι := TH) (fun z => [(0, .h 1000000 0 0 [] 1 0 x.length), (1, i64 z.m), (5, i64 (z.j : Nat))])
    (fun z => [(1000000, ⟨0, 0, false, .tree 0 (.sl 1 (x.map rItemL))⟩)])
    (fun z => l.length - z.j) (fun z => z.j ≤ l.length ∧ z.m = m + wts wItemL (l.take z.j)) ⟨0, m⟩ (by (try dsimp only [cond_true, cond_false]); exact ⟨⟨rfl, rfl, rfl, trivial⟩, ⟨rfl, trivial⟩⟩) ⟨Nat.zero_le _, by simp [wts]⟩ (by simp [C]; omega) ?_
  rintro ⟨j, n⟩ sl ob ⟨hj, hn⟩
  dsimp only at hj hn
  have hn1 : n ≤ 10000000000 := by have := wts_le wItemL l j; omega
  (try dsimp only [cond_true, cond_false])
  (conv => whnf)
  by_cases hjl : j < l.length
  · have hr : rd x j = marks mItem wItem n (rd l j) := by rw [e, marks_rd _ _ _ _ _ hjl, hn]; rfl
    have hln : (rd x j).length = (rd l j).length := by rw [hr, marks_len]
    have hw := wts_take wItemL l j hjl
    have hw2 := wts_le wItemL l (j + 1)
    have hwj : wItemL (rd l j) = 2 * (rd l j).length := rfl
    have hq := fun k => ok_laws_heldItemS k (rd x j) (rd l j) n (hx j hjl) (by omega) hn1 hr
    clear hr e
    repeat' ((with_reducible (first | refine sCall.of (hq _) ?_|refine gP ?_|refine gN ?_|refine fG.split (fun _ => ?_) (fun _ => ?_)|refine fG.not ?_|refine gY ?_|refine gF ?_|refine fG.yes (flat_map (fun _ => rfl) _) ?_|refine fG.bool (fun _ => ?_) (fun _ => ?_)|refine gS64 ?_|refine gU8 ?_|refine gI16 ?_|refine fE.of rfl ?_|refine gNum16 ?_|refine gSet ?_|refine gRd ?_|refine gLk ?_|refine gRow16 ?_|refine gRf4 ?_)) <;> (try (conv => whnf)))
    refine ⟨⟨⟨j + 1, n + 2 * (rd l j).length⟩, (by (try dsimp only [cond_true, cond_false]); exact ⟨⟨rfl, rfl, rfl, trivial⟩, ⟨rfl, trivial⟩⟩), ?_, ?_⟩⟩
    · exact ⟨by show j + 1 ≤ _; omega, by show _ = _; rw [hw, hwj]; push_cast; omega⟩
    · show l.length - (j + 1) < l.length - j; omega
  · have : j = l.length := by omega
    repeat' ((with_reducible (first | refine gP ?_|refine gN ?_|refine fG.split (fun _ => ?_) (fun _ => ?_)|refine fG.not ?_|refine gY ?_|refine gF ?_|refine fG.yes (flat_map (fun _ => rfl) _) ?_|refine fG.bool (fun _ => ?_) (fun _ => ?_)|refine gS64 ?_|refine gU8 ?_|refine gI16 ?_|refine fE.of rfl ?_|refine gNum16 ?_|refine gSet ?_|refine gRd ?_|refine gLk ?_|refine gRow16 ?_|refine gRf4 ?_)) <;> (try (conv => whnf)))
    rw [hn, this, List.take_length]
theorem ok_laws_heldEventSS (k : Nat) (x l : List (List Event)) (m : Int) (hl : l.length ≤ 1000000000) (h0 : 0 ≤ m) (h1 : m + wts wEventL l ≤ 10000000000) (hx : ∀ j : Nat, j < l.length → (rd l j).length ≤ 1000000000) (e : x = marks mEventL wEventL m l) :
    callE PR C (k + 2) 101 [.h 1000000 0 0 [] 1 0 x.length, i64 m] [.tree 0 (.sl 1 (x.map rEventL))] = some ⟨i64 (m + wts wEventL l), [], [none]⟩ := by
  have hxl : x.length = l.length := by rw [e, marks_len]
  (refine callE_is (callE_w [ResultVar.tmp 4] rfl Tryz.func101 rfl (by decide +kernel) rfl (by simp) ?_); (conv => whnf))
  repeat' ((with_reducible (first | refine gP ?_|refine gN ?_|refine fG.split (fun _ => ?_) (fun _ => ?_)|refine fG.not ?_|refine gY ?_|refine gF ?_|refine fG.yes (flat_map (fun _ => rfl) _) ?_|refine fG.bool (fun _ => ?_) (fun _ => ?_)|refine gS64 ?_|refine gU8 ?_|refine gI16 ?_|refine fE.of rfl ?_|refine gNum16 ?_|refine gSet ?_|refine gRd ?_|refine gLk ?_|refine gRow16 ?_|refine gRf4 ?_)) <;> (try (conv => whnf)))
  refine loop_rule (ι := TH) (fun z => [(0, .h 1000000 0 0 [] 1 0 x.length), (1, i64 z.m), (5, i64 (z.j : Nat))])
    (fun z => [(1000000, ⟨0, 0, false, .tree 0 (.sl 1 (x.map rEventL))⟩)])
    (fun z => l.length - z.j) (fun z => z.j ≤ l.length ∧ z.m = m + wts wEventL (l.take z.j)) ⟨0, m⟩ (by (try dsimp only [cond_true, cond_false]); exact ⟨⟨rfl, rfl, rfl, trivial⟩, ⟨rfl, trivial⟩⟩) ⟨Nat.zero_le _, by simp [wts]⟩ (by simp [C]; omega) ?_
  rintro ⟨j, n⟩ sl ob ⟨hj, hn⟩
  dsimp only at hj hn
  have hn1 : n ≤ 10000000000 := by have := wts_le wEventL l j; omega
  (try dsimp only [cond_true, cond_false])
  (conv => whnf)
  by_cases hjl : j < l.length
  · have hr : rd x j = marks mEvent wEvent n (rd l j) := by rw [e, marks_rd _ _ _ _ _ hjl, hn]; rfl
    have hln : (rd x j).length = (rd l j).length := by rw [hr, marks_len]
    have hw := wts_take wEventL l j hjl
    have hw2 := wts_le wEventL l (j + 1)
    have hwj : wEventL (rd l j) = 3 * (rd l j).length := rfl
    have hq := fun k => ok_laws_heldEventS k (rd x j) (rd l j) n (hx j hjl) (by omega) hn1 hr
    clear hr e
    repeat' ((with_reducible (first | refine sCall.of (hq _) ?_|refine gP ?_|refine gN ?_|refine fG.split (fun _ => ?_) (fun _ => ?_)|refine fG.not ?_|refine gY ?_|refine gF ?_|refine fG.yes (flat_map (fun _ => rfl) _) ?_|refine fG.bool (fun _ => ?_) (fun _ => ?_)|refine gS64 ?_|refine gU8 ?_|refine gI16 ?_|refine fE.of rfl ?_|refine gNum16 ?_|refine gSet ?_|refine gRd ?_|refine gLk ?_|refine gRow16 ?_|refine gRf4 ?_)) <;> (try (conv => whnf)))
    refine ⟨⟨⟨j + 1, n + 3 * (rd l j).length⟩, (by (try dsimp only [cond_true, cond_false]); exact ⟨⟨rfl, rfl, rfl, trivial⟩, ⟨rfl, trivial⟩⟩), ?_, ?_⟩⟩
    · exact ⟨by show j + 1 ≤ _; omega, by show _ = _; rw [hw, hwj]; push_cast; omega⟩
    · show l.length - (j + 1) < l.length - j; omega
  · have : j = l.length := by omega
    repeat' ((with_reducible (first | refine gP ?_|refine gN ?_|refine fG.split (fun _ => ?_) (fun _ => ?_)|refine fG.not ?_|refine gY ?_|refine gF ?_|refine fG.yes (flat_map (fun _ => rfl) _) ?_|refine fG.bool (fun _ => ?_) (fun _ => ?_)|refine gS64 ?_|refine gU8 ?_|refine gI16 ?_|refine fE.of rfl ?_|refine gNum16 ?_|refine gSet ?_|refine gRd ?_|refine gLk ?_|refine gRow16 ?_|refine gRf4 ?_)) <;> (try (conv => whnf)))
    rw [hn, this, List.take_length]
set_option maxHeartbeats 4000000 in
theorem ok_laws_heldStateS (k : Nat) (x l : List State) (m : Int) (hl : l.length ≤ 1000000000) (h0 : 0 ≤ m) (h1 : m + wts wState l ≤ 10000000000) (hx : ∀ j : Nat, j < l.length → (rd l j).regs.length ≤ 1000000000 ∧ (rd l j).out.length ≤ 1000000000) (e : x = marks mState wState m l) :
    callE PR C (k + 2) 99 [.h 1000000 0 0 [] 4 0 x.length, i64 m] [tStateS x] = some ⟨i64 (m + wts wState l), [], [none]⟩ := by
  have hxl : x.length = l.length := by rw [e, marks_len]
  (refine callE_is (callE_w [ResultVar.tmp 4] rfl Tryz.func99 rfl (by decide +kernel) rfl (by simp) ?_); (conv => whnf))
  repeat' ((with_reducible (first | refine gP ?_|refine gN ?_|refine fG.split (fun _ => ?_) (fun _ => ?_)|refine fG.not ?_|refine gY ?_|refine gF ?_|refine fG.yes (flat_map (fun _ => rfl) _) ?_|refine fG.bool (fun _ => ?_) (fun _ => ?_)|refine gS64 ?_|refine gU8 ?_|refine gI16 ?_|refine fE.of rfl ?_|refine gNum16 ?_|refine gSet ?_|refine gRd ?_|refine gLk ?_|refine gRow16 ?_|refine gRf4 ?_)) <;> (try (conv => whnf)))
  refine loop_rule (ι := TH) (fun z => [(0, .h 1000000 0 0 [] 4 0 x.length), (1, i64 z.m), (5, i64 (z.j : Nat))])
    (fun z => [(1000000, ⟨0, 0, false, tStateS x⟩)])
    (fun z => l.length - z.j) (fun z => z.j ≤ l.length ∧ z.m = m + wts wState (l.take z.j)) ⟨0, m⟩ (by (try dsimp only [cond_true, cond_false]); exact ⟨⟨rfl, rfl, rfl, trivial⟩, ⟨rfl, trivial⟩⟩) ⟨Nat.zero_le _, by simp [wts]⟩ (by simp [C]; omega) ?_
  rintro ⟨j, n⟩ sl ob ⟨hj, hn⟩
  dsimp only at hj hn
  have hn1 : n ≤ 10000000000 := by have := wts_le wState l j; omega
  (try dsimp only [cond_true, cond_false])
  (conv => whnf)
  by_cases hjl : j < l.length
  · have hx1 := (hx j hjl).1
    have hx2 := (hx j hjl).2
    have hw := wts_take wState l j hjl
    have hw2 := wts_le wState l (j + 1)
    have er : rd x j = mState n (rd l j) := by rw [e, hn]; exact marks_rd _ _ m l j hjl
    have e2 : (rd x j).at_ = n := by rw [er]; rfl
    have e3 : (rd x j).regs = marksI (n + 1) (rd l j).regs := by rw [er]; rfl
    have e4 : (rd x j).out = marksI (n + 1 + (rd x j).regs.length) (rd l j).out := by rw [e3, marksI_len, er]; rfl
    have l1 : (rd x j).regs.length = (rd l j).regs.length := by rw [e3, marksI_len]
    have l2 : (rd x j).out.length = (rd l j).out.length := by rw [e4, marksI_len]
    have e5 : (rd x j).code = n + 1 + (rd x j).regs.length + (rd x j).out.length := by rw [l1, l2, er]; rfl
    have hwj : wState (rd l j) = 2 + (rd x j).regs.length + (rd x j).out.length := by rw [l1, l2]; rfl
    have hq1 := fun k => ok_laws_heldIntS k (rd x j).regs (n + 1) (by omega) (by omega) (by omega) (fun i hi => by rw [e3] at hi ⊢; exact marksI_rd _ _ i hi)
    have hq2 := fun k => ok_laws_heldIntS k (rd x j).out (n + 1 + (rd x j).regs.length) (by omega) (by omega) (by omega) (fun i hi => by rw [e4] at hi ⊢; exact marksI_rd _ _ i hi)
    clear e3 e4 er e
    repeat' ((with_reducible (first | refine sCall.of (hq1 _) ?_|refine sCall.of (hq2 _) ?_|refine gP ?_|refine gN ?_|refine fG.split (fun _ => ?_) (fun _ => ?_)|refine fG.not ?_|refine gY ?_|refine gF ?_|refine fG.yes (flat_map (fun _ => rfl) _) ?_|refine fG.bool (fun _ => ?_) (fun _ => ?_)|refine gS64 ?_|refine gU8 ?_|refine gI16 ?_|refine fE.of rfl ?_|refine gNum16 ?_|refine gSet ?_|refine gRd ?_|refine gLk ?_|refine gRow16 ?_|refine gRf4 ?_)) <;> (try (conv => whnf)))
    refine ⟨⟨⟨j + 1, n + 1 + (rd x j).regs.length + (rd x j).out.length + 1⟩, (by (try dsimp only [cond_true, cond_false]); exact ⟨⟨rfl, rfl, rfl, trivial⟩, ⟨rfl, trivial⟩⟩), ?_, ?_⟩⟩
    · exact ⟨by show j + 1 ≤ _; omega, by show _ = _; rw [hw, hwj]; push_cast; omega⟩
    · show l.length - (j + 1) < l.length - j; omega
  · have : j = l.length := by omega
    repeat' ((with_reducible (first | refine gP ?_|refine gN ?_|refine fG.split (fun _ => ?_) (fun _ => ?_)|refine fG.not ?_|refine gY ?_|refine gF ?_|refine fG.yes (flat_map (fun _ => rfl) _) ?_|refine fG.bool (fun _ => ?_) (fun _ => ?_)|refine gS64 ?_|refine gU8 ?_|refine gI16 ?_|refine fE.of rfl ?_|refine gNum16 ?_|refine gSet ?_|refine gRd ?_|refine gLk ?_|refine gRow16 ?_|refine gRf4 ?_)) <;> (try (conv => whnf)))
    rw [hn, this, List.take_length]
theorem ok_laws_heldSys (k : Nat) (P : List (List Ins)) (S : List State) (W : List (List Item)) (H : List (List Event)) (P' : List (List Ins)) (S' : List State) (W' : List (List Item)) (H' : List (List Event)) (m : Int) (hb : SysB 1000000000 P S W H) (h0 : 0 ≤ m) (h1 : m + sysW P S W H ≤ 10000000000)
    (e1 : P' = mkP m P) (e2 : S' = mkS m P S) (e3 : W' = mkW m P S W) (e4 : H' = mkH m P S W H) :
    callE PR C (k + 3) 37 [aSys 0 P' S' W' H', i64 m] [tInsSS P', tStateS S', tItemSS W', tEventSS H'] = some ⟨i64 (m + sysW P S W H), [], [none, none, none, none]⟩ := by
  rw [show m + ((sysW P S W H : Nat) : Int) = m + wts wInsL P + wts wState S + wts wItemL W + wts wEventL H by simp only [sysW]; omega]
  unfold sysW at h1
  have b1 := hb.p
  have b2 := hb.s
  have b3 := hb.w
  have b4 := hb.h
  have q1 := fun k => ok_laws_heldInsSS k P' P m (by omega) h0 (by omega) hb.pp e1
  have q2 := fun k => ok_laws_heldStateS k S' S (m + wts wInsL P) (by omega) (by omega) (by omega) hb.ss e2
  have q3 := fun k => ok_laws_heldItemSS k W' W (m + wts wInsL P + wts wState S) (by omega) (by omega) (by omega) hb.ww e3
  have q4 := fun k => ok_laws_heldEventSS k H' H (m + wts wInsL P + wts wState S + wts wItemL W) (by omega) (by omega) (by omega) hb.hh e4
  clear e1 e2 e3 e4
  (refine callE_is (callE_w [ResultVar.tmp 4] rfl Tryz.func37 rfl (by decide +kernel) rfl (by simp) ?_); (conv => whnf))
  repeat' ((with_reducible (first | refine sCall.of (q1 _) ?_|refine sCall.of (q2 _) ?_|refine sCall.of (q3 _) ?_|refine sCall.of (q4 _) ?_|refine gP ?_|refine gN ?_|refine fG.split (fun _ => ?_) (fun _ => ?_)|refine fG.not ?_|refine gY ?_|refine gF ?_|refine fG.yes (flat_map (fun _ => rfl) _) ?_|refine fG.bool (fun _ => ?_) (fun _ => ?_)|refine gS64 ?_|refine gU8 ?_|refine gI16 ?_|refine fE.of rfl ?_|refine gNum16 ?_|refine gSet ?_|refine gRd ?_|refine gLk ?_|refine gRow16 ?_|refine gRf4 ?_)) <;> (try (conv => whnf)))

end Go.Proofs.YtlobpiebphnkiaaGreat.Abs
namespace Go.Proofs.YtlobpiebphnkiaaGreat.Abs
open Go Go.Proofs
set_option linter.unusedVariables false
set_option linter.unusedSimpArgs false
attribute [local irreducible] callE
/-! ### The laws of Undone, Back, BackOne (printed by gen/backlaw.py) -/
/-- A system that is told: as great as the laws' helpers can take. -/
structure SysG (X : Sys) : Prop where
  b : SysB 1048576 X.progs X.states X.ways X.hist
  w : sysW X.progs X.states X.ways X.hist ≤ 500000000
theorem sysG_empty : SysG ⟨[], [], [], []⟩ := by
  refine ⟨⟨by simp, fun j hj => by simp at hj, by simp, fun j hj => by simp at hj, by simp, fun j hj => by simp at hj, by simp, fun j hj => by simp at hj⟩, by simp [sysW, wts]⟩
theorem sysG_self (P : List (List Ins)) (S : List State) (W : List (List Item)) (H : List (List Event)) (h : sysSz P S W H ≤ 1048576) : SysG ⟨P, S, W, H⟩ := by
  have := sysW_le P S W H
  exact ⟨sysB_of h, by show sysW P S W H ≤ _; omega⟩
/-- A system of a few processes. -/
theorem sysG_of {X : Sys} (hB : SysB 1048576 X.progs X.states X.ways X.hist) (n1 : X.progs.length ≤ 4) (n2 : X.states.length ≤ 4) (n3 : X.ways.length ≤ 16) (n4 : X.hist.length ≤ 4) : SysG X := by
  refine ⟨hB, ?_⟩
  have h1 := wts_bound wInsL 5242880 X.progs fun j hj => by have := hB.pp j hj; unfold wInsL; omega
  have h2 := wts_bound wState 2097154 X.states fun j hj => by have := hB.ss j hj; unfold wState; omega
  have h3 := wts_bound wItemL 2097152 X.ways fun j hj => by have := hB.ww j hj; unfold wItemL; omega
  have h4 := wts_bound wEventL 3145728 X.hist fun j hj => by have := hB.hh j hj; unfold wEventL; omega
  unfold sysW
  omega
theorem atSys_G {P : List (List Ins)} {S : List State} {W : List (List Item)} {H : List (List Event)} {c : List Int} (hB : SysB 1048576 P S W H) (e : sysOk P S W H = true) (hc : FOk H c) (hw : wholeB H c = true) (hf : waysFit (cutH H c) P.length = true) : SysG (atSys P (cutH H c)) := by
  obtain ⟨hI, hP, hS, h200⟩ := sysOk_facts e
  have hN := hI.n
  have hHl := hI.h
  have hs : sysOk P (stsOf P (cutH H c)) (waysOf (cutH H c) P.length) (cutH H c) = true := by rw [cut_sysOk e hc hw, hf]
  have hnn : P.length * P.length ≤ 4 * 4 := Nat.mul_le_mul hN.2 hN.2
  have hl := stsOf_len P (cutH H c)
  have hl2 := waysOf_len (cutH H c) P.length
  have hl3 := cutH_len H c
  have hs' := hs
  simp only [sysOk, Bool.and_eq_true, allBelow_eq, List.all_eq_true] at hs'
  refine sysG_of ⟨hB.p, hB.pp, ?_, fun j hj => ?_, ?_, fun j hj => ?_, ?_, fun j hj => ?_⟩ hN.2 ?_ ?_ ?_
  · show (stsOf P (cutH H c)).length ≤ _; omega
  · have hj : j < (stsOf P (cutH H c)).length := hj
    have h1 := hs'.2.2.1 j (by omega)
    simp only [procOk, Bool.and_eq_true] at h1
    have h2 := (stood_evOk h1.2.2).2.1
    have h3 := h2.regs
    have h4 := h2.out
    show (rd (stsOf P (cutH H c)) j).regs.length ≤ _ ∧ (rd (stsOf P (cutH H c)) j).out.length ≤ _
    omega
  · show (waysOf (cutH H c) P.length).length ≤ _; omega
  · have h1 := hs'.2.1 (rd (waysOf (cutH H c) P.length) j) (rd_mem hj)
    simp only [wayOk, Bool.and_eq_true, decide_eq_true_eq] at h1
    show (rd (waysOf (cutH H c) P.length) j).length ≤ _
    omega
  · show (cutH H c).length ≤ _; omega
  · have hj : j < (cutH H c).length := hj
    show (rd (cutH H c) j).length ≤ _
    rw [rd_cutH (by omega), List.length_take]
    have := h200 j (by omega)
    omega
  · show (stsOf P (cutH H c)).length ≤ _; omega
  · show (waysOf (cutH H c) P.length).length ≤ _; omega
  · show (cutH H c).length ≤ _; omega
theorem backIs_G (P : List (List Ins)) (S : List State) (W : List (List Item)) (H : List (List Event)) (p i : Int) (h : sysSz P S W H ≤ 1048576) : SysG (backIs P S W H p i).1 := by
  unfold backIs
  split
  · rename_i e
    split
    · rename_i hp
      obtain ⟨hf, hw⟩ := backCut_is hp
      split
      · rename_i hfit
        exact atSys_G (sysB_of h) e hf hw hfit
      · exact sysG_self P S W H h
    · exact sysG_self P S W H h
  · exact sysG_empty
set_option maxRecDepth 20000 in
set_option maxHeartbeats 8000000 in
theorem ok_laws_FnExactBack (k : Nat) (P : List (List Ins)) (S : List State) (W : List (List Item)) (H : List (List Event)) (p i : Int) (hb : SysB 140737488355328 P S W H) :
    callE PR C (k + 17) 7 [aSys 0 P S W H, i64 p, i64 i] [tInsSS P, tStateS S, tItemSS W, tEventSS H] = some ⟨bl true, [], [none, none, none, none]⟩ := by
  have q0 := fun k => ok_laws_szSys k P S W H 1048576 (by omega) (by omega) hb
  by_cases c : left 1048576 (sysSz P S W H) < 0
  · rw [left_m1 c] at q0
    (refine callE_is (callE_w [ResultVar.tmp 6] rfl Tryz.func7 rfl (by decide +kernel) rfl (by simp) ?_); (conv => whnf))
    repeat' ((with_reducible (first | refine sCall.of (q0 _) ?_|refine gP ?_|refine gN ?_|refine fG.split (fun _ => ?_) (fun _ => ?_)|refine fG.not ?_|refine gY ?_|refine gF ?_|refine fG.yes (flat_map (fun _ => rfl) _) ?_|refine fG.bool (fun _ => ?_) (fun _ => ?_)|refine gS64 ?_|refine gU8 ?_|refine gI16 ?_|refine fE.of rfl ?_|refine gNum16 ?_|refine gSet ?_|refine gRd ?_|refine gLk ?_|refine gRow16 ?_|refine gRf4 ?_|refine sDraw.mk' (id := 10) [(0, 2)] (ty := tys) rfl (by decide +kernel) ?_)) <;> (try (conv => whnf)))
  · obtain ⟨c1, c2⟩ := left_pos c
    have hB : SysB 1048576 P S W H := sysB_of (by omega)
    have hw := sysW_le P S W H
    have q1 := fun k => ok_laws_toSys k P S W H (hB.mono (by decide))
    have q2 := fun k => ok_laws_eqSys k P S W H (hB.mono (by decide))
    have q6 := fun k => ok_laws_markSys k P S W H 1 hB (by omega) (by omega)
    have e1 : (mkP 1 P).length = P.length := marks_len _ _ _ _
    have e2 : (mkS 1 P S).length = S.length := marks_len _ _ _ _
    have e3 : (mkW 1 P S W).length = W.length := marks_len _ _ _ _
    have e4 : (mkH 1 P S W H).length = H.length := marks_len _ _ _ _
    have hG := backIs_G P S W H p i (by omega)
    have q3 := fun k => ok_impl_Back k P S W H p i (hB.mono (by decide))
    have q4 := fun k => ok_spec_Back k P S W H p i (hB.mono (by decide))
    generalize backIs P S W H p i = X at hG q3 q4
    obtain ⟨⟨P', S', W', H'⟩, n⟩ := X
    obtain ⟨hB', hw'⟩ := hG
    dsimp only at hB' hw' q3 q4
    simp only [sysRes] at q3 q4
    have q5 := fun k => ok_laws_eqSys k P' S' W' H' (hB'.mono (by decide))
    have q7 := fun k => ok_laws_markSys k P' S' W' H' 1 hB' (by omega) (by omega)
    have q8 := fun k => ok_laws_heldSys k P' S' W' H' (mkP 1 P') (mkS 1 P' S') (mkW 1 P' S' W') (mkH 1 P' S' W' H') 1 (hB'.mono (by decide)) (by omega) (by omega) rfl rfl rfl rfl
    simp only [mkP, mkS, mkW, mkH] at q7
    simp only [aSys, mkP, mkS, mkW, mkH, marks_len] at q8
    have e5 := marks_len mInsL wInsL P' 1
    have e6 := marks_len mState wState S' (1 + wts wInsL P')
    have e7 := marks_len mItemL wItemL W' (1 + wts wInsL P' + wts wState S')
    have e8 := marks_len mEventL wEventL H' (1 + wts wInsL P' + wts wState S' + wts wItemL W')
    clear hb hB hB' c
    (refine callE_is (callE_w [ResultVar.tmp 6] rfl Tryz.func7 rfl (by decide +kernel) rfl (by simp) ?_); (conv => whnf))
    repeat' ((with_reducible (first | refine sCall.of (q0 _) ?_|refine sCall.of (q1 _) ?_|refine sCall.of (q2 _) ?_|refine sCall.of (q3 _) ?_|refine sCall.of (q4 _) ?_|refine sCall.of (q5 _) ?_|refine sCall.of (q6 _) ?_|refine sCall.of (q7 _) ?_|refine sCall.of (q8 _) ?_|refine gP ?_|refine gN ?_|refine fG.split (fun _ => ?_) (fun _ => ?_)|refine fG.not ?_|refine gY ?_|refine gF ?_|refine fG.yes (flat_map (fun _ => rfl) _) ?_|refine fG.bool (fun _ => ?_) (fun _ => ?_)|refine gS64 ?_|refine gU8 ?_|refine gI16 ?_|refine fE.of rfl ?_|refine gNum16 ?_|refine gSet ?_|refine gRd ?_|refine gLk ?_|refine gRow16 ?_|refine gRf4 ?_|refine sDraw.mk' (id := 10) [(0, 2)] (ty := tys) rfl (by decide +kernel) ?_)) <;> (try (conv => whnf)))
end Go.Proofs.YtlobpiebphnkiaaGreat.Abs
namespace Go.Proofs.YtlobpiebphnkiaaGreat.Abs
open Go
set_option linter.unusedVariables false

/-- What is read at a type: as many cells, each of a tree that nobody writes; the trees have the property. -/
def Opens (P : Program) (t : TypeId) (n : Nat) (M : List T → Prop) : Prop :=
  ∀ (H : Type) (enc : TypeId × Value → H) (w : World) (base : Nat) (sp : Nat → Bool) (held : Bool) (fuel : Nat) (cs : List Value) (x : DataW H × List MemPlace),
    DataW.trod enc P w base sp held fuel t cs = some x → (∀ m ∈ x.1.weights P t, m ≤ reachBytes) →
      cs.length = n ∧ ∃ ts : List T, ts.length = n ∧ M ts ∧ ∀ (i : Nat) v t', cs[i]? = some v → ts[i]? = some t' → Ow (fun k => k < w.heap.size) w 0 v t' none_
theorem Opens.mono {P : Program} {t : TypeId} {n : Nat} {M M' : List T → Prop} (h : Opens P t n M) (hm : ∀ ts, M ts → M' ts) : Opens P t n M' := by
  intro H enc w base sp held fuel cs x hx hw
  obtain ⟨h1, ts, h2, h3, h4⟩ := h H enc w base sp held fuel cs x hx hw
  exact ⟨h1, ts, h2, hm _ h3, h4⟩
theorem one_ow {w : World} {v0 : Value} {t0 : T} (h : Ow (fun k => k < w.heap.size) w 0 v0 t0 none_) : ∀ (i : Nat) v t', [v0][i]? = some v → [t0][i]? = some t' → Ow (fun k => k < w.heap.size) w 0 v t' none_ := by
  rintro (_ | i) v t' h1 h2
  · simp at h1 h2; subst h1; subst h2; exact h
  · simp at h1
theorem Opens.int {P : Program} {t : TypeId} {k : IntKind} (ht : P.underlying t = some (.int k)) : Opens P t 1 (fun ts => ∃ n, (Lit.int k n).wf = true ∧ ts = [.v (.int k n)]) := by
  intro H enc w base sp held fuel cs x hx hw
  obtain ⟨n, rfl, rfl, h⟩ := DataW.trod_int ht hx
  exact ⟨rfl, _, rfl, ⟨n, h, rfl⟩, one_ow (.v rfl)⟩
theorem Opens.bool {P : Program} {t : TypeId} (ht : P.underlying t = some .bool) : Opens P t 1 (fun ts => ∃ b, ts = [.v (.bool b)]) := by
  intro H enc w base sp held fuel cs x hx hw
  obtain ⟨b, rfl, rfl⟩ := DataW.trod_bool ht hx
  exact ⟨rfl, _, rfl, ⟨b, rfl⟩, one_ow (.v rfl)⟩
theorem Opens.str {P : Program} {t : TypeId} (ht : P.underlying t = some .string) : Opens P t 1 (fun ts => ∃ s : ByteArray, s.size ≤ reachBytes ∧ ts = [.v (.string s)]) := by
  intro H enc w base sp held fuel cs x hx hw
  obtain ⟨s, rfl, rfl, h⟩ := DataW.trod_string ht hx
  refine ⟨rfl, _, rfl, ⟨s, ?_, rfl⟩, one_ow (.v rfl)⟩
  have := hw s.data.toList.length (by simp [DataW.weights])
  simpa using this
/-- The parts of a struct, from a place on. -/
def Parts (P : Program) : List Field → Nat → Nat → (List T → Prop) → Prop
  | [], _, n, M => n = 0 ∧ M []
  | f :: r, off, n, M => f.offset = off ∧ ∃ n1 n2 M1 M2, P.cellsOf f.type = n1 ∧ Opens P f.type n1 M1 ∧ Parts P r (off + n1) n2 M2 ∧ n = n1 + n2 ∧ ∀ a b, M1 a → M2 b → M (a ++ b)
theorem weights_part {P : Program} {H : Type} {ts : List TypeId} : ∀ {ds : List (DataW H)} {R : Nat}, (∀ m ∈ DataW.weightsEach P ts ds, m ≤ R) → ∀ (j : Nat) t d, ts[j]? = some t → ds[j]? = some d → ∀ m ∈ d.weights P t, m ≤ R :=
  fun h j t d ht hd m hm => h m (DataW.weights_mem_each ht hd m hm)
theorem Parts.opens {P : Program} {H : Type} {enc : TypeId × Value → H} {w : World} {base : Nat} {sp : Nat → Bool} {held : Bool} {fuel : Nat} {cs : List Value} : ∀ {fs : List Field} {off n : Nat} {M : List T → Prop}, Parts P fs off n M → off + n = cs.length →
    (∀ f ∈ fs, ∃ x, DataW.trod enc P w base sp held fuel f.type ((cs.drop f.offset).take (P.cellsOf f.type)) = some x ∧ (∀ m ∈ x.1.weights P f.type, m ≤ reachBytes)) →
    ∃ ts : List T, ts.length = n ∧ M ts ∧ ∀ (i : Nat) v t', cs[off + i]? = some v → ts[i]? = some t' → Ow (fun k => k < w.heap.size) w 0 v t' none_ := by
  intro fs
  induction fs with
  | nil =>
    intro off n M h hl _
    exact ⟨[], h.1.symm, h.2, fun i v t' _ h2 => by simp at h2⟩
  | cons f r ih =>
    intro off n M h hl hx
    obtain ⟨rfl, n1, n2, M1, M2, h1, h2, h3, rfl, h4⟩ := h
    obtain ⟨x, hx1, hx2⟩ := hx f (by simp)
    rw [h1] at hx1
    obtain ⟨k1, t1, k2, k3, k4⟩ := h2 H enc w base sp held fuel _ x hx1 hx2
    obtain ⟨t2, q1, q2, q3⟩ := ih h3 (by omega) fun g hg => hx g (by simp [hg])
    refine ⟨t1 ++ t2, by simp [k2, q1], h4 _ _ k3 q2, fun i v t' hv ht' => ?_⟩
    by_cases hi : i < n1
    · rw [List.getElem?_append_left (by omega)] at ht'
      exact k4 i v t' (by rw [List.getElem?_take, if_pos hi, List.getElem?_drop]; exact hv) ht'
    · rw [List.getElem?_append_right (by omega), k2] at ht'
      exact q3 (i - n1) v t' (by rw [show f.offset + n1 + (i - n1) = f.offset + i by omega]; exact hv) ht'
theorem Opens.struct {P : Program} {t : TypeId} {fs : Array Field} {n : Nat} {M : List T → Prop} (ht : P.underlying t = some (.struct fs)) (hc : P.cellsOf t = n) (hp : Parts P fs.toList 0 n M) : Opens P t n M := by
  intro H enc w base sp held fuel cs x hx hw
  obtain ⟨xs, m, _, rfl, hl, hlen, hf⟩ := DataW.trod_struct ht hx
  have hl' : cs.length = n := hl.trans hc
  obtain ⟨ts, h1, h2, h3⟩ := hp.opens (enc := enc) (w := w) (base := base) (sp := sp) (held := held) (fuel := m) (cs := cs) (by omega) (by
    intro f hfm
    obtain ⟨i, hi⟩ := List.getElem?_of_mem hfm
    have hi' : fs[i]? = some f := by simpa using hi
    have hlt : i < xs.length := by rw [hlen]; exact (Array.getElem?_eq_some_iff.1 hi').1
    have hy : xs[i]? = some xs[i] := List.getElem?_eq_getElem hlt
    refine ⟨xs[i], (hf i f hi').trans hy, ?_⟩
    refine weights_part (ts := fs.toList.map (·.type)) (ds := xs.map (·.1)) ?_ i f.type xs[i].1 (by simp [hi']) (by rw [List.getElem?_map, hy]; rfl)
    intro q hq
    refine hw q ?_
    simpa [DataW.weights, ht] using hq)
  exact ⟨hl', ts, h1, h2, fun i v t' hv ht' => h3 i v t' (by simpa using hv) ht'⟩
/-- As many whole numbers. -/
def IntsM (n : Nat) (ts : List T) : Prop := ∃ zs : List Int, zs.length = n ∧ ts = zs.map fun z => T.v (.int .i64 z)
theorem Parts.nil {P : Program} {off : Nat} : Parts P [] off 0 (IntsM 0) := ⟨rfl, [], rfl, rfl⟩
theorem Parts.int {P : Program} {f : Field} {r : List Field} {off n : Nat} (ho : f.offset = off) (hc : P.cellsOf f.type = 1) (ht : P.underlying f.type = some (.int .i64)) (h : Parts P r (off + 1) n (IntsM n)) :
    Parts P (f :: r) off (1 + n) (IntsM (1 + n)) := by
  refine ⟨ho, 1, n, _, _, hc, Opens.int ht, h, rfl, ?_⟩
  rintro a b ⟨z, _, rfl⟩ ⟨zs, hz, rfl⟩
  exact ⟨z :: zs, by simp [hz]; omega, rfl⟩
/-- Parts, each of a kind. -/
def Ms : List (List T → Prop) → List T → Prop
  | [], ts => ts = []
  | M :: r, ts => ∃ a b, ts = a ++ b ∧ M a ∧ Ms r b
theorem Parts.mnil {P : Program} {off : Nat} : Parts P [] off 0 (Ms []) := ⟨rfl, rfl⟩
theorem Parts.mcons {P : Program} {f : Field} {r : List Field} {off n1 n : Nat} {M : List T → Prop} {l : List (List T → Prop)} (ho : f.offset = off) (hc : P.cellsOf f.type = n1) (ht : Opens P f.type n1 M) (h : Parts P r (off + n1) n (Ms l)) :
    Parts P (f :: r) off (n1 + n) (Ms (M :: l)) :=
  ⟨ho, n1, n, _, _, hc, ht, h, rfl, fun a b ha hb => ⟨a, b, rfl, ha, hb⟩⟩

/-- Rows of a kind are a list's. -/
theorem rows_map {α : Type} {f : α → List T} {p : α → Prop} {rows : List (List T)} (h : ∀ r ∈ rows, ∃ x, p x ∧ r = f x) : ∃ l : List α, rows = l.map f ∧ ∀ x ∈ l, p x := by
  induction rows with
  | nil => exact ⟨[], rfl, by simp⟩
  | cons r rows ih =>
    obtain ⟨x, hx, rfl⟩ := h r (by simp)
    obtain ⟨l, rfl, hl⟩ := ih fun q hq => h q (by simp [hq])
    exact ⟨x :: l, rfl, by simpa using ⟨hx, hl⟩⟩
theorem weights_all {P : Program} {H : Type} {e : TypeId} {d : DataW H} : ∀ {l : List (DataW H)}, d ∈ l → ∀ m ∈ d.weights P e, m ∈ DataW.weightsAll P e l
  | a :: r, hd, m, hm => by
    simp only [DataW.weightsAll, List.mem_append]
    rcases List.mem_cons.1 hd with rfl | hd
    · exact .inl hm
    · exact .inr (weights_all hd m hm)
/-- A slice. -/
theorem Opens.slice {P : Program} {t e : TypeId} {sz B : Nat} {M : List T → Prop} (ht : P.underlying t = some (.slice e)) (hc : P.cellsOf e = sz) (hB : P.bytesOf e = B) (hsz : 0 < sz) (hE : Opens P e sz M) :
    Opens P t 1 (fun ts => ∃ rows, ts = [.sl sz rows] ∧ (∀ x ∈ rows, M x) ∧ rows.length * B ≤ reachBytes) := by
  intro H enc w base sp held fuel cs0 x hx hw
  rcases DataW.trod_slice ht hx with ⟨rfl, _⟩ | ⟨a, len, cap, elems, rest, n, _, rfl, rfl, _, hl, _, hlen, hel, _⟩
  · exact ⟨rfl, _, rfl, ⟨[], rfl, by simp, by simp⟩, one_ow .nil⟩
  · have hw1 : (elems.length + rest.length) * B ≤ reachBytes := by
      have := hw ((elems.length + rest.length) * P.bytesOf e) (by simp [DataW.weights, ht])
      rwa [hB] at this
    have hcell : ∀ i : Nat, ∃ q : List Value × List T, i < len → q.1.length = sz ∧ q.2.length = sz ∧ M q.2 ∧ (∀ j, j < sz → w.cell? ((a.add (i * sz)).add j) = q.1[j]?) ∧
        ∀ (j : Nat) v t', q.1[j]? = some v → q.2[j]? = some t' → Ow (fun k => k < w.heap.size) w 0 v t' none_ := by
      intro i
      by_cases hi : i < len
      · have hy : elems[i]? = some (elems[i]'(by omega)) := List.getElem?_eq_getElem (by omega)
        have h1 := hel i hi
        rw [hy, hc, Option.bind_eq_some_iff] at h1
        obtain ⟨cs, hcs, htr⟩ := h1
        obtain ⟨k1, ts, k2, k3, k4⟩ := hE H enc w base sp held n cs _ htr (by
          intro m hm
          refine hw m ?_
          have := weights_all (P := P) (e := e) (l := elems.map (·.1)) (List.mem_map_of_mem (List.getElem_mem (by omega : i < elems.length))) m hm
          simp [DataW.weights, ht, this])
        obtain ⟨_, g1, g2⟩ := World.cells?_some hcs
        exact ⟨(cs, ts), fun _ => ⟨k1, k2, k3, g2, k4⟩⟩
      · exact ⟨([], []), fun h => absurd h hi⟩
    obtain ⟨c, hc2⟩ := Classical.axiomOfChoice hcell
    have hblk : 0 < len → a.block < w.heap.size := by
      intro h0
      obtain ⟨k1, k2, k3, k4, k5⟩ := hc2 0 h0
      have h1 := k4 0 hsz
      have h2 : (c 0).1[0]? = some ((c 0).1[0]'(by omega)) := List.getElem?_eq_getElem (by omega)
      rw [h2] at h1
      by_cases hlt : a.block < w.heap.size
      · exact hlt
      · unfold World.cell? at h1
        rw [add_block, add_block, Array.getElem?_eq_none (by omega)] at h1
        simp at h1
    have hat : ∀ i j t', cellT ((List.range len).map fun i => (c i).2) i j = some t' → i < len ∧ (c i).2[j]? = some t' := by
      intro i j t' h'
      unfold cellT at h'
      rw [List.getElem?_map] at h'
      by_cases hi : i < len
      · have hr : (List.range len)[i]? = some i := by simp [hi]
        rw [hr] at h'
        exact ⟨hi, by simpa using h'⟩
      · have hr : (List.range len)[i]? = none := by simp; omega
        rw [hr] at h'
        simp at h'
    refine ⟨rfl, [.sl sz ((List.range len).map fun i => (c i).2)], rfl, ⟨_, rfl, ?_, ?_⟩, one_ow ?_⟩
    · intro x hx
      obtain ⟨i, hi, rfl⟩ := List.mem_map.1 hx
      exact (hc2 i (List.mem_range.1 hi)).2.2.1
    · rw [List.length_map, List.length_range]
      exact Nat.le_trans (Nat.mul_le_mul_right _ (by omega)) hw1
    · have hro := Ow.ro (Z := fun k => k < w.heap.size) (w := w) (a := a) (c := cap) (rows := (List.range len).map fun i => (c i).2) (sz := sz) (fun i j => (c i).1.getD j undef) (by simpa using hl)
        (by
          intro r hr
          obtain ⟨i, hi, rfl⟩ := List.mem_map.1 hr
          exact (hc2 i (List.mem_range.1 hi)).2.1) (fun hne => hblk (by
            rcases Nat.eq_zero_or_pos len with h0 | h0
            · subst h0; exact absurd rfl hne
            · exact h0))
        (by
          intro i j t' h'
          obtain ⟨hi, hj⟩ := hat i j t' h'
          obtain ⟨k1, k2, k3, k4, k5⟩ := hc2 i hi
          have hj' : j < sz := by rw [← k2]; exact (List.getElem?_eq_some_iff.1 hj).1
          rw [← Addr.add_add, k4 j hj', List.getElem?_eq_getElem (by omega)]
          simp [List.getD, show j < (c i).1.length by omega])
        (by
          intro i j t' h'
          obtain ⟨hi, hj⟩ := hat i j t' h'
          obtain ⟨k1, k2, k3, k4, k5⟩ := hc2 i hi
          have hj' : j < sz := by rw [← k2]; exact (List.getElem?_eq_some_iff.1 hj).1
          refine k5 j _ t' ?_ hj
          rw [List.getElem?_eq_getElem (by omega)]
          simp [List.getD, show j < (c i).1.length by omega])
      simpa using hro
/-- An argument of one cell. -/
theorem Opens.one {P : Program} {t : TypeId} {M : List T → Prop} (h : Opens P t 1 M) {H : Type} {enc : TypeId × Value → H} {w : World} {base : Nat} {sp : Nat → Bool} {held : Bool} {v : Value} {d : DataW H} {ps : List MemPlace}
    (hv : v.cells.toList = [v]) (hd : DataW.Trod enc P w base sp held t v d ps) (hw : ∀ m ∈ d.weights P t, m ≤ reachBytes) : ∃ t', M [t'] ∧ Ow (fun k => k < w.heap.size) w 0 v t' none_ := by
  obtain ⟨fuel, hf⟩ := hd
  rw [hv] at hf
  obtain ⟨_, ts, h1, h2, h3⟩ := h H enc w base sp held fuel _ _ hf hw
  obtain ⟨t', rfl⟩ := List.length_eq_one_iff.1 h1
  exact ⟨t', h2, h3 0 v t' rfl rfl⟩
end Go.Proofs.YtlobpiebphnkiaaGreat.Abs
namespace Go.Proofs.YtlobpiebphnkiaaGreat.Abs
open Go Go.RowKit
set_option linter.unusedVariables false

theorem Ow.slice_inv {Z : Fp} {w : World} {v : Value} {sz : Nat} {rows : List (List T)} {F : Fp} {l : Nat} (h : Ow Z w l v (.sl sz rows) F) :
    (v = .slice none 0 0 ∧ rows = []) ∨ ∃ a c, v = .slice (some a) rows.length c ∧ rows.length ≤ c := by
  cases h with
  | nil => exact .inl ⟨rfl, rfl⟩
  | ro xs hc hs hz hx ht => exact .inr ⟨_, _, rfl, hc⟩
  | own xs F hb hfr hc hoff hmax hs hx ht hF hnb hd => exact .inr ⟨_, _, rfl, hc⟩
theorem arg_slice {Z : Fp} {w : World} {ob : Objs} {ρ : Nat → Value} {o sz : Nat} {rows : List (List T)} {v : Value} (h1 : ob o = ⟨0, 0, false, .tree 0 (.sl sz rows)⟩) (h2 : ρ o = v) (h3 : Ow Z w 0 v (.sl sz rows) none_) :
    AVR w ob ρ (.h o 0 0 [] sz 0 rows.length) v := by
  have hin := h3.slice_inv
  refine .h ?_ ?_ fun _ => ?_
  · rw [h1]; exact ⟨Nat.le_refl _, fun _ h => absurd rfl h⟩
  · rcases hin with ⟨rfl, rfl⟩ | ⟨a, c, rfl, hc⟩
    · exact ⟨none, 0, rfl, Nat.le_refl _, fun _ => rfl⟩
    · exact ⟨some a, c, rfl, hc, fun h => by cases h⟩
  · rw [h1, h2]
    refine ⟨fun cells h => by (dsimp only at h; cases h), fun lvl t hc => ?_⟩
    dsimp only at hc
    cases hc
    refine ⟨v, rows, .here, by omega, ?_⟩
    rcases hin with ⟨rfl, rfl⟩ | ⟨a, c, rfl, hc⟩
    · exact .inl ⟨rfl, rfl, rfl, rfl⟩
    · refine .inr ⟨a, rows.length, c, 0, c, rfl, ?_, hc, by omega, Nat.le_refl _, fun _ => rfl⟩
      rw [Nat.zero_mul]
      cases a with
      | mk b off s => cases s <;> simp [Addr.add]
/-- A call from the outside. -/
theorem FnOk.outside {P : Program} {W : World} {f : FuncId} {args : List AV} {conts : List Cont} {r : Res} (h : FnOk P f args conts r) (vals : List Value)
    (ho : ∀ (i : Nat) c, conts[i]? = some c → ∃ t v, c = .tree 0 t ∧ vals[i]? = some v ∧ Ow (fun k => k < W.heap.size) W 0 v t none_) (vs : Array Value) (hs : vs.size = args.length)
    (hA : ∀ (i : Nat) x, args[i]? = some x → AVR W (obIn conts) (fun o => vals.getD (o - 1000000) undef) x (vs.getD i undef)) :
    Calls P f vs W (fun e w' => ∃ v, e = .returned v ∧ Below W.heap.size W w' ∧ ∃ ob' ρ', AVR w' ob' ρ' r.v v) := by
  have hI : OInv W none_ (obIn conts) W (fun o => vals.getD (o - 1000000) undef) (fun _ => none_) (fun k => k < W.heap.size) := by
    refine ⟨Keep.refl _ _, fun k hk _ => hk, fun k hk => hk, fun o k hk => hk.elim, fun o o' k hk => hk.elim, fun o k hk => hk.elim, fun o => ?_⟩
    unfold ObOk
    by_cases h1 : 1000000 ≤ o
    · simp only [obIn, h1, if_true]
      cases hc : conts[o - 1000000]? with
      | none =>
        have e : conts.getD (o - 1000000) .dead = .dead := by simp [List.getD, hc]
        rw [e]
        exact fun k hk => hk
      | some c =>
        obtain ⟨t, v, rfl, hv, how⟩ := ho _ _ hc
        have e : conts.getD (o - 1000000) .dead = .tree 0 t := by simp [List.getD, hc]
        have e2 : vals.getD (o - 1000000) undef = v := by simp [List.getD, hv]
        rw [e, e2]
        exact how
    · simp only [obIn, h1, if_false]
      exact fun k hk => hk
  have hr := h.run W none_ _ _ _ vs hI (fun k _ hk => hk) hs hA
  intro cs
  obtain ⟨e, w', fr, hR, hC, hfn, hl⟩ := hr cs
  refine ⟨e, w', fr, ?_, hC, hfn, hl⟩
  cases e with
  | returned v =>
    obtain ⟨ρ', φ', Z', hst, hav⟩ := hR
    exact ⟨v, rfl, ⟨hst.inv.keep.os, hst.inv.keep.tape, hst.inv.keep.output, hst.inv.keep.size, fun k hk => hst.inv.keep.block k hk id⟩, _, _, hav⟩
  | _ => exact hR.elim
theorem AVR.bool_inv {w : World} {ob : Objs} {ρ : Nat → Value} {b : Bool} {v : Value} (h : AVR w ob ρ (.s (.bool b)) v) : v = .bool b := by
  cases h; rfl
end Go.Proofs.YtlobpiebphnkiaaGreat.Abs
namespace Go.Proofs.YtlobpiebphnkiaaGreat.Abs
open Go Go.Proofs Go.RowKit
set_option linter.unusedVariables false
set_option linter.unusedSimpArgs false
attribute [local irreducible] callE
theorem ints_Ins {ts : List T} (h : IntsM 5 ts) : ∃ x : Ins, True ∧ ts = rIns x := by
  obtain ⟨zs, hz, rfl⟩ := h
  match zs, hz with
  | [a, b, c, d, e], _ => exact ⟨⟨a, b, c, d, e⟩, trivial, rfl⟩
theorem ints_Event {ts : List T} (h : IntsM 3 ts) : ∃ x : Event, True ∧ ts = rEvent x := by
  obtain ⟨zs, hz, rfl⟩ := h
  match zs, hz with
  | [a, b, c], _ => exact ⟨⟨a, b, c⟩, trivial, rfl⟩
set_option maxRecDepth 20000 in
theorem opens_Ins : Opens Tryz.prog 222 5 (fun ts => ∃ x : Ins, True ∧ ts = rIns x) :=
  (Opens.struct Tryz.underlying222 (by kernel_rfl) (.int rfl (by kernel_rfl) Tryz.underlying3 (.int rfl (by kernel_rfl) Tryz.underlying3 (.int rfl (by kernel_rfl) Tryz.underlying3 (.int rfl (by kernel_rfl) Tryz.underlying3 (.int rfl (by kernel_rfl) Tryz.underlying3 .nil)))))).mono fun _ => ints_Ins
set_option maxRecDepth 20000 in
theorem opens_Event : Opens Tryz.prog 226 3 (fun ts => ∃ x : Event, True ∧ ts = rEvent x) :=
  (Opens.struct Tryz.underlying226 (by kernel_rfl) (.int rfl (by kernel_rfl) Tryz.underlying3 (.int rfl (by kernel_rfl) Tryz.underlying3 (.int rfl (by kernel_rfl) Tryz.underlying3 .nil)))).mono fun _ => ints_Event
set_option maxRecDepth 20000 in
theorem opens_InsS : Opens Tryz.prog 174 1 (fun ts => ∃ l : List Ins, l.length ≤ 140737488355328 ∧ ts = [.sl 5 (l.map rIns)]) :=
  (Opens.slice (sz := 5) (B := 40) Tryz.underlying174 (by kernel_rfl) (by kernel_rfl) (by decide) opens_Ins).mono fun ts h => by
    obtain ⟨rows, rfl, h1, h2⟩ := h
    obtain ⟨l, rfl, hl⟩ := rows_map h1
    rw [List.length_map] at h2
    have := reachBytes_lt
    exact ⟨l, by omega, rfl⟩
set_option maxRecDepth 20000 in
theorem opens_EventS : Opens Tryz.prog 180 1 (fun ts => ∃ l : List Event, l.length ≤ 140737488355328 ∧ ts = [.sl 3 (l.map rEvent)]) :=
  (Opens.slice (sz := 3) (B := 24) Tryz.underlying180 (by kernel_rfl) (by kernel_rfl) (by decide) opens_Event).mono fun ts h => by
    obtain ⟨rows, rfl, h1, h2⟩ := h
    obtain ⟨l, rfl, hl⟩ := rows_map h1
    rw [List.length_map] at h2
    have := reachBytes_lt
    exact ⟨l, by omega, rfl⟩
set_option maxRecDepth 20000 in
theorem opens_ints : Opens Tryz.prog 28 1 (fun ts => ∃ l : List Int, l.length ≤ 140737488355328 ∧ ts = [.sl 1 (l.map rI)]) :=
  (Opens.slice (sz := 1) (B := 8) Tryz.underlying28 (by kernel_rfl) (by kernel_rfl) (by decide) (Opens.int Tryz.underlying3)).mono fun ts h => by
    obtain ⟨rows, rfl, h1, h2⟩ := h
    obtain ⟨l, rfl, _⟩ := rows_map (f := rI) (p := fun _ => True) (fun r hr => by obtain ⟨n, _, rfl⟩ := h1 r hr; exact ⟨n, trivial, rfl⟩)
    rw [List.length_map] at h2
    have := reachBytes_lt
    exact ⟨l, by omega, rfl⟩
set_option maxRecDepth 20000 in
theorem opens_State : Opens Tryz.prog 176 4 (fun ts => ∃ x : State, (x.regs.length ≤ 140737488355328 ∧ x.out.length ≤ 140737488355328) ∧ ts = rState x) :=
  (Opens.struct Tryz.underlying176 (by kernel_rfl) (.mcons rfl (by kernel_rfl) (Opens.int Tryz.underlying3) (.mcons rfl (by kernel_rfl) opens_ints (.mcons rfl (by kernel_rfl) opens_ints (.mcons rfl (by kernel_rfl) (Opens.int Tryz.underlying3) .mnil))))).mono fun ts h => by
    obtain ⟨_, _, rfl, ⟨a, _, rfl⟩, _, _, rfl, ⟨r, hr, rfl⟩, _, _, rfl, ⟨o, ho, rfl⟩, _, _, rfl, ⟨c, _, rfl⟩, rfl⟩ := h
    exact ⟨⟨a, r, o, c⟩, ⟨hr, ho⟩, rfl⟩
set_option maxRecDepth 20000 in
theorem opens_StateS : Opens Tryz.prog 23 1 (fun ts => ∃ l : List State, (l.length ≤ 140737488355328 ∧ ∀ j : Nat, j < l.length → (rd l j).regs.length ≤ 140737488355328 ∧ (rd l j).out.length ≤ 140737488355328) ∧ ts = [.sl 4 (l.map rState)]) :=
  (Opens.slice (sz := 4) (B := 64) Tryz.underlying23 (by kernel_rfl) (by kernel_rfl) (by decide) opens_State).mono fun ts h => by
    obtain ⟨rows, rfl, h1, h2⟩ := h
    obtain ⟨l, rfl, hl⟩ := rows_map h1
    rw [List.length_map] at h2
    have := reachBytes_lt
    exact ⟨l, ⟨by omega, fun j hj => hl _ (rd_mem hj)⟩, rfl⟩
set_option maxRecDepth 20000 in
theorem opens_Item : Opens Tryz.prog 224 2 (fun ts => ∃ x : Item, True ∧ ts = rItem x) :=
  (Opens.struct Tryz.underlying224 (by kernel_rfl) (.mcons rfl (by kernel_rfl) (Opens.bool Tryz.underlying4) (.mcons rfl (by kernel_rfl) (Opens.int Tryz.underlying3) .mnil))).mono fun ts h => by
    obtain ⟨_, _, rfl, ⟨a, rfl⟩, _, _, rfl, ⟨r, _, rfl⟩, rfl⟩ := h
    exact ⟨⟨a, r⟩, trivial, rfl⟩
set_option maxRecDepth 20000 in
theorem opens_ItemS : Opens Tryz.prog 178 1 (fun ts => ∃ l : List Item, l.length ≤ 140737488355328 ∧ ts = [.sl 2 (l.map rItem)]) :=
  (Opens.slice (sz := 2) (B := 16) Tryz.underlying178 (by kernel_rfl) (by kernel_rfl) (by decide) opens_Item).mono fun ts h => by
    obtain ⟨rows, rfl, h1, h2⟩ := h
    obtain ⟨l, rfl, hl⟩ := rows_map h1
    rw [List.length_map] at h2
    have := reachBytes_lt
    exact ⟨l, by omega, rfl⟩
theorem opens_SS {α : Type} {t e : TypeId} {f : α → List T} {sz : Nat} (ht : (Tryz.prog).underlying t = some (.slice e)) (hc : (Tryz.prog).cellsOf e = 1) (hB : (Tryz.prog).bytesOf e = 24)
    (h : Opens Tryz.prog e 1 (fun ts => ∃ l : List α, l.length ≤ 140737488355328 ∧ ts = [.sl sz (l.map f)])) :
    Opens Tryz.prog t 1 (fun ts => ∃ l : List (List α), (l.length ≤ 140737488355328 ∧ ∀ j : Nat, j < l.length → (rd l j).length ≤ 140737488355328) ∧ ts = [.sl 1 (l.map fun x => [T.sl sz (x.map f)])]) :=
  (Opens.slice (sz := 1) (B := 24) ht hc hB (by decide) h).mono fun ts h => by
    obtain ⟨rows, rfl, h1, h2⟩ := h
    obtain ⟨l, rfl, hl⟩ := rows_map h1
    rw [List.length_map] at h2
    have := reachBytes_lt
    exact ⟨l, ⟨by omega, fun j hj => hl _ (rd_mem hj)⟩, rfl⟩
set_option maxRecDepth 20000 in
theorem opens_Sys : Opens Tryz.prog 27 4 (fun ts => ∃ X : Sys, SysB 140737488355328 X.progs X.states X.ways X.hist ∧ ts = [.sl 1 (X.progs.map rInsL), .sl 4 (X.states.map rState), .sl 1 (X.ways.map rItemL), .sl 1 (X.hist.map rEventL)]) :=
  (Opens.struct Tryz.underlying27 (by kernel_rfl) (.mcons rfl (by kernel_rfl) (opens_SS Tryz.underlying22 (by kernel_rfl) (by kernel_rfl) opens_InsS) (.mcons rfl (by kernel_rfl) opens_StateS (.mcons rfl (by kernel_rfl) (opens_SS Tryz.underlying24 (by kernel_rfl) (by kernel_rfl) opens_ItemS) (.mcons rfl (by kernel_rfl) (opens_SS Tryz.underlying25 (by kernel_rfl) (by kernel_rfl) opens_EventS) .mnil))))).mono fun ts h => by
    obtain ⟨_, _, rfl, ⟨P, hP, rfl⟩, _, _, rfl, ⟨S, hS, rfl⟩, _, _, rfl, ⟨W, hW, rfl⟩, _, _, rfl, ⟨X, hX, rfl⟩, rfl⟩ := h
    exact ⟨⟨P, S, W, X⟩, ⟨hP.1, hP.2, hS.1, hS.2, hW.1, hW.2, hX.1, hX.2⟩, rfl⟩
/-- Where a system lies. -/
def SysAt (w : World) (v : Value) (X : Sys) : Prop := ∃ a0 a1 a2 a3, v = .agg #[a0, a1, a2, a3] ∧ Ow (fun k => k < w.heap.size) w 0 a0 (.sl 1 (X.progs.map rInsL)) none_ ∧ Ow (fun k => k < w.heap.size) w 0 a1 (.sl 4 (X.states.map rState)) none_ ∧
  Ow (fun k => k < w.heap.size) w 0 a2 (.sl 1 (X.ways.map rItemL)) none_ ∧ Ow (fun k => k < w.heap.size) w 0 a3 (.sl 1 (X.hist.map rEventL)) none_
theorem four {α : Type} {l : Array α} (h : l.size = 4) : ∃ a b c d, l = #[a, b, c, d] := by
  obtain ⟨l⟩ := l
  match l, h with
  | [a, b, c, d], _ => exact ⟨a, b, c, d, rfl⟩
set_option maxRecDepth 20000 in
theorem open_Sys {H : Type} {enc : TypeId × Value → H} {w : World} {base : Nat} {sp : Nat → Bool} {held : Bool} {v : Value} {d : DataW H} {ps : List MemPlace} {r : Go.Reach} {b0 : Nat}
    (hval : Value.okWide Tryz.prog w r b0 27 v) (h : DataW.Trod enc Tryz.prog w base sp held 27 v d ps) (hw : ∀ m ∈ d.weights Tryz.prog 27, m ≤ reachBytes) :
    ∃ X : Sys, SysB 140737488355328 X.progs X.states X.ways X.hist ∧ SysAt w v X := by
  obtain ⟨cs, rfl, hsz⟩ := Go.WideShapes.okWide_struct Tryz.underlying27 hval
  have hsz4 : cs.size = 4 := hsz.trans (by kernel_rfl)
  obtain ⟨a0, a1, a2, a3, rfl⟩ := four hsz4
  obtain ⟨fuel, hf⟩ := h
  obtain ⟨_, ts, h1, ⟨X, hX, rfl⟩, h3⟩ := opens_Sys H enc w base sp held fuel _ _ hf hw
  exact ⟨X, hX, a0, a1, a2, a3, rfl, h3 0 _ _ rfl rfl, h3 1 _ _ rfl rfl, h3 2 _ _ rfl rfl, h3 3 _ _ rfl rfl⟩
structure Stop where
  p : Int
  kind : Int
  v : Int
theorem arg_Sys {Z : Fp} {w : World} {ob : Objs} {ρ : Nat → Value} {j : Nat} {P : List (List Ins)} {S : List State} {W : List (List Item)} {H : List (List Event)} {a0 a1 a2 a3 : Value}
    (g0 : Ow Z w 0 a0 (.sl 1 (P.map rInsL)) none_) (g1 : Ow Z w 0 a1 (.sl 4 (S.map rState)) none_) (g2 : Ow Z w 0 a2 (.sl 1 (W.map rItemL)) none_) (g3 : Ow Z w 0 a3 (.sl 1 (H.map rEventL)) none_)
    (e0 : ob (1000000 + j) = ⟨0, 0, false, tInsSS P⟩) (e1 : ob (1000001 + j) = ⟨0, 0, false, tStateS S⟩) (e2 : ob (1000002 + j) = ⟨0, 0, false, tItemSS W⟩) (e3 : ob (1000003 + j) = ⟨0, 0, false, tEventSS H⟩)
    (r0 : ρ (1000000 + j) = a0) (r1 : ρ (1000001 + j) = a1) (r2 : ρ (1000002 + j) = a2) (r3 : ρ (1000003 + j) = a3) : AVR w ob ρ (aSys j P S W H) (.agg #[a0, a1, a2, a3]) := by
  have h0 := arg_slice e0 r0 g0
  have h1 := arg_slice e1 r1 g1
  have h2 := arg_slice e2 r2 g2
  have h3 := arg_slice e3 r3 g3
  rw [List.length_map] at h0 h1 h2 h3
  refine .ag rfl ?_
  rintro (_ | _ | _ | _ | i) y hy
  · cases hy; exact h0
  · cases hy; exact h1
  · cases hy; exact h2
  · cases hy; exact h3
  · simp at hy

/-- The law, of any input. -/
theorem walk_FnExactBack {W : World} {v0 : Value} {X0 : Sys} {n1 : Int} {n2 : Int} (h0 : SysB 140737488355328 X0.progs X0.states X0.ways X0.hist)
    (o0 : SysAt W v0 X0) :
    Calls PR 7 #[v0, .int .i64 n1, .int .i64 n2] W (fun e w' => e = .returned (.bool true) ∧ Below W.heap.size W w') := by
  have hF := callE_sound (C := C) tys_ok prims_ok _ _ _ _ _ (ok_laws_FnExactBack 0 X0.progs X0.states X0.ways X0.hist n1 n2 h0)
  obtain ⟨a0_0, a0_1, a0_2, a0_3, rfl, g0_0, g0_1, g0_2, g0_3⟩ := o0
  refine (hF.outside [a0_0, a0_1, a0_2, a0_3] ?_ #[_, _, _] rfl ?_).mono ?_
  · rintro (_ | _ | _ | _ | i) c hc
    · cases hc; exact ⟨_, _, rfl, rfl, g0_0⟩
    · cases hc; exact ⟨_, _, rfl, rfl, g0_1⟩
    · cases hc; exact ⟨_, _, rfl, rfl, g0_2⟩
    · cases hc; exact ⟨_, _, rfl, rfl, g0_3⟩
    · simp at hc
  · rintro (_ | _ | _ | i) x hx
    · cases hx
      exact arg_Sys g0_0 g0_1 g0_2 g0_3 rfl rfl rfl rfl rfl rfl rfl rfl
    · cases hx; exact .s rfl
    · cases hx; exact .s rfl
    · simp at hx
  · rintro e w' ⟨v, rfl, hb, ob', ρ', hv⟩
    exact ⟨by rw [hv.bool_inv], hb⟩

end Go.Proofs.YtlobpiebphnkiaaGreat.Abs
namespace Go.Proofs.YtlobpiebphnkiaaGreat.fnExactBack
open Go Go.Proofs Go.ChangeShapes Go.WideShapes Go.RowKit Go.Proofs.YtlobpiebphnkiaaGreat.Abs
set_option linter.unusedVariables false
theorem own : ownKnob Tryz.prog.godebug = none := by kernel_rfl
theorem laidOut : laidOutB Tryz.prog = true := by kernel_rfl
set_option maxRecDepth 100000 in
theorem lifted (os : Os) (started : os.Started) (H : Type) (enc : TypeId × Value → H) :
    ReturnsInHanded {} Tryz.checked os 7 .any (Rows.fnExactBackSpec.pre6 enc Tryz.prog Tryz.f7 Rows.fnExactBackRow.domain false) (Rows.fnExactBackSpec.post enc Tryz.prog Tryz.f7 false true false false) := by
  refine returnsInHanded_of_change_sized (C := Tryz.checked) own started (by kernel_rfl) Tryz.func7
    (ChangeSpec.witness6 (enc := enc) (C := Tryz.checked) false ⟨#[], #[.agg #[.slice none 0 0, .slice none 0 0, .slice none 0 0, .slice none 0 0], .int .i64 0, .int .i64 0], []⟩ 8 (by kernel_rfl) (by kernel_rfl) (by kernel_rfl) (by kernel_rfl)) ?_
  intro W base args ds gs before hval0 hW hcnd hsz0 _
  have hsz : (DataW.weightsEach Tryz.prog (Tryz.f7.params.toList ++ Rows.fnExactBackSpec.plain.varTypes Tryz.prog) (ds ++ gs)).all (· ≤ reachBytes) = true := hsz0
  have hval : ∀ (j : Nat) t v, Tryz.f7.params[j]? = some t → args[j]? = some v → Value.okWide Tryz.prog W .any base t v := hval0
  have hW' := hW
  obtain ⟨p, q, hA0, hV, rfl, hfz, hnd⟩ := hW
  have hA : DataW.TrodAll enc Tryz.prog W 0 (fun _ => true) true Tryz.f7.params.toList args.toList ds p := hA0
  rw [Tryz.params7] at hA hval hsz
  obtain ⟨v0, vs0, d0, ds0, p0, q0, hargs, rfl, rfl, h0, r0⟩ := trodAll_cons hA
  obtain ⟨v1, vs1, d1, ds1, p1, q1, rfl, rfl, rfl, h1, r1⟩ := trodAll_cons r0
  obtain ⟨v2, vs2, d2, ds2, p2, q2, rfl, rfl, rfl, h2, r2⟩ := trodAll_cons r1
  obtain ⟨rfl, rfl, rfl⟩ := trodAll_nil r2
  obtain rfl : args = #[v0, v1, v2] := by cases args; simp_all
  obtain ⟨rfl, rfl⟩ := trodVars_none hV
  have hwt : ∀ (j : Nat) t d, [27, 3, 3][j]? = some t → [d0, d1, d2][j]? = some d → ∀ m ∈ d.weights Tryz.prog t, m ≤ reachBytes := by
    intro j t d ht hd m hm
    have := List.all_eq_true.1 hsz m (DataW.weights_mem_each (j := j) (t := t) (d := d) ht hd m hm)
    simpa using this
  have k0 := h0
  have lt0 : ∀ x ∈ p0, x.block < W.heap.size := by obtain ⟨m, hm⟩ := k0; exact DataW.trod_lt m _ _ _ hm
  obtain ⟨l0, s0, o0⟩ := open_Sys (hval 0 27 v0 rfl rfl) h0 (hwt 0 _ _ rfl rfl)
  have k1 := h1
  have lt1 : ∀ x ∈ p1, x.block < W.heap.size := by obtain ⟨m, hm⟩ := k1; exact DataW.trod_lt m _ _ _ hm
  obtain ⟨a1, rfl, rfl, rfl, w1⟩ := open_int Tryz.underlying3 (hval 1 3 v1 rfl rfl) h1
  have k2 := h2
  have lt2 : ∀ x ∈ p2, x.block < W.heap.size := by obtain ⟨m, hm⟩ := k2; exact DataW.trod_lt m _ _ _ hm
  obtain ⟨a2, rfl, rfl, rfl, w2⟩ := open_int Tryz.underlying3 (hval 2 3 v2 rfl rfl) h2
  clear hA0 hval0 hsz0 hsz hwt
  refine (walk_FnExactBack s0 o0).mono fun e W' ⟨he, bel⟩ => ?_
  subst he
  exact ⟨_, rfl, _, _, _, [], _, [], hW', trodAll_mk1 (shut_bool Tryz.underlying4 _), (trodAll_cons_mk (Below.trod laidOut (by kernel_rfl) (of_decide_eq_true (by kernel_rfl)) k0 bel lt0) (trodAll_cons_mk (shut_int Tryz.underlying3 w1) (trodAll_cons_mk (shut_int Tryz.underlying3 w2) trodAll_mk0))), rfl, bel.frame _, fun h => by cases h⟩
theorem andT {a b : Bool} (h1 : a = true) (h2 : b = true) : (a && b) = true := by rw [h1, h2]; rfl
theorem j0 : Rows.fnExactBackRow.wf (OpenSpec.ofChange Rows.fnExactBackSpec) = true := by kernel_rfl
theorem j1 : laidOutB Tryz.prog = true := by kernel_rfl
theorem j2 : mapsRowed Tryz.prog = true := by kernel_rfl
theorem j3 : Tryz.f7.params.all (Tryz.prog.readableRec ·) = true := by kernel_rfl
theorem j4 : namedTie Tryz.prog Rows.fnExactBackRow.named Rows.fnExactBackSpec.vars = true := by kernel_rfl
theorem j5 : (Rows.fnExactBackRow.stops == []) = true := by kernel_rfl
theorem j6 : (Tryz.prog.stops == []) = true := by kernel_rfl
theorem j7 : (Rows.fnExactBackRow.knobs == []) = true := by kernel_rfl
theorem j8 : (Tryz.prog.stopKnobs == []) = true := by kernel_rfl
theorem j9 : (Rows.fnExactBackRow.inPlace == Tryz.prog.inPlace 7) = true := by kernel_rfl
theorem j10 : (Rows.fnExactBackRow.unfollowed == Tryz.prog.unfollowed 7) = true := by kernel_rfl
theorem j11 : (Rows.fnExactBackRow.recurses == Tryz.prog.recurses 7) = true := by kernel_rfl
theorem j12 : (Rows.fnExactBackRow.named == Tryz.prog.varsNamed 7) = true := by kernel_rfl
theorem j13 : (Rows.fnExactBackRow.maps == (Tryz.f7.params.toList ++ Rows.fnExactBackSpec.plain.varTypes Tryz.prog).any (Tryz.prog.mapsRec ·)) = true := by kernel_rfl
theorem j14 : (Rows.fnExactBackRow.ifaces == (Tryz.f7.params.toList ++ Rows.fnExactBackSpec.plain.varTypes Tryz.prog).any (Tryz.prog.ifacesRec ·)) = true := by kernel_rfl
theorem j15 : (Rows.fnExactBackRow.mapsOut == Tryz.prog.mapsAmong Tryz.f7.resultTypes.toList) = true := by kernel_rfl
theorem j16 : (Rows.fnExactBackRow.loops == (Tryz.f7.params.toList ++ Rows.fnExactBackSpec.plain.varTypes Tryz.prog).any (Tryz.prog.loopsFrom ·)) = true := by kernel_rfl
theorem j17 : (Rows.fnExactBackRow.wideKeys == (Tryz.f7.params.toList ++ Rows.fnExactBackSpec.plain.varTypes Tryz.prog ++ Tryz.f7.resultTypes.toList).any (Tryz.prog.wideKeysFrom ·)) = true := by kernel_rfl
theorem j18 : Rows.fnExactBackSpec.vars.all (Tryz.prog.varReadable ·) = true := by kernel_rfl
theorem j19 : Tryz.f7.resultTypes.all (fun t => Tryz.prog.readableRec t && decide (t < Tryz.prog.types.size)) = true := by kernel_rfl
theorem j20 : (Rows.fnExactBackRow.ifacesOut == Tryz.f7.resultTypes.toList.any (Tryz.prog.ifacesRec ·)) = true := by kernel_rfl
theorem j21 : (Rows.fnExactBackRow.loopsOut == Tryz.f7.resultTypes.toList.any (Tryz.prog.loopsFrom ·)) = true := by kernel_rfl
theorem j22 : (Rows.fnExactBackRow.plainKeys == Tryz.prog.plainKeys) = true := by kernel_rfl
theorem j23 : Rows.fnExactBackRow.shortTexts.isNone = true := by kernel_rfl
theorem j24 : Tryz.prog.stopsHeard = true := by kernel_rfl
theorem j25 : Tryz.prog.mayEnter = true := by kernel_rfl
theorem j26 : (Rows.fnExactBackRow.lifted == Tryz.prog.liftsFinal) = true := by kernel_rfl
theorem j27 : (Tryz.prog.make == some Rows.fnExactBackRow.make) = true := by kernel_rfl
theorem j28 : (Rows.fnExactBackRow.kinds == (if Rows.fnExactBackRow.domain.isEmpty then [] else Tryz.f7.params.toList.map fun t => match Tryz.prog.underlying t with | some (.int k) => some k | _ => none)) = true := by kernel_rfl
theorem j29 : (Rows.fnExactBackRow.pinned == Rows.fnExactBackRow.pinnedBy) = true := by kernel_rfl
theorem j30 : (Rows.fnExactBackRow.veiled == (Tryz.f7.params.toList ++ Rows.fnExactBackSpec.plain.varTypes Tryz.prog ++ Tryz.f7.resultTypes.toList).any (Tryz.prog.veiledRec ·)) = true := by kernel_rfl
theorem j31 : Rows.fnExactBackRow.veiledFits Tryz.prog Tryz.f7.params.toList (Tryz.f7.params.toList ++ Rows.fnExactBackSpec.plain.varTypes Tryz.prog ++ Tryz.f7.resultTypes.toList) = true := by kernel_rfl
set_option maxRecDepth 100000 in
theorem joined : joinedFacts Tryz.prog 7 Tryz.f7 Rows.fnExactBackSpec Rows.fnExactBackRow = true := by
  unfold joinedFacts
  exact andT (andT (andT (andT (andT (andT (andT (andT (andT (andT (andT (andT (andT (andT (andT (andT (andT (andT (andT (andT (andT (andT (andT (andT (andT (andT (andT (andT (andT (andT (andT j0 j1) j2) j3) j4) j5) j6) j7) j8) j9) j10) j11) j12) j13) j14) j15) j16) j17) j18) j19) j20) j21) j22) j23) j24) j25) j26) j27) j28) j29) j30) j31
theorem over : Rows.fnExactBackRow.holds Tryz.pinned (OpenSpec.ofChange Rows.fnExactBackSpec) :=
  OpenClaim.holds_of_wide 7 Tryz.f7 rfl rfl rfl rfl rfl rfl rfl ⟨rfl, rfl, rfl, rfl, rfl⟩ rfl rfl rfl rfl rfl (by kernel_rfl) Tryz.func7 joined
    (of_decide_eq_true (by kernel_rfl)) (by unfold Func.isWrapper; first | (rw [if_pos (by decide +kernel)]; kernel_rfl) | (rw [if_neg (by decide +kernel)]; exact ⟨rfl, rfl⟩))
    (fun os started H enc _ => lifted os started H enc)
theorem proved : Rows.FnExactBackSaid := over
#print axioms proved
end Go.Proofs.YtlobpiebphnkiaaGreat.fnExactBack
namespace Go.Proofs.YtlobpiebphnkiaaGreat
/-- The row, under a short name, for the claim. -/
theorem fnExactBack_holds : Rows.FnExactBackSaid := fnExactBack.proved
end Go.Proofs.YtlobpiebphnkiaaGreat

