/- Part 7 of the words by which the law is followed: an interpreter over data trees, proved of the machine, and what functions of this program come to by it. No condition. -/
import Derived.ChangeSame
import Derived.SizedLaws
import Derived.DataReads
import Derived.Carry
import Derived.WideShapes
import Derived.Test.YtldndahfnkbngaaGreatJB6
namespace Go.Proofs.YtldndahfnkbngaaGreat.Abs
open Go Go.Proofs
set_option linter.unusedVariables false
set_option linter.unusedSimpArgs false
attribute [local irreducible] callE
theorem sCall.long {x : Option Res} {y : Int} {F : Res → Prop} (e : Told x (fun r => ∃ n : Int, 0 ≤ n ∧ n ≤ y ∧ r = ⟨i64 n, [], [none]⟩)) (h : ∀ n : Int, 0 ≤ n → n ≤ y → F ⟨i64 n, [], [none]⟩) : sCall x F :=
  sCall.ex e fun r hr => by obtain ⟨n, h1, h2, rfl⟩ := hr; exact h n h1 h2
set_option maxRecDepth 20000 in
set_option maxHeartbeats 4000000 in
theorem ok_spec_l6DrawRight (k : Nat) (b : List Int) (i h : Int) (hb : Bytes b) (h0 : 0 ≤ i := by assumption) (h1 : i ≤ b.length := by assumption) :
    Told (callE PR C (k + 11) 162 [.pt 1000001 0 0 [] 0 0, .h 1000002 0 0 [] 1 0 b.length] [tB b, tCur b i h, tB b]) (DSys b Rt [none]) := by
  have hbl := hb.len
  (refine callE_w [ResultVar.cell 4 36] rfl Tryz.func162 rfl (by decide +kernel) rfl (by simp) ?_; (conv => whnf))
  repeat' ((with_reducible (first | refine sCall.long (ok_spec_l1Long _ b 25 70 hbl ⟨by decide, by decide⟩ ⟨by decide, by decide⟩) (fun _ _ _ => ?_)|refine st18 ?_|refine fG.split (fun _ => ?_) (fun _ => ?_)|refine fG.bool (fun _ => ?_) (fun _ => ?_))) <;> (try (conv => whnf)))
  rename_i n hn0 hn1
  repeat' ((with_reducible (first | (refine sCall.ex (ok_spec_l6DrawRun _ b i h n hb ⟨hn0, by omega⟩) ?_)|refine st18 ?_|refine fG.split (fun _ => ?_) (fun _ => ?_)|refine fG.bool (fun _ => ?_) (fun _ => ?_))) <;> (try (conv => whnf)))
  rintro _ ⟨P, S, W, H, l, i', h', hR, hl, ⟨e1, e2⟩, rfl | ⟨P', S', W', H', hR', rfl⟩⟩
  · (conv => whnf)
    repeat' ((with_reducible (first | refine st18 ?_|refine fG.split (fun _ => ?_) (fun _ => ?_)|refine fG.bool (fun _ => ?_) (fun _ => ?_))) <;> (try (conv => whnf)))
    exact ⟨_, _, _, _, _, _, hR, e1, e2, rfl⟩
  · (conv => whnf)
    repeat' ((with_reducible (first | refine st18 ?_|refine fG.split (fun _ => ?_) (fun _ => ?_)|refine fG.bool (fun _ => ?_) (fun _ => ?_))) <;> (try (conv => whnf)))
    exact ⟨_, _, _, _, _, _, hR', e1, e2, rfl⟩
theorem cons_rItem (l : List Item) (a : Bool) (v : Int) : [[T.v (.bool a), .v (.int .i64 v)]] ++ l.map rItem = ((⟨a, v⟩ : Item) :: l).map rItem := rfl
theorem gI19 {p A : Prop} (h : A) (e : p := by first | with_reducible assumption | omega | (simp only [Nat.zero_add, Nat.add_zero, Nat.sub_zero, Int.toNat_natCast, Int.toNat_zero, Int.toNat_one, List.length_map, List.length_nil, Int.reduceToNat, Nat.reduceAdd, Nat.reduceSub, Int.sub_zero, Int.reduceAdd, Int.reduceSub, Nat.sub_self, Int.toNat_natCast_add_one, marks_len, bs_len, List.length_append, List.length_cons, List.length_set, List.length_replicate, List.length_range]; first | done | omega)) : sI p A := sI.mk e h
theorem gNum19 {r r' : Nat} {F : Nat → Prop} (h : F r') (e : r = r' := by first | (simp only [Nat.zero_add, Nat.add_zero, Nat.sub_zero, Int.toNat_natCast, Int.toNat_zero, Int.toNat_one, List.length_map, List.length_nil, Int.reduceToNat, Nat.reduceAdd, Nat.reduceSub, Int.sub_zero, Int.reduceAdd, Int.reduceSub, Nat.sub_self, Int.toNat_natCast_add_one, marks_len, bs_len]; rfl) | rfl) : sN r F := sN.eq e h
theorem gRow19 {r r' : List (List T)} {F : List (List T) → Prop} (h : F r') (e : r = r' := by first | (simp only [Nat.add_zero, Nat.zero_add, Nat.reduceAdd, List.drop_zero, List.take_succ_cons, List.take_nil, List.drop_succ_cons, List.drop_nil, List.take_zero, List.nil_append, List.append_nil, List.map_nil, drop_suf, take_pre, drop_map, List.take_length, take_len_set, take_len_app, List.set_set, List.length_map, cons_rItem, one_rIns, cons_rIns, one_rI, cons_rI, snoc_new, snoc_rItem, snoc_rInsL, snoc_rItemL, snoc_rEventL, snoc_rState, set_rWho, rep_rWho, snoc_rWho, set_rState, rep_rState, set_rInsL, rep_rInsL, set_rItemL, rep_rItemL, set_rEventL, rep_rEventL, set_rItem, rep_rItem, rep_rKept, marks_take, set_rKept, set_rIns, rep_rIns, set_rEvent, rep_rEvent, snoc_rKept, snoc_rEvent, snoc_rIns, bytesT_bs, snoc_rI, snoc_rB, snoc_rBool, set_rI, set_rBool, rep_rI, rep_rBool, map_app]; rfl) | rfl) : sR r F := sR.eq e h
theorem st19 {P Q : Prop} (h : Q) (e : Q → P := by with_reducible first | exact fun h => gP h | exact fun h => gN h | exact fun h => fG.not h | exact fun h => gY h | exact fun h => gF h | exact fun h => fG.yes (flat_map (fun _ => rfl) _) h | exact fun h => gS64 h | exact fun h => gU8 h | exact fun h => gI19 h | exact fun h => fE.of rfl h | exact fun h => gNum19 h | exact fun h => gSet h | exact fun h => gRd h | exact fun h => gLk h | exact fun h => gRow19 h | exact fun h => gRf4 h) : P := e h
theorem mem_rd {α : Type} [Inhabited α] {l : List α} {x : α} (h : x ∈ l) : ∃ j, j < l.length ∧ rd l j = x := by
  obtain ⟨i, hi, rfl⟩ := List.mem_iff_getElem.1 h
  exact ⟨i, hi, by simp [rd, hi]⟩
theorem SysB.all {B : Nat} {P : List (List Ins)} {S : List State} {W : List (List Item)} {H : List (List Event)} (h : SysB B P S W H) : (∀ x ∈ P, x.length ≤ B) ∧ (∀ x ∈ S, x.regs.length ≤ B ∧ x.out.length ≤ B) ∧ (∀ x ∈ W, x.length ≤ B) ∧ ∀ x ∈ H, x.length ≤ B := by
  refine ⟨fun x hx => ?_, fun x hx => ?_, fun x hx => ?_, fun x hx => ?_⟩
  · obtain ⟨j, hj, rfl⟩ := mem_rd hx; exact h.pp j hj
  · obtain ⟨j, hj, rfl⟩ := mem_rd hx; exact h.ss j hj
  · obtain ⟨j, hj, rfl⟩ := mem_rd hx; exact h.ww j hj
  · obtain ⟨j, hj, rfl⟩ := mem_rd hx; exact h.hh j hj
theorem SysB.mk' {B : Nat} {P : List (List Ins)} {S : List State} {W : List (List Item)} {H : List (List Event)} (h1 : (P.length ≤ B ∧ S.length ≤ B) ∧ W.length ≤ B ∧ H.length ≤ B) (h2 : (∀ x ∈ P, x.length ≤ B) ∧ (∀ x ∈ S, x.regs.length ≤ B ∧ x.out.length ≤ B) ∧ (∀ x ∈ W, x.length ≤ B) ∧ ∀ x ∈ H, x.length ≤ B) : SysB B P S W H :=
  ⟨h1.1.1, fun _ hj => h2.1 _ (rd_mem hj), h1.1.2, fun _ hj => h2.2.1 _ (rd_mem hj), h1.2.1, fun _ hj => h2.2.2.1 _ (rd_mem hj), h1.2.2, fun _ hj => h2.2.2.2 _ (rd_mem hj)⟩
theorem all_set {α : Type} {l : List α} {i : Nat} {y : α} {p : α → Prop} (h : ∀ x ∈ l, p x) (hy : p y) : ∀ x ∈ l.set i y, p x := by
  intro x hx
  rcases List.mem_or_eq_of_mem_set hx with h1 | h1
  · exact h x h1
  · rw [h1]; exact hy
theorem dsys_mk {b : List Int} {P : List (List Ins)} {S : List State} {W : List (List Item)} {H : List (List Event)} {i h : Int} {n0 n1 n2 n3 : Nat} (hB : SysB 2000000 P S W H) (e0 : P.length = n0) (e1 : S.length = n1) (e2 : W.length = n2) (e3 : H.length = n3) (h0 : 0 ≤ i) (h1 : i ≤ b.length) :
    DSys b (SysB 2000000) [none] ⟨.ag [.h 2000000 1 0 [] 1 0 n0, .h 2000001 1 0 [] 4 0 n1, .h 2000002 1 0 [] 1 0 n2, .h 2000003 1 0 [] 1 0 n3], [tInsSS9 P, tStateS9 S, tItemSS9 W, tEventSS9 H], [none, some (tCur b i h), none]⟩ := by
  subst e0 e1 e2 e3
  exact ⟨P, S, W, H, i, h, hB, h0, h1, rfl⟩
set_option maxRecDepth 20000 in
set_option maxHeartbeats 8000000 in
theorem ok_spec_l6Draw (k : Nat) (b : List Int) (i h : Int) (hb : Bytes b) (h0 : 0 ≤ i := by assumption) (h1 : i ≤ b.length := by assumption) :
    Told (callE PR C (k + 12) 138 [.pt 1000001 0 0 [] 0 0, .h 1000002 0 0 [] 1 0 b.length] [tB b, tCur b i h, tB b]) (DSys b (SysB 2000000) [none]) := by
  have hbl := hb.len
  (refine callE_w [ResultVar.cell 4 36] rfl Tryz.func138 rfl (by decide +kernel) rfl (by simp) ?_; (conv => whnf))
  repeat' ((with_reducible (first | refine sCall.dsys (ok_spec_l6DrawRight _ _ _ _ hb) (fun _ _ _ _ _ _ _ _ _ => ?_)|refine st19 ?_|refine fG.split (fun _ => ?_) (fun _ => ?_)|refine fG.bool (fun _ => ?_) (fun _ => ?_)|refine gD 9 [(1, 9), (4, 9), (7, 9), (1, 11), (4, 11), (7, 11), (1, 13), (4, 13), (7, 13), (1, 15), (4, 15), (7, 15), (1, 16)] ?_|refine gD 12 [(1, 9), (4, 9), (7, 9), (1, 11), (4, 11), (7, 11), (1, 13), (4, 13), (7, 13), (1, 14)] ?_|refine gD 16 [(1, 4)] ?_|refine gD 19 [(1, 4), (4, 6), (4, 9), (1, 10)] ?_)) <;> (try (conv => whnf)))
  rename_i P S W H i1 h1' hR a1 a2
  have hB := hR.B
  have q1 := fun k => ok_spec_l1Max k (P.length : Int) 1
  by_cases c0 : P.length = 0
  · rw [if_neg (by omega)] at q1
    repeat' ((with_reducible (first | refine sCall.of (q1 _) ?_|refine sCall.cur (ok_Below _ _ _ _ _ hb) (fun _ _ _ _ _ _ _ => ?_)|refine st19 ?_|refine fG.split (fun _ => ?_) (fun _ => ?_)|refine fG.bool (fun _ => ?_) (fun _ => ?_)|refine gD 9 [(1, 9), (4, 9), (7, 9), (1, 11), (4, 11), (7, 11), (1, 13), (4, 13), (7, 13), (1, 15), (4, 15), (7, 15), (1, 16)] ?_|refine gD 12 [(1, 9), (4, 9), (7, 9), (1, 11), (4, 11), (7, 11), (1, 13), (4, 13), (7, 13), (1, 14)] ?_|refine gD 16 [(1, 4)] ?_|refine gD 19 [(1, 4), (4, 6), (4, 9), (1, 10)] ?_)) <;> (try (conv => whnf)))
    exact ⟨_, _, _, _, _, _, hB.mono (by decide), by assumption, by assumption, rfl⟩
  · have hs : sysOk P S W H = true := by
      rcases hR with h | ⟨⟨rfl, rfl⟩, rfl, rfl⟩
      · exact h
      · exact absurd rfl c0
    obtain ⟨hI, _, _, _⟩ := sysOk_facts hs
    have hN := hI.n
    have hsl := hI.s
    have hhl := hI.h
    have hwl : 1 ≤ W.length ∧ W.length ≤ 16 := by
      rw [hI.w]
      have := Nat.mul_le_mul hN.2 hN.2
      have := Nat.mul_le_mul hN.1 hN.1
      omega
    have hn : (if (1 : Int) < (P.length : Int) then (P.length : Int) else 1) = (P.length : Int) := by split <;> omega
    rw [hn] at q1
    have qb := fun k => ok_Below k b i1 h1' (P.length : Int) hb
    repeat' ((with_reducible (first | refine sCall.of (q1 _) ?_|refine sCall.cur (qb _) (fun _ _ _ _ _ _ _ => ?_)|refine st19 ?_|refine fG.split (fun _ => ?_) (fun _ => ?_)|refine fG.bool (fun _ => ?_) (fun _ => ?_)|refine gD 9 [(1, 9), (4, 9), (7, 9), (1, 11), (4, 11), (7, 11), (1, 13), (4, 13), (7, 13), (1, 15), (4, 15), (7, 15), (1, 16)] ?_|refine gD 12 [(1, 9), (4, 9), (7, 9), (1, 11), (4, 11), (7, 11), (1, 13), (4, 13), (7, 13), (1, 14)] ?_|refine gD 16 [(1, 4)] ?_|refine gD 19 [(1, 4), (4, 6), (4, 9), (1, 10)] ?_)) <;> (try (conv => whnf)))
    rename_i x i2 h2 x0 x1 e1 e2
    obtain ⟨p, rfl⟩ : ∃ n : Nat, x = (n : Int) := ⟨x.toNat, by omega⟩
    have hpP : p < P.length := by omega
    have f1 := (procF_of hs hpP).ok.regs
    have f2 := hB.hh p (by omega)
    have f3 : ∀ w : Int, 0 ≤ w → w ≤ (W.length : Int) - 1 → (rd W w.toNat).length ≤ 1048576 := fun w h0 h1 => hB.ww w.toNat (by omega)
    have qc := fun k => ok_Below k b i2 h2 25 hb
    have hM := hB.mono (show 1048576 ≤ 2000000 by decide)
    obtain ⟨m1, m2, m3, m4⟩ := hM.all
    repeat' ((with_reducible (first | refine sCall.cur (qc _) (fun _ _ _ _ _ _ _ => ?_)|refine st19 ?_|refine fG.split (fun _ => ?_) (fun _ => ?_)|refine fG.bool (fun _ => ?_) (fun _ => ?_)|refine gD 9 [(1, 9), (4, 9), (7, 9), (1, 11), (4, 11), (7, 11), (1, 13), (4, 13), (7, 13), (1, 15), (4, 15), (7, 15), (1, 16)] ?_|refine gD 12 [(1, 9), (4, 9), (7, 9), (1, 11), (4, 11), (7, 11), (1, 13), (4, 13), (7, 13), (1, 14)] ?_|refine gD 16 [(1, 4)] ?_|refine gD 19 [(1, 4), (4, 6), (4, 9), (1, 10)] ?_)) <;> (try (conv => whnf)))
    · exact dsys_mk (S := S.set p ⟨(rd S p).at_, (rd S p).regs.set 1 5, (rd S p).out, (rd S p).code⟩) (SysB.mk' ⟨⟨hM.p, by simp; exact hM.s⟩, hM.w, hM.h⟩ ⟨m1, all_set m2 (by have := m2 _ (rd_mem (l := S) (n := p) (by omega)); simpa using this), m3, m4⟩) rfl (by simp) rfl rfl (by assumption) (by assumption)
    · repeat' ((with_reducible (first | refine sCall.cur (ok_Below _ _ _ _ _ hb) (fun _ _ _ _ _ _ _ => ?_)|refine gHole ?_|refine st19 ?_|refine fG.split (fun _ => ?_) (fun _ => ?_)|refine fG.bool (fun _ => ?_) (fun _ => ?_)|refine gD 9 [(1, 9), (4, 9), (7, 9), (1, 11), (4, 11), (7, 11), (1, 13), (4, 13), (7, 13), (1, 15), (4, 15), (7, 15), (1, 16)] ?_|refine gD 12 [(1, 9), (4, 9), (7, 9), (1, 11), (4, 11), (7, 11), (1, 13), (4, 13), (7, 13), (1, 14)] ?_|refine gD 16 [(1, 4)] ?_|refine gD 19 [(1, 4), (4, 6), (4, 9), (1, 10)] ?_)) <;> (try (conv => whnf)))
      exact dsys_mk (SysB.mk' ⟨⟨hM.p, hM.s⟩, hM.w, by simp; exact hM.h⟩ ⟨m1, m2, m3, all_set m4 (by simp; omega)⟩) rfl rfl rfl (by simp) (by assumption) (by assumption)
    · repeat' ((with_reducible (first | refine sCall.cur (ok_Below _ _ _ _ _ hb) (fun _ _ _ _ _ _ _ => ?_)|refine st19 ?_|refine fG.split (fun _ => ?_) (fun _ => ?_)|refine fG.bool (fun _ => ?_) (fun _ => ?_)|refine gD 9 [(1, 9), (4, 9), (7, 9), (1, 11), (4, 11), (7, 11), (1, 13), (4, 13), (7, 13), (1, 15), (4, 15), (7, 15), (1, 16)] ?_|refine gD 12 [(1, 9), (4, 9), (7, 9), (1, 11), (4, 11), (7, 11), (1, 13), (4, 13), (7, 13), (1, 14)] ?_|refine gD 16 [(1, 4)] ?_|refine gD 19 [(1, 4), (4, 6), (4, 9), (1, 10)] ?_)) <;> (try (conv => whnf)))
      rename_i w i4 h4 w0 w1 e3 e4
      have f4 := f3 w w0 w1
      repeat' ((with_reducible (first | refine sCall.cur (ok_Below _ _ _ _ _ hb) (fun _ _ _ _ _ _ _ => ?_)|refine sCall.curB (ok_spec_l1Once _ _ _ _ _ hb) (fun _ _ _ _ _ => ?_)|refine gHole ?_|refine st19 ?_|refine fG.split (fun _ => ?_) (fun _ => ?_)|refine fG.bool (fun _ => ?_) (fun _ => ?_)|refine gD 9 [(1, 9), (4, 9), (7, 9), (1, 11), (4, 11), (7, 11), (1, 13), (4, 13), (7, 13), (1, 15), (4, 15), (7, 15), (1, 16)] ?_|refine gD 12 [(1, 9), (4, 9), (7, 9), (1, 11), (4, 11), (7, 11), (1, 13), (4, 13), (7, 13), (1, 14)] ?_|refine gD 16 [(1, 4)] ?_|refine gD 19 [(1, 4), (4, 6), (4, 9), (1, 10)] ?_)) <;> (try (conv => whnf)))
      exact dsys_mk (SysB.mk' ⟨⟨hM.p, hM.s⟩, by simp; omega, hM.h⟩ ⟨m1, m2, all_set m3 (by simp; omega), m4⟩) rfl rfl (by simp) rfl (by assumption) (by assumption)
    · exact dsys_mk (SysB.mk' ⟨⟨hM.p, hM.s⟩, by simp; omega, hM.h⟩ ⟨m1, m2, fun x hx => m3 x (List.mem_of_mem_drop (List.mem_of_mem_take hx)), m4⟩) rfl rfl (by simp) rfl (by assumption) (by assumption)
    · repeat' ((with_reducible (first | refine sCall.prog (ok_spec_l1DrawAny _ _ _ _ hb) (fun _ _ _ _ _ _ _ => ?_)|refine st19 ?_|refine fG.split (fun _ => ?_) (fun _ => ?_)|refine fG.bool (fun _ => ?_) (fun _ => ?_)|refine gD 9 [(1, 9), (4, 9), (7, 9), (1, 11), (4, 11), (7, 11), (1, 13), (4, 13), (7, 13), (1, 15), (4, 15), (7, 15), (1, 16)] ?_|refine gD 12 [(1, 9), (4, 9), (7, 9), (1, 11), (4, 11), (7, 11), (1, 13), (4, 13), (7, 13), (1, 14)] ?_|refine gD 16 [(1, 4)] ?_|refine gD 19 [(1, 4), (4, 6), (4, 9), (1, 10)] ?_)) <;> (try (conv => whnf)))
      exact dsys_mk (SysB.mk' ⟨⟨by simp; omega, hM.s⟩, hM.w, hM.h⟩ ⟨all_set m1 (by omega), m2, m3, m4⟩) (by simp) rfl rfl rfl (by assumption) (by assumption)
    · repeat' ((with_reducible (first | refine sCall.cur (ok_Below _ _ _ _ _ hb) (fun _ _ _ _ _ _ _ => ?_)|refine st19 ?_|refine fG.split (fun _ => ?_) (fun _ => ?_)|refine fG.bool (fun _ => ?_) (fun _ => ?_)|refine gD 9 [(1, 9), (4, 9), (7, 9), (1, 11), (4, 11), (7, 11), (1, 13), (4, 13), (7, 13), (1, 15), (4, 15), (7, 15), (1, 16)] ?_|refine gD 12 [(1, 9), (4, 9), (7, 9), (1, 11), (4, 11), (7, 11), (1, 13), (4, 13), (7, 13), (1, 14)] ?_|refine gD 16 [(1, 4)] ?_|refine gD 19 [(1, 4), (4, 6), (4, 9), (1, 10)] ?_)) <;> (try (conv => whnf)))
      rename_i w i4 h4 w0 w1 e3 e4
      have f4 := f3 w w0 w1
      repeat' ((with_reducible (first | refine gHole ?_|refine st19 ?_|refine fG.split (fun _ => ?_) (fun _ => ?_)|refine fG.bool (fun _ => ?_) (fun _ => ?_)|refine gD 9 [(1, 9), (4, 9), (7, 9), (1, 11), (4, 11), (7, 11), (1, 13), (4, 13), (7, 13), (1, 15), (4, 15), (7, 15), (1, 16)] ?_|refine gD 12 [(1, 9), (4, 9), (7, 9), (1, 11), (4, 11), (7, 11), (1, 13), (4, 13), (7, 13), (1, 14)] ?_|refine gD 16 [(1, 4)] ?_|refine gD 19 [(1, 4), (4, 6), (4, 9), (1, 10)] ?_)) <;> (try (conv => whnf)))
      exact dsys_mk (SysB.mk' ⟨⟨hM.p, hM.s⟩, by simp; omega, hM.h⟩ ⟨m1, m2, all_set m3 (by simp; omega), m4⟩) rfl rfl (by simp) rfl (by assumption) (by assumption)
    · exact dsys_mk hM rfl rfl rfl rfl (by assumption) (by assumption)

def DSys2 (r : Res) : Prop := ∃ (P : List (List Ins)) (S : List State) (W : List (List Item)) (H : List (List Event)) (p k : Int), SysB 2000000 P S W H ∧ r = ⟨.tu [nSys 0 P S W H, i64 p, i64 k], [tInsSS9 P, tStateS9 S, tItemSS9 W, tEventSS9 H], [none]⟩
def DSys1 (r : Res) : Prop := ∃ (P : List (List Ins)) (S : List State) (W : List (List Item)) (H : List (List Event)) (p : Int), SysB 2000000 P S W H ∧ r = ⟨.tu [nSys 0 P S W H, i64 p], [tInsSS9 P, tStateS9 S, tItemSS9 W, tEventSS9 H], [none]⟩
def DSys0 (r : Res) : Prop := ∃ (P : List (List Ins)) (S : List State) (W : List (List Item)) (H : List (List Event)), SysB 2000000 P S W H ∧ r = ⟨nSys 0 P S W H, [tInsSS9 P, tStateS9 S, tItemSS9 W, tEventSS9 H], [none]⟩
def DSysStop (r : Res) : Prop := ∃ (P : List (List Ins)) (S : List State) (W : List (List Item)) (H : List (List Event)) (p kind v : Int), SysB 2000000 P S W H ∧ r = ⟨.tu [nSys 0 P S W H, aStop p kind v], [tInsSS9 P, tStateS9 S, tItemSS9 W, tEventSS9 H], [none]⟩
def DStop (b : List Int) (r : Res) : Prop := ∃ p kind v i h : Int, 0 ≤ i ∧ i ≤ b.length ∧ r = ⟨aStop p kind v, [], [none, some (tCur b i h), none, none, none, none]⟩
theorem sCall.stop {x : Option Res} {b : List Int} {F : Res → Prop} (e : Told x (DStop b)) (h : ∀ p kind v i h : Int, 0 ≤ i → i ≤ b.length → F ⟨aStop p kind v, [], [none, some (tCur b i h), none, none, none, none]⟩) : sCall x F :=
  sCall.ex e fun r hr => by obtain ⟨p, kind, v, i, h', h1, h2, rfl⟩ := hr; exact h p kind v i h' h1 h2
set_option maxRecDepth 20000 in
theorem ok_spec_l12DrawStop (k : Nat) (b : List Int) (i h : Int) (P : List (List Ins)) (S : List State) (W : List (List Item)) (H : List (List Event)) (hb : Bytes b) (hB : SysB 2000000 P S W H) (h0 : 0 ≤ i := by assumption) (h1 : i ≤ b.length := by assumption) :
    Told (callE PR C (k + 4) 139 [.pt 1000001 0 0 [] 0 0, aSys 2 P S W H] [tB b, tCur b i h, tInsSS P, tStateS S, tItemSS W, tEventSS H]) (DStop b) := by
  have hbl := hb.len
  have hp := hB.p
  have q1 := fun k => ok_spec_l1Max k (P.length : Int) 1
  have hn : 1 ≤ (if (1 : Int) < (P.length : Int) then (P.length : Int) else 1) ∧ (if (1 : Int) < (P.length : Int) then (P.length : Int) else 1) ≤ 2000000 := by split <;> omega
  generalize (if (1 : Int) < (P.length : Int) then (P.length : Int) else 1) = n at *
  (refine callE_w [ResultVar.cell 4 55] rfl Tryz.func139 rfl (by decide +kernel) rfl (by simp) ?_; (conv => whnf))
  repeat' ((with_reducible (first | refine sCall.of (q1 _) ?_|refine sCall.cur (ok_Below _ _ _ _ _ hb) (fun _ _ _ _ _ _ _ => ?_)|refine sCall.pick (ok_PickInt _ _ _ _ _ hb) (fun _ _ _ _ _ _ => ?_)|refine st19 ?_|refine fG.split (fun _ => ?_) (fun _ => ?_)|refine fG.bool (fun _ => ?_) (fun _ => ?_))) <;> (try (conv => whnf)))
  all_goals exact ⟨_, _, _, _, _, by assumption, by assumption, rfl⟩
end Go.Proofs.YtldndahfnkbngaaGreat.Abs
namespace Go.Proofs.YtldndahfnkbngaaGreat.Abs
open Go Go.Proofs
set_option linter.unusedVariables false
set_option linter.unusedSimpArgs false
attribute [local irreducible] callE
theorem ok_laws_sameInts (k : Nat) (r s : List Int) (hr : r.length ≤ 100000000000) (hs : s.length ≤ 100000000000) : callE PR C (k + 1) 37 [.h 1000000 0 0 [] 1 0 r.length, .h 1000001 0 0 [] 1 0 s.length] [tI r, tI s] = some ⟨bl (decide (r = s)), [], [none, none]⟩ := by
  by_cases h : r.length = s.length
  · (refine fnI [ResultVar.tmp 4] Tryz.func37 ?_; conv => whnf)
    repeat' ((with_reducible (first | refine st19 ?_|refine fG.split (fun _ => ?_) (fun _ => ?_)|refine fG.bool (fun _ => ?_) (fun _ => ?_)|refine gDn 6 ?_)) <;> (try (conv => whnf)))
    refine loop_rule (ι := Nat) (fun j => [(0, .h 1000000 0 0 [] 1 0 r.length), (1, .h 1000001 0 0 [] 1 0 s.length), (5, i64 (j : Nat))])
      (fun x => [(1000000, ⟨0, 0, false, tI r⟩), (1000001, ⟨0, 0, false, tI s⟩)])
      (fun j => r.length - j) (fun j => j ≤ r.length ∧ r.take j = s.take j) 0 fitOk ⟨Nat.zero_le _, rfl⟩ (by simp [C]; omega) ?_
    rintro j sl ob ⟨hj, ht⟩
    (try dsimp only [cond_true, cond_false])
    (conv => whnf)
    by_cases hjl : j < r.length
    · by_cases e : rd r j = rd s j
      · repeat' ((with_reducible (first | refine st19 ?_|refine fG.split (fun _ => ?_) (fun _ => ?_)|refine fG.bool (fun _ => ?_) (fun _ => ?_)|refine gDn 6 ?_)) <;> (try (conv => whnf)))
        refine ⟨⟨j + 1, fitOk, ?_, ?_⟩⟩
        · exact ⟨by show j + 1 ≤ _; omega, take_next hjl (by omega) ht e⟩
        · show r.length - (j + 1) < r.length - j; omega
      · rw [decide_eq_false (fun hh : r = s => e (by rw [hh]))]
        repeat' ((with_reducible (first | refine st19 ?_|refine fG.split (fun _ => ?_) (fun _ => ?_)|refine fG.bool (fun _ => ?_) (fun _ => ?_)|refine gDn 6 ?_)) <;> (try (conv => whnf)))
    · have hjj : j = r.length := by omega
      rw [decide_eq_true (take_all_eq h (by rw [← hjj]; exact ht))]
      repeat' ((with_reducible (first | refine st19 ?_|refine fG.split (fun _ => ?_) (fun _ => ?_)|refine fG.bool (fun _ => ?_) (fun _ => ?_)|refine gDn 6 ?_)) <;> (try (conv => whnf)))
  · rw [decide_eq_false (fun hh : r = s => h (by rw [hh]))]
    (refine fnI [ResultVar.tmp 4] Tryz.func37 ?_; conv => whnf)
    repeat' ((with_reducible (first | refine st19 ?_|refine fG.split (fun _ => ?_) (fun _ => ?_)|refine fG.bool (fun _ => ?_) (fun _ => ?_)|refine gDn 6 ?_)) <;> (try (conv => whnf)))
theorem ok_laws_sameState (k : Nat) (a : Int) (r o : List Int) (c a2 : Int) (r2 o2 : List Int) (c2 : Int) (h1 : r.length ≤ 100000000000) (h2 : o.length ≤ 100000000000) (h3 : r2.length ≤ 100000000000) (h4 : o2.length ≤ 100000000000) :
    callE PR C (k + 2) 128 [aState 0 a r o c, aState 2 a2 r2 o2 c2] [tI r, tI o, tI r2, tI o2] = some ⟨bl (sameS a r o c a2 r2 o2 c2), [], [none, none, none, none]⟩ := by
  rw [sameS_eq]
  (refine fnI [ResultVar.tmp 4] Tryz.func128 ?_; conv => whnf)
  repeat' ((with_reducible (first | refine sCall.of (ok_laws_sameInts _ _ _ h1 h3) ?_|refine sCall.of (ok_laws_sameInts _ _ _ h2 h4) ?_|refine st19 ?_|refine fG.split (fun _ => ?_) (fun _ => ?_)|refine fG.bool (fun _ => ?_) (fun _ => ?_))) <;> (try (conv => whnf)))
  all_goals (simp [*]; done)
theorem ok_laws_big (k : Nat) (b : List Int) : callE PR C (k + 1) 34 [.h 1000000 0 0 [] 1 0 b.length] [tB b] = some ⟨bl (decide (1048576 < (b.length : Int))), [], [none]⟩ := by
  (refine fnI [ResultVar.tmp 2] Tryz.func34 ?_; conv => whnf)
  repeat' ((with_reducible (first | refine st19 ?_|refine fG.split (fun _ => ?_) (fun _ => ?_)|refine fG.bool (fun _ => ?_) (fun _ => ?_))) <;> (try (conv => whnf)))
  all_goals (try simp [*]; done)

theorem ok_laws_sameEvents (k : Nat) (l : List Event) (hl : l.length ≤ 100000000000) : callE PR C (k + 1) 127 [.h 1000000 0 0 [] 3 0 l.length, .h 1000001 0 0 [] 3 0 l.length] [tEvent l, tEvent l] = some ⟨bl true, [], [none, none]⟩ := by
  (refine fnI [ResultVar.tmp 4] Tryz.func127 ?_; conv => whnf)
  repeat' ((with_reducible (first | refine st19 ?_|refine fG.split (fun _ => ?_) (fun _ => ?_)|refine fG.bool (fun _ => ?_) (fun _ => ?_)|refine gDn 6 ?_)) <;> (try (conv => whnf)))
  refine loop_rule (ι := Nat) (fun j => [(0, .h 1000000 0 0 [] 3 0 l.length), (1, .h 1000001 0 0 [] 3 0 l.length), (5, i64 (j : Nat))])
    (fun x => [(1000000, ⟨0, 0, false, tEvent l⟩), (1000001, ⟨0, 0, false, tEvent l⟩)])
    (fun j => l.length - j) (fun j => j ≤ l.length) 0 fitOk (Nat.zero_le _) (by simp [C]; omega) ?_
  rintro j sl ob hj
  (try dsimp only [cond_true, cond_false])
  (conv => whnf)
  repeat' ((with_reducible (first | refine st19 ?_|refine fG.split (fun _ => ?_) (fun _ => ?_)|refine fG.bool (fun _ => ?_) (fun _ => ?_)|refine gDn 6 ?_)) <;> (try (conv => whnf)))
  case refine_1.refine_2 =>
    rename_i h
    exact absurd h (by simp)
  case' refine_1.refine_1 =>
    refine ⟨⟨j + 1, fitOk, ?_, ?_⟩⟩
    · show j + 1 ≤ _; omega
    · show l.length - (j + 1) < l.length - j; omega
set_option maxRecDepth 20000 in
theorem ok_laws_sameHist (k : Nat) (P P' : List (List Ins)) (S S' : List State) (W W' : List (List Item)) (H : List (List Event)) (hl : H.length ≤ 100000000000) (hh : ∀ j : Nat, j < H.length → (rd H j).length ≤ 100000000000) :
    callE PR C (k + 2) 44 [aSys 0 P S W H, aSys 4 P' S' W' H] [tInsSS P, tStateS S, tItemSS W, tEventSS H, tInsSS P', tStateS S', tItemSS W', tEventSS H] = some ⟨bl true, [], [none, none, none, none, none, none, none, none]⟩ := by
  (refine fnI [ResultVar.tmp 4] Tryz.func44 ?_; conv => whnf)
  repeat' ((with_reducible (first | refine st19 ?_|refine fG.split (fun _ => ?_) (fun _ => ?_)|refine fG.bool (fun _ => ?_) (fun _ => ?_)|refine gDn 6 ?_)) <;> (try (conv => whnf)))
  refine loop_rule (ι := Nat) (fun j => [(2, .pt 2 1 0 [] 0 0), (3, .pt 3 1 0 [] 0 0), (5, i64 (j : Nat))])
    (fun x => [(1000003, ⟨0, 0, false, tEventSS H⟩), (1000007, ⟨0, 0, false, tEventSS H⟩), (2, ⟨1, 0, false, bSys P S W H⟩), (3, ⟨1, 0, false, .box [.h 1000004 0 0 [] 1 0 P'.length, .h 1000005 0 0 [] 4 0 S'.length, .h 1000006 0 0 [] 1 0 W'.length, .h 1000007 0 0 [] 1 0 H.length]⟩)])
    (fun j => H.length - j) (fun j => j ≤ H.length) 0 fitOk (Nat.zero_le _) (by simp [C]; omega) ?_
  rintro j sl ob hj
  by_cases hjl : j < H.length
  · have q1 := fun k => ok_laws_sameEvents k (rd H j) (hh j hjl)
    (try dsimp only [cond_true, cond_false])
    (conv => whnf)
    repeat' ((with_reducible (first | refine sCall.of (q1 _) ?_|refine st19 ?_|refine fG.split (fun _ => ?_) (fun _ => ?_)|refine fG.bool (fun _ => ?_) (fun _ => ?_)|refine gDn 6 ?_)) <;> (try (conv => whnf)))
    refine ⟨⟨j + 1, fitOk, ?_, ?_⟩⟩
    · show j + 1 ≤ _; omega
    · show H.length - (j + 1) < H.length - j; omega
  · (try dsimp only [cond_true, cond_false])
    (conv => whnf)
    repeat' ((with_reducible (first | refine st19 ?_|refine fG.split (fun _ => ?_) (fun _ => ?_)|refine fG.bool (fun _ => ?_) (fun _ => ?_)|refine gDn 6 ?_)) <;> (try (conv => whnf)))
theorem sameS_self (a : Int) (r o : List Int) (c : Int) : sameS a r o c a r o c = true := decide_eq_true rfl
set_option maxRecDepth 20000 in
theorem ok_laws_sameStates (k : Nat) (P P' : List (List Ins)) (S : List State) (W W' : List (List Item)) (H H' : List (List Event)) (hl : S.length ≤ 100000000000) (hh : ∀ j : Nat, j < S.length → (rd S j).regs.length ≤ 100000000000 ∧ (rd S j).out.length ≤ 100000000000) :
    callE PR C (k + 3) 45 [aSys 0 P S W H, aSys 4 P' S W' H'] [tInsSS P, tStateS S, tItemSS W, tEventSS H, tInsSS P', tStateS S, tItemSS W', tEventSS H'] = some ⟨bl true, [], [none, none, none, none, none, none, none, none]⟩ := by
  (refine fnI [ResultVar.tmp 4] Tryz.func45 ?_; conv => whnf)
  repeat' ((with_reducible (first | refine st19 ?_|refine fG.split (fun _ => ?_) (fun _ => ?_)|refine fG.bool (fun _ => ?_) (fun _ => ?_)|refine gDn 6 ?_)) <;> (try (conv => whnf)))
  refine loop_rule (ι := Nat) (fun j => [(2, .pt 2 1 0 [] 0 0), (3, .pt 3 1 0 [] 0 0), (5, i64 (j : Nat))])
    (fun x => [(1000001, ⟨0, 0, false, tStateS S⟩), (1000005, ⟨0, 0, false, tStateS S⟩), (2, ⟨1, 0, false, bSys P S W H⟩), (3, ⟨1, 0, false, .box [.h 1000004 0 0 [] 1 0 P'.length, .h 1000005 0 0 [] 4 0 S.length, .h 1000006 0 0 [] 1 0 W'.length, .h 1000007 0 0 [] 1 0 H'.length]⟩)])
    (fun j => S.length - j) (fun j => j ≤ S.length) 0 fitOk (Nat.zero_le _) (by simp [C]; omega) ?_
  rintro j sl ob hj
  by_cases hjl : j < S.length
  · have hx := hh j hjl
    have q1 := fun k => ok_laws_sameState k (rd S j).at_ (rd S j).regs (rd S j).out (rd S j).code (rd S j).at_ (rd S j).regs (rd S j).out (rd S j).code hx.1 hx.2 hx.1 hx.2
    rw [sameS_self] at q1
    (try dsimp only [cond_true, cond_false])
    (conv => whnf)
    repeat' ((with_reducible (first | refine sCall.of (q1 _) ?_|refine st19 ?_|refine fG.split (fun _ => ?_) (fun _ => ?_)|refine fG.bool (fun _ => ?_) (fun _ => ?_)|refine gDn 6 ?_)) <;> (try (conv => whnf)))
    refine ⟨⟨j + 1, fitOk, ?_, ?_⟩⟩
    · show j + 1 ≤ _; omega
    · show S.length - (j + 1) < S.length - j; omega
  · (try dsimp only [cond_true, cond_false])
    (conv => whnf)
    repeat' ((with_reducible (first | refine st19 ?_|refine fG.split (fun _ => ?_) (fun _ => ?_)|refine fG.bool (fun _ => ?_) (fun _ => ?_)|refine gDn 6 ?_)) <;> (try (conv => whnf)))

theorem rdH_ext {G H : List (List Event)} (hl : G.length = H.length) (h : ∀ q, q < G.length → rd G q = rd H q) : G = H := by
  apply List.ext_getElem hl
  intro i h1 h2
  have := h i h1
  simpa [rd, h1, h2] using this
theorem rdS_ext {G H : List State} (hl : G.length = H.length) (h : ∀ q, q < G.length → rd G q = rd H q) : G = H := by
  apply List.ext_getElem hl
  intro i h1 h2
  have := h i h1
  simpa [rd, h1, h2] using this
theorem stsOf_self {P : List (List Ins)} {S : List State} {W : List (List Item)} {H : List (List Event)} (h : sysOk P S W H = true) : stsOf P H = S := by
  have hI := (sysOk_facts h).1
  simp only [sysOk, Bool.and_eq_true, allBelow_eq] at h
  have h2 := h.2.2.1
  refine rdS_ext (by rw [stsOf_len, hI.s]) fun q hq => ?_
  rw [stsOf_len] at hq
  rw [stsOf_rd hq]
  have h3 := h2 q hq
  simp only [procOk, stoodAs, Bool.and_eq_true, decide_eq_true_eq] at h3
  exact h3.2.2.2
theorem left_numbers {P : List (List Ins)} {S : List State} {W : List (List Item)} {H : List (List Event)} (h : sysOk P S W H = true) {a b : Nat} (ha : a < P.length) (hb : b < P.length) : leftOf H a b = numbersOf (rd W (a * P.length + b)) := by
  simp only [sysOk, Bool.and_eq_true, allBelow_eq] at h
  have h3 := h.2.2.2.1 a ha b hb
  simp only [fits, decide_eq_true_eq] at h3
  unfold leftOf
  rw [← h3, List.drop_left]
theorem Reach.whole {H : List (List Event)} {f : List Int} {n : Nat} (h : Reach H f n) (hP : PeersIn H) : wholeB H f = true := by
  rw [wholeB_eq]
  induction h with
  | zero => intro a b ha hb; simp only [tookC, rd_zero, Int.toNat_zero, List.take_zero]; simp [cnt, vals]
  | @step f n p h hp hc ih =>
    intro a b ha hb
    have hf := h.fok
    have hlt := can_lt hf hp hc
    have h0 := (hf.rng p hp).1
    have h1 := ih a b ha hb
    have hs : sentC H f a b ≤ sentC H (goOn f p) a b := by
      unfold sentC
      apply cnt_take
      rw [rd_goOn (by rw [hf.len]; exact hp)]
      split
      · rename_i e; subst e; omega
      · exact Nat.le_refl _
    by_cases hbp : b = p
    · subst hbp
      have ht : tookC H (goOn f b) a b = tookC H f a b + (if isEv 3 a (rd (rd H b) (rd f b).toNat) = true then 1 else 0) := by
        unfold tookC
        rw [rd_goOn (by rw [hf.len]; exact hp), if_pos rfl, show (rd f b + 1).toNat = (rd f b).toNat + 1 by omega]
        simp only [cnt]
        rw [vals_snoc _ _ _ (by omega)]
        split <;> simp
      by_cases he : isEv 3 a (rd (rd H b) (rd f b).toNat) = true
      · rw [if_pos he] at ht
        simp only [isEv, Bool.and_eq_true, decide_eq_true_eq] at he
        simp only [canCome, Bool.and_eq_true, Bool.not_eq_true', Bool.and_eq_false_iff, decide_eq_true_eq, decide_eq_false_iff_not] at hc
        rcases hc.2 with h4 | h4
        · exact absurd he.1 h4
        · rw [he.2, Int.toNat_natCast] at h4
          unfold tookC at ht h1
          unfold sentC at hs h1
          unfold tookC sentC
          omega
      · rw [if_neg he] at ht
        omega
    · have ht : tookC H (goOn f p) a b = tookC H f a b := by
        unfold tookC
        rw [rd_goOn (by rw [hf.len]; exact hp), if_neg hbp]
      omega
theorem cut_len {H : List (List Event)} {c : List Int} (hc : FOk H c) {q : Nat} (hq : q < H.length) : ((rd (cutH H c) q).length : Int) = rd c q := by
  have := hc.rng q hq
  rw [rd_cutH hq, List.length_take]
  omega
theorem replay_next {l : List Ins} {es : List Event} (h : (replayAll l es).isSome = true) {n : Nat} (hn : n < es.length) : (stOf (replayAll l (es.take n))).code = 0 ∧ comes (rd es n) (next l (stOf (replayAll l (es.take n)))) = true := by
  have h1 := (replay_take h n).1
  have h2 := (replay_take h (n + 1)).1
  rw [take_rd hn, replay_append, h1] at h2
  simp only [Option.bind_some, replay] at h2
  split at h2
  · rename_i hc; exact hc
  · cases h2
theorem rd_vals_take {es : List Event} {x y : Int} {m c : Nat} (h : c < (vals (es.take m) x y).length) : rd (vals (es.take m) x y) c = rd (vals es x y) c := by
  rw [vals_of_take es x y m, rd_take h]
theorem rd_append_left {α : Type} [Inhabited α] {l m : List α} {i : Nat} (h : i < l.length) : rd (l ++ m) i = rd l i := by
  simp only [rd, List.getD_eq_getElem?_getD]
  rw [List.getElem?_append_left h]
theorem rd_snoc_end {α : Type} [Inhabited α] (l : List α) (x : α) : rd (l ++ [x]) l.length = x := by simp [rd]
theorem coming_can {P : List (List Ins)} {S XS : List State} {W XW : List (List Item)} {H : List (List Event)} {g : List Int} {p : Nat} (hs : sysOk P S W H = true) (hX : sysOk P XS XW (cutH H g) = true) (hg : FOk H g) (hp : p < H.length) (hc : canCome H g p = true) :
    ((comingIs P XS XW (cutH H g) p (rd (rd H p) (rd g p).toNat).peer).2 = 0 ∧ (comingIs P XS XW (cutH H g) p (rd (rd H p) (rd g p).toNat).peer).1 = rd (rd H p) (rd g p).toNat) ∨ (comingIs P XS XW (cutH H g) p (rd (rd H p) (rd g p).toNat).peer).2 = 4 ∨ (comingIs P XS XW (cutH H g) p (rd (rd H p) (rd g p).toNat).peer).2 = 5 := by
  obtain ⟨hI, hP, hS, h200⟩ := sysOk_facts hs
  have hlt := can_lt hg hp hc
  have h0 := (hg.rng p hp).1
  have hpP : p < P.length := by rw [← hI.h]; exact hp
  have hrep : (replayAll (rd P p) (rd H p)).isSome = true := by
    have h := hs
    simp only [sysOk, Bool.and_eq_true, allBelow_eq] at h
    have h1 := h.2.2.1 p hpP
    simp only [procOk, stoodAs, Bool.and_eq_true] at h1
    exact h1.2.2.1
  have hst : rd XS p = stOf (replayAll (rd P p) ((rd H p).take (rd g p).toNat)) := by
    rw [← stsOf_self hX, stsOf_rd hpP, rd_cutH hp]
  obtain ⟨k0, k1⟩ := replay_next hrep (n := (rd g p).toNat) (by omega)
  have hlen := h200 p hp
  rw [← hst] at k0 k1
  have hn9 : ((rd (cutH H g) p).length : Int) = rd g p := cut_len hg hp
  unfold comingIs
  rw [if_pos (by omega), Int.toNat_natCast, if_pos k0, if_neg (by rw [hn9]; omega)]
  have hk := @next_kind (rd P p) (rd XS p)
  generalize he : rd (rd H p) (rd g p).toNat = e at *
  by_cases c2 : (wantsOf P XS p).kind = 2
  · rw [if_pos c2]
    split
    · right; left; rfl
    · left
      refine ⟨rfl, ?_⟩
      rw [comes_other (by show ¬ (wantsOf P XS p).kind = 3; omega)] at k1
      simp only [Bool.and_eq_true, decide_eq_true_eq, Bool.and_true] at k1
      obtain ⟨e1, e2, e3⟩ := k1
      obtain ⟨a, b, c⟩ := e
      simp only at e1 e2 e3
      rw [e1, e2, e3]
      rfl
  · rw [if_neg c2]
    by_cases c3 : (wantsOf P XS p).kind = 3
    · rw [if_pos c3]
      have h7 : (rd (rd P p) (rd XS p).at_.toNat).op = 7 ∧ next (rd P p) (rd XS p) = ⟨3, (rd (rd P p) (rd XS p).at_.toNat).n, 0⟩ := by
        rcases hk with hk | hk | hk
        · exact absurd hk.1 c2
        · exact hk.2
        · exact absurd c3 hk.2
      rw [h7.2, comes_take] at k1
      obtain ⟨e1, e2, e3⟩ := k1
      have ha : askedOf (insAt P XS p) e.peer = e.peer := by
        unfold askedOf insAt
        split
        · rfl
        · rename_i h9
          rcases e3 with h | h
          · exact h.1.symm
          · exact absurd h.1 h9
      rw [ha]
      have hpe := hP p hp (rd g p).toNat (by omega) (by rw [he]; exact e1)
      rw [he] at hpe
      have hcc := hc
      simp only [canCome, Bool.and_eq_true, Bool.not_eq_true', Bool.and_eq_false_iff, decide_eq_true_eq, decide_eq_false_iff_not] at hcc
      rw [he] at hcc
      have hcn := hcc.2.resolve_left (fun h => h e1)
      obtain ⟨z, hz⟩ : ∃ z : Nat, e.peer = (z : Int) := ⟨e.peer.toNat, by omega⟩
      rw [hz, Int.toNat_natCast] at hcn
      rw [hz, Int.toNat_natCast]
      have hzH : z < H.length := by omega
      have hzP : z < P.length := by rw [← hI.h]; exact hzH
      have hL := left_numbers hX hzP hpP
      unfold leftOf at hL
      rw [rd_cutH hzH, rd_cutH hp] at hL
      have hne : 0 < (numbersOf (rd XW (z * P.length + p))).length := by
        rw [← hL, List.length_drop]
        unfold cnt at hcn
        omega
      have hne2 : 0 < (rd XW (z * P.length + p)).length := by
        have h3 : (numbersOf (rd XW (z * P.length + p))).length ≤ (rd XW (z * P.length + p)).length := by
          unfold numbersOf
          rw [List.length_map]
          exact List.length_filter_le _ _
        omega
      have hsrc : srcIs P.length XW p (z : Int) = if (rd (rd XW (z * P.length + p)) 0).mark = true then (0, 5) else ((z : Int), 0) := by
        unfold srcIs
        rw [if_pos (by omega), Int.toNat_natCast, if_neg (by omega)]
      rw [hsrc]
      cases hm : (rd (rd XW (z * P.length + p)) 0).mark with
      | true => right; right; rfl
      | false =>
        left
        refine ⟨rfl, ?_⟩
        have hd := numbers_drop hne2 hm
        rw [hd] at hL
        have f1 : rd (vals ((rd H z).take (rd g z).toNat) 2 p) (vals ((rd H p).take (rd g p).toNat) 3 z).length = (rd (rd XW (z * P.length + p)) 0).v := by
          have := congrArg (fun l => rd l 0) hL
          simp only [rd_drop] at this
          rw [Nat.add_zero] at this
          rw [this]
          rfl
        rw [rd_vals_take (by unfold cnt at hcn; omega)] at f1
        have f2 : isEv 3 z e = true := by simp [isEv, e1, hz]
        have f3 := vals_snoc (rd H p) 3 z (j := (rd g p).toNat) (by omega)
        rw [he, if_pos f2] at f3
        have f4 : rd (vals (rd H p) 3 z) (vals ((rd H p).take (rd g p).toNat) 3 z).length = e.v := by
          rw [← rd_vals_take (m := (rd g p).toNat + 1) (by rw [f3]; simp), f3, rd_snoc_end]
        have f5 : vals (rd H p) 3 z ++ numbersOf (rd W (z * P.length + p)) = vals (rd H z) 2 p := by
          have h := hs
          simp only [sysOk, Bool.and_eq_true, allBelow_eq] at h
          have h3 := h.2.2.2.1 z hzP p hpP
          simpa only [fits, decide_eq_true_eq] using h3
        have f6 : (vals ((rd H p).take (rd g p).toNat) 3 z).length < (vals (rd H p) 3 z).length := by
          have h1 : ((vals ((rd H p).take ((rd g p).toNat + 1)) 3 z)).length ≤ (vals (rd H p) 3 z).length := cnt_take_le (rd H p) 3 z _
          rw [f3, List.length_append, List.length_singleton] at h1
          omega
        rw [← f5, rd_append_left f6, f4] at f1
        obtain ⟨a, b, c⟩ := e
        simp only at e1 hz f1
        rw [e1, hz, f1]; simp
    · rw [if_neg c3]
      left
      refine ⟨rfl, ?_⟩
      rw [comes_other (by show ¬ (wantsOf P XS p).kind = 3; exact c3)] at k1
      simp only [Bool.and_eq_true, decide_eq_true_eq, Bool.and_true] at k1
      obtain ⟨e1, e2, e3⟩ := k1
      obtain ⟨a, b, c⟩ := e
      simp only at e1 e2 e3
      rw [e1, e2, e3]
      rfl
theorem cutH_goOn {H : List (List Event)} {g : List Int} {p : Nat} (hg : FOk H g) (hp : p < H.length) (hc : canCome H g p = true) : (cutH H g).set p (rd (cutH H g) p ++ [rd (rd H p) (rd g p).toNat]) = cutH H (goOn g p) := by
  have hlt := can_lt hg hp hc
  have h0 := (hg.rng p hp).1
  refine rdH_ext (by simp only [List.length_set, cutH_len]) fun q hq => ?_
  rw [List.length_set, cutH_len] at hq
  rw [rd_put _ (by rw [cutH_len]; exact hp), rd_cutH (c := goOn g p) hq, rd_goOn (by rw [hg.len]; exact hp)]
  split
  · rename_i e; subst e
    rw [rd_cutH hq, show (rd g q + 1).toNat = (rd g q).toNat + 1 by omega, take_rd (by omega)]
  · rw [rd_cutH hq]
structure AtCut (P : List (List Ins)) (H : List (List Event)) (g : List Int) (X : Sys) : Prop where
  ok : sysOk X.progs X.states X.ways X.hist = true
  p : X.progs = P
  h : X.hist = cutH H g
theorem atCut_step {P : List (List Ins)} {S : List State} {W : List (List Item)} {H : List (List Event)} {g : List Int} {X : Sys} {p : Nat} (hs : sysOk P S W H = true) (hX : AtCut P H g X) (hg : FOk H g) (hp : p < H.length) (hc : canCome H g p = true) :
    ((stepX X ⟨p, (rd (rd H p) (rd g p).toNat).peer⟩).2 = 0 ∧ AtCut P H (goOn g p) (stepX X ⟨p, (rd (rd H p) (rd g p).toNat).peer⟩).1) ∨ (stepX X ⟨p, (rd (rd H p) (rd g p).toNat).peer⟩).2 = 4 ∨ (stepX X ⟨p, (rd (rd H p) (rd g p).toNat).peer⟩).2 = 5 := by
  obtain ⟨XP, XS, XW, XH⟩ := X
  obtain ⟨h1, h2, h3⟩ := hX
  dsimp only at h1 h2 h3
  subst h2 h3
  have hk := stepIs_sysOk (p := (p : Int)) (peer := (rd (rd H p) (rd g p).toNat).peer) h1
  have := coming_can hs h1 hg hp hc
  unfold stepX
  dsimp only
  unfold stepIs at hk ⊢
  rcases this with ⟨a, b⟩ | a | a
  · left
    rw [if_pos a] at hk ⊢
    refine ⟨rfl, hk, rfl, ?_⟩
    rw [b, Int.toNat_natCast]
    exact cutH_goOn hg hp hc
  · right; left
    rw [if_neg (by rw [a]; decide)]
    exact a
  · right; right
    rw [if_neg (by rw [a]; decide)]
    exact a
theorem atCut_full {P : List (List Ins)} {S : List State} {W : List (List Item)} {H : List (List Event)} {X : Sys} (hs : sysOk P S W H = true) {g : List Int} (hX : AtCut P H g X) (hg : ∀ q, q < H.length → rd g q = ((rd H q).length : Int)) :
    X.hist = H ∧ X.states = S ∧ ∀ i, i < W.length → numbersOf (rd X.ways i) = numbersOf (rd W i) := by
  obtain ⟨XP, XS, XW, XH⟩ := X
  obtain ⟨h1, h2, h3⟩ := hX
  dsimp only at h1 h2 h3 ⊢
  have e : cutH H g = H := by
    refine rdH_ext (cutH_len _ _) fun q hq => ?_
    rw [cutH_len] at hq
    rw [rd_cutH hq, hg q hq, Int.toNat_natCast, List.take_length]
  rw [e] at h3
  subst h2 h3
  refine ⟨rfl, by rw [← stsOf_self h1, stsOf_self hs], fun i hi => ?_⟩
  have hI := (sysOk_facts hs).1
  have hn := hI.n
  rw [hI.w] at hi
  have ha : i / XP.length < XP.length := Nat.div_lt_of_lt_mul hi
  have hb : i % XP.length < XP.length := Nat.mod_lt _ (by omega)
  have h4 := left_numbers h1 ha hb
  have h5 := left_numbers hs ha hb
  rw [show i / XP.length * XP.length + i % XP.length = i by rw [Nat.mul_comm]; exact Nat.div_add_mod i XP.length] at h4 h5
  rw [← h4, ← h5]
theorem greedy_row {H : List (List Event)} : ∀ (m : Nat) {f : List Int}, f.length = H.length → rowGo H (greedy H m f) f = true
  | 0, f, hf => by simp [greedy, rowGo]
  | m + 1, f, hf => by
    rw [greedy]
    split
    · simp [rowGo]
    · rename_i p hp
      have h1 := List.find?_range_eq_some.1 hp
      have h2 := List.mem_range.1 h1.2.1
      rw [rowGo]
      simp only [whoOk, inB, Int.toNat_natCast, h1.1, Bool.and_true, Bool.and_eq_true, decide_eq_true_eq]
      exact ⟨⟨by omega, trivial⟩, greedy_row m (by simp [goOn, hf])⟩
theorem row_ok {P : List (List Ins)} {S : List State} {W : List (List Item)} {H : List (List Event)} (hs : sysOk P S W H = true) : rowOkB P S W H (rowOf H) = true := by
  have hr : inRow H = true := by
    have h := hs
    simp only [sysOk, Bool.and_eq_true] at h
    exact h.2.2.2.2
  simp only [rowOkB, hs, Bool.true_and, Bool.and_eq_true]
  exact ⟨hr, greedy_row (allEv H) (by simp)⟩
theorem allEv_few : ∀ (H : List (List Event)), (∀ q, q < H.length → (rd H q).length ≤ 200) → allEv H ≤ 200 * H.length
  | [], _ => by simp [allEv]
  | h :: H, hh => by
    have h1 := allEv_few H fun q hq => hh (q + 1) (by simp; omega)
    have h0 := hh 0 (by simp)
    have e0 : rd (h :: H) 0 = h := rfl
    rw [e0] at h0
    simp only [allEv, List.map_cons, List.sum_cons, List.length_cons] at h1 ⊢
    omega

end Go.Proofs.YtldndahfnkbngaaGreat.Abs
namespace Go.Proofs.YtldndahfnkbngaaGreat.Abs
open Go Go.Proofs
set_option linter.unusedVariables false
set_option linter.unusedSimpArgs false
attribute [local irreducible] callE
end Go.Proofs.YtldndahfnkbngaaGreat.Abs
namespace Go.Proofs.YtldndahfnkbngaaGreat.Abs
open Go Go.Proofs
set_option linter.unusedVariables false
set_option linter.unusedSimpArgs false
attribute [local irreducible] callE
def DAt (r : Res) : Prop := ∃ n : Int, 0 ≤ n ∧ n < 256 ∧ r = ⟨i64 n, [], [none]⟩
theorem sCall.at_ {x : Option Res} {F : Res → Prop} (e : Told x DAt) (h : ∀ n : Int, 0 ≤ n → n < 256 → F ⟨i64 n, [], [none]⟩) : sCall x F :=
  sCall.ex e fun r hr => by obtain ⟨n, h1, h2, rfl⟩ := hr; exact h n h1 h2
structure BOS where
  j : Nat
  o0 : Ob
  o1 : Ob
  o2 : Ob
  o3 : Ob
  o4 : Ob
end Go.Proofs.YtldndahfnkbngaaGreat.Abs
namespace Go.Proofs.YtldndahfnkbngaaGreat.Abs
open Go Go.Proofs
set_option linter.unusedVariables false
set_option linter.unusedSimpArgs false
attribute [local irreducible] callE
def DRow (b : List Int) (r : Res) : Prop := ∃ (l : List Who) (i h : Int), l.length ≤ 1000 ∧ (0 ≤ i ∧ i ≤ b.length) ∧ r = ⟨.h 2000000 1 0 [] 2 0 l.length, [tWho9 l], [none, some (tCur b i h), none, none, none, none]⟩
structure DW where
  j : Nat
  l : List Who
  o : Nat
  bb : Nat
  f : List Int
  g : Nat
  e : Bool
  d : Bool
  i : Int
  h : Int
def DSysRow (r : Res) : Prop := ∃ (P : List (List Ins)) (S : List State) (W : List (List Item)) (H : List (List Event)) (l : List Who), SysB 2000000 P S W H ∧ l.length ≤ 1000 ∧ r = ⟨.tu [nSys 0 P S W H, .h 2000004 1 0 [] 2 0 l.length], [tInsSS9 P, tStateS9 S, tItemSS9 W, tEventSS9 H, tWho9 l], [none]⟩
end Go.Proofs.YtldndahfnkbngaaGreat.Abs
namespace Go.Proofs.YtldndahfnkbngaaGreat.Abs
open Go Go.Proofs
set_option linter.unusedVariables false
set_option linter.unusedSimpArgs false
attribute [local irreducible] callE
set_option maxRecDepth 20000 in
set_option maxHeartbeats 4000000 in
theorem ok_impl_StepRt (k : Nat) (P : List (List Ins)) (S : List State) (W : List (List Item)) (H : List (List Event)) (p peer : Int) (hb : SysB 10000000000 P S W H) :
    callE PR C (k + 12) 57 [aSys 0 P S W H, i64 p, i64 peer] [tInsSS P, tStateS S, tItemSS W, tEventSS H] = some (sysRes (stepRt P S W H p peer).1 (stepRt P S W H p peer).2 [none, none, none, none]) := by
  have q1 := fun k => ok_impl_SysOk k P S W H hb
  unfold stepRt
  cases hs : sysOk P S W H with
  | true =>
    simp only [hs] at q1
    rw [if_pos rfl]
    have q3 := fun k => ok_impl_step k P S W H p peer hb hs
    generalize stepIs P S W H p peer = X at *
    obtain ⟨⟨P', S', W', H'⟩, n⟩ := X
    simp only [sysRes] at q3 ⊢
    (refine fnI [ResultVar.cell 6 36, ResultVar.tmp 7] Tryz.func57 ?_; conv => whnf)
    repeat' ((with_reducible (first | refine sCall.of (q1 _) ?_|refine sCall.of (q3 _) ?_|refine st19 ?_|refine fG.split (fun _ => ?_) (fun _ => ?_)|refine fG.bool (fun _ => ?_) (fun _ => ?_))) <;> (try (conv => whnf)))
    all_goals rfl
  | false =>
    simp only [hs] at q1
    rw [if_neg (by simp)]
    (refine fnI [ResultVar.cell 6 36, ResultVar.tmp 7] Tryz.func57 ?_; conv => whnf)
    repeat' ((with_reducible (first | refine sCall.of (q1 _) ?_|refine st19 ?_|refine fG.split (fun _ => ?_) (fun _ => ?_)|refine fG.bool (fun _ => ?_) (fun _ => ?_))) <;> (try (conv => whnf)))
    all_goals rfl
def DUntil (r : Res) : Prop := ∃ (P : List (List Ins)) (S : List State) (W : List (List Item)) (H : List (List Event)) (l : List Who) (p kind v : Int), SysB 2000000 P S W H ∧ l.length ≤ 40 ∧ r = ⟨.tu [nSys 0 P S W H, .h 2000004 1 0 [] 2 0 l.length, aStop p kind v], [tInsSS9 P, tStateS9 S, tItemSS9 W, tEventSS9 H, tWho9 l], [none]⟩
theorem sCall.duntil {x : Option Res} {F : Res → Prop} (e : Told x DUntil) (h : ∀ (P : List (List Ins)) (S : List State) (W : List (List Item)) (H : List (List Event)) (l : List Who) (p kind v : Int), SysB 2000000 P S W H → l.length ≤ 40 → F ⟨.tu [nSys 0 P S W H, .h 2000004 1 0 [] 2 0 l.length, aStop p kind v], [tInsSS9 P, tStateS9 S, tItemSS9 W, tEventSS9 H, tWho9 l], [none]⟩) : sCall x F :=
  sCall.ex e fun r hr => by obtain ⟨P, S, W, H, l, p, kind, v, h1, h2, rfl⟩ := hr; exact h P S W H l p kind v h1 h2
theorem ok_Stop (k : Nat) (b : List Int) (i h : Int) (P : List (List Ins)) (S : List State) (W : List (List Item)) (H : List (List Event)) (hb : Bytes b) (hB : SysB 2000000 P S W H := by assumption) (h0 : 0 ≤ i := by assumption) (h1 : i ≤ b.length := by assumption) :
    Told (callE PR C (k + 4) 139 [.pt 1000001 0 0 [] 0 0, aSys 2 P S W H] [tB b, tCur b i h, tInsSS P, tStateS S, tItemSS W, tEventSS H]) (DStop b) := ok_spec_l12DrawStop k b i h P S W H hb hB h0 h1
set_option maxRecDepth 20000 in
set_option maxHeartbeats 4000000 in
theorem ok_spec_DrawUntil (k : Nat) (b : List Int) (hb : Bytes b) : Told (callE PR C (k + 13) 56 [.h 1000000 0 0 [] 1 0 b.length] [tB b]) DUntil := by
  have hbl := hb.len
  have z0 : (0 : Int) ≤ 0 := Int.le_refl 0
  have z1 : (0 : Int) ≤ b.length := by omega
  (refine callE_w [ResultVar.cell 2 36, ResultVar.tmp 3, ResultVar.cell 4 55] rfl Tryz.func56 rfl (by decide +kernel) rfl (by simp) ?_; (conv => whnf))
  repeat' ((with_reducible (first | refine sCall.newCur (ok_spec_l1New _ b hb.len hb.num) (fun _ => ?_)|refine st19 ?_|refine fG.split (fun _ => ?_) (fun _ => ?_)|refine fG.bool (fun _ => ?_) (fun _ => ?_)|refine gD 5 [(0, 4)] ?_)) <;> (try (conv => whnf)))
  rename_i h
  repeat' ((with_reducible (first | (refine sCall.ex (ok_spec_l6DrawRun _ b 0 h 40 hb ⟨by decide, by decide⟩) ?_)|refine st19 ?_|refine fG.split (fun _ => ?_) (fun _ => ?_)|refine fG.bool (fun _ => ?_) (fun _ => ?_)|refine gD 5 [(0, 4)] ?_)) <;> (try (conv => whnf)))
  rintro _ ⟨P, S, W, H, l, i', h', hR, hl, ⟨e1, e2⟩, rfl | ⟨P', S', W', H', hR', rfl⟩⟩
  all_goals
    have hB0 := hR.B.mono (show 1048576 ≤ 2000000 by decide)
    (conv => whnf)
    repeat' ((with_reducible (first | refine sCall.curB (ok_spec_l1Once _ _ _ _ _ hb) (fun _ _ _ _ _ => ?_)|refine sCall.dsys (ok_spec_l6Draw _ b _ _ hb) (fun _ _ _ _ _ _ _ _ _ => ?_)|refine sCall.stop (ok_Stop _ _ _ _ _ _ _ _ hb) (fun _ _ _ _ _ _ _ => ?_)|refine st19 ?_|refine fG.split (fun _ => ?_) (fun _ => ?_)|refine fG.bool (fun _ => ?_) (fun _ => ?_)|refine gD 5 [(0, 4)] ?_)) <;> (try (conv => whnf)))
    all_goals exact ⟨_, _, _, _, _, _, _, _, by assumption, by omega, rfl⟩
theorem untilGo_rng {q : Nat} {kind v : Int} : ∀ (l : List Who) (i : Nat) (X : Sys), (i : Int) ≤ (untilGo q kind v i l X).2 ∧ (untilGo q kind v i l X).2 ≤ (i : Int) + l.length
  | [], i, X => by simp [untilGo]
  | w :: r, i, X => by
    rw [untilGo]
    split
    · simp only [List.length_cons]; omega
    · have := untilGo_rng (q := q) (kind := kind) (v := v) r (i + 1) (stepX X w).1
      simp only [List.length_cons]
      omega
structure UL where
  j : Nat
  X : Sys
  o : Nat
  b0 : Nat
  b1 : Nat
  b2 : Nat
  b3 : Nat
  dd : Bool
set_option maxRecDepth 20000 in
set_option maxHeartbeats 16000000 in
theorem ok_laws_FnUntil (k : Nat) (b : List Int) (hl : b.length ≤ 140737488355328) (hv : ∀ v ∈ b, 0 ≤ v ∧ v < 256) :
    callE PR C (k + 30) 9 [.h 1000000 0 0 [] 1 0 b.length] [tB b] = some ⟨bl true, [], [none]⟩ := by
  have q0 := fun k => ok_laws_big k b
  by_cases c0 : 1048576 < (b.length : Int)
  · rw [decide_eq_true c0] at q0
    (refine fnI [ResultVar.tmp 2] Tryz.func9 ?_; conv => whnf)
    repeat' ((with_reducible (first | refine sCall.of (q0 _) ?_|refine st19 ?_|refine fG.split (fun _ => ?_) (fun _ => ?_)|refine fG.bool (fun _ => ?_) (fun _ => ?_)|refine gD 14 [(0, 15), (5, 15), (10, 15), (11, 15)] ?_)) <;> (try (conv => whnf)))
  · rw [decide_eq_false c0] at q0
    have hb : Bytes b := ⟨by omega, hv⟩
    (refine fnI [ResultVar.tmp 2] Tryz.func9 ?_; conv => whnf)
    repeat' ((with_reducible (first | refine sCall.of (q0 _) ?_|refine sCall.duntil (ok_spec_DrawUntil _ _ hb) (fun _ _ _ _ _ _ _ _ _ _ => ?_)|refine st19 ?_|refine fG.split (fun _ => ?_) (fun _ => ?_)|refine fG.bool (fun _ => ?_) (fun _ => ?_)|refine gD 14 [(0, 15), (5, 15), (10, 15), (11, 15)] ?_)) <;> (try (conv => whnf)))
    rename_i P S W H l p kind v hB hl2
    have q1 := fun k => ok_impl_Until k P S W H l p kind v (hB.mono (by decide)) (by omega)
    have q2 := fun k => ok_spec_Until k P S W H l p kind v (hB.mono (by decide)) (by omega)
    cases e : stopOk P S W H p kind with
    | false =>
      have eu : untilIs P S W H l p kind v = (⟨[], [], [], []⟩, -1) := by unfold untilIs; rw [if_neg (by rw [e]; simp)]
      simp only [eu, sysRes] at q1 q2
      repeat' ((with_reducible (first | refine sCall.of (q1 _) ?_|refine sCall.of (q2 _) ?_|refine st19 ?_|refine fG.split (fun _ => ?_) (fun _ => ?_)|refine fG.bool (fun _ => ?_) (fun _ => ?_)|refine gD 14 [(0, 15), (5, 15), (10, 15), (11, 15)] ?_)) <;> (try (conv => whnf)))
      all_goals rfl
    | true =>
      have eu : untilIs P S W H l p kind v = untilGo p.toNat kind v 0 l ⟨P, S, W, H⟩ := by unfold untilIs; rw [if_pos ⟨e, by omega⟩]
      rw [eu] at q1 q2
      obtain ⟨hI, hp0, hpl⟩ := stopOk_facts e
      have f1 : sysOk P S W H = true := by simp only [stopOk, Bool.and_eq_true] at e; exact e.1
      have hkd : ∀ P' S' W' H', sysOk P' S' W' H' = true → P'.length = P.length → stopOk P' S' W' H' p kind = true := by
        intro P' S' W' H' h1 h2
        simp only [stopOk, Bool.and_eq_true, h1, h2] at e ⊢
        exact ⟨trivial, e.2⟩
      obtain ⟨p, rfl⟩ : ∃ n : Nat, p = (n : Int) := ⟨p.toNat, by omega⟩
      rw [Int.toNat_natCast] at hpl q1 q2
      have hA : Along P.length ⟨P, S, W, H⟩ := ⟨f1, rfl⟩
      have hrg := untilGo_rng (q := p) (kind := kind) (v := v) l 0 ⟨P, S, W, H⟩
      have hAt := untilGo_along (q := p) (kind := kind) (v := v) l 0 hA
      generalize hR : untilGo p kind v 0 l ⟨P, S, W, H⟩ = R at *
      obtain ⟨⟨P9, S9, W9, H9⟩, n⟩ := R
      simp only [sysRes] at q1 q2
      dsimp only at hrg hAt
      have hG9 := (sysOk_G hAt.ok).b
      have q8 := fun k => ok_impl_Holds k P9 S9 W9 H9 (p : Int) kind v (hG9.mono (by decide))
      rw [show stopHolds P9 S9 W9 H9 (p : Int) kind v = heldIn ⟨P9, S9, W9, H9⟩ p kind v by unfold stopHolds; rw [hkd _ _ _ _ hAt.ok hAt.n, Bool.true_and]; rfl] at q8
      repeat' ((with_reducible (first | refine sCall.of (q1 _) ?_|refine sCall.of (q2 _) ?_|refine st19 ?_|refine fG.split (fun _ => ?_) (fun _ => ?_)|refine fG.bool (fun _ => ?_) (fun _ => ?_)|refine gD 14 [(0, 15), (5, 15), (10, 15), (11, 15)] ?_)) <;> (try (conv => whnf)))
      clear q0 q1 q2 eu
      refine loop_rule (ι := UL) (fun z => [(4, .h 50018 1 0 [] 2 0 l.length), (5, .pt 5 1 0 [] 0 0), (6, .pt 6 1 0 [] 0 0), (7, i64 n), (10, .pt 10 1 0 [] 0 0), (11, i64 (z.j : Nat))])
        (fun z => [(50018, ⟨1, 0, false, tWho9 l⟩), (5, ⟨1, 0, true, .box [i64 (p : Nat), i64 kind, i64 v]⟩), (6, ⟨1, 0, true, .box [.h 10026 1 0 [] 1 0 P9.length, .h 20026 1 0 [] 4 0 S9.length, .h 30026 1 0 [] 1 0 W9.length, .h 40026 1 0 [] 1 0 H9.length]⟩),
          (10026, ⟨1, 0, false, tInsSS9 P9⟩), (20026, ⟨1, 0, false, tStateS9 S9⟩), (30026, ⟨1, 0, false, tItemSS9 W9⟩), (40026, ⟨1, 0, false, tEventSS9 H9⟩),
          (10, ⟨1, 0, z.dd, .box [.h (z.o + 10000) z.b0 0 [] 1 0 z.X.progs.length, .h (z.o + 20000) z.b1 0 [] 4 0 z.X.states.length, .h (z.o + 30000) z.b2 0 [] 1 0 z.X.ways.length, .h (z.o + 40000) z.b3 0 [] 1 0 z.X.hist.length]⟩),
          (z.o + 10000, ⟨z.b0, 0, false, tInsSS9 z.X.progs⟩), (z.o + 20000, ⟨z.b1, 0, false, tStateS9 z.X.states⟩), (z.o + 30000, ⟨z.b2, 0, false, tItemSS9 z.X.ways⟩), (z.o + 40000, ⟨z.b3, 0, false, tEventSS9 z.X.hist⟩)])
        (fun z => (n - z.j).toNat) (fun z => (z.j : Int) ≤ n ∧ Along P.length z.X ∧ (untilGo p kind v z.j (l.drop z.j) z.X = (⟨P9, S9, W9, H9⟩, n) ∨ ((z.j : Int) = n ∧ z.X = ⟨P9, S9, W9, H9⟩ ∧ heldIn z.X p kind v = true)) ∧ (z.o = 18 ∨ z.o = 63 ∨ z.o = 5063))
        ⟨0, ⟨P, S, W, H⟩, 18, 1, 1, 1, 1, _⟩ fitOk ⟨by show ((0 : Nat) : Int) ≤ n; omega, hA, .inl hR, .inl rfl⟩ (by simp [C]; omega) ?_
      clear hR f1 hA hI e hB
      rintro ⟨j, ⟨P1, S1, W1, H1⟩, o, b0, b1, b2, b3, dd⟩ sl ob ⟨hj, hA, hR, ho⟩
      dsimp only at hj hA hR ho
      by_cases hjn : (j : Int) < n
      · have hR : untilGo p kind v j (l.drop j) ⟨P1, S1, W1, H1⟩ = (⟨P9, S9, W9, H9⟩, n) := by
          rcases hR with h | h
          · exact h
          · omega
        have hjl : j < l.length := by
          have := untilGo_rng (q := p) (kind := kind) (v := v) (l.drop j) j ⟨P1, S1, W1, H1⟩
          rw [hR, List.length_drop] at this
          dsimp only at this
          omega
        rw [untilGo_drop hjl] at hR
        have hA' := along_step hA (rd l j)
        have hBx := (sysOk_G hA.ok).b
        have hBx' := (sysOk_G hA'.ok).b
        have q3 : ∀ k, callE PR C (k + 12) 57 [aSys 0 P1 S1 W1 H1, i64 (rd l j).p, i64 (rd l j).i] [tInsSS P1, tStateS S1, tItemSS W1, tEventSS H1] = some (sysRes (stepX ⟨P1, S1, W1, H1⟩ (rd l j)).1 (stepX ⟨P1, S1, W1, H1⟩ (rd l j)).2 [none, none, none, none]) := fun k => by
          have := ok_impl_StepRt k P1 S1 W1 H1 (rd l j).p (rd l j).i (hBx.mono (by decide))
          unfold stepRt at this
          rw [if_pos hA.ok] at this
          exact this
        have hk : ∀ X : Sys, stepX ⟨P1, S1, W1, H1⟩ (rd l j) = (X, (stepX ⟨P1, S1, W1, H1⟩ (rd l j)).2) → (stepX ⟨P1, S1, W1, H1⟩ (rd l j)).2 ≠ 0 → X = ⟨P1, S1, W1, H1⟩ := by
          intro X h1 h2
          have := stepX_no h2
          rw [h1] at this
          exact this
        generalize stepX ⟨P1, S1, W1, H1⟩ (rd l j) = Y at *
        obtain ⟨⟨P2, S2, W2, H2⟩, m⟩ := Y
        dsimp only at hR hA' hBx' hk
        simp only [sysRes] at q3
        have q4 := fun k => ok_impl_Holds k P2 S2 W2 H2 (p : Int) kind v (hBx'.mono (by decide))
        rw [show stopHolds P2 S2 W2 H2 (p : Int) kind v = heldIn ⟨P2, S2, W2, H2⟩ p kind v by unfold stopHolds; rw [hkd _ _ _ _ hA'.ok hA'.n, Bool.true_and]; rfl] at q4
        clear hkd q8 hG9 hAt
        by_cases c0 : m = 0
        · cases hh : heldIn ⟨P2, S2, W2, H2⟩ p kind v with
          | true =>
            simp only [hh] at q4
            rw [if_pos ⟨c0, hh⟩] at hR
            cases hR
            rcases ho with rfl | rfl | rfl
            all_goals (try dsimp only [cond_true, cond_false])
            all_goals (conv => whnf)
            all_goals repeat' ((with_reducible (first | refine sCall.of (q3 _) ?_|refine sCall.of (q4 _) ?_|refine st19 ?_|refine fG.split (fun _ => ?_) (fun _ => ?_)|refine fG.bool (fun _ => ?_) (fun _ => ?_)|refine gD 14 [(0, 15), (5, 15), (10, 15), (11, 15)] ?_)) <;> (try (conv => whnf)))
            case' inl | inr.inr =>
              refine ⟨⟨⟨j + 1, ⟨P9, S9, W9, H9⟩, 63, _, _, _, _, _⟩, fitOk, ?_, ?_⟩⟩
            case' inr.inl =>
              refine ⟨⟨⟨j + 1, ⟨P9, S9, W9, H9⟩, 5063, _, _, _, _, _⟩, fitOk, ?_, ?_⟩⟩
            all_goals first
              | (show (((j + 1 : Nat) : Int) - ((j + 1 : Nat) : Int)).toNat < (((j + 1 : Nat) : Int) - (j : Int)).toNat; omega)
              | exact ⟨Int.le_refl _, hA', .inr ⟨rfl, rfl, hh⟩, .inr (.inl rfl)⟩
              | exact ⟨Int.le_refl _, hA', .inr ⟨rfl, rfl, hh⟩, .inr (.inr rfl)⟩
          | false =>
            simp only [hh] at q4
            rw [if_neg (by rw [hh]; simp)] at hR
            rcases ho with rfl | rfl | rfl
            all_goals (try dsimp only [cond_true, cond_false])
            all_goals (conv => whnf)
            all_goals repeat' ((with_reducible (first | refine sCall.of (q3 _) ?_|refine sCall.of (q4 _) ?_|refine st19 ?_|refine fG.split (fun _ => ?_) (fun _ => ?_)|refine fG.bool (fun _ => ?_) (fun _ => ?_)|refine gD 14 [(0, 15), (5, 15), (10, 15), (11, 15)] ?_)) <;> (try (conv => whnf)))
            case' inl | inr.inr =>
              refine ⟨⟨⟨j + 1, ⟨P2, S2, W2, H2⟩, 63, _, _, _, _, _⟩, fitOk, ?_, ?_⟩⟩
            case' inr.inl =>
              refine ⟨⟨⟨j + 1, ⟨P2, S2, W2, H2⟩, 5063, _, _, _, _, _⟩, fitOk, ?_, ?_⟩⟩
            all_goals first
              | (show (n - ((j + 1 : Nat) : Int)).toNat < (n - (j : Int)).toNat; omega)
              | exact ⟨by show ((j + 1 : Nat) : Int) ≤ n; omega, hA', .inl hR, .inr (.inl rfl)⟩
              | exact ⟨by show ((j + 1 : Nat) : Int) ≤ n; omega, hA', .inl hR, .inr (.inr rfl)⟩
        · rw [if_neg (fun h => c0 h.1)] at hR
          have hR' := hk _ rfl c0
          cases hR'
          rcases ho with rfl | rfl | rfl
          all_goals (try dsimp only [cond_true, cond_false])
          all_goals (conv => whnf)
          all_goals repeat' ((with_reducible (first | refine sCall.of (q3 _) ?_|refine st19 ?_|refine fG.split (fun _ => ?_) (fun _ => ?_)|refine fG.bool (fun _ => ?_) (fun _ => ?_)|refine gD 14 [(0, 15), (5, 15), (10, 15), (11, 15)] ?_)) <;> (try (conv => whnf)))
          case' inl =>
            refine ⟨⟨⟨j + 1, ⟨P1, S1, W1, H1⟩, 18, _, _, _, _, _⟩, fitOk, ?_, ?_⟩⟩
          case' inr.inl =>
            refine ⟨⟨⟨j + 1, ⟨P1, S1, W1, H1⟩, 63, _, _, _, _, _⟩, fitOk, ?_, ?_⟩⟩
          case' inr.inr =>
            refine ⟨⟨⟨j + 1, ⟨P1, S1, W1, H1⟩, 5063, _, _, _, _, _⟩, fitOk, ?_, ?_⟩⟩
          all_goals first
            | (show (n - ((j + 1 : Nat) : Int)).toNat < (n - (j : Int)).toNat; omega)
            | exact ⟨by show ((j + 1 : Nat) : Int) ≤ n; omega, hA', .inl hR, .inl rfl⟩
            | exact ⟨by show ((j + 1 : Nat) : Int) ≤ n; omega, hA', .inl hR, .inr (.inl rfl)⟩
            | exact ⟨by show ((j + 1 : Nat) : Int) ≤ n; omega, hA', .inl hR, .inr (.inr rfl)⟩
      · have hend : (⟨P1, S1, W1, H1⟩ : Sys) = ⟨P9, S9, W9, H9⟩ ∧ (n = (l.length : Int) ∨ heldIn ⟨P9, S9, W9, H9⟩ p kind v = true) := by
          rcases hR with h | ⟨h1, h2, h3⟩
          · have hrg2 := untilGo_rng (q := p) (kind := kind) (v := v) (l.drop j) j ⟨P1, S1, W1, H1⟩
            by_cases hjl : j < l.length
            · exfalso
              rw [untilGo_drop hjl] at h
              split at h
              · have := congrArg Prod.snd h
                dsimp only at this
                omega
              · have := untilGo_rng (q := p) (kind := kind) (v := v) (l.drop (j + 1)) (j + 1) (stepX ⟨P1, S1, W1, H1⟩ (rd l j)).1
                rw [h] at this
                dsimp only at this
                omega
            · rw [List.drop_eq_nil_of_le (by omega), untilGo] at h
              cases h
              exact ⟨rfl, .inl (by omega)⟩
          · rw [h2] at h3
            exact ⟨h2, .inr h3⟩
        obtain ⟨hX, hY⟩ := hend
        cases hX
        have hhl : H9.length ≤ 1048576 := hG9.h
        have q5 := fun k => ok_laws_sameHist k P9 P9 S9 S9 W9 W9 H9 (by omega) (fun q hq => by have := hG9.hh q hq; dsimp only at this; omega)
        clear hR hkd
        by_cases c2 : n = (l.length : Int)
        · rcases ho with rfl | rfl | rfl
          all_goals (try dsimp only [cond_true, cond_false])
          all_goals (conv => whnf)
          all_goals repeat' ((with_reducible (first | refine sCall.of (q5 _) ?_|refine sCall.of (q8 _) ?_|refine st19 ?_|refine fG.split (fun _ => ?_) (fun _ => ?_)|refine fG.bool (fun _ => ?_) (fun _ => ?_)|refine gD 14 [(0, 15), (5, 15), (10, 15), (11, 15)] ?_)) <;> (try (conv => whnf)))
        · have hh := hY.resolve_left c2
          simp only [hh] at q8
          rcases ho with rfl | rfl | rfl
          all_goals (try dsimp only [cond_true, cond_false])
          all_goals (conv => whnf)
          all_goals repeat' ((with_reducible (first | refine sCall.of (q5 _) ?_|refine sCall.of (q8 _) ?_|refine st19 ?_|refine fG.split (fun _ => ?_) (fun _ => ?_)|refine fG.bool (fun _ => ?_) (fun _ => ?_)|refine gD 14 [(0, 15), (5, 15), (10, 15), (11, 15)] ?_)) <;> (try (conv => whnf)))

end Go.Proofs.YtldndahfnkbngaaGreat.Abs
namespace Go.Proofs.YtldndahfnkbngaaGreat.Abs
open Go Go.Proofs
set_option linter.unusedVariables false
set_option linter.unusedSimpArgs false
attribute [local irreducible] callE
def cutB (H : List (List Event)) (c : List Int) : Bool := decide (c.length = H.length) && allBelow H.length fun q => decide (0 ≤ rd c q ∧ rd c q ≤ ((rd H q).length : Int))
theorem cutB_fok {H : List (List Event)} {c : List Int} : cutB H c = true ↔ FOk H c := by
  simp only [cutB, Bool.and_eq_true, decide_eq_true_eq, allBelow_eq]
  exact ⟨fun h => ⟨h.1, h.2⟩, fun h => ⟨h.len, h.rng⟩⟩
theorem cutB_no {H : List (List Event)} {c : List Int} (h : cutB H c = false) : ¬ FOk H c := fun hf => by rw [cutB_fok.2 hf] at h; cases h
theorem ok_impl_cutNo (k : Nat) (P : List (List Ins)) (S : List State) (W : List (List Item)) (H : List (List Event)) (c : List Int) (hc : ¬ FOk H c) (hb : SysB 1000000000 P S W H) (hl : c.length ≤ 1000000000) :
    callE PR C (k + 2) 233 [aSys 0 P S W H, .h 1000004 0 0 [] 1 0 c.length] [tInsSS P, tStateS S, tItemSS W, tEventSS H, tI c] = some ⟨bl false, [], [none, none, none, none, none]⟩ := by
  have hh := hb.h
  by_cases el : c.length = H.length
  · (refine fnI [ResultVar.tmp 4] Tryz.func233 ?_; conv => whnf)
    repeat' ((with_reducible (first | refine st19 ?_|refine fG.split (fun _ => ?_) (fun _ => ?_)|refine fG.bool (fun _ => ?_) (fun _ => ?_))) <;> (try (conv => whnf)))
    refine loop_rule (ι := Nat) (fun j => [(2, .pt 2 1 0 [] 0 0), (13, .h 1000004 0 0 [] 1 0 c.length), (14, i64 c.length), (15, i64 (j : Nat))])
      (fun _ => [(1000000, ⟨0, 0, false, tInsSS P⟩), (1000001, ⟨0, 0, false, tStateS S⟩), (1000002, ⟨0, 0, false, tItemSS W⟩), (1000003, ⟨0, 0, false, tEventSS H⟩), (1000004, ⟨0, 0, false, tI c⟩), (2, ⟨1, 0, false, bSys P S W H⟩)])
      (fun j => c.length - j) (fun j => j ≤ c.length ∧ ∀ q, q < j → 0 ≤ rd c q ∧ rd c q ≤ ((rd H q).length : Int)) 0 fitOk ⟨Nat.zero_le _, fun q hq => by omega⟩ (by simp [C]; omega) ?_
    rintro j sl ob ⟨hj, hal⟩
    (try dsimp only [cond_true, cond_false])
    (conv => whnf)
    by_cases hjl : j < c.length
    · have hlj := hb.hh j (by omega)
      have e4 : (List.map rEvent (rd H j)).length = (rd H j).length := by simp
      have q := fun k => ok_impl_in k (rd c j) 0 ((List.map rEvent (rd H j)).length : Int)
      by_cases hr : 0 ≤ rd c j ∧ rd c j ≤ ((rd H j).length : Int)
      · rw [decide_eq_true (by omega)] at q
        repeat' ((with_reducible (first | refine sCall.of (q _) ?_|refine st19 ?_|refine fG.split (fun _ => ?_) (fun _ => ?_)|refine fG.bool (fun _ => ?_) (fun _ => ?_))) <;> (try (conv => whnf)))
        refine ⟨⟨j + 1, fitOk, ?_, ?_⟩⟩
        · refine ⟨by show j + 1 ≤ _; omega, fun q hq => ?_⟩
          by_cases e : q = j
          · subst e; exact hr
          · have hq : q < j + 1 := hq
            exact hal q (by omega)
        · show c.length - (j + 1) < c.length - j; omega
      · rw [decide_eq_false (by omega)] at q
        repeat' ((with_reducible (first | refine sCall.of (q _) ?_|refine st19 ?_|refine fG.split (fun _ => ?_) (fun _ => ?_)|refine fG.bool (fun _ => ?_) (fun _ => ?_))) <;> (try (conv => whnf)))
    · exact absurd ⟨el, fun q hq => hal q (by omega)⟩ hc
  · (refine fnI [ResultVar.tmp 4] Tryz.func233 ?_; conv => whnf)
    repeat' ((with_reducible (first | refine st19 ?_|refine fG.split (fun _ => ?_) (fun _ => ?_)|refine fG.bool (fun _ => ?_) (fun _ => ?_))) <;> (try (conv => whnf)))
theorem ok_spec_l8Cut (k : Nat) (P : List (List Ins)) (S : List State) (W : List (List Item)) (H : List (List Event)) (c : List Int) (hhp : H.length = P.length) (hb : SysB 1000000000 P S W H) (hl : c.length ≤ 1000000000) :
    callE PR C (k + 2) 235 [aSys 0 P S W H, .h 1000004 0 0 [] 1 0 c.length] [tInsSS P, tStateS S, tItemSS W, tEventSS H, tI c] = some ⟨bl (cutB H c), [], [none, none, none, none, none]⟩ := by
  have hh := hb.h
  generalize hR : cutB H c = R
  by_cases el : c.length = H.length
  · (refine fnI [ResultVar.tmp 4] Tryz.func235 ?_; conv => whnf)
    repeat' ((with_reducible (first | refine st19 ?_|refine fG.split (fun _ => ?_) (fun _ => ?_)|refine fG.bool (fun _ => ?_) (fun _ => ?_)|refine gDn 6 ?_)) <;> (try (conv => whnf)))
    refine loop_rule (ι := Nat) (fun j => [(1, .h 1000004 0 0 [] 1 0 c.length), (2, .pt 2 1 0 [] 0 0), (5, i64 (j : Nat))])
      (fun _ => [(1000000, ⟨0, 0, false, tInsSS P⟩), (1000001, ⟨0, 0, false, tStateS S⟩), (1000002, ⟨0, 0, false, tItemSS W⟩), (1000003, ⟨0, 0, false, tEventSS H⟩), (1000004, ⟨0, 0, false, tI c⟩), (2, ⟨1, 0, false, bSys P S W H⟩)])
      (fun j => c.length - j) (fun j => j ≤ c.length ∧ ∀ q, q < j → 0 ≤ rd c q ∧ rd c q ≤ ((rd H q).length : Int)) 0 fitOk ⟨Nat.zero_le _, fun q hq => by omega⟩ (by simp [C]; omega) ?_
    rintro j sl ob ⟨hj, hal⟩
    (try dsimp only [cond_true, cond_false])
    (conv => whnf)
    by_cases hjl : j < c.length
    · have hlj := hb.hh j (by omega)
      have e4 : (List.map rEvent (rd H j)).length = (rd H j).length := by simp
      have q := fun k => ok_spec_l1In k (rd c j) 0 ((List.map rEvent (rd H j)).length : Int)
      by_cases hr : 0 ≤ rd c j ∧ rd c j ≤ ((rd H j).length : Int)
      · rw [decide_eq_true (by omega)] at q
        repeat' ((with_reducible (first | refine sCall.of (q _) ?_|refine st19 ?_|refine fG.split (fun _ => ?_) (fun _ => ?_)|refine fG.bool (fun _ => ?_) (fun _ => ?_)|refine gDn 6 ?_)) <;> (try (conv => whnf)))
        refine ⟨⟨j + 1, fitOk, ?_, ?_⟩⟩
        · refine ⟨by show j + 1 ≤ _; omega, fun q hq => ?_⟩
          by_cases e : q = j
          · subst e; exact hr
          · have hq : q < j + 1 := hq
            exact hal q (by omega)
        · show c.length - (j + 1) < c.length - j; omega
      · rw [decide_eq_false (by omega)] at q
        have hR2 : R = false := by
          rw [← hR]
          apply Bool.eq_false_iff.2
          intro h
          exact hr ((cutB_fok.1 h).rng j (by omega))
        rw [hR2]
        repeat' ((with_reducible (first | refine sCall.of (q _) ?_|refine st19 ?_|refine fG.split (fun _ => ?_) (fun _ => ?_)|refine fG.bool (fun _ => ?_) (fun _ => ?_)|refine gDn 6 ?_)) <;> (try (conv => whnf)))
    · have hR2 : R = true := by rw [← hR]; exact cutB_fok.2 ⟨el, fun q hq => hal q (by omega)⟩
      rw [hR2]
      repeat' ((with_reducible (first | refine st19 ?_|refine fG.split (fun _ => ?_) (fun _ => ?_)|refine fG.bool (fun _ => ?_) (fun _ => ?_)|refine gDn 6 ?_)) <;> (try (conv => whnf)))
  · have hR2 : R = false := by
      rw [← hR]
      apply Bool.eq_false_iff.2
      intro h
      exact el (cutB_fok.1 h).len
    rw [hR2]
    (refine fnI [ResultVar.tmp 4] Tryz.func235 ?_; conv => whnf)
    repeat' ((with_reducible (first | refine st19 ?_|refine fG.split (fun _ => ?_) (fun _ => ?_)|refine fG.bool (fun _ => ?_) (fun _ => ?_)|refine gDn 6 ?_)) <;> (try (conv => whnf)))
def okCut (P : List (List Ins)) (S : List State) (W : List (List Item)) (H : List (List Event)) (c : List Int) : Bool := sysOk P S W H && cutB H c
def okWhole (P : List (List Ins)) (S : List State) (W : List (List Item)) (H : List (List Event)) (c : List Int) : Bool := okCut P S W H c && wholeB H c
theorem ok_impl_CutOk' (k : Nat) (P : List (List Ins)) (S : List State) (W : List (List Item)) (H : List (List Event)) (c : List Int) (hb : SysB 1000000000 P S W H) (hl : c.length ≤ 1000000000) :
    callE PR C (k + 12) 152 [aSys 0 P S W H, .h 1000004 0 0 [] 1 0 c.length] [tInsSS P, tStateS S, tItemSS W, tEventSS H, tI c] = some ⟨bl (okCut P S W H c), [], [none, none, none, none, none]⟩ := by
  unfold okCut
  cases e : sysOk P S W H with
  | false =>
    have q1 := fun k => ok_impl_SysOk k P S W H (hb.mono (by decide))
    simp only [e] at q1
    (refine fnI [ResultVar.tmp 4] Tryz.func152 ?_; conv => whnf)
    repeat' ((with_reducible (first | refine sCall.of (q1 _) ?_|refine st19 ?_|refine fG.split (fun _ => ?_) (fun _ => ?_)|refine fG.bool (fun _ => ?_) (fun _ => ?_))) <;> (try (conv => whnf)))
    all_goals rfl
  | true =>
    cases f : cutB H c with
    | true => exact ok_impl_CutOk k P S W H c (hb.mono (by decide)) e (cutB_fok.1 f)
    | false =>
      have q1 := fun k => ok_impl_SysOk k P S W H (hb.mono (by decide))
      simp only [e] at q1
      have q2 := fun k => ok_impl_cutNo k P S W H c (cutB_no f) hb hl
      (refine fnI [ResultVar.tmp 4] Tryz.func152 ?_; conv => whnf)
      repeat' ((with_reducible (first | refine sCall.of (q1 _) ?_|refine sCall.of (q2 _) ?_|refine st19 ?_|refine fG.split (fun _ => ?_) (fun _ => ?_)|refine fG.bool (fun _ => ?_) (fun _ => ?_))) <;> (try (conv => whnf)))
      all_goals rfl
theorem ok_spec_CutOk' (k : Nat) (P : List (List Ins)) (S : List State) (W : List (List Item)) (H : List (List Event)) (c : List Int) (hb : SysB 1000000000 P S W H) (hl : c.length ≤ 1000000000) :
    callE PR C (k + 8) 154 [aSys 0 P S W H, .h 1000004 0 0 [] 1 0 c.length] [tInsSS P, tStateS S, tItemSS W, tEventSS H, tI c] = some ⟨bl (okCut P S W H c), [], [none, none, none, none, none]⟩ := by
  unfold okCut
  have q1 := fun k => ok_spec_SysOk k P S W H (hb.mono (by decide))
  cases e : sysOk P S W H with
  | false =>
    simp only [e] at q1
    (refine fnI [ResultVar.tmp 4] Tryz.func154 ?_; conv => whnf)
    repeat' ((with_reducible (first | refine sCall.of (q1 _) ?_|refine st19 ?_|refine fG.split (fun _ => ?_) (fun _ => ?_)|refine fG.bool (fun _ => ?_) (fun _ => ?_))) <;> (try (conv => whnf)))
    all_goals rfl
  | true =>
    simp only [e] at q1
    have q2 := fun k => ok_spec_l8Cut k P S W H c (sysOk_facts e).1.h hb hl
    generalize cutB H c = t at *
    cases t
    all_goals (refine fnI [ResultVar.tmp 4] Tryz.func154 ?_; conv => whnf)
    all_goals repeat' ((with_reducible (first | refine sCall.of (q1 _) ?_|refine sCall.of (q2 _) ?_|refine st19 ?_|refine fG.split (fun _ => ?_) (fun _ => ?_)|refine fG.bool (fun _ => ?_) (fun _ => ?_))) <;> (try (conv => whnf)))
    all_goals rfl
theorem okCut_yes {P : List (List Ins)} {S : List State} {W : List (List Item)} {H : List (List Event)} {c : List Int} (h : okCut P S W H c = true) : sysOk P S W H = true ∧ FOk H c := by
  simp only [okCut, Bool.and_eq_true] at h
  exact ⟨h.1, cutB_fok.1 h.2⟩
theorem ok_impl_Whole' (k : Nat) (P : List (List Ins)) (S : List State) (W : List (List Item)) (H : List (List Event)) (c : List Int) (hb : SysB 1000000000 P S W H) (hl : c.length ≤ 1000000000) :
    callE PR C (k + 13) 69 [aSys 0 P S W H, .h 1000004 0 0 [] 1 0 c.length] [tInsSS P, tStateS S, tItemSS W, tEventSS H, tI c] = some ⟨bl (okWhole P S W H c), [], [none, none, none, none, none]⟩ := by
  unfold okWhole
  cases e : okCut P S W H c with
  | true => exact ok_impl_Whole k P S W H c (hb.mono (by decide)) (okCut_yes e).1 (okCut_yes e).2
  | false =>
    have q1 := fun k => ok_impl_CutOk' k P S W H c hb hl
    simp only [e] at q1
    (refine fnI [ResultVar.tmp 4] Tryz.func69 ?_; conv => whnf)
    repeat' ((with_reducible (first | refine sCall.of (q1 _) ?_|refine st19 ?_|refine fG.split (fun _ => ?_) (fun _ => ?_)|refine fG.bool (fun _ => ?_) (fun _ => ?_))) <;> (try (conv => whnf)))
    all_goals rfl
theorem ok_spec_Whole' (k : Nat) (P : List (List Ins)) (S : List State) (W : List (List Item)) (H : List (List Event)) (c : List Int) (hb : SysB 1000000000 P S W H) (hl : c.length ≤ 1000000000) :
    callE PR C (k + 9) 70 [aSys 0 P S W H, .h 1000004 0 0 [] 1 0 c.length] [tInsSS P, tStateS S, tItemSS W, tEventSS H, tI c] = some ⟨bl (okWhole P S W H c), [], [none, none, none, none, none]⟩ := by
  unfold okWhole
  have q1 := fun k => ok_spec_CutOk' k P S W H c hb hl
  cases e : okCut P S W H c with
  | true =>
    simp only [e] at q1
    obtain ⟨hs, hf⟩ := okCut_yes e
    have h200 := (sysOk_facts hs).2.2.2
    have hI := (sysOk_facts hs).1
    have hN := hI.n
    have hh := hI.h
    have q2 := fun k => ok_spec_l8Whole k P S W H c hf (fun j hj => by have := h200 j hj; omega) (by omega)
    generalize wholeB H c = t at *
    cases t
    all_goals (refine fnI [ResultVar.tmp 4] Tryz.func70 ?_; conv => whnf)
    all_goals repeat' ((with_reducible (first | refine sCall.of (q1 _) ?_|refine sCall.of (q2 _) ?_|refine st19 ?_|refine fG.split (fun _ => ?_) (fun _ => ?_)|refine fG.bool (fun _ => ?_) (fun _ => ?_))) <;> (try (conv => whnf)))
    all_goals rfl
  | false =>
    simp only [e] at q1
    (refine fnI [ResultVar.tmp 4] Tryz.func70 ?_; conv => whnf)
    repeat' ((with_reducible (first | refine sCall.of (q1 _) ?_|refine st19 ?_|refine fG.split (fun _ => ?_) (fun _ => ?_)|refine fG.bool (fun _ => ?_) (fun _ => ?_))) <;> (try (conv => whnf)))
    all_goals rfl
theorem okWhole_yes {P : List (List Ins)} {S : List State} {W : List (List Item)} {H : List (List Event)} {c : List Int} (h : okWhole P S W H c = true) : sysOk P S W H = true ∧ FOk H c ∧ wholeB H c = true := by
  simp only [okWhole, Bool.and_eq_true] at h
  exact ⟨(okCut_yes h.1).1, (okCut_yes h.1).2, h.2⟩
def atIs (P : List (List Ins)) (S : List State) (W : List (List Item)) (H : List (List Event)) (c : List Int) : Bool := okWhole P S W H c && waysFit (cutH H c) P.length
def atR (P : List (List Ins)) (S : List State) (W : List (List Item)) (H : List (List Event)) (c : List Int) (b : List (Option Cont)) : Res := if atIs P S W H c = true then atRes P (cutH H c) b else zeroRes b
theorem ok_impl_At' (k : Nat) (P : List (List Ins)) (S : List State) (W : List (List Item)) (H : List (List Event)) (c : List Int) (hb : SysB 1000000000 P S W H) (hl : c.length ≤ 1000000000) :
    callE PR C (k + 14) 67 [aSys 0 P S W H, .h 1000004 0 0 [] 1 0 c.length] [tInsSS P, tStateS S, tItemSS W, tEventSS H, tI c] = some (atR P S W H c [none, none, none, none, none]) := by
  unfold atR atIs
  cases e : okWhole P S W H c with
  | true =>
    obtain ⟨hs, hf, hw⟩ := okWhole_yes e
    rw [ok_impl_At k P S W H c hb hs hf, hw, Bool.true_and]
    simp only [true_and]
  | false =>
    have q1 := fun k => ok_impl_Whole' k P S W H c hb hl
    simp only [e] at q1
    rw [Bool.false_and, if_neg (by simp)]
    (refine fnI [ResultVar.cell 4 36, ResultVar.tmp 5] Tryz.func67 ?_; conv => whnf)
    repeat' ((with_reducible (first | refine sCall.of (q1 _) ?_|refine st19 ?_|refine fG.split (fun _ => ?_) (fun _ => ?_)|refine fG.bool (fun _ => ?_) (fun _ => ?_))) <;> (try (conv => whnf)))
    all_goals rfl
theorem ok_spec_At' (k : Nat) (P : List (List Ins)) (S : List State) (W : List (List Item)) (H : List (List Event)) (c : List Int) (hb : SysB 1000000000 P S W H) (hl : c.length ≤ 1000000000) :
    callE PR C (k + 10) 68 [aSys 0 P S W H, .h 1000004 0 0 [] 1 0 c.length] [tInsSS P, tStateS S, tItemSS W, tEventSS H, tI c] = some (atR P S W H c [none, none, none, none, none]) := by
  unfold atR atIs
  have q1 := fun k => ok_spec_Whole' k P S W H c hb hl
  cases e : okWhole P S W H c with
  | true =>
    obtain ⟨hs, hf, hw⟩ := okWhole_yes e
    have q2 := fun k => ok_spec_l8At k P S W H c hb hs hf hw
    simp only [e] at q1
    rw [Bool.true_and]
    cases f : waysFit (cutH H c) P.length with
    | true =>
      simp only [f, if_true, atRes] at q2 ⊢
      generalize stsOf P (cutH H c) = S1 at *
      generalize waysOf (cutH H c) P.length = W1 at *
      generalize cutH H c = H1 at *
      (refine fnI [ResultVar.cell 4 36, ResultVar.tmp 5] Tryz.func68 ?_; conv => whnf)
      repeat' ((with_reducible (first | refine sCall.of (q1 _) ?_|refine sCall.of (q2 _) ?_|refine st19 ?_|refine fG.split (fun _ => ?_) (fun _ => ?_)|refine fG.bool (fun _ => ?_) (fun _ => ?_))) <;> (try (conv => whnf)))
      all_goals rfl
    | false =>
      simp only [f, Bool.false_eq_true, if_false, zeroRes] at q2 ⊢
      (refine fnI [ResultVar.cell 4 36, ResultVar.tmp 5] Tryz.func68 ?_; conv => whnf)
      repeat' ((with_reducible (first | refine sCall.of (q1 _) ?_|refine sCall.of (q2 _) ?_|refine st19 ?_|refine fG.split (fun _ => ?_) (fun _ => ?_)|refine fG.bool (fun _ => ?_) (fun _ => ?_))) <;> (try (conv => whnf)))
      all_goals rfl
  | false =>
    simp only [e] at q1
    rw [Bool.false_and, if_neg (by simp)]
    (refine fnI [ResultVar.cell 4 36, ResultVar.tmp 5] Tryz.func68 ?_; conv => whnf)
    repeat' ((with_reducible (first | refine sCall.of (q1 _) ?_|refine st19 ?_|refine fG.split (fun _ => ?_) (fun _ => ?_)|refine fG.bool (fun _ => ?_) (fun _ => ?_))) <;> (try (conv => whnf)))
    all_goals rfl

def DCut (b : List Int) (r : Res) : Prop := ∃ (c : List Int) (i h : Int), c.length ≤ 2000001 ∧ (0 ≤ i ∧ i ≤ b.length) ∧ r = ⟨.h 2000000 1 0 [] 1 0 c.length, [tI9 c], [none, some (tCur b i h), none, none, none, none]⟩
theorem sCall.dcut {x : Option Res} {b : List Int} {F : Res → Prop} (e : Told x (DCut b)) (h : ∀ (c : List Int) (i h : Int), c.length ≤ 2000001 → 0 ≤ i → i ≤ b.length → F ⟨.h 2000000 1 0 [] 1 0 c.length, [tI9 c], [none, some (tCur b i h), none, none, none, none]⟩) : sCall x F :=
  sCall.ex e fun r hr => by obtain ⟨c, i, h', h1, ⟨h2, h3⟩, rfl⟩ := hr; exact h c i h' h1 h2 h3
theorem dcut_mk {b : List Int} {c : List Int} {n : Nat} {i h : Int} (e : c.length = n) (h1 : n ≤ 2000001) (h2 : 0 ≤ i) (h3 : i ≤ b.length) : DCut b ⟨.h 2000000 1 0 [] 1 0 n, [tI9 c], [none, some (tCur b i h), none, none, none, none]⟩ := by
  subst e
  exact ⟨c, i, h, h1, ⟨h2, h3⟩, rfl⟩
structure DC where
  j : Nat
  l : List Int
  o : Nat
  bb : Nat
  d : Bool
  i : Int
  h : Int
set_option maxRecDepth 20000 in
set_option maxHeartbeats 8000000 in
theorem ok_spec_l8DrawCut (k : Nat) (b : List Int) (i h : Int) (P : List (List Ins)) (S : List State) (W : List (List Item)) (H : List (List Event)) (hb : Bytes b) (hB : SysB 2000000 P S W H) (h0 : 0 ≤ i := by assumption) (h1 : i ≤ b.length := by assumption) :
    Told (callE PR C (k + 4) 232 [.pt 1000001 0 0 [] 0 0, aSys 2 P S W H] [tB b, tCur b i h, tInsSS P, tStateS S, tItemSS W, tEventSS H]) (DCut b) := by
  have hbl := hb.len
  have hh := hB.h
  (refine callE_w [ResultVar.tmp 4] rfl Tryz.func232 rfl (by decide +kernel) rfl (by simp) ?_; (conv => whnf))
  repeat' ((with_reducible (first | refine st19 ?_|refine fG.split (fun _ => ?_) (fun _ => ?_)|refine fG.bool (fun _ => ?_) (fun _ => ?_))) <;> (try (conv => whnf)))
  refine loop_rule (ι := DC) (fun y => [(0, .pt 1000001 0 0 [] 0 0), (3, .pt 3 1 0 [] 0 0), (5, .h y.o y.bb 0 [] 1 0 y.l.length), (6, i64 (y.j : Nat))])
    (fun y => [(1000000, ⟨0, 0, false, tB b⟩), (1000001, ⟨0, 0, y.d, tCur b y.i y.h⟩), (1000005, ⟨0, 0, false, tEventSS H⟩),
      (3, ⟨1, 0, false, .box [.h 1000002 0 0 [] 1 0 P.length, .h 1000003 0 0 [] 4 0 S.length, .h 1000004 0 0 [] 1 0 W.length, .h 1000005 0 0 [] 1 0 H.length]⟩), (y.o, ⟨y.bb, 0, false, tI9 y.l⟩)])
    (fun y => H.length - y.j) (fun y => y.j ≤ H.length ∧ y.l.length = y.j ∧ (0 ≤ y.i ∧ y.i ≤ b.length) ∧ (y.o = 9 ∨ y.o = 33)) ⟨0, [], 9, _, _, i, h⟩ fitOk ⟨Nat.zero_le _, rfl, ⟨h0, h1⟩, .inl rfl⟩ (by simp [C]; omega) ?_
  rintro ⟨j, out, o, bb, d, i1, h1'⟩ sl ob ⟨hj, hlen, ⟨hi0, hi1⟩, ho⟩
  dsimp only at hj hlen hi0 hi1 ho
  by_cases hjl : j < H.length
  · have hx := hB.hh j hjl
    have e4 : (List.map rEvent (rd H j)).length = (rd H j).length := by simp
    rcases ho with rfl | rfl
    all_goals (try dsimp only [cond_true, cond_false])
    all_goals (conv => whnf)
    all_goals repeat' ((with_reducible (first | refine sCall.curB (ok_spec_l1Once _ _ _ _ _ hb) (fun _ _ _ _ _ => ?_)|refine sCall.cur (ok_Below _ _ _ _ _ hb) (fun _ _ _ _ _ _ _ => ?_)|refine st19 ?_|refine fG.split (fun _ => ?_) (fun _ => ?_)|refine fG.bool (fun _ => ?_) (fun _ => ?_))) <;> (try (conv => whnf)))
    all_goals
      refine ⟨⟨⟨j + 1, out ++ [_], 33, _, _, _, _⟩, fitOk, ?_, ?_⟩⟩
      · exact ⟨by show j + 1 ≤ H.length; omega, by show (out ++ [_]).length = j + 1; simp [hlen], ⟨by assumption, by assumption⟩, .inr rfl⟩
      · show H.length - (j + 1) < H.length - j; omega
  · rcases ho with rfl | rfl
    all_goals (try dsimp only [cond_true, cond_false])
    all_goals (conv => whnf)
    all_goals repeat' ((with_reducible (first | refine sCall.cur (ok_Below _ _ _ _ _ hb) (fun _ _ _ _ _ _ _ => ?_)|refine sCall.pick (ok_PickInt _ _ _ _ _ hb) (fun _ _ _ _ _ _ => ?_)|refine st19 ?_|refine fG.split (fun _ => ?_) (fun _ => ?_)|refine fG.bool (fun _ => ?_) (fun _ => ?_))) <;> (try (conv => whnf)))
    all_goals exact dcut_mk (by simp) (by first | omega | (simp only [List.length_append, List.length_singleton]; omega)) (by assumption) (by assumption)
def DSysCut (r : Res) : Prop := ∃ (P : List (List Ins)) (S : List State) (W : List (List Item)) (H : List (List Event)) (c : List Int), SysB 2000000 P S W H ∧ c.length ≤ 2000001 ∧ r = ⟨.tu [nSys 0 P S W H, .h 2000004 1 0 [] 1 0 c.length], [tInsSS9 P, tStateS9 S, tItemSS9 W, tEventSS9 H, tI9 c], [none]⟩
theorem sCall.sysCut {x : Option Res} {F : Res → Prop} (e : Told x DSysCut) (h : ∀ (P : List (List Ins)) (S : List State) (W : List (List Item)) (H : List (List Event)) (c : List Int), SysB 2000000 P S W H → c.length ≤ 2000001 → F ⟨.tu [nSys 0 P S W H, .h 2000004 1 0 [] 1 0 c.length], [tInsSS9 P, tStateS9 S, tItemSS9 W, tEventSS9 H, tI9 c], [none]⟩) : sCall x F :=
  sCall.ex e fun r hr => by obtain ⟨P, S, W, H, c, h1, h2, rfl⟩ := hr; exact h P S W H c h1 h2
set_option maxRecDepth 20000 in
set_option maxHeartbeats 4000000 in
theorem ok_spec_DrawWhole (k : Nat) (b : List Int) (hb : Bytes b) : Told (callE PR C (k + 13) 150 [.h 1000000 0 0 [] 1 0 b.length] [tB b]) DSysCut := by
  have hbl := hb.len
  have z0 : (0 : Int) ≤ 0 := Int.le_refl 0
  have z1 : (0 : Int) ≤ b.length := by omega
  (refine callE_w [ResultVar.cell 2 36, ResultVar.tmp 3] rfl Tryz.func150 rfl (by decide +kernel) rfl (by simp) ?_; (conv => whnf))
  repeat' ((with_reducible (first | refine sCall.newCur (ok_spec_l1New _ b hb.len hb.num) (fun _ => ?_)|refine st19 ?_|refine fG.split (fun _ => ?_) (fun _ => ?_)|refine fG.bool (fun _ => ?_) (fun _ => ?_))) <;> (try (conv => whnf)))
  rename_i h
  repeat' ((with_reducible (first | refine sCall.dsys (ok_spec_l6Draw _ b 0 h hb z0 z1) (fun _ _ _ _ _ _ _ _ _ => ?_)|refine st19 ?_|refine fG.split (fun _ => ?_) (fun _ => ?_)|refine fG.bool (fun _ => ?_) (fun _ => ?_))) <;> (try (conv => whnf)))
  rename_i P S W H i1 h1 hB a1 a2
  repeat' ((with_reducible (first | refine sCall.dcut (ok_spec_l8DrawCut _ _ _ _ _ _ _ _ hb hB) (fun _ _ _ _ _ _ => ?_)|refine st19 ?_|refine fG.split (fun _ => ?_) (fun _ => ?_)|refine fG.bool (fun _ => ?_) (fun _ => ?_))) <;> (try (conv => whnf)))
  rename_i c i2 h2 hc e1 e2
  have q1 := fun k => ok_spec_CutOk' k P S W H c (hB.mono (by decide)) (by omega)
  cases e : okCut P S W H c with
  | false =>
    simp only [e] at q1
    repeat' ((with_reducible (first | refine sCall.of (q1 _) ?_|refine st19 ?_|refine fG.split (fun _ => ?_) (fun _ => ?_)|refine fG.bool (fun _ => ?_) (fun _ => ?_))) <;> (try (conv => whnf)))
    exact ⟨_, _, _, _, _, hB, hc, rfl⟩
  | true =>
    simp only [e] at q1
    obtain ⟨hs, hf⟩ := okCut_yes e
    have h200 := (sysOk_facts hs).2.2.2
    have hI := (sysOk_facts hs).1
    have hN := hI.n
    have hh := hI.h
    have q2 := fun k => ok_spec_l8Close k P S W H c h200 (by omega) hf
    have hcl := ((closeOf_is hf).1.fok hf).len
    generalize closeOf H c = c2 at *
    repeat' ((with_reducible (first | refine sCall.of (q1 _) ?_|refine sCall.curB (ok_spec_l1Once _ _ _ _ _ hb) (fun _ _ _ _ _ => ?_)|refine sCall.of (q2 _) ?_|refine st19 ?_|refine fG.split (fun _ => ?_) (fun _ => ?_)|refine fG.bool (fun _ => ?_) (fun _ => ?_))) <;> (try (conv => whnf)))
    all_goals exact ⟨_, _, _, _, _, hB, by omega, rfl⟩
theorem ok_spec_DrawAt (k : Nat) (b : List Int) (hb : Bytes b) : Told (callE PR C (k + 14) 66 [.h 1000000 0 0 [] 1 0 b.length] [tB b]) DSysCut := by
  (refine callE_w [ResultVar.cell 2 36, ResultVar.tmp 3] rfl Tryz.func66 rfl (by decide +kernel) rfl (by simp) ?_; (conv => whnf))
  repeat' ((with_reducible (first | refine sCall.sysCut (ok_spec_DrawWhole _ _ hb) (fun _ _ _ _ _ _ _ => ?_)|refine st19 ?_|refine fG.split (fun _ => ?_) (fun _ => ?_)|refine fG.bool (fun _ => ?_) (fun _ => ?_))) <;> (try (conv => whnf)))
  exact ⟨_, _, _, _, _, by assumption, by assumption, rfl⟩
theorem ok_Equal_Ins (k : Nat) (l : List Ins) (hl : l.length ≤ 100000000000) : callE PR C (k + 1) 158 [.h 1000000 0 0 [] 5 0 l.length, .h 1000001 0 0 [] 5 0 l.length] [tIns l, tIns l] = some ⟨bl true, [], [none, none]⟩ := by
  (refine fnI [ResultVar.tmp 4] Tryz.func158 ?_; conv => whnf)
  repeat' ((with_reducible (first | refine st19 ?_|refine fG.split (fun _ => ?_) (fun _ => ?_)|refine fG.bool (fun _ => ?_) (fun _ => ?_)|refine gDn 6 ?_)) <;> (try (conv => whnf)))
  refine loop_rule (ι := Nat) (fun j => [(0, .h 1000000 0 0 [] 5 0 l.length), (1, .h 1000001 0 0 [] 5 0 l.length), (12, i64 l.length), (13, i64 (j : Nat))])
    (fun x => [(1000000, ⟨0, 0, false, tIns l⟩), (1000001, ⟨0, 0, false, tIns l⟩)])
    (fun j => l.length - j) (fun j => j ≤ l.length) 0 fitOk (Nat.zero_le _) (by simp [C]; omega) ?_
  rintro j sl ob hj
  (try dsimp only [cond_true, cond_false])
  (conv => whnf)
  by_cases hjl : j < l.length
  · repeat' ((with_reducible (first | refine st19 ?_|refine fG.split (fun _ => ?_) (fun _ => ?_)|refine fG.bool (fun _ => ?_) (fun _ => ?_)|refine gDn 6 ?_)) <;> (try (conv => whnf)))
    all_goals first | (rename_i h; simp at h; done) | skip
    refine ⟨⟨j + 1, fitOk, ?_, ?_⟩⟩
    · show j + 1 ≤ _; omega
    · show l.length - (j + 1) < l.length - j; omega
  · repeat' ((with_reducible (first | refine st19 ?_|refine fG.split (fun _ => ?_) (fun _ => ?_)|refine fG.bool (fun _ => ?_) (fun _ => ?_)|refine gDn 6 ?_)) <;> (try (conv => whnf)))
theorem ok_Equal_Event (k : Nat) (l m : List Event) (e : l = m) (hl : l.length ≤ 100000000000) : callE PR C (k + 1) 159 [.h 1000000 0 0 [] 3 0 l.length, .h 1000001 0 0 [] 3 0 m.length] [tEvent l, tEvent m] = some ⟨bl true, [], [none, none]⟩ := by
  subst e
  (refine fnI [ResultVar.tmp 4] Tryz.func159 ?_; conv => whnf)
  repeat' ((with_reducible (first | refine st19 ?_|refine fG.split (fun _ => ?_) (fun _ => ?_)|refine fG.bool (fun _ => ?_) (fun _ => ?_)|refine gDn 6 ?_)) <;> (try (conv => whnf)))
  refine loop_rule (ι := Nat) (fun j => [(0, .h 1000000 0 0 [] 3 0 l.length), (1, .h 1000001 0 0 [] 3 0 l.length), (12, i64 l.length), (13, i64 (j : Nat))])
    (fun x => [(1000000, ⟨0, 0, false, tEvent l⟩), (1000001, ⟨0, 0, false, tEvent l⟩)])
    (fun j => l.length - j) (fun j => j ≤ l.length) 0 fitOk (Nat.zero_le _) (by simp [C]; omega) ?_
  rintro j sl ob hj
  (try dsimp only [cond_true, cond_false])
  (conv => whnf)
  by_cases hjl : j < l.length
  · repeat' ((with_reducible (first | refine st19 ?_|refine fG.split (fun _ => ?_) (fun _ => ?_)|refine fG.bool (fun _ => ?_) (fun _ => ?_)|refine gDn 6 ?_)) <;> (try (conv => whnf)))
    all_goals first | (rename_i h; simp at h; done) | skip
    refine ⟨⟨j + 1, fitOk, ?_, ?_⟩⟩
    · show j + 1 ≤ _; omega
    · show l.length - (j + 1) < l.length - j; omega
  · repeat' ((with_reducible (first | refine st19 ?_|refine fG.split (fun _ => ?_) (fun _ => ?_)|refine fG.bool (fun _ => ?_) (fun _ => ?_)|refine gDn 6 ?_)) <;> (try (conv => whnf)))
theorem ok_impl_Forth1 (k : Nat) (l : List Ins) (hl : l.length ≤ 100000000000) : callE PR C (k + 2) 157 [.h 1000000 0 0 [] 5 0 l.length, .h 1000001 0 0 [] 5 0 l.length] [tIns l, tIns l] = some ⟨bl true, [], [none, none]⟩ := by
  (refine fnI [ResultVar.tmp 4] Tryz.func157 ?_; conv => whnf)
  repeat' ((with_reducible (first | refine sCall.of (ok_Equal_Ins _ _ hl) ?_|refine st19 ?_|refine fG.split (fun _ => ?_) (fun _ => ?_)|refine fG.bool (fun _ => ?_) (fun _ => ?_))) <;> (try (conv => whnf)))
theorem ok_EqualFunc (k : Nat) (P : List (List Ins)) (hl : P.length ≤ 100000000000) (hp : ∀ j : Nat, j < P.length → (rd P j).length ≤ 100000000000) :
    callE PR C (k + 3) 156 [.h 1000000 0 0 [] 1 0 P.length, .h 1000001 0 0 [] 1 0 P.length, .fn 157 []] [tInsSS P, tInsSS P] = some ⟨bl true, [], [none, none]⟩ := by
  (refine fnI [ResultVar.tmp 6] Tryz.func156 ?_; conv => whnf)
  repeat' ((with_reducible (first | refine st19 ?_|refine fG.split (fun _ => ?_) (fun _ => ?_)|refine fG.bool (fun _ => ?_) (fun _ => ?_))) <;> (try (conv => whnf)))
  refine loop_rule (ι := Nat) (fun j => [(1, .h 1000001 0 0 [] 1 0 P.length), (2, .fn 157 []), (15, .h 1000000 0 0 [] 1 0 P.length), (16, i64 P.length), (17, i64 (j : Nat))])
    (fun x => [(1000000, ⟨0, 0, false, tInsSS P⟩), (1000001, ⟨0, 0, false, tInsSS P⟩)])
    (fun j => P.length - j) (fun j => j ≤ P.length) 0 fitOk (Nat.zero_le _) (by simp [C]; omega) ?_
  rintro j sl ob hj
  by_cases hjl : j < P.length
  · have q1 := fun k => ok_impl_Forth1 k (rd P j) (hp j hjl)
    (try dsimp only [cond_true, cond_false])
    (conv => whnf)
    repeat' ((with_reducible (first | refine sCall.of (q1 _) ?_|refine st19 ?_|refine fG.split (fun _ => ?_) (fun _ => ?_)|refine fG.bool (fun _ => ?_) (fun _ => ?_))) <;> (try (conv => whnf)))
    refine ⟨⟨j + 1, fitOk, ?_, ?_⟩⟩
    · show j + 1 ≤ _; omega
    · show P.length - (j + 1) < P.length - j; omega
  · (try dsimp only [cond_true, cond_false])
    (conv => whnf)
    repeat' ((with_reducible (first | refine st19 ?_|refine fG.split (fun _ => ?_) (fun _ => ?_)|refine fG.bool (fun _ => ?_) (fun _ => ?_))) <;> (try (conv => whnf)))
set_option maxRecDepth 20000 in
set_option maxHeartbeats 4000000 in
theorem ok_impl_Forth (k : Nat) (P : List (List Ins)) (S S' : List State) (W W' : List (List Item)) (H G : List (List Event)) (c : List Int) (hs : sysOk P S W H = true) (hs' : sysOk P S' W' G = true) (hf : FOk H c) (hG : G = cutH H c) :
    callE PR C (k + 12) 71 [aSys 0 P S' W' G, aSys 4 P S W H] [tInsSS P, tStateS S', tItemSS W', tEventSS G, tInsSS P, tStateS S, tItemSS W, tEventSS H] = some ⟨bl true, [], [none, none, none, none, none, none, none, none]⟩ := by
  have hB := (sysOk_G hs).b
  have hB' := (sysOk_G hs').b
  have q1 := fun k => ok_impl_SysOk k P S' W' G (hB'.mono (by decide))
  have q2 := fun k => ok_impl_SysOk k P S W H (hB.mono (by decide))
  rw [hs'] at q1
  rw [hs] at q2
  have hpl : P.length ≤ 1048576 := hB.p
  have hpp : ∀ j : Nat, j < P.length → (rd P j).length ≤ 1048576 := hB.pp
  have q3 := fun k => ok_EqualFunc k P (by omega) (fun j hj => by have := hpp j hj; omega)
  have hgl : G.length = H.length := by rw [hG, cutH_len]
  have hhl : H.length ≤ 1048576 := hB.h
  have hhh : ∀ j : Nat, j < H.length → (rd H j).length ≤ 1048576 := hB.hh
  (refine fnI [ResultVar.tmp 4] Tryz.func71 ?_; conv => whnf)
  repeat' ((with_reducible (first | refine sCall.of (q1 _) ?_|refine sCall.of (q2 _) ?_|refine sCall.of (q3 _) ?_|refine st19 ?_|refine fG.split (fun _ => ?_) (fun _ => ?_)|refine fG.bool (fun _ => ?_) (fun _ => ?_))) <;> (try (conv => whnf)))
  refine loop_rule (ι := Nat) (fun j => [(3, .pt 3 1 0 [] 0 0), (24, .h 1000003 0 0 [] 1 0 G.length), (25, i64 G.length), (26, i64 (j : Nat))])
    (fun x => [(1000003, ⟨0, 0, false, tEventSS G⟩), (1000007, ⟨0, 0, false, tEventSS H⟩), (3, ⟨1, 0, false, .box [.h 1000004 0 0 [] 1 0 P.length, .h 1000005 0 0 [] 4 0 S.length, .h 1000006 0 0 [] 1 0 W.length, .h 1000007 0 0 [] 1 0 H.length]⟩)])
    (fun j => G.length - j) (fun j => j ≤ G.length) 0 fitOk (Nat.zero_le _) (by simp [C]; omega) ?_
  rintro j sl ob hj
  by_cases hjl : j < G.length
  · have hjh : j < H.length := by omega
    have hx := hhh j hjh
    have hcut : rd G j = (rd H j).take (rd G j).length := by
      have h1 := hf.rng j hjh
      rw [hG, rd_cutH hjh, List.length_take, List.take_eq_take_min]
    have hle : (rd G j).length ≤ (rd H j).length := by rw [hcut, List.length_take]; omega
    have e4 : (List.map rEvent (rd G j)).length = (rd G j).length := by simp
    have e5 : (List.map rEvent (rd H j)).length = (rd H j).length := by simp
    have q4 := fun k => ok_Equal_Event k (rd G j) ((rd H j).take (rd G j).length) hcut (by omega)
    (try dsimp only [cond_true, cond_false])
    (conv => whnf)
    repeat' ((with_reducible (first | refine sCall.of (q4 _) ?_|refine st19 ?_|refine fG.split (fun _ => ?_) (fun _ => ?_)|refine fG.bool (fun _ => ?_) (fun _ => ?_))) <;> (try (conv => whnf)))
    refine ⟨⟨j + 1, fitOk, ?_, ?_⟩⟩
    · show j + 1 ≤ _; omega
    · show G.length - (j + 1) < G.length - j; omega
  · (try dsimp only [cond_true, cond_false])
    (conv => whnf)
    repeat' ((with_reducible (first | refine st19 ?_|refine fG.split (fun _ => ?_) (fun _ => ?_)|refine fG.bool (fun _ => ?_) (fun _ => ?_))) <;> (try (conv => whnf)))

def mx (f c : List Int) : List Int := (List.range f.length).map fun q => if rd f q < rd c q then rd c q else rd f q
theorem mx_len (f c : List Int) : (mx f c).length = f.length := by simp [mx]
theorem mx_rd {f c : List Int} {q : Nat} (h : q < f.length) : rd (mx f c) q = if rd f q < rd c q then rd c q else rd f q := rd_range _ h
theorem mx_fok {H : List (List Event)} {f c : List Int} (hf : FOk H f) (hc : FOk H c) : FOk H (mx f c) := by
  refine ⟨by rw [mx_len, hf.len], fun q hq => ?_⟩
  rw [mx_rd (by rw [hf.len]; exact hq)]
  have h1 := hf.rng q hq
  have h2 := hc.rng q hq
  split <;> omega
theorem mx_zero {H : List (List Event)} {c : List Int} (hc : FOk H c) : mx (List.replicate H.length 0) c = c := by
  refine rd_ext (by rw [mx_len, List.length_replicate, hc.len]) fun q hq => ?_
  rw [mx_len, List.length_replicate] at hq
  rw [mx_rd (by rw [List.length_replicate]; exact hq), rd_zero]
  have := (hc.rng q hq).1
  split <;> omega
theorem mx_skip {H : List (List Event)} {f c : List Int} {p : Nat} (hf : FOk H f) (hp : p < H.length) (h : rd f p < rd c p) : mx (goOn f p) c = mx f c := by
  have hl : (goOn f p).length = f.length := by simp [goOn]
  refine rd_ext (by rw [mx_len, mx_len, hl]) fun q hq => ?_
  rw [mx_len, hl] at hq
  rw [mx_rd (by rw [hl]; exact hq), mx_rd hq, rd_goOn (by rw [hf.len]; exact hp)]
  by_cases e : q = p
  · subst e
    rw [if_pos rfl, if_pos h]
    split <;> omega
  · rw [if_neg e]
theorem mx_step {H : List (List Event)} {f c : List Int} {p : Nat} (hf : FOk H f) (hp : p < H.length) (h : ¬ rd f p < rd c p) : goOn (mx f c) p = mx (goOn f p) c := by
  have hl : (goOn f p).length = f.length := by simp [goOn]
  have hl2 : (goOn (mx f c) p).length = f.length := by simp [goOn, mx_len]
  refine rd_ext (by rw [mx_len, hl2, hl]) fun q hq => ?_
  rw [hl2] at hq
  rw [rd_goOn (by rw [mx_len, hf.len]; exact hp), mx_rd (f := goOn f p) (by rw [hl]; exact hq), rd_goOn (by rw [hf.len]; exact hp), mx_rd (by rw [hf.len]; exact hp), mx_rd hq]
  by_cases e : q = p
  · subst e
    rw [if_pos rfl, if_pos rfl, if_neg h, if_neg (by omega)]
  · rw [if_neg e, if_neg e]
theorem mx_can {H : List (List Event)} {f c : List Int} {p : Nat} (hP : PeersIn H) (hf : FOk H f) (hc : FOk H c) (hp : p < H.length) (h : ¬ rd f p < rd c p) (hcan : canCome H f p = true) : canCome H (mx f c) p = true ∧ rd (mx f c) p = rd f p := by
  have e : rd (mx f c) p = rd f p := by rw [mx_rd (by rw [hf.len]; exact hp), if_neg h]
  refine ⟨can_mono hf (mx_fok hf hc) hP hp e (fun q hq => ?_) hcan, e⟩
  rw [mx_rd (by rw [hf.len]; exact hq)]
  split <;> omega
theorem mx_all {H : List (List Event)} {f c : List Int} (hf : ∀ q, q < H.length → rd f q = ((rd H q).length : Int)) (hl : f.length = H.length) (hc : FOk H c) : ∀ q, q < H.length → rd (mx f c) q = ((rd H q).length : Int) := fun q hq => by
  rw [mx_rd (by rw [hl]; exact hq), hf q hq]
  have := (hc.rng q hq).2
  split <;> omega
structure MO where
  j : Nat
  f : List Int
  X : Sys
  o : Nat
  b0 : Nat
  b1 : Nat
  b2 : Nat
  b3 : Nat
  dd : Bool
  o1 : Ob
  o2 : Ob
set_option maxRecDepth 20000 in
set_option maxHeartbeats 16000000 in
theorem ok_laws_FnMoment (k : Nat) (b : List Int) (hl : b.length ≤ 140737488355328) (hv : ∀ v ∈ b, 0 ≤ v ∧ v < 256) :
    callE PR C (k + 30) 12 [.h 1000000 0 0 [] 1 0 b.length] [tB b] = some ⟨bl true, [], [none]⟩ := by
  have q0 := fun k => ok_laws_big k b
  by_cases c0 : 1048576 < (b.length : Int)
  · rw [decide_eq_true c0] at q0
    (refine fnI [ResultVar.tmp 2] Tryz.func12 ?_; conv => whnf)
    repeat' ((with_reducible (first | refine sCall.of (q0 _) ?_|refine st19 ?_|refine fG.split (fun _ => ?_) (fun _ => ?_)|refine fG.bool (fun _ => ?_) (fun _ => ?_)|refine gD 6 [(6, 7)] ?_|refine gDn 18 ?_|refine gD 19 [(0, 18), (2, 18), (4, 18), (6, 18), (8, 18), (10, 18), (13, 18), (14, 18)] ?_)) <;> (try (conv => whnf)))
  · rw [decide_eq_false c0] at q0
    have hb : Bytes b := ⟨by omega, hv⟩
    (refine fnI [ResultVar.tmp 2] Tryz.func12 ?_; conv => whnf)
    repeat' ((with_reducible (first | refine sCall.of (q0 _) ?_|refine sCall.sysCut (ok_spec_DrawAt _ _ hb) (fun _ _ _ _ _ _ _ => ?_)|refine st19 ?_|refine fG.split (fun _ => ?_) (fun _ => ?_)|refine fG.bool (fun _ => ?_) (fun _ => ?_)|refine gD 6 [(6, 7)] ?_|refine gDn 18 ?_|refine gD 19 [(0, 18), (2, 18), (4, 18), (6, 18), (8, 18), (10, 18), (13, 18), (14, 18)] ?_)) <;> (try (conv => whnf)))
    rename_i P S W H c hB hcl
    have q1 := fun k => ok_impl_At' k P S W H c (hB.mono (by decide)) (by omega)
    have q2 := fun k => ok_spec_At' k P S W H c (hB.mono (by decide)) (by omega)
    have q3 := fun k => ok_impl_Whole' k P S W H c (hB.mono (by decide)) (by omega)
    have q4 := fun k => ok_spec_Whole' k P S W H c (hB.mono (by decide)) (by omega)
    unfold atR at q1 q2
    cases e : atIs P S W H c with
    | false =>
      simp only [e, Bool.false_eq_true, if_false, zeroRes] at q1 q2
      generalize okWhole P S W H c = t at *
      cases t
      all_goals repeat' ((with_reducible (first | refine sCall.of (q1 _) ?_|refine sCall.of (q2 _) ?_|refine sCall.of (q3 _) ?_|refine sCall.of (q4 _) ?_|refine st19 ?_|refine fG.split (fun _ => ?_) (fun _ => ?_)|refine fG.bool (fun _ => ?_) (fun _ => ?_)|refine gD 6 [(6, 7)] ?_|refine gDn 18 ?_|refine gD 19 [(0, 18), (2, 18), (4, 18), (6, 18), (8, 18), (10, 18), (13, 18), (14, 18)] ?_)) <;> (try (conv => whnf)))
      all_goals rfl
    | true =>
      simp only [e, if_true, atRes] at q1 q2
      have e' := e
      simp only [atIs, Bool.and_eq_true] at e'
      obtain ⟨hw, hfit⟩ := e'
      simp only [hw] at q3 q4
      obtain ⟨hs, hf, hwh⟩ := okWhole_yes hw
      have hst := cut_sysOk hs hf hwh
      rw [hfit] at hst
      obtain ⟨hI, hP, _, h200⟩ := sysOk_facts hs
      have hN := hI.n
      have hhl := hI.h
      have hcl' := hf.len
      have hX0 : AtCut P H c ⟨P, stsOf P (cutH H c), waysOf (cutH H c) P.length, cutH H c⟩ := ⟨hst, rfl, rfl⟩
      have hB1 := (sysOk_G hst).b
      have q5 := fun k => ok_impl_SysOk k P (stsOf P (cutH H c)) (waysOf (cutH H c) P.length) (cutH H c) (hB1.mono (by decide))
      have q6 := fun k => ok_impl_Forth k P S (stsOf P (cutH H c)) W (waysOf (cutH H c) P.length) H (cutH H c) c hs hst hf rfl
      have q7 := fun k => ok_impl_Full k P (stsOf P (cutH H c)) (waysOf (cutH H c) P.length) (cutH H c) (hB1.mono (by decide)) hst
      have efull : lensOf (cutH H c) = c := rd_ext (by rw [lensOf_len, cutH_len, hcl']) fun q hq => by
        rw [lensOf_len, cutH_len] at hq
        rw [lensOf_rd (by rw [cutH_len]; exact hq), cut_len hf hq]
      rw [efull] at q7
      rw [hst] at q5
      have q8 := fun k => ok_laws_sameInts k c c (by omega) (by omega)
      rw [decide_eq_true rfl] at q8
      have q9 := fun k => ok_impl_Row k P S W H (hB.mono (by decide))
      have er : rowIs P S W H = rowOf H := by unfold rowIs; rw [if_pos hs]
      rw [er] at q9
      have hr := row_ok hs
      have hrow : (rowOf H).length = allEv H ∧ rowGo H (rowOf H) (List.replicate H.length 0) = true := by
        simp only [rowOkB, Bool.and_eq_true, decide_eq_true_eq] at hr
        exact hr.2
      have hsum : allEv H ≤ 800 := by
        have h1 := allEv_few H (fun q hq => h200 q hq)
        omega
      generalize stsOf P (cutH H c) = S1 at *
      generalize waysOf (cutH H c) P.length = W1 at *
      generalize cutH H c = H1 at *
      generalize rowOf H = R at *
      clear hr er efull hfit hw hwh e hst hB1
      repeat' ((with_reducible (first | refine sCall.of (q1 _) ?_|refine sCall.of (q2 _) ?_|refine sCall.of (q3 _) ?_|refine sCall.of (q4 _) ?_|refine sCall.of (q5 _) ?_|refine sCall.of (q6 _) ?_|refine sCall.of (q7 _) ?_|refine sCall.of (q8 _) ?_|refine sCall.of (q9 _) ?_|refine st19 ?_|refine fG.split (fun _ => ?_) (fun _ => ?_)|refine fG.bool (fun _ => ?_) (fun _ => ?_)|refine gD 6 [(6, 7)] ?_|refine gDn 18 ?_|refine gD 19 [(0, 18), (2, 18), (4, 18), (6, 18), (8, 18), (10, 18), (13, 18), (14, 18)] ?_)) <;> (try (conv => whnf)))
      clear q0 q1 q2 q3 q4 q5 q6 q7 q8 q9
      have hX1 : AtCut P H (mx (List.replicate H.length 0) c) ⟨P, S1, W1, H1⟩ := by rw [mx_zero hf]; exact hX0
      refine loop_rule (ι := MO) (fun z => [(3, .pt 3 1 0 [] 0 0), (4, .h 50019 1 0 [] 1 0 c.length), (9, .h 10069 1 0 [] 2 0 R.length), (10, .pt 10 1 0 [] 0 0), (11, i64 (z.j : Nat))])
        (fun z => [(3, ⟨1, 0, true, .box [.h 10019 1 0 [] 1 0 P.length, .h 20019 1 0 [] 4 0 S.length, .h 30019 1 0 [] 1 0 W.length, .h 40019 1 0 [] 1 0 H.length]⟩), (10019, ⟨1, 0, false, tInsSS9 P⟩), (20019, ⟨1, 0, false, tStateS9 S⟩), (30019, ⟨1, 0, false, tItemSS9 W⟩), (40019, ⟨1, 0, false, tEventSS9 H⟩), (50019, ⟨1, 0, false, tI9 c⟩), (10069, ⟨1, 0, false, tWho9 R⟩),
          (10, ⟨1, 0, z.dd, .box [.h (z.o + 10000) z.b0 0 [] 1 0 z.X.progs.length, .h (z.o + 20000) z.b1 0 [] 4 0 z.X.states.length, .h (z.o + 30000) z.b2 0 [] 1 0 z.X.ways.length, .h (z.o + 40000) z.b3 0 [] 1 0 z.X.hist.length]⟩),
          (z.o + 10000, ⟨z.b0, 0, false, tInsSS9 z.X.progs⟩), (z.o + 20000, ⟨z.b1, 0, false, tStateS9 z.X.states⟩), (z.o + 30000, ⟨z.b2, 0, false, tItemSS9 z.X.ways⟩), (z.o + 40000, ⟨z.b3, 0, false, tEventSS9 z.X.hist⟩), (12, z.o1), (13, z.o2)])
        (fun z => R.length - z.j) (fun z => z.j ≤ R.length ∧ (AtCut P H (mx z.f c) z.X ∧ FOk H z.f) ∧ (rowGo H (R.drop z.j) z.f = true ∧ z.f.sum = (z.j : Int)) ∧ (z.o = 25 ∨ z.o = 104 ∨ z.o = 5104))
        ⟨0, List.replicate H.length 0, ⟨P, S1, W1, H1⟩, 25, 1, 1, 1, 1, _, _, _⟩ fitOk ⟨Nat.zero_le _, ⟨hX1, fok_zero H⟩, ⟨hrow.2, by simp⟩, .inl rfl⟩ (by simp [C]; omega) ?_
      clear hX0 hX1
      rintro ⟨j, f, ⟨P2, S2, W2, H2⟩, o, b0, b1, b2, b3, dd, o1, o2⟩ sl ob ⟨hj, ⟨hA, hff⟩, ⟨hR, hfs⟩, ho⟩
      obtain ⟨g1, g2, g3, g4⟩ := o1
      obtain ⟨g5, g6, g7, g8⟩ := o2
      dsimp only at hj hA hff hR hfs ho
      have hPP : P2 = P := hA.p
      subst hPP
      have hok := hA.ok
      dsimp only at hok
      have hBx := (sysOk_G hok).b
      by_cases hjl : j < R.length
      · rw [rowGo_drop hjl] at hR
        simp only [Bool.and_eq_true, whoOk, inB, decide_eq_true_eq] at hR
        obtain ⟨⟨hw1, hw2, hw3⟩, hR2⟩ := hR
        have hwp : (((rd R j).p.toNat : Nat) : Int) = (rd R j).p := by omega
        have hp : (rd R j).p.toNat < H.length := by omega
        have hlt := can_lt hff hp hw3
        have hr0 := (hff.rng (rd R j).p.toNat hp).1
        have hlp := h200 (rd R j).p.toNat hp
        have e4 : (List.map rEvent (rd H (rd R j).p.toNat)).length = (rd H (rd R j).p.toNat).length := by simp
        have hfs2 : (goOn f (rd R j).p.toNat).sum = ((j + 1 : Nat) : Int) := by rw [goOn, sum_set _ _ (by rw [hff.len]; exact hp), hfs]; omega
        have hff2 := fok_goOn hff hp hw3
        by_cases d1 : (rd R j).i < rd c (rd R j).p.toNat
        · have hm := mx_skip (c := c) hff hp (by omega)
          have hA2 : AtCut P2 H (mx (goOn f (rd R j).p.toNat) c) ⟨P2, S2, W2, H2⟩ := by rw [hm]; exact hA
          rcases ho with rfl | rfl | rfl
          all_goals (try dsimp only [cond_true, cond_false])
          all_goals (conv => whnf)
          all_goals repeat' ((with_reducible (first | refine st19 ?_|refine fG.split (fun _ => ?_) (fun _ => ?_)|refine fG.bool (fun _ => ?_) (fun _ => ?_)|refine gD 6 [(6, 7)] ?_|refine gDn 18 ?_|refine gD 19 [(0, 18), (2, 18), (4, 18), (6, 18), (8, 18), (10, 18), (13, 18), (14, 18)] ?_)) <;> (try (conv => whnf)))
          case' inl =>
            refine ⟨⟨⟨j + 1, goOn f (rd R j).p.toNat, ⟨P2, S2, W2, H2⟩, 25, _, _, _, _, _, _, _⟩, fitOk, ?_, ?_⟩⟩
          case' inr.inl =>
            refine ⟨⟨⟨j + 1, goOn f (rd R j).p.toNat, ⟨P2, S2, W2, H2⟩, 104, _, _, _, _, _, _, _⟩, fitOk, ?_, ?_⟩⟩
          case' inr.inr =>
            refine ⟨⟨⟨j + 1, goOn f (rd R j).p.toNat, ⟨P2, S2, W2, H2⟩, 5104, _, _, _, _, _, _, _⟩, fitOk, ?_, ?_⟩⟩
          all_goals first
            | (show R.length - (j + 1) < R.length - j; omega)
            | exact ⟨by show j + 1 ≤ R.length; omega, ⟨hA2, hff2⟩, ⟨hR2, hfs2⟩, .inl rfl⟩
            | exact ⟨by show j + 1 ≤ R.length; omega, ⟨hA2, hff2⟩, ⟨hR2, hfs2⟩, .inr (.inl rfl)⟩
            | exact ⟨by show j + 1 ≤ R.length; omega, ⟨hA2, hff2⟩, ⟨hR2, hfs2⟩, .inr (.inr rfl)⟩
        · obtain ⟨hm1, hm2⟩ := mx_can hP hff hf hp (by omega) hw3
          have hcan := atCut_step hs hA (mx_fok hff hf) hp hm1
          rw [mx_step hff hp (by omega), hm2, ← hw2, hwp] at hcan
          have q3 : ∀ k, callE PR C (k + 12) 57 [aSys 0 P2 S2 W2 H2, i64 (rd R j).p, i64 (rd (rd H (rd R j).p.toNat) (rd R j).i.toNat).peer] [tInsSS P2, tStateS S2, tItemSS W2, tEventSS H2] = some (sysRes (stepX ⟨P2, S2, W2, H2⟩ ⟨(rd R j).p, (rd (rd H (rd R j).p.toNat) (rd R j).i.toNat).peer⟩).1 (stepX ⟨P2, S2, W2, H2⟩ ⟨(rd R j).p, (rd (rd H (rd R j).p.toNat) (rd R j).i.toNat).peer⟩).2 [none, none, none, none]) := fun k => by
            have := ok_impl_StepRt k P2 S2 W2 H2 (rd R j).p (rd (rd H (rd R j).p.toNat) (rd R j).i.toNat).peer (hBx.mono (by decide))
            unfold stepRt at this
            rw [if_pos hok] at this
            exact this
          generalize stepX ⟨P2, S2, W2, H2⟩ ⟨(rd R j).p, (rd (rd H (rd R j).p.toNat) (rd R j).i.toNat).peer⟩ = Y at *
          obtain ⟨⟨P3, S3, W3, H3⟩, m⟩ := Y
          dsimp only at hcan
          simp only [sysRes] at q3
          rcases hcan with ⟨hm0, hA2⟩ | hm0 | hm0
          · rcases ho with rfl | rfl | rfl
            all_goals (try dsimp only [cond_true, cond_false])
            all_goals (conv => whnf)
            all_goals repeat' ((with_reducible (first | refine sCall.of (q3 _) ?_|refine st19 ?_|refine fG.split (fun _ => ?_) (fun _ => ?_)|refine fG.bool (fun _ => ?_) (fun _ => ?_)|refine gD 6 [(6, 7)] ?_|refine gDn 18 ?_|refine gD 19 [(0, 18), (2, 18), (4, 18), (6, 18), (8, 18), (10, 18), (13, 18), (14, 18)] ?_)) <;> (try (conv => whnf)))
            case' inl | inr.inr =>
              refine ⟨⟨⟨j + 1, goOn f (rd R j).p.toNat, ⟨P3, S3, W3, H3⟩, 104, _, _, _, _, _, _, _⟩, fitOk, ?_, ?_⟩⟩
            case' inr.inl =>
              refine ⟨⟨⟨j + 1, goOn f (rd R j).p.toNat, ⟨P3, S3, W3, H3⟩, 5104, _, _, _, _, _, _, _⟩, fitOk, ?_, ?_⟩⟩
            all_goals first
              | (show R.length - (j + 1) < R.length - j; omega)
              | exact ⟨by show j + 1 ≤ R.length; omega, ⟨hA2, hff2⟩, ⟨hR2, hfs2⟩, .inr (.inl rfl)⟩
              | exact ⟨by show j + 1 ≤ R.length; omega, ⟨hA2, hff2⟩, ⟨hR2, hfs2⟩, .inr (.inr rfl)⟩
          · rcases ho with rfl | rfl | rfl
            all_goals (try dsimp only [cond_true, cond_false])
            all_goals (conv => whnf)
            all_goals repeat' ((with_reducible (first | refine sCall.of (q3 _) ?_|refine st19 ?_|refine fG.split (fun _ => ?_) (fun _ => ?_)|refine fG.bool (fun _ => ?_) (fun _ => ?_)|refine gD 6 [(6, 7)] ?_|refine gDn 18 ?_|refine gD 19 [(0, 18), (2, 18), (4, 18), (6, 18), (8, 18), (10, 18), (13, 18), (14, 18)] ?_)) <;> (try (conv => whnf)))
          · rcases ho with rfl | rfl | rfl
            all_goals (try dsimp only [cond_true, cond_false])
            all_goals (conv => whnf)
            all_goals repeat' ((with_reducible (first | refine sCall.of (q3 _) ?_|refine st19 ?_|refine fG.split (fun _ => ?_) (fun _ => ?_)|refine fG.bool (fun _ => ?_) (fun _ => ?_)|refine gD 6 [(6, 7)] ?_|refine gDn 18 ?_|refine gD 19 [(0, 18), (2, 18), (4, 18), (6, 18), (8, 18), (10, 18), (13, 18), (14, 18)] ?_)) <;> (try (conv => whnf)))
            all_goals rw [decide_eq_true hm0]
      · have hjj : j = R.length := by omega
        have hall := (sum_le H f hff.len fun q hq => (hff.rng q hq).2).2 (by rw [hfs, hjj, hrow.1])
        obtain ⟨hz1, hz2, _⟩ := atCut_full hs hA (mx_all hall hff.len hf)
        dsimp only at hz1 hz2
        subst hz1 hz2
        have hhl2 : H2.length ≤ 1048576 := hBx.h
        have hsl2 : S2.length ≤ 1048576 := hBx.s
        have q5 := fun k => ok_laws_sameHist k P2 P2 S2 S2 W2 W H2 (by omega) (fun q hq => by have := hBx.hh q hq; dsimp only at this; omega)
        have q6 := fun k => ok_laws_sameStates k P2 P2 S2 W2 W H2 H2 (by omega) (fun q hq => by have := hBx.ss q hq; dsimp only at this; omega)
        rcases ho with rfl | rfl | rfl
        all_goals (try dsimp only [cond_true, cond_false])
        all_goals (conv => whnf)
        all_goals repeat' ((with_reducible (first | refine sCall.of (q5 _) ?_|refine sCall.of (q6 _) ?_|refine st19 ?_|refine fG.split (fun _ => ?_) (fun _ => ?_)|refine fG.bool (fun _ => ?_) (fun _ => ?_)|refine gD 6 [(6, 7)] ?_|refine gDn 18 ?_|refine gD 19 [(0, 18), (2, 18), (4, 18), (6, 18), (8, 18), (10, 18), (13, 18), (14, 18)] ?_)) <;> (try (conv => whnf)))

end Go.Proofs.YtldndahfnkbngaaGreat.Abs
namespace Go.Proofs.YtldndahfnkbngaaGreat.Abs
open Go
set_option linter.unusedVariables false

def Opens (P : Program) (t : TypeId) (n : Nat) (M : List T → Prop) : Prop :=
  ∀ (H : Type) (enc : TypeId × Value → H) (w : World) (base : Nat) (sp : Nat → Bool) (held : Bool) (fuel : Nat) (cs : List Value) (x : DataW H × List MemPlace),
    DataW.trod enc P w base sp held fuel t cs = some x → (∀ m ∈ x.1.weights P t, m ≤ reachBytes) →
      cs.length = n ∧ ∃ ts : List T, ts.length = n ∧ M ts ∧ ∀ (i : Nat) v t', cs[i]? = some v → ts[i]? = some t' → Ow (fun k => k < w.heap.size) w 0 v t' none_
theorem Opens.mono {P : Program} {t : TypeId} {n : Nat} {M M' : List T → Prop} (h : Opens P t n M) (hm : ∀ ts, M ts → M' ts) : Opens P t n M' := by
  intro H enc w base sp held fuel cs x hx hw
  obtain ⟨h1, ts, h2, h3, h4⟩ := h H enc w base sp held fuel cs x hx hw
  exact ⟨h1, ts, h2, hm _ h3, h4⟩
theorem one_ow {w : World} {v0 : Value} {t0 : T} (h : Ow (fun k => k < w.heap.size) w 0 v0 t0 none_) : ∀ (i : Nat) v t', [v0][i]? = some v → [t0][i]? = some t' → Ow (fun k => k < w.heap.size) w 0 v t' none_ := by
  rintro (_ | i) v t' h1 h2
  · simp at h1 h2; subst h1; subst h2; exact h
  · simp at h1
theorem Opens.int {P : Program} {t : TypeId} {k : IntKind} (ht : P.underlying t = some (.int k)) : Opens P t 1 (fun ts => ∃ n, (Lit.int k n).wf = true ∧ ts = [.v (.int k n)]) := by
  intro H enc w base sp held fuel cs x hx hw
  obtain ⟨n, rfl, rfl, h⟩ := DataW.trod_int ht hx
  exact ⟨rfl, _, rfl, ⟨n, h, rfl⟩, one_ow (.v rfl)⟩
theorem Opens.bool {P : Program} {t : TypeId} (ht : P.underlying t = some .bool) : Opens P t 1 (fun ts => ∃ b, ts = [.v (.bool b)]) := by
  intro H enc w base sp held fuel cs x hx hw
  obtain ⟨b, rfl, rfl⟩ := DataW.trod_bool ht hx
  exact ⟨rfl, _, rfl, ⟨b, rfl⟩, one_ow (.v rfl)⟩
theorem Opens.str {P : Program} {t : TypeId} (ht : P.underlying t = some .string) : Opens P t 1 (fun ts => ∃ s : ByteArray, s.size ≤ reachBytes ∧ ts = [.v (.string s)]) := by
  intro H enc w base sp held fuel cs x hx hw
  obtain ⟨s, rfl, rfl, h⟩ := DataW.trod_string ht hx
  refine ⟨rfl, _, rfl, ⟨s, ?_, rfl⟩, one_ow (.v rfl)⟩
  have := hw s.data.toList.length (by simp [DataW.weights])
  simpa using this
def Parts (P : Program) : List Field → Nat → Nat → (List T → Prop) → Prop
  | [], _, n, M => n = 0 ∧ M []
  | f :: r, off, n, M => f.offset = off ∧ ∃ n1 n2 M1 M2, P.cellsOf f.type = n1 ∧ Opens P f.type n1 M1 ∧ Parts P r (off + n1) n2 M2 ∧ n = n1 + n2 ∧ ∀ a b, M1 a → M2 b → M (a ++ b)
theorem weights_part {P : Program} {H : Type} {ts : List TypeId} : ∀ {ds : List (DataW H)} {R : Nat}, (∀ m ∈ DataW.weightsEach P ts ds, m ≤ R) → ∀ (j : Nat) t d, ts[j]? = some t → ds[j]? = some d → ∀ m ∈ d.weights P t, m ≤ R :=
  fun h j t d ht hd m hm => h m (DataW.weights_mem_each ht hd m hm)
theorem Parts.opens {P : Program} {H : Type} {enc : TypeId × Value → H} {w : World} {base : Nat} {sp : Nat → Bool} {held : Bool} {fuel : Nat} {cs : List Value} : ∀ {fs : List Field} {off n : Nat} {M : List T → Prop}, Parts P fs off n M → off + n = cs.length →
    (∀ f ∈ fs, ∃ x, DataW.trod enc P w base sp held fuel f.type ((cs.drop f.offset).take (P.cellsOf f.type)) = some x ∧ (∀ m ∈ x.1.weights P f.type, m ≤ reachBytes)) →
    ∃ ts : List T, ts.length = n ∧ M ts ∧ ∀ (i : Nat) v t', cs[off + i]? = some v → ts[i]? = some t' → Ow (fun k => k < w.heap.size) w 0 v t' none_ := by
  intro fs
  induction fs with
  | nil =>
    intro off n M h hl _
    exact ⟨[], h.1.symm, h.2, fun i v t' _ h2 => by simp at h2⟩
  | cons f r ih =>
    intro off n M h hl hx
    obtain ⟨rfl, n1, n2, M1, M2, h1, h2, h3, rfl, h4⟩ := h
    obtain ⟨x, hx1, hx2⟩ := hx f (by simp)
    rw [h1] at hx1
    obtain ⟨k1, t1, k2, k3, k4⟩ := h2 H enc w base sp held fuel _ x hx1 hx2
    obtain ⟨t2, q1, q2, q3⟩ := ih h3 (by omega) fun g hg => hx g (by simp [hg])
    refine ⟨t1 ++ t2, by simp [k2, q1], h4 _ _ k3 q2, fun i v t' hv ht' => ?_⟩
    by_cases hi : i < n1
    · rw [List.getElem?_append_left (by omega)] at ht'
      exact k4 i v t' (by rw [List.getElem?_take, if_pos hi, List.getElem?_drop]; exact hv) ht'
    · rw [List.getElem?_append_right (by omega), k2] at ht'
      exact q3 (i - n1) v t' (by rw [show f.offset + n1 + (i - n1) = f.offset + i by omega]; exact hv) ht'
theorem Opens.struct {P : Program} {t : TypeId} {fs : Array Field} {n : Nat} {M : List T → Prop} (ht : P.underlying t = some (.struct fs)) (hc : P.cellsOf t = n) (hp : Parts P fs.toList 0 n M) : Opens P t n M := by
  intro H enc w base sp held fuel cs x hx hw
  obtain ⟨xs, m, _, rfl, hl, hlen, hf⟩ := DataW.trod_struct ht hx
  have hl' : cs.length = n := hl.trans hc
  obtain ⟨ts, h1, h2, h3⟩ := hp.opens (enc := enc) (w := w) (base := base) (sp := sp) (held := held) (fuel := m) (cs := cs) (by omega) (by
    intro f hfm
    obtain ⟨i, hi⟩ := List.getElem?_of_mem hfm
    have hi' : fs[i]? = some f := by simpa using hi
    have hlt : i < xs.length := by rw [hlen]; exact (Array.getElem?_eq_some_iff.1 hi').1
    have hy : xs[i]? = some xs[i] := List.getElem?_eq_getElem hlt
    refine ⟨xs[i], (hf i f hi').trans hy, ?_⟩
    refine weights_part (ts := fs.toList.map (·.type)) (ds := xs.map (·.1)) ?_ i f.type xs[i].1 (by simp [hi']) (by rw [List.getElem?_map, hy]; rfl)
    intro q hq
    refine hw q ?_
    simpa [DataW.weights, ht] using hq)
  exact ⟨hl', ts, h1, h2, fun i v t' hv ht' => h3 i v t' (by simpa using hv) ht'⟩
def IntsM (n : Nat) (ts : List T) : Prop := ∃ zs : List Int, zs.length = n ∧ ts = zs.map fun z => T.v (.int .i64 z)
theorem Parts.nil {P : Program} {off : Nat} : Parts P [] off 0 (IntsM 0) := ⟨rfl, [], rfl, rfl⟩
theorem Parts.int {P : Program} {f : Field} {r : List Field} {off n : Nat} (ho : f.offset = off) (hc : P.cellsOf f.type = 1) (ht : P.underlying f.type = some (.int .i64)) (h : Parts P r (off + 1) n (IntsM n)) :
    Parts P (f :: r) off (1 + n) (IntsM (1 + n)) := by
  refine ⟨ho, 1, n, _, _, hc, Opens.int ht, h, rfl, ?_⟩
  rintro a b ⟨z, _, rfl⟩ ⟨zs, hz, rfl⟩
  exact ⟨z :: zs, by simp [hz]; omega, rfl⟩
def Ms : List (List T → Prop) → List T → Prop
  | [], ts => ts = []
  | M :: r, ts => ∃ a b, ts = a ++ b ∧ M a ∧ Ms r b
theorem Parts.mnil {P : Program} {off : Nat} : Parts P [] off 0 (Ms []) := ⟨rfl, rfl⟩
theorem Parts.mcons {P : Program} {f : Field} {r : List Field} {off n1 n : Nat} {M : List T → Prop} {l : List (List T → Prop)} (ho : f.offset = off) (hc : P.cellsOf f.type = n1) (ht : Opens P f.type n1 M) (h : Parts P r (off + n1) n (Ms l)) :
    Parts P (f :: r) off (n1 + n) (Ms (M :: l)) :=
  ⟨ho, n1, n, _, _, hc, ht, h, rfl, fun a b ha hb => ⟨a, b, rfl, ha, hb⟩⟩

theorem rows_map {α : Type} {f : α → List T} {p : α → Prop} {rows : List (List T)} (h : ∀ r ∈ rows, ∃ x, p x ∧ r = f x) : ∃ l : List α, rows = l.map f ∧ ∀ x ∈ l, p x := by
  induction rows with
  | nil => exact ⟨[], rfl, by simp⟩
  | cons r rows ih =>
    obtain ⟨x, hx, rfl⟩ := h r (by simp)
    obtain ⟨l, rfl, hl⟩ := ih fun q hq => h q (by simp [hq])
    exact ⟨x :: l, rfl, by simpa using ⟨hx, hl⟩⟩
theorem weights_all {P : Program} {H : Type} {e : TypeId} {d : DataW H} : ∀ {l : List (DataW H)}, d ∈ l → ∀ m ∈ d.weights P e, m ∈ DataW.weightsAll P e l
  | a :: r, hd, m, hm => by
    simp only [DataW.weightsAll, List.mem_append]
    rcases List.mem_cons.1 hd with rfl | hd
    · exact .inl hm
    · exact .inr (weights_all hd m hm)
theorem Opens.slice {P : Program} {t e : TypeId} {sz B : Nat} {M : List T → Prop} (ht : P.underlying t = some (.slice e)) (hc : P.cellsOf e = sz) (hB : P.bytesOf e = B) (hsz : 0 < sz) (hE : Opens P e sz M) :
    Opens P t 1 (fun ts => ∃ rows, ts = [.sl sz rows] ∧ (∀ x ∈ rows, M x) ∧ rows.length * B ≤ reachBytes) := by
  intro H enc w base sp held fuel cs0 x hx hw
  rcases DataW.trod_slice ht hx with ⟨rfl, _⟩ | ⟨a, len, cap, elems, rest, n, _, rfl, rfl, _, hl, _, hlen, hel, _⟩
  · exact ⟨rfl, _, rfl, ⟨[], rfl, by simp, by simp⟩, one_ow .nil⟩
  · have hw1 : (elems.length + rest.length) * B ≤ reachBytes := by
      have := hw ((elems.length + rest.length) * P.bytesOf e) (by simp [DataW.weights, ht])
      rwa [hB] at this
    have hcell : ∀ i : Nat, ∃ q : List Value × List T, i < len → q.1.length = sz ∧ q.2.length = sz ∧ M q.2 ∧ (∀ j, j < sz → w.cell? ((a.add (i * sz)).add j) = q.1[j]?) ∧
        ∀ (j : Nat) v t', q.1[j]? = some v → q.2[j]? = some t' → Ow (fun k => k < w.heap.size) w 0 v t' none_ := by
      intro i
      by_cases hi : i < len
      · have hy : elems[i]? = some (elems[i]'(by omega)) := List.getElem?_eq_getElem (by omega)
        have h1 := hel i hi
        rw [hy, hc, Option.bind_eq_some_iff] at h1
        obtain ⟨cs, hcs, htr⟩ := h1
        obtain ⟨k1, ts, k2, k3, k4⟩ := hE H enc w base sp held n cs _ htr (by
          intro m hm
          refine hw m ?_
          have := weights_all (P := P) (e := e) (l := elems.map (·.1)) (List.mem_map_of_mem (List.getElem_mem (by omega : i < elems.length))) m hm
          simp [DataW.weights, ht, this])
        obtain ⟨_, g1, g2⟩ := World.cells?_some hcs
        exact ⟨(cs, ts), fun _ => ⟨k1, k2, k3, g2, k4⟩⟩
      · exact ⟨([], []), fun h => absurd h hi⟩
    obtain ⟨c, hc2⟩ := Classical.axiomOfChoice hcell
    have hblk : 0 < len → a.block < w.heap.size := by
      intro h0
      obtain ⟨k1, k2, k3, k4, k5⟩ := hc2 0 h0
      have h1 := k4 0 hsz
      have h2 : (c 0).1[0]? = some ((c 0).1[0]'(by omega)) := List.getElem?_eq_getElem (by omega)
      rw [h2] at h1
      by_cases hlt : a.block < w.heap.size
      · exact hlt
      · unfold World.cell? at h1
        rw [add_block, add_block, Array.getElem?_eq_none (by omega)] at h1
        simp at h1
    have hat : ∀ i j t', cellT ((List.range len).map fun i => (c i).2) i j = some t' → i < len ∧ (c i).2[j]? = some t' := by
      intro i j t' h'
      unfold cellT at h'
      rw [List.getElem?_map] at h'
      by_cases hi : i < len
      · have hr : (List.range len)[i]? = some i := by simp [hi]
        rw [hr] at h'
        exact ⟨hi, by simpa using h'⟩
      · have hr : (List.range len)[i]? = none := by simp; omega
        rw [hr] at h'
        simp at h'
    refine ⟨rfl, [.sl sz ((List.range len).map fun i => (c i).2)], rfl, ⟨_, rfl, ?_, ?_⟩, one_ow ?_⟩
    · intro x hx
      obtain ⟨i, hi, rfl⟩ := List.mem_map.1 hx
      exact (hc2 i (List.mem_range.1 hi)).2.2.1
    · rw [List.length_map, List.length_range]
      exact Nat.le_trans (Nat.mul_le_mul_right _ (by omega)) hw1
    · have hro := Ow.ro (Z := fun k => k < w.heap.size) (w := w) (a := a) (c := cap) (rows := (List.range len).map fun i => (c i).2) (sz := sz) (fun i j => (c i).1.getD j undef) (by simpa using hl)
        (by
          intro r hr
          obtain ⟨i, hi, rfl⟩ := List.mem_map.1 hr
          exact (hc2 i (List.mem_range.1 hi)).2.1) (fun hne => hblk (by
            rcases Nat.eq_zero_or_pos len with h0 | h0
            · subst h0; exact absurd rfl hne
            · exact h0))
        (by
          intro i j t' h'
          obtain ⟨hi, hj⟩ := hat i j t' h'
          obtain ⟨k1, k2, k3, k4, k5⟩ := hc2 i hi
          have hj' : j < sz := by rw [← k2]; exact (List.getElem?_eq_some_iff.1 hj).1
          rw [← Addr.add_add, k4 j hj', List.getElem?_eq_getElem (by omega)]
          simp [List.getD, show j < (c i).1.length by omega])
        (by
          intro i j t' h'
          obtain ⟨hi, hj⟩ := hat i j t' h'
          obtain ⟨k1, k2, k3, k4, k5⟩ := hc2 i hi
          have hj' : j < sz := by rw [← k2]; exact (List.getElem?_eq_some_iff.1 hj).1
          refine k5 j _ t' ?_ hj
          rw [List.getElem?_eq_getElem (by omega)]
          simp [List.getD, show j < (c i).1.length by omega])
      simpa using hro
theorem Opens.one {P : Program} {t : TypeId} {M : List T → Prop} (h : Opens P t 1 M) {H : Type} {enc : TypeId × Value → H} {w : World} {base : Nat} {sp : Nat → Bool} {held : Bool} {v : Value} {d : DataW H} {ps : List MemPlace}
    (hv : v.cells.toList = [v]) (hd : DataW.Trod enc P w base sp held t v d ps) (hw : ∀ m ∈ d.weights P t, m ≤ reachBytes) : ∃ t', M [t'] ∧ Ow (fun k => k < w.heap.size) w 0 v t' none_ := by
  obtain ⟨fuel, hf⟩ := hd
  rw [hv] at hf
  obtain ⟨_, ts, h1, h2, h3⟩ := h H enc w base sp held fuel _ _ hf hw
  obtain ⟨t', rfl⟩ := List.length_eq_one_iff.1 h1
  exact ⟨t', h2, h3 0 v t' rfl rfl⟩
end Go.Proofs.YtldndahfnkbngaaGreat.Abs
namespace Go.Proofs.YtldndahfnkbngaaGreat.Abs
open Go Go.RowKit
set_option linter.unusedVariables false

theorem Ow.slice_inv {Z : Fp} {w : World} {v : Value} {sz : Nat} {rows : List (List T)} {F : Fp} {l : Nat} (h : Ow Z w l v (.sl sz rows) F) :
    (v = .slice none 0 0 ∧ rows = []) ∨ ∃ a c, v = .slice (some a) rows.length c ∧ rows.length ≤ c := by
  cases h with
  | nil => exact .inl ⟨rfl, rfl⟩
  | ro xs hc hs hz hx ht => exact .inr ⟨_, _, rfl, hc⟩
  | own xs F hb hfr hc hoff hmax hs hx ht hF hnb hd => exact .inr ⟨_, _, rfl, hc⟩
theorem arg_slice {Z : Fp} {w : World} {ob : Objs} {ρ : Nat → Value} {o sz : Nat} {rows : List (List T)} {v : Value} (h1 : ob o = ⟨0, 0, false, .tree 0 (.sl sz rows)⟩) (h2 : ρ o = v) (h3 : Ow Z w 0 v (.sl sz rows) none_) :
    AVR w ob ρ (.h o 0 0 [] sz 0 rows.length) v := by
  have hin := h3.slice_inv
  refine .h ?_ ?_ fun _ => ?_
  · rw [h1]; exact ⟨Nat.le_refl _, fun _ h => absurd rfl h⟩
  · rcases hin with ⟨rfl, rfl⟩ | ⟨a, c, rfl, hc⟩
    · exact ⟨none, 0, rfl, Nat.le_refl _, fun _ => rfl⟩
    · exact ⟨some a, c, rfl, hc, fun h => by cases h⟩
  · rw [h1, h2]
    refine ⟨fun cells h => by (dsimp only at h; cases h), fun lvl t hc => ?_⟩
    dsimp only at hc
    cases hc
    refine ⟨v, rows, .here, by omega, ?_⟩
    rcases hin with ⟨rfl, rfl⟩ | ⟨a, c, rfl, hc⟩
    · exact .inl ⟨rfl, rfl, rfl, rfl⟩
    · refine .inr ⟨a, rows.length, c, 0, c, rfl, ?_, hc, by omega, Nat.le_refl _, fun _ => rfl⟩
      rw [Nat.zero_mul]
      cases a with
      | mk b off s => cases s <;> simp [Addr.add]
theorem FnOk.outside {P : Program} {W : World} {f : FuncId} {args : List AV} {conts : List Cont} {r : Res} (h : FnOk P f args conts r) (vals : List Value)
    (ho : ∀ (i : Nat) c, conts[i]? = some c → ∃ t v, c = .tree 0 t ∧ vals[i]? = some v ∧ Ow (fun k => k < W.heap.size) W 0 v t none_) (vs : Array Value) (hs : vs.size = args.length)
    (hA : ∀ (i : Nat) x, args[i]? = some x → AVR W (obIn conts) (fun o => vals.getD (o - 1000000) undef) x (vs.getD i undef)) :
    Calls P f vs W (fun e w' => ∃ v, e = .returned v ∧ Below W.heap.size W w' ∧ ∃ ob' ρ', AVR w' ob' ρ' r.v v) := by
  have hI : OInv W none_ (obIn conts) W (fun o => vals.getD (o - 1000000) undef) (fun _ => none_) (fun k => k < W.heap.size) := by
    refine ⟨Keep.refl _ _, fun k hk _ => hk, fun k hk => hk, fun o k hk => hk.elim, fun o o' k hk => hk.elim, fun o k hk => hk.elim, fun o => ?_⟩
    unfold ObOk
    by_cases h1 : 1000000 ≤ o
    · simp only [obIn, h1, if_true]
      cases hc : conts[o - 1000000]? with
      | none =>
        have e : conts.getD (o - 1000000) .dead = .dead := by simp [List.getD, hc]
        rw [e]
        exact fun k hk => hk
      | some c =>
        obtain ⟨t, v, rfl, hv, how⟩ := ho _ _ hc
        have e : conts.getD (o - 1000000) .dead = .tree 0 t := by simp [List.getD, hc]
        have e2 : vals.getD (o - 1000000) undef = v := by simp [List.getD, hv]
        rw [e, e2]
        exact how
    · simp only [obIn, h1, if_false]
      exact fun k hk => hk
  have hr := h.run W none_ _ _ _ vs hI (fun k _ hk => hk) hs hA
  intro cs
  obtain ⟨e, w', fr, hR, hC, hfn, hl⟩ := hr cs
  refine ⟨e, w', fr, ?_, hC, hfn, hl⟩
  cases e with
  | returned v =>
    obtain ⟨ρ', φ', Z', hst, hav⟩ := hR
    exact ⟨v, rfl, ⟨hst.inv.keep.os, hst.inv.keep.tape, hst.inv.keep.output, hst.inv.keep.size, fun k hk => hst.inv.keep.block k hk id⟩, _, _, hav⟩
  | _ => exact hR.elim
theorem AVR.bool_inv {w : World} {ob : Objs} {ρ : Nat → Value} {b : Bool} {v : Value} (h : AVR w ob ρ (.s (.bool b)) v) : v = .bool b := by
  cases h; rfl
end Go.Proofs.YtldndahfnkbngaaGreat.Abs
