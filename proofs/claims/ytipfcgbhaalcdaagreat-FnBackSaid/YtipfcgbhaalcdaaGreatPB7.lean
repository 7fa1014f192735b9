/- FnBack returns true for every input, and leaves its arguments as they read. Conditions: none beside the row's own. -/
import Derived.ChangeSame
import Derived.SizedLaws
import Derived.DataReads
import Derived.Carry
import Derived.WideShapes
import Derived.KernelRfl
import Derived.Test.YtipfcgbhaalcdaaGreatRows
import Derived.WalkKit
import Derived.ProofKit
import Derived.OpenShut
import Derived.ShutString
import Derived.ChangeOld
import Derived.Below
import Derived.Test.YtipfcgbhaalcdaaGreatPB6
namespace Go.Proofs.YtipfcgbhaalcdaaGreat.Abs
open Go Go.Proofs
set_option linter.unusedVariables false
set_option linter.unusedSimpArgs false
attribute [local irreducible] callE
theorem sCall.long {x : Option Res} {y : Int} {F : Res → Prop} (e : Told x (fun r => ∃ n : Int, 0 ≤ n ∧ n ≤ y ∧ r = ⟨i64 n, [], [none]⟩)) (h : ∀ n : Int, 0 ≤ n → n ≤ y → F ⟨i64 n, [], [none]⟩) : sCall x F :=
  sCall.ex e fun r hr => by obtain ⟨n, h1, h2, rfl⟩ := hr; exact h n h1 h2
set_option maxRecDepth 20000 in
set_option maxHeartbeats 4000000 in
theorem ok_spec_l6DrawRight (k : Nat) (b : List Int) (i h : Int) (hb : Bytes b) (h0 : 0 ≤ i := by assumption) (h1 : i ≤ b.length := by assumption) :
    Told (callE PR C (k + 11) 140 [.pt 1000001 0 0 [] 0 0, .h 1000002 0 0 [] 1 0 b.length] [tB b, tCur b i h, tB b]) (DSys b Rt [none]) := by
  have hbl := hb.len
  (refine callE_w [ResultVar.cell 4 29] rfl Tryz.func140 rfl (by decide +kernel) rfl (by simp) ?_; (conv => whnf))
  repeat' ((with_reducible (first | refine sCall.long (ok_spec_l1Long _ b 25 70 hbl ⟨by decide, by decide⟩ ⟨by decide, by decide⟩) (fun _ _ _ => ?_)|refine st18 ?_|refine fG.split (fun _ => ?_) (fun _ => ?_)|refine fG.bool (fun _ => ?_) (fun _ => ?_))) <;> (try (conv => whnf)))
  rename_i n hn0 hn1
  repeat' ((with_reducible (first | (refine sCall.ex (ok_spec_l6DrawRun _ b i h n hb ⟨hn0, by omega⟩) ?_)|refine st18 ?_|refine fG.split (fun _ => ?_) (fun _ => ?_)|refine fG.bool (fun _ => ?_) (fun _ => ?_))) <;> (try (conv => whnf)))
  rintro _ ⟨P, S, W, H, l, i', h', hR, hl, ⟨e1, e2⟩, rfl | ⟨P', S', W', H', hR', rfl⟩⟩
  · (conv => whnf)
    repeat' ((with_reducible (first | refine st18 ?_|refine fG.split (fun _ => ?_) (fun _ => ?_)|refine fG.bool (fun _ => ?_) (fun _ => ?_))) <;> (try (conv => whnf)))
    exact ⟨_, _, _, _, _, _, hR, e1, e2, rfl⟩
  · (conv => whnf)
    repeat' ((with_reducible (first | refine st18 ?_|refine fG.split (fun _ => ?_) (fun _ => ?_)|refine fG.bool (fun _ => ?_) (fun _ => ?_))) <;> (try (conv => whnf)))
    exact ⟨_, _, _, _, _, _, hR', e1, e2, rfl⟩
theorem cons_rItem (l : List Item) (a : Bool) (v : Int) : [[T.v (.bool a), .v (.int .i64 v)]] ++ l.map rItem = ((⟨a, v⟩ : Item) :: l).map rItem := rfl
theorem gI19 {p A : Prop} (h : A) (e : p := by first | with_reducible assumption | omega | (simp only [Nat.zero_add, Nat.add_zero, Nat.sub_zero, Int.toNat_natCast, Int.toNat_zero, Int.toNat_one, List.length_map, List.length_nil, Int.reduceToNat, Nat.reduceAdd, Nat.reduceSub, Int.sub_zero, Int.reduceAdd, Int.reduceSub, Nat.sub_self, Int.toNat_natCast_add_one, marks_len, bs_len, List.length_append, List.length_cons, List.length_set, List.length_replicate, List.length_range]; first | done | omega)) : sI p A := sI.mk e h
theorem gNum19 {r r' : Nat} {F : Nat → Prop} (h : F r') (e : r = r' := by first | (simp only [Nat.zero_add, Nat.add_zero, Nat.sub_zero, Int.toNat_natCast, Int.toNat_zero, Int.toNat_one, List.length_map, List.length_nil, Int.reduceToNat, Nat.reduceAdd, Nat.reduceSub, Int.sub_zero, Int.reduceAdd, Int.reduceSub, Nat.sub_self, Int.toNat_natCast_add_one, marks_len, bs_len]; rfl) | rfl) : sN r F := sN.eq e h
theorem gRow19 {r r' : List (List T)} {F : List (List T) → Prop} (h : F r') (e : r = r' := by first | (simp only [Nat.add_zero, Nat.zero_add, Nat.reduceAdd, List.drop_zero, List.take_succ_cons, List.take_nil, List.drop_succ_cons, List.drop_nil, List.take_zero, List.nil_append, List.append_nil, List.map_nil, drop_suf, take_pre, drop_map, List.take_length, take_len_set, take_len_app, List.set_set, List.length_map, cons_rItem, one_rIns, cons_rIns, one_rI, cons_rI, snoc_new, snoc_rItem, snoc_rInsL, snoc_rItemL, snoc_rEventL, snoc_rState, set_rWho, rep_rWho, snoc_rWho, set_rState, rep_rState, set_rInsL, rep_rInsL, set_rItemL, rep_rItemL, set_rEventL, rep_rEventL, set_rItem, rep_rItem, rep_rKept, marks_take, set_rKept, set_rIns, rep_rIns, set_rEvent, rep_rEvent, snoc_rKept, snoc_rEvent, snoc_rIns, bytesT_bs, snoc_rI, snoc_rB, snoc_rBool, set_rI, set_rBool, rep_rI, rep_rBool, map_app]; rfl) | rfl) : sR r F := sR.eq e h
theorem st19 {P Q : Prop} (h : Q) (e : Q → P := by with_reducible first | exact fun h => gP h | exact fun h => gN h | exact fun h => fG.not h | exact fun h => gY h | exact fun h => gF h | exact fun h => fG.yes (flat_map (fun _ => rfl) _) h | exact fun h => gS64 h | exact fun h => gU8 h | exact fun h => gI19 h | exact fun h => fE.of rfl h | exact fun h => gNum19 h | exact fun h => gSet h | exact fun h => gRd h | exact fun h => gLk h | exact fun h => gRow19 h | exact fun h => gRf4 h) : P := e h
theorem mem_rd {α : Type} [Inhabited α] {l : List α} {x : α} (h : x ∈ l) : ∃ j, j < l.length ∧ rd l j = x := by
  obtain ⟨i, hi, rfl⟩ := List.mem_iff_getElem.1 h
  exact ⟨i, hi, by simp [rd, hi]⟩
theorem SysB.all {B : Nat} {P : List (List Ins)} {S : List State} {W : List (List Item)} {H : List (List Event)} (h : SysB B P S W H) : (∀ x ∈ P, x.length ≤ B) ∧ (∀ x ∈ S, x.regs.length ≤ B ∧ x.out.length ≤ B) ∧ (∀ x ∈ W, x.length ≤ B) ∧ ∀ x ∈ H, x.length ≤ B := by
  refine ⟨fun x hx => ?_, fun x hx => ?_, fun x hx => ?_, fun x hx => ?_⟩
  · obtain ⟨j, hj, rfl⟩ := mem_rd hx; exact h.pp j hj
  · obtain ⟨j, hj, rfl⟩ := mem_rd hx; exact h.ss j hj
  · obtain ⟨j, hj, rfl⟩ := mem_rd hx; exact h.ww j hj
  · obtain ⟨j, hj, rfl⟩ := mem_rd hx; exact h.hh j hj
theorem SysB.mk' {B : Nat} {P : List (List Ins)} {S : List State} {W : List (List Item)} {H : List (List Event)} (h1 : (P.length ≤ B ∧ S.length ≤ B) ∧ W.length ≤ B ∧ H.length ≤ B) (h2 : (∀ x ∈ P, x.length ≤ B) ∧ (∀ x ∈ S, x.regs.length ≤ B ∧ x.out.length ≤ B) ∧ (∀ x ∈ W, x.length ≤ B) ∧ ∀ x ∈ H, x.length ≤ B) : SysB B P S W H :=
  ⟨h1.1.1, fun _ hj => h2.1 _ (rd_mem hj), h1.1.2, fun _ hj => h2.2.1 _ (rd_mem hj), h1.2.1, fun _ hj => h2.2.2.1 _ (rd_mem hj), h1.2.2, fun _ hj => h2.2.2.2 _ (rd_mem hj)⟩
theorem all_set {α : Type} {l : List α} {i : Nat} {y : α} {p : α → Prop} (h : ∀ x ∈ l, p x) (hy : p y) : ∀ x ∈ l.set i y, p x := by
  intro x hx
  rcases List.mem_or_eq_of_mem_set hx with h1 | h1
  · exact h x h1
  · rw [h1]; exact hy
theorem dsys_mk {b : List Int} {P : List (List Ins)} {S : List State} {W : List (List Item)} {H : List (List Event)} {i h : Int} {n0 n1 n2 n3 : Nat} (hB : SysB 2000000 P S W H) (e0 : P.length = n0) (e1 : S.length = n1) (e2 : W.length = n2) (e3 : H.length = n3) (h0 : 0 ≤ i) (h1 : i ≤ b.length) :
    DSys b (SysB 2000000) [none] ⟨.ag [.h 2000000 1 0 [] 1 0 n0, .h 2000001 1 0 [] 4 0 n1, .h 2000002 1 0 [] 1 0 n2, .h 2000003 1 0 [] 1 0 n3], [tInsSS9 P, tStateS9 S, tItemSS9 W, tEventSS9 H], [none, some (tCur b i h), none]⟩ := by
  subst e0 e1 e2 e3
  exact ⟨P, S, W, H, i, h, hB, h0, h1, rfl⟩
set_option maxRecDepth 20000 in
set_option maxHeartbeats 8000000 in
theorem ok_spec_l6Draw (k : Nat) (b : List Int) (i h : Int) (hb : Bytes b) (h0 : 0 ≤ i := by assumption) (h1 : i ≤ b.length := by assumption) :
    Told (callE PR C (k + 12) 154 [.pt 1000001 0 0 [] 0 0, .h 1000002 0 0 [] 1 0 b.length] [tB b, tCur b i h, tB b]) (DSys b (SysB 2000000) [none]) := by
  have hbl := hb.len
  (refine callE_w [ResultVar.cell 4 29] rfl Tryz.func154 rfl (by decide +kernel) rfl (by simp) ?_; (conv => whnf))
  repeat' ((with_reducible (first | refine sCall.dsys (ok_spec_l6DrawRight _ _ _ _ hb) (fun _ _ _ _ _ _ _ _ _ => ?_)|refine st19 ?_|refine fG.split (fun _ => ?_) (fun _ => ?_)|refine fG.bool (fun _ => ?_) (fun _ => ?_)|refine gD 9 [(1, 9), (4, 9), (7, 9), (1, 11), (4, 11), (7, 11), (1, 13), (4, 13), (7, 13), (1, 15), (4, 15), (7, 15), (1, 16)] ?_|refine gD 12 [(1, 9), (4, 9), (7, 9), (1, 11), (4, 11), (7, 11), (1, 13), (4, 13), (7, 13), (1, 14)] ?_|refine gD 16 [(1, 4)] ?_|refine gD 19 [(1, 4), (4, 6), (4, 9), (1, 10)] ?_)) <;> (try (conv => whnf)))
  rename_i P S W H i1 h1' hR a1 a2
  have hB := hR.B
  have q1 := fun k => ok_spec_l1Max k (P.length : Int) 1
  by_cases c0 : P.length = 0
  · rw [if_neg (by omega)] at q1
    repeat' ((with_reducible (first | refine sCall.of (q1 _) ?_|refine sCall.cur (ok_Below _ _ _ _ _ hb) (fun _ _ _ _ _ _ _ => ?_)|refine st19 ?_|refine fG.split (fun _ => ?_) (fun _ => ?_)|refine fG.bool (fun _ => ?_) (fun _ => ?_)|refine gD 9 [(1, 9), (4, 9), (7, 9), (1, 11), (4, 11), (7, 11), (1, 13), (4, 13), (7, 13), (1, 15), (4, 15), (7, 15), (1, 16)] ?_|refine gD 12 [(1, 9), (4, 9), (7, 9), (1, 11), (4, 11), (7, 11), (1, 13), (4, 13), (7, 13), (1, 14)] ?_|refine gD 16 [(1, 4)] ?_|refine gD 19 [(1, 4), (4, 6), (4, 9), (1, 10)] ?_)) <;> (try (conv => whnf)))
    exact ⟨_, _, _, _, _, _, hB.mono (by decide), by assumption, by assumption, rfl⟩
  · have hs : sysOk P S W H = true := by
      rcases hR with h | ⟨⟨rfl, rfl⟩, rfl, rfl⟩
      · exact h
      · exact absurd rfl c0
    obtain ⟨hI, _, _, _⟩ := sysOk_facts hs
    have hN := hI.n
    have hsl := hI.s
    have hhl := hI.h
    have hwl : 1 ≤ W.length ∧ W.length ≤ 16 := by
      rw [hI.w]
      have := Nat.mul_le_mul hN.2 hN.2
      have := Nat.mul_le_mul hN.1 hN.1
      omega
    have hn : (if (1 : Int) < (P.length : Int) then (P.length : Int) else 1) = (P.length : Int) := by split <;> omega
    rw [hn] at q1
    have qb := fun k => ok_Below k b i1 h1' (P.length : Int) hb
    repeat' ((with_reducible (first | refine sCall.of (q1 _) ?_|refine sCall.cur (qb _) (fun _ _ _ _ _ _ _ => ?_)|refine st19 ?_|refine fG.split (fun _ => ?_) (fun _ => ?_)|refine fG.bool (fun _ => ?_) (fun _ => ?_)|refine gD 9 [(1, 9), (4, 9), (7, 9), (1, 11), (4, 11), (7, 11), (1, 13), (4, 13), (7, 13), (1, 15), (4, 15), (7, 15), (1, 16)] ?_|refine gD 12 [(1, 9), (4, 9), (7, 9), (1, 11), (4, 11), (7, 11), (1, 13), (4, 13), (7, 13), (1, 14)] ?_|refine gD 16 [(1, 4)] ?_|refine gD 19 [(1, 4), (4, 6), (4, 9), (1, 10)] ?_)) <;> (try (conv => whnf)))
    rename_i x i2 h2 x0 x1 e1 e2
    obtain ⟨p, rfl⟩ : ∃ n : Nat, x = (n : Int) := ⟨x.toNat, by omega⟩
    have hpP : p < P.length := by omega
    have f1 := (procF_of hs hpP).ok.regs
    have f2 := hB.hh p (by omega)
    have f3 : ∀ w : Int, 0 ≤ w → w ≤ (W.length : Int) - 1 → (rd W w.toNat).length ≤ 1048576 := fun w h0 h1 => hB.ww w.toNat (by omega)
    have qc := fun k => ok_Below k b i2 h2 25 hb
    have hM := hB.mono (show 1048576 ≤ 2000000 by decide)
    obtain ⟨m1, m2, m3, m4⟩ := hM.all
    repeat' ((with_reducible (first | refine sCall.cur (qc _) (fun _ _ _ _ _ _ _ => ?_)|refine st19 ?_|refine fG.split (fun _ => ?_) (fun _ => ?_)|refine fG.bool (fun _ => ?_) (fun _ => ?_)|refine gD 9 [(1, 9), (4, 9), (7, 9), (1, 11), (4, 11), (7, 11), (1, 13), (4, 13), (7, 13), (1, 15), (4, 15), (7, 15), (1, 16)] ?_|refine gD 12 [(1, 9), (4, 9), (7, 9), (1, 11), (4, 11), (7, 11), (1, 13), (4, 13), (7, 13), (1, 14)] ?_|refine gD 16 [(1, 4)] ?_|refine gD 19 [(1, 4), (4, 6), (4, 9), (1, 10)] ?_)) <;> (try (conv => whnf)))
    · exact dsys_mk (S := S.set p ⟨(rd S p).at_, (rd S p).regs.set 1 5, (rd S p).out, (rd S p).code⟩) (SysB.mk' ⟨⟨hM.p, by simp; exact hM.s⟩, hM.w, hM.h⟩ ⟨m1, all_set m2 (by have := m2 _ (rd_mem (l := S) (n := p) (by omega)); simpa using this), m3, m4⟩) rfl (by simp) rfl rfl (by assumption) (by assumption)
    · repeat' ((with_reducible (first | refine sCall.cur (ok_Below _ _ _ _ _ hb) (fun _ _ _ _ _ _ _ => ?_)|refine gHole ?_|refine st19 ?_|refine fG.split (fun _ => ?_) (fun _ => ?_)|refine fG.bool (fun _ => ?_) (fun _ => ?_)|refine gD 9 [(1, 9), (4, 9), (7, 9), (1, 11), (4, 11), (7, 11), (1, 13), (4, 13), (7, 13), (1, 15), (4, 15), (7, 15), (1, 16)] ?_|refine gD 12 [(1, 9), (4, 9), (7, 9), (1, 11), (4, 11), (7, 11), (1, 13), (4, 13), (7, 13), (1, 14)] ?_|refine gD 16 [(1, 4)] ?_|refine gD 19 [(1, 4), (4, 6), (4, 9), (1, 10)] ?_)) <;> (try (conv => whnf)))
      exact dsys_mk (SysB.mk' ⟨⟨hM.p, hM.s⟩, hM.w, by simp; exact hM.h⟩ ⟨m1, m2, m3, all_set m4 (by simp; omega)⟩) rfl rfl rfl (by simp) (by assumption) (by assumption)
    · repeat' ((with_reducible (first | refine sCall.cur (ok_Below _ _ _ _ _ hb) (fun _ _ _ _ _ _ _ => ?_)|refine st19 ?_|refine fG.split (fun _ => ?_) (fun _ => ?_)|refine fG.bool (fun _ => ?_) (fun _ => ?_)|refine gD 9 [(1, 9), (4, 9), (7, 9), (1, 11), (4, 11), (7, 11), (1, 13), (4, 13), (7, 13), (1, 15), (4, 15), (7, 15), (1, 16)] ?_|refine gD 12 [(1, 9), (4, 9), (7, 9), (1, 11), (4, 11), (7, 11), (1, 13), (4, 13), (7, 13), (1, 14)] ?_|refine gD 16 [(1, 4)] ?_|refine gD 19 [(1, 4), (4, 6), (4, 9), (1, 10)] ?_)) <;> (try (conv => whnf)))
      rename_i w i4 h4 w0 w1 e3 e4
      have f4 := f3 w w0 w1
      repeat' ((with_reducible (first | refine sCall.cur (ok_Below _ _ _ _ _ hb) (fun _ _ _ _ _ _ _ => ?_)|refine sCall.curB (ok_spec_l1Once _ _ _ _ _ hb) (fun _ _ _ _ _ => ?_)|refine gHole ?_|refine st19 ?_|refine fG.split (fun _ => ?_) (fun _ => ?_)|refine fG.bool (fun _ => ?_) (fun _ => ?_)|refine gD 9 [(1, 9), (4, 9), (7, 9), (1, 11), (4, 11), (7, 11), (1, 13), (4, 13), (7, 13), (1, 15), (4, 15), (7, 15), (1, 16)] ?_|refine gD 12 [(1, 9), (4, 9), (7, 9), (1, 11), (4, 11), (7, 11), (1, 13), (4, 13), (7, 13), (1, 14)] ?_|refine gD 16 [(1, 4)] ?_|refine gD 19 [(1, 4), (4, 6), (4, 9), (1, 10)] ?_)) <;> (try (conv => whnf)))
      exact dsys_mk (SysB.mk' ⟨⟨hM.p, hM.s⟩, by simp; omega, hM.h⟩ ⟨m1, m2, all_set m3 (by simp; omega), m4⟩) rfl rfl (by simp) rfl (by assumption) (by assumption)
    · exact dsys_mk (SysB.mk' ⟨⟨hM.p, hM.s⟩, by simp; omega, hM.h⟩ ⟨m1, m2, fun x hx => m3 x (List.mem_of_mem_drop (List.mem_of_mem_take hx)), m4⟩) rfl rfl (by simp) rfl (by assumption) (by assumption)
    · repeat' ((with_reducible (first | refine sCall.prog (ok_spec_l1DrawAny _ _ _ _ hb) (fun _ _ _ _ _ _ _ => ?_)|refine st19 ?_|refine fG.split (fun _ => ?_) (fun _ => ?_)|refine fG.bool (fun _ => ?_) (fun _ => ?_)|refine gD 9 [(1, 9), (4, 9), (7, 9), (1, 11), (4, 11), (7, 11), (1, 13), (4, 13), (7, 13), (1, 15), (4, 15), (7, 15), (1, 16)] ?_|refine gD 12 [(1, 9), (4, 9), (7, 9), (1, 11), (4, 11), (7, 11), (1, 13), (4, 13), (7, 13), (1, 14)] ?_|refine gD 16 [(1, 4)] ?_|refine gD 19 [(1, 4), (4, 6), (4, 9), (1, 10)] ?_)) <;> (try (conv => whnf)))
      exact dsys_mk (SysB.mk' ⟨⟨by simp; omega, hM.s⟩, hM.w, hM.h⟩ ⟨all_set m1 (by omega), m2, m3, m4⟩) (by simp) rfl rfl rfl (by assumption) (by assumption)
    · repeat' ((with_reducible (first | refine sCall.cur (ok_Below _ _ _ _ _ hb) (fun _ _ _ _ _ _ _ => ?_)|refine st19 ?_|refine fG.split (fun _ => ?_) (fun _ => ?_)|refine fG.bool (fun _ => ?_) (fun _ => ?_)|refine gD 9 [(1, 9), (4, 9), (7, 9), (1, 11), (4, 11), (7, 11), (1, 13), (4, 13), (7, 13), (1, 15), (4, 15), (7, 15), (1, 16)] ?_|refine gD 12 [(1, 9), (4, 9), (7, 9), (1, 11), (4, 11), (7, 11), (1, 13), (4, 13), (7, 13), (1, 14)] ?_|refine gD 16 [(1, 4)] ?_|refine gD 19 [(1, 4), (4, 6), (4, 9), (1, 10)] ?_)) <;> (try (conv => whnf)))
      rename_i w i4 h4 w0 w1 e3 e4
      have f4 := f3 w w0 w1
      repeat' ((with_reducible (first | refine gHole ?_|refine st19 ?_|refine fG.split (fun _ => ?_) (fun _ => ?_)|refine fG.bool (fun _ => ?_) (fun _ => ?_)|refine gD 9 [(1, 9), (4, 9), (7, 9), (1, 11), (4, 11), (7, 11), (1, 13), (4, 13), (7, 13), (1, 15), (4, 15), (7, 15), (1, 16)] ?_|refine gD 12 [(1, 9), (4, 9), (7, 9), (1, 11), (4, 11), (7, 11), (1, 13), (4, 13), (7, 13), (1, 14)] ?_|refine gD 16 [(1, 4)] ?_|refine gD 19 [(1, 4), (4, 6), (4, 9), (1, 10)] ?_)) <;> (try (conv => whnf)))
      exact dsys_mk (SysB.mk' ⟨⟨hM.p, hM.s⟩, by simp; omega, hM.h⟩ ⟨m1, m2, all_set m3 (by simp; omega), m4⟩) rfl rfl (by simp) rfl (by assumption) (by assumption)
    · exact dsys_mk hM rfl rfl rfl rfl (by assumption) (by assumption)

def DSys2 (r : Res) : Prop := ∃ (P : List (List Ins)) (S : List State) (W : List (List Item)) (H : List (List Event)) (p k : Int), SysB 2000000 P S W H ∧ r = ⟨.tu [nSys 0 P S W H, i64 p, i64 k], [tInsSS9 P, tStateS9 S, tItemSS9 W, tEventSS9 H], [none]⟩
def DSys1 (r : Res) : Prop := ∃ (P : List (List Ins)) (S : List State) (W : List (List Item)) (H : List (List Event)) (p : Int), SysB 2000000 P S W H ∧ r = ⟨.tu [nSys 0 P S W H, i64 p], [tInsSS9 P, tStateS9 S, tItemSS9 W, tEventSS9 H], [none]⟩
def DSys0 (r : Res) : Prop := ∃ (P : List (List Ins)) (S : List State) (W : List (List Item)) (H : List (List Event)), SysB 2000000 P S W H ∧ r = ⟨nSys 0 P S W H, [tInsSS9 P, tStateS9 S, tItemSS9 W, tEventSS9 H], [none]⟩
def DSysStop (r : Res) : Prop := ∃ (P : List (List Ins)) (S : List State) (W : List (List Item)) (H : List (List Event)) (p kind v : Int), SysB 2000000 P S W H ∧ r = ⟨.tu [nSys 0 P S W H, aStop p kind v], [tInsSS9 P, tStateS9 S, tItemSS9 W, tEventSS9 H], [none]⟩
theorem sCall.sys2 {x : Option Res} {F : Res → Prop} (e : Told x DSys2) (h : ∀ (P : List (List Ins)) (S : List State) (W : List (List Item)) (H : List (List Event)) (p k : Int), SysB 2000000 P S W H → F ⟨.tu [nSys 0 P S W H, i64 p, i64 k], [tInsSS9 P, tStateS9 S, tItemSS9 W, tEventSS9 H], [none]⟩) : sCall x F :=
  sCall.ex e fun r hr => by obtain ⟨P, S, W, H, p, k, h1, rfl⟩ := hr; exact h P S W H p k h1
set_option maxRecDepth 20000 in
set_option maxHeartbeats 4000000 in
theorem ok_spec_l9DrawAt (k : Nat) (b : List Int) (hb : Bytes b) : Told (callE PR C (k + 13) 77 [.h 1000000 0 0 [] 1 0 b.length] [tB b]) DSys2 := by
  have hbl := hb.len
  have z0 : (0 : Int) ≤ 0 := Int.le_refl 0
  have z1 : (0 : Int) ≤ b.length := by omega
  (refine callE_w [ResultVar.cell 2 29, ResultVar.tmp 3, ResultVar.tmp 4] rfl Tryz.func77 rfl (by decide +kernel) rfl (by simp) ?_; (conv => whnf))
  repeat' ((with_reducible (first | refine sCall.newCur (ok_spec_l1New _ b hb.len hb.num) (fun _ => ?_)|refine st19 ?_|refine fG.split (fun _ => ?_) (fun _ => ?_)|refine fG.bool (fun _ => ?_) (fun _ => ?_))) <;> (try (conv => whnf)))
  rename_i h
  repeat' ((with_reducible (first | refine sCall.dsys (ok_spec_l6Draw _ b 0 h hb z0 z1) (fun _ _ _ _ _ _ _ _ _ => ?_)|refine st19 ?_|refine fG.split (fun _ => ?_) (fun _ => ?_)|refine fG.bool (fun _ => ?_) (fun _ => ?_))) <;> (try (conv => whnf)))
  rename_i P S W H i1 h1 hB a1 a2
  have q1 := fun k => ok_spec_l1Max k (H.length : Int) 1
  have hh := hB.h
  have hn : 1 ≤ (if (1 : Int) < (H.length : Int) then (H.length : Int) else 1) ∧ (if (1 : Int) < (H.length : Int) then (H.length : Int) else 1) ≤ 2000000 := by split <;> omega
  generalize (if (1 : Int) < (H.length : Int) then (H.length : Int) else 1) = n at *
  have qb := fun k => ok_Below k b i1 h1 n hb
  repeat' ((with_reducible (first | refine sCall.of (q1 _) ?_|refine sCall.cur (qb _) (fun _ _ _ _ _ _ _ => ?_)|refine st19 ?_|refine fG.split (fun _ => ?_) (fun _ => ?_)|refine fG.bool (fun _ => ?_) (fun _ => ?_))) <;> (try (conv => whnf)))
  case' refine_1 =>
    rename_i x i2 h2 x0 x1 e1 e2 c1
    have f2 := hB.hh x.toNat (by omega)
    have e4 : (List.map rEvent (rd H x.toNat)).length = (rd H x.toNat).length := by simp
  all_goals repeat' ((with_reducible (first | refine sCall.cur (ok_Below _ _ _ _ _ hb) (fun _ _ _ _ _ _ _ => ?_)|refine sCall.pick (ok_PickInt _ _ _ _ _ hb) (fun _ _ _ _ _ _ => ?_)|refine st19 ?_|refine fG.split (fun _ => ?_) (fun _ => ?_)|refine fG.bool (fun _ => ?_) (fun _ => ?_))) <;> (try (conv => whnf)))
  all_goals exact ⟨_, _, _, _, _, _, hB, rfl⟩
theorem ok_spec_DrawBack (k : Nat) (b : List Int) (hb : Bytes b) : Told (callE PR C (k + 14) 16 [.h 1000000 0 0 [] 1 0 b.length] [tB b]) DSys2 := by
  (refine callE_w [ResultVar.cell 2 29, ResultVar.tmp 3, ResultVar.tmp 4] rfl Tryz.func16 rfl (by decide +kernel) rfl (by simp) ?_; (conv => whnf))
  repeat' ((with_reducible (first | refine sCall.sys2 (ok_spec_l9DrawAt _ _ hb) (fun _ _ _ _ _ _ _ => ?_)|refine st19 ?_|refine fG.split (fun _ => ?_) (fun _ => ?_)|refine fG.bool (fun _ => ?_) (fun _ => ?_))) <;> (try (conv => whnf)))
  exact ⟨_, _, _, _, _, _, by assumption, rfl⟩
def DStop (b : List Int) (r : Res) : Prop := ∃ p kind v i h : Int, 0 ≤ i ∧ i ≤ b.length ∧ r = ⟨aStop p kind v, [], [none, some (tCur b i h), none, none, none, none]⟩
theorem sCall.stop {x : Option Res} {b : List Int} {F : Res → Prop} (e : Told x (DStop b)) (h : ∀ p kind v i h : Int, 0 ≤ i → i ≤ b.length → F ⟨aStop p kind v, [], [none, some (tCur b i h), none, none, none, none]⟩) : sCall x F :=
  sCall.ex e fun r hr => by obtain ⟨p, kind, v, i, h', h1, h2, rfl⟩ := hr; exact h p kind v i h' h1 h2
end Go.Proofs.YtipfcgbhaalcdaaGreat.Abs
namespace Go.Proofs.YtipfcgbhaalcdaaGreat.Abs
open Go Go.Proofs
set_option linter.unusedVariables false
set_option linter.unusedSimpArgs false
attribute [local irreducible] callE
theorem ok_laws_big (k : Nat) (b : List Int) : callE PR C (k + 1) 15 [.h 1000000 0 0 [] 1 0 b.length] [tB b] = some ⟨bl (decide (1048576 < (b.length : Int))), [], [none]⟩ := by
  (refine fnI [ResultVar.tmp 2] Tryz.func15 ?_; conv => whnf)
  repeat' ((with_reducible (first | refine st19 ?_|refine fG.split (fun _ => ?_) (fun _ => ?_)|refine fG.bool (fun _ => ?_) (fun _ => ?_))) <;> (try (conv => whnf)))
  all_goals (try simp [*]; done)

theorem ok_laws_sameEvents (k : Nat) (l : List Event) (hl : l.length ≤ 100000000000) : callE PR C (k + 1) 87 [.h 1000000 0 0 [] 3 0 l.length, .h 1000001 0 0 [] 3 0 l.length] [tEvent l, tEvent l] = some ⟨bl true, [], [none, none]⟩ := by
  (refine fnI [ResultVar.tmp 4] Tryz.func87 ?_; conv => whnf)
  repeat' ((with_reducible (first | refine st19 ?_|refine fG.split (fun _ => ?_) (fun _ => ?_)|refine fG.bool (fun _ => ?_) (fun _ => ?_)|refine gDn 6 ?_)) <;> (try (conv => whnf)))
  refine loop_rule (ι := Nat) (fun j => [(0, .h 1000000 0 0 [] 3 0 l.length), (1, .h 1000001 0 0 [] 3 0 l.length), (5, i64 (j : Nat))])
    (fun x => [(1000000, ⟨0, 0, false, tEvent l⟩), (1000001, ⟨0, 0, false, tEvent l⟩)])
    (fun j => l.length - j) (fun j => j ≤ l.length) 0 fitOk (Nat.zero_le _) (by simp [C]; omega) ?_
  rintro j sl ob hj
  (try dsimp only [cond_true, cond_false])
  (conv => whnf)
  repeat' ((with_reducible (first | refine st19 ?_|refine fG.split (fun _ => ?_) (fun _ => ?_)|refine fG.bool (fun _ => ?_) (fun _ => ?_)|refine gDn 6 ?_)) <;> (try (conv => whnf)))
  case refine_1.refine_2 =>
    rename_i h
    exact absurd h (by simp)
  case' refine_1.refine_1 =>
    refine ⟨⟨j + 1, fitOk, ?_, ?_⟩⟩
    · show j + 1 ≤ _; omega
    · show l.length - (j + 1) < l.length - j; omega
set_option maxRecDepth 20000 in
theorem ok_laws_sameHist (k : Nat) (P P' : List (List Ins)) (S S' : List State) (W W' : List (List Item)) (H : List (List Event)) (hl : H.length ≤ 100000000000) (hh : ∀ j : Nat, j < H.length → (rd H j).length ≤ 100000000000) :
    callE PR C (k + 2) 19 [aSys 0 P S W H, aSys 4 P' S' W' H] [tInsSS P, tStateS S, tItemSS W, tEventSS H, tInsSS P', tStateS S', tItemSS W', tEventSS H] = some ⟨bl true, [], [none, none, none, none, none, none, none, none]⟩ := by
  (refine fnI [ResultVar.tmp 4] Tryz.func19 ?_; conv => whnf)
  repeat' ((with_reducible (first | refine st19 ?_|refine fG.split (fun _ => ?_) (fun _ => ?_)|refine fG.bool (fun _ => ?_) (fun _ => ?_)|refine gDn 6 ?_)) <;> (try (conv => whnf)))
  refine loop_rule (ι := Nat) (fun j => [(2, .pt 2 1 0 [] 0 0), (3, .pt 3 1 0 [] 0 0), (5, i64 (j : Nat))])
    (fun x => [(1000003, ⟨0, 0, false, tEventSS H⟩), (1000007, ⟨0, 0, false, tEventSS H⟩), (2, ⟨1, 0, false, bSys P S W H⟩), (3, ⟨1, 0, false, .box [.h 1000004 0 0 [] 1 0 P'.length, .h 1000005 0 0 [] 4 0 S'.length, .h 1000006 0 0 [] 1 0 W'.length, .h 1000007 0 0 [] 1 0 H.length]⟩)])
    (fun j => H.length - j) (fun j => j ≤ H.length) 0 fitOk (Nat.zero_le _) (by simp [C]; omega) ?_
  rintro j sl ob hj
  by_cases hjl : j < H.length
  · have q1 := fun k => ok_laws_sameEvents k (rd H j) (hh j hjl)
    (try dsimp only [cond_true, cond_false])
    (conv => whnf)
    repeat' ((with_reducible (first | refine sCall.of (q1 _) ?_|refine st19 ?_|refine fG.split (fun _ => ?_) (fun _ => ?_)|refine fG.bool (fun _ => ?_) (fun _ => ?_)|refine gDn 6 ?_)) <;> (try (conv => whnf)))
    refine ⟨⟨j + 1, fitOk, ?_, ?_⟩⟩
    · show j + 1 ≤ _; omega
    · show H.length - (j + 1) < H.length - j; omega
  · (try dsimp only [cond_true, cond_false])
    (conv => whnf)
    repeat' ((with_reducible (first | refine st19 ?_|refine fG.split (fun _ => ?_) (fun _ => ?_)|refine fG.bool (fun _ => ?_) (fun _ => ?_)|refine gDn 6 ?_)) <;> (try (conv => whnf)))
theorem wholeB_lens {P : List (List Ins)} {S : List State} {W : List (List Item)} {H : List (List Event)} (h : sysOk P S W H = true) : wholeB H (lensOf H) = true := by
  have hs := (sysOk_facts h).2.2.1
  rw [wholeB_eq]
  intro a b ha hb
  simp only [tookC, sentC]
  rw [lensOf_rd hb, lensOf_rd ha, Int.toNat_natCast, Int.toNat_natCast, List.take_length, List.take_length]
  exact hs b a hb ha
theorem fok_lens (H : List (List Event)) : FOk H (lensOf H) := ⟨lensOf_len H, fun q hq => by rw [lensOf_rd hq]; omega⟩
theorem closeOf_whole {H : List (List Event)} {c : List Int} (hc : FOk H c) (hw : wholeB H c = true) : closeOf H c = c := closeOf_eq hc .refl hw
theorem lens_self {H : List (List Event)} {q : Nat} (hq : q < H.length) : (lensOf H).set q ((rd H q).length : Int) = lensOf H := by
  refine rd_ext (by simp) fun j hj => ?_
  rw [List.length_set, lensOf_len] at hj
  rw [rd_set _ (by rw [lensOf_len]; exact hq)]
  split
  · rename_i e; subst e; rw [lensOf_rd hj]
  · rfl
theorem backCut_self {P : List (List Ins)} {S : List State} {W : List (List Item)} {H : List (List Event)} (h : sysOk P S W H = true) {q : Nat} (hq : q < H.length) : backCutOf H (q : Int) ((rd H q).length : Int) = lensOf H := by
  unfold backCutOf
  rw [Int.toNat_natCast, lens_self hq]
  exact closeOf_whole (fok_lens H) (wholeB_lens h)
theorem Reach.whole {H : List (List Event)} {f : List Int} {n : Nat} (h : Reach H f n) (hP : PeersIn H) : wholeB H f = true := by
  rw [wholeB_eq]
  induction h with
  | zero => intro a b ha hb; simp only [tookC, rd_zero, Int.toNat_zero, List.take_zero]; simp [cnt, vals]
  | @step f n p h hp hc ih =>
    intro a b ha hb
    have hf := h.fok
    have hlt := can_lt hf hp hc
    have h0 := (hf.rng p hp).1
    have h1 := ih a b ha hb
    have hs : sentC H f a b ≤ sentC H (goOn f p) a b := by
      unfold sentC
      apply cnt_take
      rw [rd_goOn (by rw [hf.len]; exact hp)]
      split
      · rename_i e; subst e; omega
      · exact Nat.le_refl _
    by_cases hbp : b = p
    · subst hbp
      have ht : tookC H (goOn f b) a b = tookC H f a b + (if isEv 3 a (rd (rd H b) (rd f b).toNat) = true then 1 else 0) := by
        unfold tookC
        rw [rd_goOn (by rw [hf.len]; exact hp), if_pos rfl, show (rd f b + 1).toNat = (rd f b).toNat + 1 by omega]
        simp only [cnt]
        rw [vals_snoc _ _ _ (by omega)]
        split <;> simp
      by_cases he : isEv 3 a (rd (rd H b) (rd f b).toNat) = true
      · rw [if_pos he] at ht
        simp only [isEv, Bool.and_eq_true, decide_eq_true_eq] at he
        simp only [canCome, Bool.and_eq_true, Bool.not_eq_true', Bool.and_eq_false_iff, decide_eq_true_eq, decide_eq_false_iff_not] at hc
        rcases hc.2 with h4 | h4
        · exact absurd he.1 h4
        · rw [he.2, Int.toNat_natCast] at h4
          unfold tookC at ht h1
          unfold sentC at hs h1
          unfold tookC sentC
          omega
      · rw [if_neg he] at ht
        omega
    · have ht : tookC H (goOn f p) a b = tookC H f a b := by
        unfold tookC
        rw [rd_goOn (by rw [hf.len]; exact hp), if_neg hbp]
      omega
theorem Reach.between {H : List (List Event)} {g : List Int} {n : Nat} (h : Reach H g n) (p : Nat) : ∀ j : Int, 0 ≤ j → j ≤ rd g p → ∃ f m, Reach H f m ∧ rd f p = j := by
  induction h with
  | zero => intro j h0 h1; rw [rd_zero] at h1; exact ⟨_, _, .zero, by rw [rd_zero]; omega⟩
  | @step f n q h hq hc ih =>
    intro j h0 h1
    by_cases h2 : j ≤ rd f p
    · exact ih j h0 h2
    · have hf := h.fok
      rw [rd_goOn (by rw [hf.len]; exact hq)] at h1
      split at h1
      · rename_i e
        subst e
        exact ⟨_, _, h.step hq hc, by rw [rd_goOn (by rw [hf.len]; exact hq), if_pos rfl]; omega⟩
      · omega
theorem row_all {H : List (List Event)} (hr : inRow H = true) : ∃ g, Reach H g (allEv H) ∧ ∀ q, q < H.length → rd g q = ((rd H q).length : Int) := by
  simp only [inRow, decide_eq_true_eq] at hr
  obtain ⟨g, k, h1, h2, h3⟩ := greedy_reach (H := H) (allEv H) .zero (by omega)
  have e1 : k = allEv H := by unfold rowOf at hr; omega
  subst e1
  exact ⟨g, h1, (sum_le H g h1.fok.len fun q hq => (h1.fok.rng q hq).2).2 h1.sum⟩
theorem back_at {P : List (List Ins)} {S : List State} {W : List (List Item)} {H : List (List Event)} (h : sysOk P S W H = true) {p i : Int} (hc : hasCut H p i = true) : rd (backCutOf H p i) p.toNat = i := by
  have hP := (sysOk_facts h).2.1
  have hr : inRow H = true := by simp only [sysOk, Bool.and_eq_true] at h; exact h.2.2.2.2
  obtain ⟨g, hg, hall⟩ := row_all hr
  have hf := fok_back hc
  have hc' := hc
  simp only [hasCut, Bool.and_eq_true, decide_eq_true_eq] at hc'
  obtain ⟨f, m, h1, h2⟩ := hg.between p.toNat i (by omega) (by rw [hall _ (by omega)]; omega)
  have h3 := closeOf_is hf
  have h4 := h3.1.under hf p.toNat (by omega)
  have h5 := h3.1.above hf h1.fok (h1.whole hP) (fun q hq => by
    rw [rd_set _ (by rw [lensOf_len]; omega)]
    have := (h1.fok.rng q hq).2
    split
    · rename_i e; subst e; omega
    · rw [lensOf_rd hq]; exact this) p.toNat (by omega)
  rw [rd_set _ (by rw [lensOf_len]; omega), if_pos rfl] at h4
  show rd (closeOf H _) p.toNat = i
  omega
theorem cut_len {H : List (List Event)} {c : List Int} (hc : FOk H c) {q : Nat} (hq : q < H.length) : ((rd (cutH H c) q).length : Int) = rd c q := by
  have := hc.rng q hq
  rw [rd_cutH hq, List.length_take]
  omega
theorem back_code {P : List (List Ins)} {S : List State} {W : List (List Item)} {H : List (List Event)} (hs : sysOk P S W H = true) {p i : Int} (hc : hasCut H p i = true) :
    ((backIs P S W H p i).2 = 0 ∧ backIs P S W H p i = (atSys P (cutH H (backCutOf H p i)), 0) ∧ sysOk P (stsOf P (cutH H (backCutOf H p i))) (waysOf (cutH H (backCutOf H p i)) P.length) (cutH H (backCutOf H p i)) = true) ∨ ((backIs P S W H p i).2 = 3 ∧ backIs P S W H p i = (⟨P, S, W, H⟩, 3)) := by
  unfold backIs
  rw [if_pos hs, if_pos hc]
  by_cases c : waysFit (cutH H (backCutOf H p i)) P.length = true
  · left
    rw [if_pos c]
    refine ⟨rfl, rfl, ?_⟩
    rw [cut_sysOk hs (backCut_is hc).1 (backCut_is hc).2]
    exact c
  · right
    rw [if_neg c]
    exact ⟨rfl, rfl⟩
theorem back_none {P : List (List Ins)} {S : List State} {W : List (List Item)} {H : List (List Event)} {p i : Int} (h : (backIs P S W H p i).2 = 0) : sysOk P S W H = true ∧ hasCut H p i = true := by
  unfold backIs at h
  split at h
  · rename_i e
    split at h
    · rename_i e2; exact ⟨e, e2⟩
    · exact absurd h (by show ¬ (2 : Int) = 0; decide)
  · exact absurd h (by show ¬ (1 : Int) = 0; decide)
theorem back_row {P : List (List Ins)} {S : List State} {W : List (List Item)} {H : List (List Event)} (hs : sysOk P S W H = true) {p i : Int} (hc : hasCut H p i = true) : rd (cutH H (backCutOf H p i)) p.toNat = (rd H p.toNat).take i.toNat := by
  have hc' := hc
  simp only [hasCut, Bool.and_eq_true, decide_eq_true_eq] at hc'
  rw [rd_cutH (by omega), back_at hs hc]

end Go.Proofs.YtipfcgbhaalcdaaGreat.Abs
namespace Go.Proofs.YtipfcgbhaalcdaaGreat.Abs
open Go Go.Proofs
set_option linter.unusedVariables false
set_option linter.unusedSimpArgs false
attribute [local irreducible] callE
def DAt (r : Res) : Prop := ∃ n : Int, 0 ≤ n ∧ n < 256 ∧ r = ⟨i64 n, [], [none]⟩
theorem sCall.at_ {x : Option Res} {F : Res → Prop} (e : Told x DAt) (h : ∀ n : Int, 0 ≤ n → n < 256 → F ⟨i64 n, [], [none]⟩) : sCall x F :=
  sCall.ex e fun r hr => by obtain ⟨n, h1, h2, rfl⟩ := hr; exact h n h1 h2
end Go.Proofs.YtipfcgbhaalcdaaGreat.Abs
namespace Go.Proofs.YtipfcgbhaalcdaaGreat.Abs
open Go Go.Proofs
set_option linter.unusedVariables false
set_option linter.unusedSimpArgs false
attribute [local irreducible] callE
def DRow (b : List Int) (r : Res) : Prop := ∃ (l : List Who) (i h : Int), l.length ≤ 1000 ∧ (0 ≤ i ∧ i ≤ b.length) ∧ r = ⟨.h 2000000 1 0 [] 2 0 l.length, [tWho9 l], [none, some (tCur b i h), none, none, none, none]⟩
structure DW where
  j : Nat
  l : List Who
  o : Nat
  bb : Nat
  f : List Int
  g : Nat
  e : Bool
  d : Bool
  i : Int
  h : Int
end Go.Proofs.YtipfcgbhaalcdaaGreat.Abs
namespace Go.Proofs.YtipfcgbhaalcdaaGreat.Abs
open Go Go.Proofs
set_option linter.unusedVariables false
set_option linter.unusedSimpArgs false
attribute [local irreducible] callE
def joinL (a b : List Int) : List Int := (List.range a.length).map fun i => max (rd a i) (rd b i)
theorem joinL_len (a b : List Int) : (joinL a b).length = a.length := by simp [joinL]
theorem joinL_rd {a b : List Int} {q : Nat} (h : q < a.length) : rd (joinL a b) q = max (rd a q) (rd b q) := rd_range _ h
theorem whole_goOn {H : List (List Event)} {f : List Int} {p : Nat} (hf : FOk H f) (hw : wholeB H f = true) (hp : p < H.length) (hc : canCome H f p = true) : wholeB H (goOn f p) = true := by
  rw [wholeB_eq] at hw ⊢
  intro a b ha hb
  have hlt := can_lt hf hp hc
  have h0 := (hf.rng p hp).1
  have h1 := hw a b ha hb
  have hs : sentC H f a b ≤ sentC H (goOn f p) a b := by
    unfold sentC
    apply cnt_take
    rw [rd_goOn (by rw [hf.len]; exact hp)]
    split
    · rename_i e; subst e; omega
    · exact Nat.le_refl _
  by_cases hbp : b = p
  · subst hbp
    have ht : tookC H (goOn f b) a b = tookC H f a b + (if isEv 3 a (rd (rd H b) (rd f b).toNat) = true then 1 else 0) := by
      unfold tookC
      rw [rd_goOn (by rw [hf.len]; exact hp), if_pos rfl, show (rd f b + 1).toNat = (rd f b).toNat + 1 by omega]
      simp only [cnt]
      rw [vals_snoc _ _ _ (by omega)]
      split <;> simp
    by_cases he : isEv 3 a (rd (rd H b) (rd f b).toNat) = true
    · rw [if_pos he] at ht
      simp only [isEv, Bool.and_eq_true, decide_eq_true_eq] at he
      simp only [canCome, Bool.and_eq_true, Bool.not_eq_true', Bool.and_eq_false_iff, decide_eq_true_eq, decide_eq_false_iff_not] at hc
      rcases hc.2 with h4 | h4
      · exact absurd he.1 h4
      · rw [he.2, Int.toNat_natCast] at h4
        unfold tookC at ht h1
        unfold sentC at hs h1
        unfold tookC sentC
        omega
    · rw [if_neg he] at ht
      omega
  · have ht : tookC H (goOn f p) a b = tookC H f a b := by
      unfold tookC
      rw [rd_goOn (by rw [hf.len]; exact hp), if_neg hbp]
    omega
theorem fok_join {H : List (List Event)} {a b : List Int} (ha : FOk H a) (hb : FOk H b) : FOk H (joinL a b) := ⟨by rw [joinL_len, ha.len], fun q hq => by
  rw [joinL_rd (by rw [ha.len]; exact hq)]
  have h1 := ha.rng q hq
  have h2 := hb.rng q hq
  omega⟩
theorem whole_join {H : List (List Event)} {a b : List Int} (ha : FOk H a) (hb : FOk H b) (wa : wholeB H a = true) (wb : wholeB H b = true) : wholeB H (joinL a b) = true := by
  rw [wholeB_eq] at wa wb ⊢
  intro x y hx hy
  have h1 := wa x y hx hy
  have h2 := wb x y hx hy
  unfold tookC sentC at h1 h2 ⊢
  rw [joinL_rd (by rw [ha.len]; exact hy), joinL_rd (by rw [ha.len]; exact hx)]
  have h3 := cnt_take (rd H x) 2 y (a := (rd a x).toNat) (b := (max (rd a x) (rd b x)).toNat) (by omega)
  have h4 := cnt_take (rd H x) 2 y (a := (rd b x).toNat) (b := (max (rd a x) (rd b x)).toNat) (by omega)
  rcases Int.le_total (rd a y) (rd b y) with h | h
  · rw [show max (rd a y) (rd b y) = rd b y by omega]; omega
  · rw [show max (rd a y) (rd b y) = rd a y by omega]; omega
structure IsClk (H : List (List Event)) (p i : Nat) (v : List Int) : Prop where
  fok : FOk H v
  whole : wholeB H v = true
  own : rd v p = (i : Int) + 1
  least : ∀ d, FOk H d → wholeB H d = true → (i : Int) + 1 ≤ rd d p → ∀ q, q < H.length → rd v q ≤ rd d q
theorem IsClk.eq {H : List (List Event)} {p i : Nat} {v w : List Int} (hv : IsClk H p i v) (hw : IsClk H p i w) : v = w := by
  refine rd_ext (by rw [hv.fok.len, hw.fok.len]) fun q hq => ?_
  rw [hv.fok.len] at hq
  have h1 := hv.least w hw.fok hw.whole (by rw [hw.own]; exact Int.le_refl _) q hq
  have h2 := hw.least v hv.fok hv.whole (by rw [hv.own]; exact Int.le_refl _) q hq
  omega
theorem sender_take {H : List (List Event)} {p i : Nat} (h : 0 ≤ senderOf H p i) : (rd (rd H p) i).kind = 3 := by
  unfold senderOf at h
  split at h
  · assumption
  · omega
theorem whole_sender {H : List (List Event)} {d : List Int} {p i : Nat} (hP : PeersIn H) (hd : FOk H d) (hw : wholeB H d = true) (hp : p < H.length) (hi : (i : Int) + 1 ≤ rd d p) (hk : 0 ≤ senderOf H p i) :
    senderOf H p i + 1 ≤ rd d (rd (rd H p) i).peer.toNat := by
  have k3 := sender_take hk
  have hdp := hd.rng p hp
  have hil : i < (rd H p).length := by omega
  have hpe := hP p hp i hil k3
  have hev : isEv 3 (rd (rd H p) i).peer (rd (rd H p) i) = true := by simp [isEv, k3]
  rw [senderOf, if_pos k3] at hk ⊢
  generalize (rd (rd H p) i).peer = q at *
  have h1 : cnt ((rd H p).take (i + 1)) 3 q = cnt ((rd H p).take i) 3 q + 1 := by
    simp only [cnt]
    rw [vals_snoc _ _ _ hil, if_pos hev]
    simp
  have h2 := cnt_take (rd H p) 3 q (a := i + 1) (b := (rd d p).toNat) (by omega)
  have h3 := wholeB_eq.1 hw q.toNat p (by omega) hp
  unfold tookC sentC at h3
  rw [show ((q.toNat : Nat) : Int) = q by omega] at h3
  have h4 := (nth_lt (rd H q.toNat) 2 p (cnt ((rd H p).take i) 3 q) (rd d q.toNat).toNat).2 (by omega)
  omega
theorem isClk_goOn {H : List (List Event)} {j : List Int} {p i : Nat} (hj : FOk H j) (wj : wholeB H j = true) (hp : p < H.length) (hi : rd j p = (i : Int)) (hc : canCome H j p = true)
    (hl : ∀ d, FOk H d → wholeB H d = true → (i : Int) + 1 ≤ rd d p → ∀ q, q < H.length → rd j q ≤ rd d q) : IsClk H p i (j.set p ((i : Int) + 1)) := by
  have e : j.set p ((i : Int) + 1) = goOn j p := by rw [goOn, hi]
  rw [e]
  refine ⟨fok_goOn hj hp hc, whole_goOn hj wj hp hc, by rw [rd_goOn (by rw [hj.len]; exact hp), if_pos rfl, hi], fun d h1 h2 h3 q hq => ?_⟩
  rw [rd_goOn (by rw [hj.len]; exact hp)]
  split
  · rename_i e; subst e; omega
  · exact hl d h1 h2 h3 q hq
structure Clks (H : List (List Event)) (f : List Int) (C : List (List (List Int))) : Prop where
  len : C.length = H.length
  rows : ∀ p, p < H.length → ((rd C p).length : Int) = rd f p
  is : ∀ p, p < H.length → ∀ i, i < (rd C p).length → IsClk H p i (rd (rd C p) i)
def baseOf (n : Nat) (C : List (List (List Int))) (p i : Nat) : List Int := if i = 0 then List.replicate n 0 else rd (rd C p) (i - 1)
def newClk (H : List (List Event)) (C : List (List (List Int))) (p i : Nat) : List Int := (if senderOf H p i < 0 then baseOf H.length C p i else joinL (baseOf H.length C p i) (rd (rd C (rd (rd H p) i).peer.toNat) (senderOf H p i).toNat)).set p ((i : Int) + 1)
theorem base_is {H : List (List Event)} {f : List Int} {C : List (List (List Int))} {p : Nat} (h : Clks H f C) (hP : PeersIn H) (hp : p < H.length) :
    FOk H (baseOf H.length C p (rd C p).length) ∧ wholeB H (baseOf H.length C p (rd C p).length) = true ∧ rd (baseOf H.length C p (rd C p).length) p = ((rd C p).length : Int) ∧
    ∀ d, FOk H d → wholeB H d = true → ((rd C p).length : Int) + 1 ≤ rd d p → ∀ q, q < H.length → rd (baseOf H.length C p (rd C p).length) q ≤ rd d q := by
  unfold baseOf
  by_cases e : (rd C p).length = 0
  · rw [if_pos e]
    refine ⟨fok_zero H, Reach.whole .zero hP, by rw [rd_zero, e]; rfl, fun d h1 _ _ q hq => by rw [rd_zero]; exact (h1.rng q hq).1⟩
  · rw [if_neg e]
    have hb := h.is p hp ((rd C p).length - 1) (by omega)
    refine ⟨hb.fok, hb.whole, by rw [hb.own]; omega, fun d h1 h2 h3 q hq => hb.least d h1 h2 (by omega) q hq⟩
theorem newClk_is {H : List (List Event)} {f : List Int} {n : Nat} {C : List (List (List Int))} {p : Nat} (h : Clks H f C) (hP : PeersIn H) (hS : Sends H) (hR : Reach H f n) (hp : p < H.length) (hc : canCome H f p = true) :
    IsClk H p (rd C p).length (newClk H C p (rd C p).length) ∧ (0 ≤ senderOf H p (rd C p).length → (rd (rd H p) (rd C p).length).peer.toNat < H.length ∧ 0 ≤ (rd (rd H p) (rd C p).length).peer ∧ senderOf H p (rd C p).length < rd f (rd (rd H p) (rd C p).length).peer.toNat) := by
  have hf := hR.fok
  have hfp := h.rows p hp
  have hlt := can_lt hf hp hc
  obtain ⟨b1, b2, b3, b4⟩ := base_is h hP hp
  generalize hi : (rd C p).length = i at *
  have efi : (rd f p).toNat = i := by omega
  have hsc := sender_can hP hS hf hp hlt
  rw [efi] at hsc
  unfold newClk
  rcases hsc with ⟨s1, s2, s3⟩ | ⟨s1, s2, s3, s4, s5⟩
  · rw [if_pos (by omega)]
    refine ⟨isClk_goOn b1 b2 hp b3 ?_ b4, fun h0 => by omega⟩
    have h5 := sender_can (f := baseOf H.length C p i) hP hS b1 hp (by omega)
    rw [b3, Int.toNat_natCast] at h5
    rcases h5 with h5 | h5
    · exact h5.2.1
    · exact absurd h5.2.1 s3
  · rw [if_neg (by omega)]
    rw [s5, decide_eq_true_eq] at hc
    generalize hq : (rd (rd H p) i).peer.toNat = q at *
    have hcq := h.rows q s3
    have hs := h.is q s3 (senderOf H p i).toNat (by omega)
    have hsp := hs.least f hf (hR.whole hP) (by omega)
    have hj := fok_join b1 hs.fok
    have wj := whole_join b1 hs.fok b2 hs.whole
    have lb : (baseOf H.length C p i).length = H.length := b1.len
    have ej : rd (joinL (baseOf H.length C p i) (rd (rd C q) (senderOf H p i).toNat)) p = (i : Int) := by
      rw [joinL_rd (by rw [lb]; exact hp), b3]
      have := hsp p hp
      omega
    refine ⟨isClk_goOn hj wj hp ej ?_ fun d h1 h2 h3 x hx => ?_, fun _ => ⟨s3, s4, hc⟩⟩
    · have h5 := sender_can hP hS hj hp (by omega)
      rw [ej, Int.toNat_natCast, hq] at h5
      rcases h5 with h5 | h5
      · exact absurd s2 h5.2.2
      · rw [h5.2.2.2.2, decide_eq_true_eq, joinL_rd (by rw [lb]; exact s3), hs.own]
        omega
    · rw [joinL_rd (by rw [lb]; exact hx)]
      have h4 := whole_sender hP h1 h2 hp h3 s1
      rw [hq] at h4
      have h5 := hs.least d h1 h2 (by omega) x hx
      have h6 := b4 d h1 h2 h3 x hx
      omega
theorem rd_setG {α : Type} [Inhabited α] {l : List α} {p q : Nat} (x : α) (hp : p < l.length) : rd (l.set p x) q = if q = p then x else rd l q := by
  simp only [rd, List.getD_eq_getElem?_getD, List.getElem?_set]
  by_cases h : p = q
  · subst h; simp [hp]
  · rw [if_neg h, if_neg (fun e => h e.symm)]
theorem rd_snocG {α : Type} [Inhabited α] (l : List α) (x : α) {i : Nat} : rd (l ++ [x]) i = if i < l.length then rd l i else if i = l.length then x else default := by
  simp only [rd, List.getD_eq_getElem?_getD, List.getElem?_append]
  split
  · rfl
  · rename_i h
    by_cases e : i = l.length
    · subst e; simp
    · rw [if_neg e, List.getElem?_eq_none (by simp; omega)]; rfl
theorem Clks.step {H : List (List Event)} {f : List Int} {n : Nat} {C : List (List (List Int))} {p : Nat} (h : Clks H f C) (hP : PeersIn H) (hS : Sends H) (hR : Reach H f n) (hp : p < H.length) (hc : canCome H f p = true) :
    Clks H (goOn f p) (C.set p (rd C p ++ [newClk H C p (rd C p).length])) := by
  have hnew := (newClk_is h hP hS hR hp hc).1
  have hCl : p < C.length := by rw [h.len]; exact hp
  refine ⟨by rw [List.length_set, h.len], fun q hq => ?_, fun q hq i hi => ?_⟩
  · rw [rd_setG _ hCl, rd_goOn (by rw [hR.fok.len]; exact hp)]
    have := h.rows q hq
    split
    · rename_i e; subst e; simp; omega
    · exact this
  · rw [rd_setG _ hCl] at hi ⊢
    by_cases e : q = p
    · subst e
      rw [if_pos rfl] at hi ⊢
      rw [rd_snocG]
      rw [List.length_append, List.length_singleton] at hi
      by_cases e2 : i < (rd C q).length
      · rw [if_pos e2]; exact h.is q hq i e2
      · rw [if_neg e2, if_pos (by omega), show i = (rd C q).length by omega]; exact hnew
    · rw [if_neg e] at hi ⊢
      exact h.is q hq i hi
theorem rd_extG {α : Type} [Inhabited α] {f g : List α} (hl : f.length = g.length) (h : ∀ q, q < f.length → rd f q = rd g q) : f = g := by
  apply List.ext_getElem hl
  intro i h1 h2
  have := h i h1
  simpa [rd, h1, h2] using this
theorem Clks.eq {H : List (List Event)} {f : List Int} {C D : List (List (List Int))} (h : Clks H f C) (h' : Clks H f D) : C = D := by
  refine rd_extG (by rw [h.len, h'.len]) fun p hp => ?_
  rw [h.len] at hp
  have h1 := h.rows p hp
  have h2 := h'.rows p hp
  refine rd_extG (by omega) fun i hi => ?_
  exact (h.is p hp i hi).eq (h'.is p hp i (by omega))
theorem Clks.zero (H : List (List Event)) : Clks H (List.replicate H.length 0) (List.replicate H.length []) := by
  have e : ∀ p, rd (List.replicate H.length ([] : List (List Int))) p = [] := fun p => by
    simp only [rd, List.getD_eq_getElem?_getD, List.getElem?_replicate]
    split <;> rfl
  refine ⟨by simp, fun p _ => by rw [e, rd_zero]; rfl, fun p _ i hi => by rw [e] at hi; simp at hi⟩
theorem Clks.exists {H : List (List Event)} (hP : PeersIn H) (hS : Sends H) {f : List Int} {n : Nat} (h : Reach H f n) : ∃ C, Clks H f C := by
  induction h with
  | zero => exact ⟨_, .zero H⟩
  | step h hp hc ih =>
    obtain ⟨C, hC⟩ := ih
    exact ⟨_, hC.step hP hS h hp hc⟩
theorem full_lens {H : List (List Event)} {f : List Int} (hf : FOk H f) (h : ∀ q, q < H.length → rd f q = ((rd H q).length : Int)) : f = lensOf H :=
  rd_ext (by rw [hf.len, lensOf_len]) fun q hq => by rw [hf.len] at hq; rw [h q hq, lensOf_rd hq]
open Classical in
noncomputable def clocksOf (H : List (List Event)) : List (List (List Int)) := if h : ∃ C, Clks H (lensOf H) C then h.choose else []
theorem clocksOf_is {H : List (List Event)} (hP : PeersIn H) (hS : Sends H) (hr : inRow H = true) : Clks H (lensOf H) (clocksOf H) := by
  obtain ⟨g, h1, h2⟩ := row_all hr
  obtain ⟨C, hC⟩ := Clks.exists hP hS h1
  rw [full_lens h1.fok h2] at hC
  have h : ∃ C, Clks H (lensOf H) C := ⟨C, hC⟩
  unfold clocksOf
  rw [dif_pos h]
  exact h.choose_spec
theorem clocksOf_eq {H : List (List Event)} (hP : PeersIn H) (hS : Sends H) (hr : inRow H = true) {C : List (List (List Int))} (h : Clks H (lensOf H) C) : clocksOf H = C := (clocksOf_is hP hS hr).eq h
def hasEv (H : List (List Event)) (p i : Int) : Bool := decide (0 ≤ p ∧ p ≤ (H.length : Int) - 1) && decide (0 ≤ i ∧ i ≤ ((rd H p.toNat).length : Int) - 1)
noncomputable def clkAt (H : List (List Event)) (p i : Int) : List Int := rd (rd (clocksOf H) p.toNat) i.toNat
noncomputable def hangsB (H : List (List Event)) (p i q j : Int) : Bool := decide (rd (clkAt H p i) q.toNat > j)
def twoEv (H : List (List Event)) (p i q j : Int) : Bool := hasEv H p i && (hasEv H q j && !(decide (p = q) && decide (i = j)))
noncomputable def sideB (H : List (List Event)) (p i q j : Int) : Bool := twoEv H p i q j && (!hangsB H p i q j && !hangsB H q j p i)
theorem clkAt_is {P : List (List Ins)} {S : List State} {W : List (List Item)} {H : List (List Event)} (h : sysOk P S W H = true) {p i : Int} (he : hasEv H p i = true) : IsClk H p.toNat i.toNat (clkAt H p i) := by
  have hf := sysOk_facts h
  have hr : inRow H = true := by simp only [sysOk, Bool.and_eq_true] at h; exact h.2.2.2.2
  have hc := clocksOf_is hf.2.1 hf.2.2.1 hr
  simp only [hasEv, Bool.and_eq_true, decide_eq_true_eq] at he
  have hp : p.toNat < H.length := by omega
  have h1 := hc.rows _ hp
  rw [lensOf_rd hp] at h1
  exact hc.is _ hp _ (by omega)

def swapRow (row : List Who) (k : Nat) : List Who := (row.set k (rd row (k + 1))).set (k + 1) (rd row k)
def canSwap (row : List Who) (k : Int) : Bool := decide (0 ≤ k ∧ k ≤ (row.length : Int) - 2)
noncomputable def swapB (P : List (List Ins)) (S : List State) (W : List (List Item)) (H : List (List Event)) (row : List Who) (k : Int) : Bool :=
  rowOkB P S W H row && (canSwap row k && sideB H (rd row k.toNat).p (rd row k.toNat).i (rd row (k.toNat + 1)).p (rd row (k.toNat + 1)).i)
theorem back_hang {P : List (List Ins)} {S : List State} {W : List (List Item)} {H : List (List Event)} (hs : sysOk P S W H = true) {p k : Int} (hc : hasCut H p k = true) {q : Nat} (hq : q < H.length) (hne : q ≠ p.toNat) {gone : Nat} (hg : (gone : Int) = rd (backCutOf H p k) q) (hl : gone ≠ (rd H q).length) :
    k ≠ ((rd H p.toNat).length : Int) ∧ twoEv H q gone p k = true ∧ hangsB H q gone p k = true := by
  have hf := fok_back hc
  have hc' := hc
  simp only [hasCut, Bool.and_eq_true, decide_eq_true_eq] at hc'
  have hp : p.toNat < H.length := by omega
  have hpl : p.toNat < (lensOf H).length := by rw [lensOf_len]; exact hp
  obtain ⟨c1, c2⟩ := closeOf_is hf
  have hu := c1.under hf q hq
  rw [rd_set _ hpl, if_neg hne, lensOf_rd hq] at hu
  have hfc := (c1.fok hf).rng q hq
  change 0 ≤ rd (backCutOf H p k) q ∧ _ at hfc
  change rd (backCutOf H p k) q ≤ _ at hu
  have hk : k ≠ ((rd H p.toNat).length : Int) := by
    intro e
    have := backCut_self hs hp
    rw [← e, show ((p.toNat : Nat) : Int) = p by omega] at this
    rw [this, lensOf_rd hq] at hg
    omega
  have e1 : hasEv H (q : Int) (gone : Int) = true := by
    simp only [hasEv, Bool.and_eq_true, decide_eq_true_eq, Int.toNat_natCast]
    omega
  have e2 : hasEv H p k = true := by
    simp only [hasEv, Bool.and_eq_true, decide_eq_true_eq]
    omega
  refine ⟨hk, ?_, ?_⟩
  · unfold twoEv
    rw [e1, e2, decide_eq_false (by omega)]
    rfl
  · have hv := clkAt_is hs e1
    rw [Int.toNat_natCast, Int.toNat_natCast] at hv
    simp only [hangsB, decide_eq_true_eq]
    apply Classical.byContradiction
    intro hn
    have h1 := c1.above hf hv.fok hv.whole (fun x hx => by
      rw [rd_set _ hpl]
      split
      · rename_i e; rw [e]; omega
      · rw [lensOf_rd hx]; exact (hv.fok.rng x hx).2) q hq
    rw [hv.own] at h1
    change _ ≤ rd (backCutOf H p k) q at h1
    omega

def rClk (c : List (List Int)) : List T := [.sl 1 (c.map rIntL)]
theorem full_rClk (x : List (List Int)) : (rClk x).all (fun t => T.full 8 t) = true := by
  simp only [rClk, List.all_cons, List.all_nil, Bool.and_true]
  refine full_map (fun y => ?_) x
  simp only [rIntL, List.all_cons, List.all_nil, Bool.and_true]
  exact full_map (fun _ => rfl) y
theorem snoc_rClk1 (l : List (List Int)) (x : List Int) : l.map rIntL ++ [[.sl 1 (x.map rI)]] = (l ++ [x]).map rIntL := by simp [rIntL]
theorem set_rClk (l : List (List (List Int))) (n : Nat) (x : List (List Int)) : (l.map rClk).set n [.sl 1 (x.map rIntL)] = (l.set n x).map rClk := by simp [rClk, List.map_set]
theorem rep_rClk (n : Nat) : List.replicate n [T.sl 1 []] = (List.replicate n ([] : List (List Int))).map rClk := by simp [rClk]
theorem gI20 {p A : Prop} (h : A) (e : p := by first | with_reducible assumption | omega | (simp only [Nat.zero_add, Nat.add_zero, Nat.sub_zero, Int.toNat_natCast, Int.toNat_zero, Int.toNat_one, List.length_map, List.length_nil, Int.reduceToNat, Nat.reduceAdd, Nat.reduceSub, Int.sub_zero, Int.reduceAdd, Int.reduceSub, Nat.sub_self, Int.toNat_natCast_add_one, marks_len, bs_len, List.length_append, List.length_cons, List.length_set, List.length_replicate, List.length_range]; first | done | omega)) : sI p A := sI.mk e h
theorem gNum20 {r r' : Nat} {F : Nat → Prop} (h : F r') (e : r = r' := by first | (simp only [Nat.zero_add, Nat.add_zero, Nat.sub_zero, Int.toNat_natCast, Int.toNat_zero, Int.toNat_one, List.length_map, List.length_nil, Int.reduceToNat, Nat.reduceAdd, Nat.reduceSub, Int.sub_zero, Int.reduceAdd, Int.reduceSub, Nat.sub_self, Int.toNat_natCast_add_one, marks_len, bs_len]; rfl) | rfl) : sN r F := sN.eq e h
theorem gRow20 {r r' : List (List T)} {F : List (List T) → Prop} (h : F r') (e : r = r' := by first | (simp only [Nat.add_zero, Nat.zero_add, Nat.reduceAdd, List.drop_zero, List.take_succ_cons, List.take_nil, List.drop_succ_cons, List.drop_nil, List.take_zero, List.nil_append, List.append_nil, List.map_nil, drop_suf, take_pre, drop_map, List.take_length, take_len_set, take_len_app, List.set_set, List.length_map, snoc_rClk1, set_rClk, rep_rClk, Int.toNat_natCast, cons_rItem, one_rIns, cons_rIns, one_rI, cons_rI, snoc_new, snoc_rItem, snoc_rInsL, snoc_rItemL, snoc_rEventL, snoc_rState, set_rWho, rep_rWho, snoc_rWho, set_rState, rep_rState, set_rInsL, rep_rInsL, set_rItemL, rep_rItemL, set_rEventL, rep_rEventL, set_rItem, rep_rItem, rep_rKept, marks_take, set_rKept, set_rIns, rep_rIns, set_rEvent, rep_rEvent, snoc_rKept, snoc_rEvent, snoc_rIns, bytesT_bs, snoc_rI, snoc_rB, snoc_rBool, set_rI, set_rBool, rep_rI, rep_rBool, map_app]; rfl) | rfl) : sR r F := sR.eq e h
theorem gRf5 {b : Bool} {A : Prop} (h : A) (e : b = true := by first | exact Nat.beq_refl _ | exact wide_map (fun _ => rfl) _ | exact full_map (fun _ => rfl) _ | exact full_map (fun x => full_rKept x) _ | exact full_map (fun x => full_rInsL x) _ | exact full_map (fun x => full_rItemL x) _ | exact full_map (fun x => full_rEventL x) _ | exact full_map (fun x => full_rState x) _ | exact full_map (fun x => full_rIntL x) _ | exact full_map (fun x => full_rClk x) _ | rfl | (simp only [full_map, wide_map]; done)) : fB b A := fB.of e h
theorem st20 {P Q : Prop} (h : Q) (e : Q → P := by with_reducible first | exact fun h => gP h | exact fun h => gN h | exact fun h => fG.not h | exact fun h => gY h | exact fun h => gF h | exact fun h => fG.yes (flat_map (fun _ => rfl) _) h | exact fun h => gS64 h | exact fun h => gU8 h | exact fun h => gI20 h | exact fun h => fE.of rfl h | exact fun h => gNum20 h | exact fun h => gSet h | exact fun h => gRd h | exact fun h => gLk h | exact fun h => gRow20 h | exact fun h => gRf5 h) : P := e h
abbrev tClk9 (C : List (List (List Int))) : Cont := .tree 9 (.sl 1 (C.map rClk))
structure CJ where
  j : Nat
  c : List Int
  g : Nat
  d : Bool
theorem ok_impl_clocks1 (k : Nat) (o c : List Int) (hl : o.length = c.length) (hn : c.length ≤ 1000) :
    callE PR C (k + 1) 202 [.h 1000000 0 0 [] 1 0 o.length, .pt 1000002 0 0 [] 0 0] [tI o, tI9 c, .box [.h 1000001 0 0 [] 1 0 c.length]] = some ⟨.tu [], [tI9 (joinL c o)], [none, some .dead, some (.box [.h 2000000 1 0 [] 1 0 c.length])]⟩ := by
  (refine fnI [] Tryz.func202 ?_; conv => whnf)
  refine loop_rule (ι := CJ) (fun z => [(1, .pt 1000002 0 0 [] 0 0), (5, .h 1000000 0 0 [] 1 0 o.length), (6, i64 o.length), (7, i64 (z.j : Nat))])
    (fun z => [(1000000, ⟨0, 0, false, tI o⟩), (1000001, ⟨0, z.g, z.d, tI9 z.c⟩), (1000002, ⟨0, 0, false, .box [.h 1000001 0 0 [] 1 0 c.length]⟩)])
    (fun z => o.length - z.j) (fun z => z.j ≤ o.length ∧ z.c.length = c.length ∧ ∀ i, i < c.length → rd z.c i = if i < z.j then max (rd c i) (rd o i) else rd c i) ⟨0, c, _, _⟩ fitOk ⟨Nat.zero_le _, rfl, fun i _ => rfl⟩ (by simp [C]; omega) ?_
  rintro ⟨j, c', g, d⟩ sl ob ⟨hj, hc', hr⟩
  dsimp only at hj hc' hr
  by_cases hjl : j < o.length
  · have hrj := hr j (by omega)
    rw [if_neg (Nat.lt_irrefl j)] at hrj
    have hm : (if rd c' j < rd o j then rd o j else rd c' j) = max (rd c j) (rd o j) := by rw [hrj]; omega
    (try dsimp only [cond_true, cond_false])
    (conv => whnf)
    repeat' ((with_reducible (first | refine sZ.eq (hm) ?_|refine st20 ?_|refine fG.split (fun _ => ?_) (fun _ => ?_)|refine fG.bool (fun _ => ?_) (fun _ => ?_)|refine gDn 3 ?_)) <;> (try (conv => whnf)))
    refine ⟨⟨⟨j + 1, c'.set j (max (rd c j) (rd o j)), _, _⟩, fitOk, ?_, ?_⟩⟩
    · refine ⟨by show j + 1 ≤ _; omega, by show (c'.set j _).length = _; rw [List.length_set]; exact hc', fun i hi => ?_⟩
      show rd (c'.set j _) i = if i < j + 1 then _ else _
      rw [rd_set _ (by omega)]
      have := hr i hi
      by_cases e : i = j
      · subst e; rw [if_pos rfl, if_pos (by omega)]
      · rw [if_neg e, this]
        by_cases e2 : i < j
        · rw [if_pos e2, if_pos (by omega)]
        · rw [if_neg e2, if_neg (by omega)]
    · show o.length - (j + 1) < o.length - j; omega
  · have hcj : c' = joinL c o := rd_ext (by rw [hc', joinL_len]) fun i hi => by
      rw [hc'] at hi
      rw [hr i hi, if_pos (by omega), joinL_rd hi]
    subst hcj
    have et : List.take c.length (joinL c o) = joinL c o := List.take_of_length_le (by omega)
    (try dsimp only [cond_true, cond_false])
    (conv => whnf)
    repeat' ((with_reducible (first | refine st20 ?_|refine fG.split (fun _ => ?_) (fun _ => ?_)|refine fG.bool (fun _ => ?_) (fun _ => ?_)|refine gDn 3 ?_)) <;> (try (conv => whnf)))
    all_goals simp only [et]
theorem firstP_is {H : List (List Event)} {f : List Int} {p : Nat} (h : firstP H f = some p) : p < H.length ∧ canCome H f p = true := by
  unfold firstP at h
  exact ⟨List.mem_range.1 (List.mem_of_find?_eq_some h), List.find?_some h⟩
theorem greedy_next {H : List (List Event)} {f : List Int} {m : Nat} {w : Who} {r : List Who} (h : greedy H m f = w :: r) : ∃ p, p < H.length ∧ canCome H f p = true ∧ w = ⟨(p : Int), rd f p⟩ ∧ r = greedy H (m - 1) (goOn f p) := by
  cases m with
  | zero => simp [greedy] at h
  | succ m =>
    simp only [greedy] at h
    cases hp : firstP H f with
    | none => rw [hp] at h; cases h
    | some p =>
      rw [hp] at h
      obtain ⟨h1, h2⟩ := firstP_is hp
      simp only [List.cons.injEq] at h
      exact ⟨p, h1, h2, h.1.symm, h.2.symm⟩
theorem joinL_zero {H : List (List Event)} {v : List Int} (hv : FOk H v) : joinL (List.replicate H.length 0) v = v := by
  refine rd_ext (by rw [joinL_len, hv.len]; simp) fun q hq => ?_
  rw [joinL_len, List.length_replicate] at hq
  rw [joinL_rd (by simpa using hq), rd_zero]
  have := (hv.rng q hq).1
  omega
structure CK where
  j : Nat
  f : List Int
  c : List (List (List Int))
  g : Nat
  d : Bool
set_option maxRecDepth 20000 in
set_option maxHeartbeats 8000000 in
theorem ok_impl_clocks (k : Nat) (P : List (List Ins)) (S : List State) (W : List (List Item)) (H : List (List Event)) (hs : sysOk P S W H = true) :
    callE PR C (k + 5) 100 [aSys 0 P S W H] [tInsSS P, tStateS S, tItemSS W, tEventSS H] = some ⟨.h 2000000 1 0 [] 1 0 (clocksOf H).length, [tClk9 (clocksOf H)], [none, none, none, none]⟩ := by
  obtain ⟨hI, hP, hS, h200⟩ := sysOk_facts hs
  have hN := hI.n
  have hHl := hI.h
  have hr : inRow H = true := by simp only [sysOk, Bool.and_eq_true] at hs; exact hs.2.2.2.2
  have hall : allEv H ≤ 1000000 := by
    have h1 := wts_bound List.length 200 H h200
    rw [← allEv_wts] at h1
    omega
  have q1 := fun k => ok_impl_rowOf k H (by omega) (fun j hj => by have := h200 j hj; omega) hP
  have hrl : (rowOf H).length = allEv H := by simpa [inRow] using hr
  have hg : (rowOf H).drop 0 = greedy H (allEv H - 0) (List.replicate H.length 0) := rfl
  generalize rowOf H = row at q1 hrl hg
  (refine fnI [ResultVar.tmp 2] Tryz.func100 ?_; conv => whnf)
  repeat' ((with_reducible (first | refine sCall.of (q1 _) ?_|refine st20 ?_|refine fG.split (fun _ => ?_) (fun _ => ?_)|refine fG.bool (fun _ => ?_) (fun _ => ?_)|refine gDn 8 ?_|refine gDn 11 ?_|refine gD 13 [(2, 9), (5, 9), (7, 9), (2, 10)] ?_)) <;> (try (conv => whnf)))
  refine loop_rule (ι := CK) (fun z => [(1, .pt 1 1 0 [] 0 0), (3, .h 12 1 0 [] 1 0 H.length), (15, .h 10015 1 0 [] 2 0 row.length), (16, i64 row.length), (17, i64 (z.j : Nat))])
    (fun z => [(1000000, ⟨0, 0, false, tInsSS P⟩), (1000001, ⟨0, 0, false, tStateS S⟩), (1000002, ⟨0, 0, false, tItemSS W⟩), (1000003, ⟨0, 0, false, tEventSS H⟩), (1, ⟨1, 0, false, bSys P S W H⟩), (12, ⟨1, z.g, z.d, tClk9 z.c⟩), (10015, ⟨1, 0, false, tWho9 row⟩)])
    (fun z => row.length - z.j) (fun z => z.j ≤ row.length ∧ Reach H z.f z.j ∧ Clks H z.f z.c ∧ row.drop z.j = greedy H (allEv H - z.j) z.f) ⟨0, List.replicate H.length 0, List.replicate H.length [], _, _⟩ fitOk ⟨Nat.zero_le _, .zero, .zero H, hg⟩ (by simp [C]; omega) ?_
  clear hg q1
  rintro ⟨j, f, c, g, d⟩ sl ob ⟨hj, hre, hc, hg⟩
  dsimp only at hj hre hc hg
  have hcl := hc.len
  by_cases hjl : j < row.length
  · rw [drop_rd hjl] at hg
    obtain ⟨p, hp, hcan, hw, hnext⟩ := greedy_next hg.symm
    have hrow := hc.rows p hp
    have hstep := hc.step hP hS hre hp hcan
    have hnew := (newClk_is hc hP hS hre hp hcan).2
    have hlt := can_lt hre.fok hp hcan
    have hlp := h200 p hp
    have hgn : row.drop (j + 1) = greedy H (allEv H - (j + 1)) (goOn f p) := by rw [hnext, Nat.sub_sub]
    obtain ⟨i, hi⟩ : ∃ i, i = (rd c p).length := ⟨_, rfl⟩
    have hfi : rd f p = (i : Int) := by omega
    rw [hfi] at hw
    have q2 := fun k => ok_impl_sender k P S W H p i hP hp (by omega) (fun j hj => by have := h200 j hj; omega)
    have hzl : (List.replicate H.length (0 : Int)).length = H.length := by simp
    rw [← hi] at hnew hstep
    have hno : 0 < i → FOk H (rd (rd c p) (i - 1)) := fun h0 => (hc.is p hp (i - 1) (by omega)).fok
    unfold newClk baseOf at hstep
    (try dsimp only [cond_true, cond_false])
    (conv => whnf)
    repeat' ((with_reducible (first | refine st20 ?_|refine gDn 8 ?_|refine gDn 11 ?_|refine gD 13 [(2, 9), (5, 9), (7, 9), (2, 10)] ?_)) <;> (try (conv => whnf)))
    generalize rd row j = w at hw ⊢
    subst hw
    (try dsimp only [cond_true, cond_false])
    by_cases i0 : 0 < i
    · have hb := hno i0
      have hbl := hb.len
      have hjz := joinL_zero hb
      rw [if_neg (show ¬ i = 0 by omega)] at hstep
      have hpi : ((i : Int) - 1).toNat = i - 1 := by omega
      rw [← hpi] at hb hbl hjz hstep
      have q3 : ∀ k, callE PR C (k + 1) 202 [.h 1000000 0 0 [] 1 0 (rd (rd c p) ((i : Int) - 1).toNat).length, .pt 1000002 0 0 [] 0 0] [tI (rd (rd c p) ((i : Int) - 1).toNat), tI9 (List.replicate H.length 0), .box [.h 1000001 0 0 [] 1 0 H.length]] = some ⟨.tu [], [tI9 (rd (rd c p) ((i : Int) - 1).toNat)], [none, some .dead, some (.box [.h 2000000 1 0 [] 1 0 H.length])]⟩ := fun k => by
        have := ok_impl_clocks1 k (rd (rd c p) ((i : Int) - 1).toNat) (List.replicate H.length 0) (by omega) (by omega)
        rw [hjz, hzl] at this
        exact this
      by_cases hsd : senderOf H p i < 0
      · rw [if_pos hsd] at hstep
        have et : List.take H.length ((rd (rd c p) ((i : Int) - 1).toNat).set p ((i : Int) + 1)) = (rd (rd c p) ((i : Int) - 1).toNat).set p ((i : Int) + 1) := List.take_of_length_le (by rw [List.length_set]; omega)
        repeat' ((with_reducible (first | refine sCall.of (q2 _) ?_|refine sCall.of (q3 _) ?_|refine gHole ?_|refine st20 ?_|refine fG.split (fun _ => ?_) (fun _ => ?_)|refine fG.bool (fun _ => ?_) (fun _ => ?_)|refine gDn 8 ?_|refine gDn 11 ?_|refine gD 13 [(2, 9), (5, 9), (7, 9), (2, 10)] ?_)) <;> (try (conv => whnf)))
        refine ⟨⟨⟨j + 1, goOn f p, c.set p (rd c p ++ [List.take H.length ((rd (rd c p) ((i : Int) - 1).toNat).set p ((i : Int) + 1))]), _, _⟩, fitOk, ?_, ?_⟩⟩
        · exact ⟨by show j + 1 ≤ _; omega, hre.step hp hcan, by show Clks H _ (c.set p (rd c p ++ [List.take H.length _])); rw [et]; exact hstep, hgn⟩
        · show row.length - (j + 1) < row.length - j; omega
      · rw [if_neg hsd] at hstep
        obtain ⟨n1, n2, n3⟩ := hnew (by omega)
        have hcq := hc.rows _ n1
        have hvq := (hc.is _ n1 (senderOf H p i).toNat (by omega)).fok.len
        have q4 : ∀ k, callE PR C (k + 1) 202 [.h 1000000 0 0 [] 1 0 (rd (rd c (rd (rd H p) i).peer.toNat) (senderOf H p i).toNat).length, .pt 1000002 0 0 [] 0 0] [tI (rd (rd c (rd (rd H p) i).peer.toNat) (senderOf H p i).toNat), tI9 (rd (rd c p) ((i : Int) - 1).toNat), .box [.h 1000001 0 0 [] 1 0 H.length]] = some ⟨.tu [], [tI9 (joinL (rd (rd c p) ((i : Int) - 1).toNat) (rd (rd c (rd (rd H p) i).peer.toNat) (senderOf H p i).toNat))], [none, some .dead, some (.box [.h 2000000 1 0 [] 1 0 H.length])]⟩ := fun k => by
          have := ok_impl_clocks1 k (rd (rd c (rd (rd H p) i).peer.toNat) (senderOf H p i).toNat) (rd (rd c p) ((i : Int) - 1).toNat) (by omega) (by omega)
          rw [hbl] at this
          exact this
        have hjl2 := joinL_len (rd (rd c p) ((i : Int) - 1).toNat) (rd (rd c (rd (rd H p) i).peer.toNat) (senderOf H p i).toNat)
        generalize joinL (rd (rd c p) ((i : Int) - 1).toNat) (rd (rd c (rd (rd H p) i).peer.toNat) (senderOf H p i).toNat) = u at *
        have et : List.take H.length (u.set p ((i : Int) + 1)) = u.set p ((i : Int) + 1) := List.take_of_length_le (by rw [List.length_set]; omega)
        repeat' ((with_reducible (first | refine sCall.of (q2 _) ?_|refine sCall.of (q3 _) ?_|refine sCall.of (q4 _) ?_|refine gHole ?_|refine st20 ?_|refine fG.split (fun _ => ?_) (fun _ => ?_)|refine fG.bool (fun _ => ?_) (fun _ => ?_)|refine gDn 8 ?_|refine gDn 11 ?_|refine gD 13 [(2, 9), (5, 9), (7, 9), (2, 10)] ?_)) <;> (try (conv => whnf)))
        refine ⟨⟨⟨j + 1, goOn f p, c.set p (rd c p ++ [List.take H.length (u.set p ((i : Int) + 1))]), _, _⟩, fitOk, ?_, ?_⟩⟩
        · exact ⟨by show j + 1 ≤ _; omega, hre.step hp hcan, by show Clks H _ (c.set p (rd c p ++ [List.take H.length _])); rw [et]; exact hstep, hgn⟩
        · show row.length - (j + 1) < row.length - j; omega
    · rw [if_pos (show i = 0 by omega)] at hstep
      have hz2 : (List.replicate H.length (0 : Int)).length = H.length := by simp
      by_cases hsd : senderOf H p i < 0
      · rw [if_pos hsd] at hstep
        have et : List.take H.length ((List.replicate H.length 0).set p ((i : Int) + 1)) = (List.replicate H.length 0).set p ((i : Int) + 1) := List.take_of_length_le (by rw [List.length_set]; omega)
        repeat' ((with_reducible (first | refine sCall.of (q2 _) ?_|refine gHole ?_|refine st20 ?_|refine fG.split (fun _ => ?_) (fun _ => ?_)|refine fG.bool (fun _ => ?_) (fun _ => ?_)|refine gDn 8 ?_|refine gDn 11 ?_|refine gD 13 [(2, 9), (5, 9), (7, 9), (2, 10)] ?_)) <;> (try (conv => whnf)))
        refine ⟨⟨⟨j + 1, goOn f p, c.set p (rd c p ++ [List.take H.length ((List.replicate H.length 0).set p ((i : Int) + 1))]), _, _⟩, fitOk, ?_, ?_⟩⟩
        · exact ⟨by show j + 1 ≤ _; omega, hre.step hp hcan, by show Clks H _ (c.set p (rd c p ++ [List.take H.length _])); rw [et]; exact hstep, hgn⟩
        · show row.length - (j + 1) < row.length - j; omega
      · rw [if_neg hsd] at hstep
        obtain ⟨n1, n2, n3⟩ := hnew (by omega)
        have hcq := hc.rows _ n1
        have hvq := (hc.is _ n1 (senderOf H p i).toNat (by omega)).fok.len
        have q4 : ∀ k, callE PR C (k + 1) 202 [.h 1000000 0 0 [] 1 0 (rd (rd c (rd (rd H p) i).peer.toNat) (senderOf H p i).toNat).length, .pt 1000002 0 0 [] 0 0] [tI (rd (rd c (rd (rd H p) i).peer.toNat) (senderOf H p i).toNat), tI9 (List.replicate H.length 0), .box [.h 1000001 0 0 [] 1 0 H.length]] = some ⟨.tu [], [tI9 (joinL (List.replicate H.length 0) (rd (rd c (rd (rd H p) i).peer.toNat) (senderOf H p i).toNat))], [none, some .dead, some (.box [.h 2000000 1 0 [] 1 0 H.length])]⟩ := fun k => by
          have := ok_impl_clocks1 k (rd (rd c (rd (rd H p) i).peer.toNat) (senderOf H p i).toNat) (List.replicate H.length 0) (by omega) (by omega)
          rw [hz2] at this
          exact this
        have hjl2 := joinL_len (List.replicate H.length 0) (rd (rd c (rd (rd H p) i).peer.toNat) (senderOf H p i).toNat)
        generalize joinL (List.replicate H.length 0) (rd (rd c (rd (rd H p) i).peer.toNat) (senderOf H p i).toNat) = u at *
        have et : List.take H.length (u.set p ((i : Int) + 1)) = u.set p ((i : Int) + 1) := List.take_of_length_le (by rw [List.length_set]; omega)
        repeat' ((with_reducible (first | refine sCall.of (q2 _) ?_|refine sCall.of (q4 _) ?_|refine gHole ?_|refine st20 ?_|refine fG.split (fun _ => ?_) (fun _ => ?_)|refine fG.bool (fun _ => ?_) (fun _ => ?_)|refine gDn 8 ?_|refine gDn 11 ?_|refine gD 13 [(2, 9), (5, 9), (7, 9), (2, 10)] ?_)) <;> (try (conv => whnf)))
        refine ⟨⟨⟨j + 1, goOn f p, c.set p (rd c p ++ [List.take H.length (u.set p ((i : Int) + 1))]), _, _⟩, fitOk, ?_, ?_⟩⟩
        · exact ⟨by show j + 1 ≤ _; omega, hre.step hp hcan, by show Clks H _ (c.set p (rd c p ++ [List.take H.length _])); rw [et]; exact hstep, hgn⟩
        · show row.length - (j + 1) < row.length - j; omega
  · have hje : j = allEv H := by omega
    rw [hje] at hre
    have hcf : c = clocksOf H := by
      have hrng := fun q hq => (hre.fok.rng q hq).2
      have hfull := full_lens hre.fok ((sum_le H f hre.fok.len hrng).2 hre.sum)
      rw [hfull] at hc
      exact (clocksOf_eq hP hS hr hc).symm
    rw [← hcf, hcl]
    (try dsimp only [cond_true, cond_false])
    (conv => whnf)
    repeat' ((with_reducible (first | refine st20 ?_|refine fG.split (fun _ => ?_) (fun _ => ?_)|refine fG.bool (fun _ => ?_) (fun _ => ?_)|refine gDn 8 ?_|refine gDn 11 ?_|refine gD 13 [(2, 9), (5, 9), (7, 9), (2, 10)] ?_)) <;> (try (conv => whnf)))
    all_goals simp only [show List.take H.length c = c from List.take_of_length_le (by omega)]

end Go.Proofs.YtipfcgbhaalcdaaGreat.Abs
namespace Go.Proofs.YtipfcgbhaalcdaaGreat.Abs
open Go Go.Proofs
set_option linter.unusedVariables false
set_option linter.unusedSimpArgs false
attribute [local irreducible] callE
structure CL7 where
  j : Nat
  l : List Int
  o : Nat
  b : Nat
structure C7 where
  f : List Int
  n : Nat
  p : Nat
  m : Bool
  c : List (List (List Int))
  g : Nat
  d : Bool
end Go.Proofs.YtipfcgbhaalcdaaGreat.Abs
namespace Go.Proofs.YtipfcgbhaalcdaaGreat.Abs
open Go Go.Proofs
set_option linter.unusedVariables false
set_option linter.unusedSimpArgs false
attribute [local irreducible] callE
def evB (P : List (List Ins)) (S : List State) (W : List (List Item)) (H : List (List Event)) (p i : Int) : Bool := sysOk P S W H && hasEv H p i
theorem ok_impl_isEvent (k : Nat) (P : List (List Ins)) (S : List State) (W : List (List Item)) (H : List (List Event)) (p i : Int) (hb : SysB 10000000000 P S W H) :
    callE PR C (k + 12) 99 [aSys 0 P S W H, i64 p, i64 i] [tInsSS P, tStateS S, tItemSS W, tEventSS H] = some ⟨bl (evB P S W H p i), [], [none, none, none, none]⟩ := by
  have q1 := fun k => ok_impl_SysOk k P S W H hb
  have b1 := hb.h
  unfold evB hasEv
  cases e : sysOk P S W H with
  | false =>
    simp only [e] at q1
    (refine fnI [ResultVar.tmp 6] Tryz.func99 ?_; conv => whnf)
    repeat' ((with_reducible (first | refine sCall.of (q1 _) ?_|refine st20 ?_|refine fG.split (fun _ => ?_) (fun _ => ?_)|refine fG.bool (fun _ => ?_) (fun _ => ?_))) <;> (try (conv => whnf)))
    all_goals rfl
  | true =>
    simp only [e] at q1
    have q2 := fun k => ok_impl_in k p 0 ((H.length : Int) - 1)
    by_cases c1 : 0 ≤ p ∧ p ≤ (H.length : Int) - 1
    · rw [decide_eq_true c1] at q2 ⊢
      have b2 := hb.hh p.toNat (by omega)
      have e4 : (List.map rEvent (rd H p.toNat)).length = (rd H p.toNat).length := by simp
      have q3 := fun k => ok_impl_in k i 0 (((List.map rEvent (rd H p.toNat)).length : Int) - 1)
      rw [e4] at q3
      rw [← e4] at q3
      (refine fnI [ResultVar.tmp 6] Tryz.func99 ?_; conv => whnf)
      repeat' ((with_reducible (first | refine sCall.of (q1 _) ?_|refine sCall.of (q2 _) ?_|refine sCall.of (q3 _) ?_|refine st20 ?_|refine fG.split (fun _ => ?_) (fun _ => ?_)|refine fG.bool (fun _ => ?_) (fun _ => ?_))) <;> (try (conv => whnf)))
      all_goals simp [e4]
    · rw [decide_eq_false c1] at q2 ⊢
      (refine fnI [ResultVar.tmp 6] Tryz.func99 ?_; conv => whnf)
      repeat' ((with_reducible (first | refine sCall.of (q1 _) ?_|refine sCall.of (q2 _) ?_|refine st20 ?_|refine fG.split (fun _ => ?_) (fun _ => ?_)|refine fG.bool (fun _ => ?_) (fun _ => ?_))) <;> (try (conv => whnf)))
      all_goals rfl
theorem clocks_lens {P : List (List Ins)} {S : List State} {W : List (List Item)} {H : List (List Event)} (hs : sysOk P S W H = true) : (clocksOf H).length = H.length ∧ ∀ p, p < H.length → (rd (clocksOf H) p).length = (rd H p).length ∧ ∀ i, i < (rd H p).length → (rd (rd (clocksOf H) p) i).length = H.length := by
  obtain ⟨_, hP, hS, _⟩ := sysOk_facts hs
  have hr : inRow H = true := by simp only [sysOk, Bool.and_eq_true] at hs; exact hs.2.2.2.2
  have hc := clocksOf_is hP hS hr
  refine ⟨hc.len, fun p hp => ?_⟩
  have h1 := hc.rows p hp
  rw [lensOf_rd hp] at h1
  exact ⟨by omega, fun i hi => (hc.is p hp i (by omega)).fok.len⟩
noncomputable def hangB (P : List (List Ins)) (S : List State) (W : List (List Item)) (H : List (List Event)) (p i q j : Int) : Bool := sysOk P S W H && (twoEv H p i q j && hangsB H p i q j)
noncomputable def sidB (P : List (List Ins)) (S : List State) (W : List (List Item)) (H : List (List Event)) (p i q j : Int) : Bool := sysOk P S W H && sideB H p i q j
theorem evB_no {P : List (List Ins)} {S : List State} {W : List (List Item)} {H : List (List Event)} {p i q j : Int} (h : evB P S W H p i = false ∨ evB P S W H q j = false ∨ (p = q ∧ i = j)) : (sysOk P S W H && twoEv H p i q j) = false := by
  simp only [evB, twoEv] at h ⊢
  cases e : sysOk P S W H with
  | false => rfl
  | true =>
    simp only [e, Bool.true_and] at h ⊢
    rcases h with h | h | ⟨h1, h2⟩
    · rw [h]; rfl
    · rw [h]; simp
    · rw [h1, h2]; simp
theorem evB_yes {P : List (List Ins)} {S : List State} {W : List (List Item)} {H : List (List Event)} {p i q j : Int} (h1 : evB P S W H p i = true) (h2 : evB P S W H q j = true) (h3 : ¬ (p = q ∧ i = j)) : sysOk P S W H = true ∧ twoEv H p i q j = true := by
  simp only [evB, twoEv, Bool.and_eq_true, Bool.not_eq_true', Bool.and_eq_false_iff, decide_eq_false_iff_not] at h1 h2 ⊢
  exact ⟨h1.1, h1.2, h2.2, Decidable.not_and_iff_or_not.1 h3⟩
set_option maxRecDepth 20000 in
set_option maxHeartbeats 8000000 in
theorem ok_impl_Hangs (k : Nat) (P : List (List Ins)) (S : List State) (W : List (List Item)) (H : List (List Event)) (p i q j : Int) (hb : SysB 10000000000 P S W H) :
    callE PR C (k + 13) 22 [aSys 0 P S W H, i64 p, i64 i, i64 q, i64 j] [tInsSS P, tStateS S, tItemSS W, tEventSS H] = some ⟨bl (hangB P S W H p i q j), [], [none, none, none, none]⟩ := by
  have q1 := fun k => ok_impl_isEvent k P S W H p i hb
  have q2 := fun k => ok_impl_isEvent k P S W H q j hb
  cases e1 : evB P S W H p i with
  | false =>
    simp only [e1] at q1
    rw [show hangB P S W H p i q j = false by rw [hangB, ← Bool.and_assoc, evB_no (.inl e1)]; rfl]
    (refine fnI [ResultVar.tmp 10] Tryz.func22 ?_; conv => whnf)
    repeat' ((with_reducible (first | refine sCall.of (q1 _) ?_|refine st20 ?_|refine fG.split (fun _ => ?_) (fun _ => ?_)|refine fG.bool (fun _ => ?_) (fun _ => ?_))) <;> (try (conv => whnf)))
    all_goals rfl
  | true =>
    simp only [e1] at q1
    cases e2 : evB P S W H q j with
    | false =>
      simp only [e2] at q2
      rw [show hangB P S W H p i q j = false by rw [hangB, ← Bool.and_assoc, evB_no (.inr (.inl e2))]; rfl]
      (refine fnI [ResultVar.tmp 10] Tryz.func22 ?_; conv => whnf)
      repeat' ((with_reducible (first | refine sCall.of (q1 _) ?_|refine sCall.of (q2 _) ?_|refine st20 ?_|refine fG.split (fun _ => ?_) (fun _ => ?_)|refine fG.bool (fun _ => ?_) (fun _ => ?_))) <;> (try (conv => whnf)))
      all_goals rfl
    | true =>
      simp only [e2] at q2
      by_cases c : p = q ∧ i = j
      · rw [show hangB P S W H p i q j = false by rw [hangB, ← Bool.and_assoc, evB_no (.inr (.inr c))]; rfl]
        obtain ⟨c1, c2⟩ := c
        subst c1 c2
        (refine fnI [ResultVar.tmp 10] Tryz.func22 ?_; conv => whnf)
        repeat' ((with_reducible (first | refine sCall.of (q1 _) ?_|refine sCall.of (q2 _) ?_|refine st20 ?_|refine fG.split (fun _ => ?_) (fun _ => ?_)|refine fG.bool (fun _ => ?_) (fun _ => ?_))) <;> (try (conv => whnf)))
        all_goals rfl
      · obtain ⟨hs, h2⟩ := evB_yes e1 e2 c
        have h3 := h2
        simp only [twoEv, hasEv, Bool.and_eq_true, decide_eq_true_eq] at h3
        obtain ⟨l1, l2⟩ := clocks_lens hs
        have l3 := (l2 p.toNat (by omega)).1
        have l4 := (l2 p.toNat (by omega)).2 i.toNat (by omega)
        have q3 := fun k => ok_impl_clocks k P S W H hs
        rw [show hangB P S W H p i q j = decide (rd (rd (rd (clocksOf H) p.toNat) i.toNat) q.toNat > j) by rw [hangB, hs, h2]; rfl]
        generalize clocksOf H = c3 at *
        have e5 : (List.map rIntL (rd c3 p.toNat)).length = (rd c3 p.toNat).length := by simp
        by_cases d1 : p = q
        · have d2 : ¬ i = j := fun h => c ⟨d1, h⟩
          (refine fnI [ResultVar.tmp 10] Tryz.func22 ?_; conv => whnf)
          repeat' ((with_reducible (first | refine sCall.of (q1 _) ?_|refine sCall.of (q2 _) ?_|refine sCall.of (q3 _) ?_|refine st20 ?_|refine fG.split (fun _ => ?_) (fun _ => ?_)|refine fG.bool (fun _ => ?_) (fun _ => ?_))) <;> (try (conv => whnf)))
          all_goals rfl
        · (refine fnI [ResultVar.tmp 10] Tryz.func22 ?_; conv => whnf)
          repeat' ((with_reducible (first | refine sCall.of (q1 _) ?_|refine sCall.of (q2 _) ?_|refine sCall.of (q3 _) ?_|refine st20 ?_|refine fG.split (fun _ => ?_) (fun _ => ?_)|refine fG.bool (fun _ => ?_) (fun _ => ?_))) <;> (try (conv => whnf)))
          all_goals rfl
noncomputable def swapIs (P : List (List Ins)) (S : List State) (W : List (List Item)) (H : List (List Event)) (row : List Who) (k : Int) : List Who := if swapB P S W H row k = true then swapRow row k.toNat else []
end Go.Proofs.YtipfcgbhaalcdaaGreat.Abs
namespace Go.Proofs.YtipfcgbhaalcdaaGreat.Abs
open Go Go.Proofs
set_option linter.unusedVariables false
set_option linter.unusedSimpArgs false
attribute [local irreducible] callE
def DSysRow (r : Res) : Prop := ∃ (P : List (List Ins)) (S : List State) (W : List (List Item)) (H : List (List Event)) (l : List Who), SysB 2000000 P S W H ∧ l.length ≤ 1000 ∧ r = ⟨.tu [nSys 0 P S W H, .h 2000004 1 0 [] 2 0 l.length], [tInsSS9 P, tStateS9 S, tItemSS9 W, tEventSS9 H, tWho9 l], [none]⟩
def DSysRowK (r : Res) : Prop := ∃ (P : List (List Ins)) (S : List State) (W : List (List Item)) (H : List (List Event)) (l : List Who) (n : Int), SysB 2000000 P S W H ∧ l.length ≤ 1000 ∧ r = ⟨.tu [nSys 0 P S W H, .h 2000004 1 0 [] 2 0 l.length, i64 n], [tInsSS9 P, tStateS9 S, tItemSS9 W, tEventSS9 H, tWho9 l], [none]⟩
end Go.Proofs.YtipfcgbhaalcdaaGreat.Abs
namespace Go.Proofs.YtipfcgbhaalcdaaGreat.Abs
open Go Go.Proofs
set_option linter.unusedVariables false
set_option linter.unusedSimpArgs false
attribute [local irreducible] callE
theorem ok_Equal_Ins (k : Nat) (l : List Ins) (hl : l.length ≤ 100000000000) : callE PR C (k + 1) 97 [.h 1000000 0 0 [] 5 0 l.length, .h 1000001 0 0 [] 5 0 l.length] [tIns l, tIns l] = some ⟨bl true, [], [none, none]⟩ := by
  (refine fnI [ResultVar.tmp 4] Tryz.func97 ?_; conv => whnf)
  repeat' ((with_reducible (first | refine st20 ?_|refine fG.split (fun _ => ?_) (fun _ => ?_)|refine fG.bool (fun _ => ?_) (fun _ => ?_)|refine gDn 6 ?_)) <;> (try (conv => whnf)))
  refine loop_rule (ι := Nat) (fun j => [(0, .h 1000000 0 0 [] 5 0 l.length), (1, .h 1000001 0 0 [] 5 0 l.length), (12, i64 l.length), (13, i64 (j : Nat))])
    (fun x => [(1000000, ⟨0, 0, false, tIns l⟩), (1000001, ⟨0, 0, false, tIns l⟩)])
    (fun j => l.length - j) (fun j => j ≤ l.length) 0 fitOk (Nat.zero_le _) (by simp [C]; omega) ?_
  rintro j sl ob hj
  (try dsimp only [cond_true, cond_false])
  (conv => whnf)
  by_cases hjl : j < l.length
  · repeat' ((with_reducible (first | refine st20 ?_|refine fG.split (fun _ => ?_) (fun _ => ?_)|refine fG.bool (fun _ => ?_) (fun _ => ?_)|refine gDn 6 ?_)) <;> (try (conv => whnf)))
    all_goals first | (rename_i h; simp at h; done) | skip
    refine ⟨⟨j + 1, fitOk, ?_, ?_⟩⟩
    · show j + 1 ≤ _; omega
    · show l.length - (j + 1) < l.length - j; omega
  · repeat' ((with_reducible (first | refine st20 ?_|refine fG.split (fun _ => ?_) (fun _ => ?_)|refine fG.bool (fun _ => ?_) (fun _ => ?_)|refine gDn 6 ?_)) <;> (try (conv => whnf)))
theorem ok_Equal_Event (k : Nat) (l m : List Event) (e : l = m) (hl : l.length ≤ 100000000000) : callE PR C (k + 1) 98 [.h 1000000 0 0 [] 3 0 l.length, .h 1000001 0 0 [] 3 0 m.length] [tEvent l, tEvent m] = some ⟨bl true, [], [none, none]⟩ := by
  subst e
  (refine fnI [ResultVar.tmp 4] Tryz.func98 ?_; conv => whnf)
  repeat' ((with_reducible (first | refine st20 ?_|refine fG.split (fun _ => ?_) (fun _ => ?_)|refine fG.bool (fun _ => ?_) (fun _ => ?_)|refine gDn 6 ?_)) <;> (try (conv => whnf)))
  refine loop_rule (ι := Nat) (fun j => [(0, .h 1000000 0 0 [] 3 0 l.length), (1, .h 1000001 0 0 [] 3 0 l.length), (12, i64 l.length), (13, i64 (j : Nat))])
    (fun x => [(1000000, ⟨0, 0, false, tEvent l⟩), (1000001, ⟨0, 0, false, tEvent l⟩)])
    (fun j => l.length - j) (fun j => j ≤ l.length) 0 fitOk (Nat.zero_le _) (by simp [C]; omega) ?_
  rintro j sl ob hj
  (try dsimp only [cond_true, cond_false])
  (conv => whnf)
  by_cases hjl : j < l.length
  · repeat' ((with_reducible (first | refine st20 ?_|refine fG.split (fun _ => ?_) (fun _ => ?_)|refine fG.bool (fun _ => ?_) (fun _ => ?_)|refine gDn 6 ?_)) <;> (try (conv => whnf)))
    all_goals first | (rename_i h; simp at h; done) | skip
    refine ⟨⟨j + 1, fitOk, ?_, ?_⟩⟩
    · show j + 1 ≤ _; omega
    · show l.length - (j + 1) < l.length - j; omega
  · repeat' ((with_reducible (first | refine st20 ?_|refine fG.split (fun _ => ?_) (fun _ => ?_)|refine fG.bool (fun _ => ?_) (fun _ => ?_)|refine gDn 6 ?_)) <;> (try (conv => whnf)))
theorem ok_impl_Forth1 (k : Nat) (l : List Ins) (hl : l.length ≤ 100000000000) : callE PR C (k + 2) 96 [.h 1000000 0 0 [] 5 0 l.length, .h 1000001 0 0 [] 5 0 l.length] [tIns l, tIns l] = some ⟨bl true, [], [none, none]⟩ := by
  (refine fnI [ResultVar.tmp 4] Tryz.func96 ?_; conv => whnf)
  repeat' ((with_reducible (first | refine sCall.of (ok_Equal_Ins _ _ hl) ?_|refine st20 ?_|refine fG.split (fun _ => ?_) (fun _ => ?_)|refine fG.bool (fun _ => ?_) (fun _ => ?_))) <;> (try (conv => whnf)))
theorem ok_EqualFunc (k : Nat) (P : List (List Ins)) (hl : P.length ≤ 100000000000) (hp : ∀ j : Nat, j < P.length → (rd P j).length ≤ 100000000000) :
    callE PR C (k + 3) 95 [.h 1000000 0 0 [] 1 0 P.length, .h 1000001 0 0 [] 1 0 P.length, .fn 96 []] [tInsSS P, tInsSS P] = some ⟨bl true, [], [none, none]⟩ := by
  (refine fnI [ResultVar.tmp 6] Tryz.func95 ?_; conv => whnf)
  repeat' ((with_reducible (first | refine st20 ?_|refine fG.split (fun _ => ?_) (fun _ => ?_)|refine fG.bool (fun _ => ?_) (fun _ => ?_))) <;> (try (conv => whnf)))
  refine loop_rule (ι := Nat) (fun j => [(1, .h 1000001 0 0 [] 1 0 P.length), (2, .fn 96 []), (15, .h 1000000 0 0 [] 1 0 P.length), (16, i64 P.length), (17, i64 (j : Nat))])
    (fun x => [(1000000, ⟨0, 0, false, tInsSS P⟩), (1000001, ⟨0, 0, false, tInsSS P⟩)])
    (fun j => P.length - j) (fun j => j ≤ P.length) 0 fitOk (Nat.zero_le _) (by simp [C]; omega) ?_
  rintro j sl ob hj
  by_cases hjl : j < P.length
  · have q1 := fun k => ok_impl_Forth1 k (rd P j) (hp j hjl)
    (try dsimp only [cond_true, cond_false])
    (conv => whnf)
    repeat' ((with_reducible (first | refine sCall.of (q1 _) ?_|refine st20 ?_|refine fG.split (fun _ => ?_) (fun _ => ?_)|refine fG.bool (fun _ => ?_) (fun _ => ?_))) <;> (try (conv => whnf)))
    refine ⟨⟨j + 1, fitOk, ?_, ?_⟩⟩
    · show j + 1 ≤ _; omega
    · show P.length - (j + 1) < P.length - j; omega
  · (try dsimp only [cond_true, cond_false])
    (conv => whnf)
    repeat' ((with_reducible (first | refine st20 ?_|refine fG.split (fun _ => ?_) (fun _ => ?_)|refine fG.bool (fun _ => ?_) (fun _ => ?_))) <;> (try (conv => whnf)))
set_option maxRecDepth 20000 in
set_option maxHeartbeats 4000000 in
theorem ok_impl_Forth (k : Nat) (P : List (List Ins)) (S S' : List State) (W W' : List (List Item)) (H G : List (List Event)) (c : List Int) (hs : sysOk P S W H = true) (hs' : sysOk P S' W' G = true) (hf : FOk H c) (hG : G = cutH H c) :
    callE PR C (k + 12) 21 [aSys 0 P S' W' G, aSys 4 P S W H] [tInsSS P, tStateS S', tItemSS W', tEventSS G, tInsSS P, tStateS S, tItemSS W, tEventSS H] = some ⟨bl true, [], [none, none, none, none, none, none, none, none]⟩ := by
  have hB := (sysOk_G hs).b
  have hB' := (sysOk_G hs').b
  have q1 := fun k => ok_impl_SysOk k P S' W' G (hB'.mono (by decide))
  have q2 := fun k => ok_impl_SysOk k P S W H (hB.mono (by decide))
  rw [hs'] at q1
  rw [hs] at q2
  have hpl : P.length ≤ 1048576 := hB.p
  have hpp : ∀ j : Nat, j < P.length → (rd P j).length ≤ 1048576 := hB.pp
  have q3 := fun k => ok_EqualFunc k P (by omega) (fun j hj => by have := hpp j hj; omega)
  have hgl : G.length = H.length := by rw [hG, cutH_len]
  have hhl : H.length ≤ 1048576 := hB.h
  have hhh : ∀ j : Nat, j < H.length → (rd H j).length ≤ 1048576 := hB.hh
  (refine fnI [ResultVar.tmp 4] Tryz.func21 ?_; conv => whnf)
  repeat' ((with_reducible (first | refine sCall.of (q1 _) ?_|refine sCall.of (q2 _) ?_|refine sCall.of (q3 _) ?_|refine st20 ?_|refine fG.split (fun _ => ?_) (fun _ => ?_)|refine fG.bool (fun _ => ?_) (fun _ => ?_))) <;> (try (conv => whnf)))
  refine loop_rule (ι := Nat) (fun j => [(3, .pt 3 1 0 [] 0 0), (24, .h 1000003 0 0 [] 1 0 G.length), (25, i64 G.length), (26, i64 (j : Nat))])
    (fun x => [(1000003, ⟨0, 0, false, tEventSS G⟩), (1000007, ⟨0, 0, false, tEventSS H⟩), (3, ⟨1, 0, false, .box [.h 1000004 0 0 [] 1 0 P.length, .h 1000005 0 0 [] 4 0 S.length, .h 1000006 0 0 [] 1 0 W.length, .h 1000007 0 0 [] 1 0 H.length]⟩)])
    (fun j => G.length - j) (fun j => j ≤ G.length) 0 fitOk (Nat.zero_le _) (by simp [C]; omega) ?_
  rintro j sl ob hj
  by_cases hjl : j < G.length
  · have hjh : j < H.length := by omega
    have hx := hhh j hjh
    have hcut : rd G j = (rd H j).take (rd G j).length := by
      have h1 := hf.rng j hjh
      rw [hG, rd_cutH hjh, List.length_take, List.take_eq_take_min]
    have hle : (rd G j).length ≤ (rd H j).length := by rw [hcut, List.length_take]; omega
    have e4 : (List.map rEvent (rd G j)).length = (rd G j).length := by simp
    have e5 : (List.map rEvent (rd H j)).length = (rd H j).length := by simp
    have q4 := fun k => ok_Equal_Event k (rd G j) ((rd H j).take (rd G j).length) hcut (by omega)
    (try dsimp only [cond_true, cond_false])
    (conv => whnf)
    repeat' ((with_reducible (first | refine sCall.of (q4 _) ?_|refine st20 ?_|refine fG.split (fun _ => ?_) (fun _ => ?_)|refine fG.bool (fun _ => ?_) (fun _ => ?_))) <;> (try (conv => whnf)))
    refine ⟨⟨j + 1, fitOk, ?_, ?_⟩⟩
    · show j + 1 ≤ _; omega
    · show G.length - (j + 1) < G.length - j; omega
  · (try dsimp only [cond_true, cond_false])
    (conv => whnf)
    repeat' ((with_reducible (first | refine st20 ?_|refine fG.split (fun _ => ?_) (fun _ => ?_)|refine fG.bool (fun _ => ?_) (fun _ => ?_))) <;> (try (conv => whnf)))

theorem back_same {P : List (List Ins)} {S : List State} {W : List (List Item)} {H : List (List Event)} {p i : Int} (h : (backIs P S W H p i).2 ≠ 0) : ((backIs P S W H p i).2 = 1 ∧ (backIs P S W H p i).1 = ⟨[], [], [], []⟩) ∨ ((backIs P S W H p i).2 ≠ 1 ∧ (backIs P S W H p i).1 = ⟨P, S, W, H⟩) := by
  unfold backIs at h ⊢
  split
  · rename_i e
    rw [if_pos e] at h
    split
    · rename_i e2
      rw [if_pos e2] at h
      split
      · rename_i e3
        rw [if_pos e3] at h
        exact absurd rfl h
      · exact .inr ⟨by show ¬ (3 : Int) = 1; decide, rfl⟩
    · exact .inr ⟨by show ¬ (2 : Int) = 1; decide, rfl⟩
  · exact .inl ⟨rfl, rfl⟩
set_option maxRecDepth 20000 in
set_option maxHeartbeats 8000000 in
theorem ok_laws_FnBack (k : Nat) (b : List Int) (hl : b.length ≤ 140737488355328) (hv : ∀ v ∈ b, 0 ≤ v ∧ v < 256) :
    callE PR C (k + 30) 3 [.h 1000000 0 0 [] 1 0 b.length] [tB b] = some ⟨bl true, [], [none]⟩ := by
  have q0 := fun k => ok_laws_big k b
  by_cases c0 : 1048576 < (b.length : Int)
  · rw [decide_eq_true c0] at q0
    (refine fnI [ResultVar.tmp 2] Tryz.func3 ?_; conv => whnf)
    repeat' ((with_reducible (first | refine sCall.of (q0 _) ?_|refine st20 ?_|refine fG.split (fun _ => ?_) (fun _ => ?_)|refine fG.bool (fun _ => ?_) (fun _ => ?_))) <;> (try (conv => whnf)))
  · rw [decide_eq_false c0] at q0
    have hb : Bytes b := ⟨by omega, hv⟩
    (refine fnI [ResultVar.tmp 2] Tryz.func3 ?_; conv => whnf)
    repeat' ((with_reducible (first | refine sCall.of (q0 _) ?_|refine sCall.sys2 (ok_spec_DrawBack _ _ hb) (fun _ _ _ _ _ _ _ => ?_)|refine st20 ?_|refine fG.split (fun _ => ?_) (fun _ => ?_)|refine fG.bool (fun _ => ?_) (fun _ => ?_))) <;> (try (conv => whnf)))
    rename_i P S W H p i hB
    have q1 := fun k => ok_impl_Back k P S W H p i (hB.mono (by decide))
    have q2 := fun k => ok_spec_Back k P S W H p i (hB.mono (by decide))
    by_cases c1 : (backIs P S W H p i).2 = 0
    · obtain ⟨hs, hc⟩ := back_none c1
      have hc' := hc
      simp only [hasCut, Bool.and_eq_true, decide_eq_true_eq] at hc'
      have hr := back_row hs hc
      rcases back_code hs hc with ⟨_, b2, b3⟩ | ⟨b1, _⟩
      · obtain ⟨p, rfl⟩ : ∃ n : Nat, p = (n : Int) := ⟨p.toNat, by omega⟩
        rw [Int.toNat_natCast] at hc' hr
        obtain ⟨hf, hw⟩ := backCut_is hc
        have hG := (sysOk_G b3).b
        have hl2 : (rd (cutH H (backCutOf H p i)) p).length ≤ i.toNat := by rw [hr, List.length_take]; omega
        have hl3 := cutH_len H (backCutOf H p i)
        have q3 := fun k => ok_impl_SysOk k P (stsOf P (cutH H (backCutOf H p i))) (waysOf (cutH H (backCutOf H p i)) P.length) (cutH H (backCutOf H p i)) (hG.mono (by decide))
        have q4 := fun k => ok_impl_Forth k P S (stsOf P (cutH H (backCutOf H p i))) W (waysOf (cutH H (backCutOf H p i)) P.length) H (cutH H (backCutOf H p i)) (backCutOf H p i) hs b3 hf rfl
        have hq : ∀ q, q < H.length → ((rd (cutH H (backCutOf H p i)) q).length : Int) = rd (backCutOf H p i) q := fun q hq => cut_len hf hq
        have hh : ∀ q, q < H.length → q ≠ p → (rd (cutH H (backCutOf H p i)) q).length ≠ (rd H q).length → i ≠ ((rd H p).length : Int) ∧ hangB P S W H q ((rd (cutH H (backCutOf H p i)) q).length : Nat) p i = true := fun q hql hne hg => by
          have h1 := back_hang hs hc hql (by rw [Int.toNat_natCast]; exact hne) (hq q hql) hg
          rw [Int.toNat_natCast] at h1
          exact ⟨h1.1, by unfold hangB; rw [hs, h1.2.1, h1.2.2]; rfl⟩
        rw [b3] at q3
        rw [b2] at q1 q2
        simp only [atSys, sysRes] at q1 q2
        generalize cutH H (backCutOf H p i) = H' at *
        generalize stsOf P H' = S' at *
        generalize waysOf H' P.length = W' at *
        have hHh : ∀ j : Nat, j < H.length → (rd H j).length ≤ 2000000 := hB.hh
        have hHl := hB.h
        have e7 : (List.map rEvent (rd H' p)).length = (rd H' p).length := by simp
        have e8 : (List.map rEvent (rd H p)).length = (rd H p).length := by simp
        have hpp := hHh p (by omega)
        repeat' ((with_reducible (first | refine sCall.of (q1 _) ?_|refine sCall.of (q2 _) ?_|refine sCall.of (q3 _) ?_|refine sCall.of (q4 _) ?_|refine st20 ?_|refine fG.split (fun _ => ?_) (fun _ => ?_)|refine fG.bool (fun _ => ?_) (fun _ => ?_))) <;> (try (conv => whnf)))
        refine loop_rule (ι := Nat) (fun j => [(3, .pt 3 1 0 [] 0 0), (4, i64 p), (5, i64 i), (6, .pt 6 1 0 [] 0 0), (10, i64 (j : Nat))])
          (fun _ => [(3, ⟨1, 0, true, .box [.h 10016 1 0 [] 1 0 P.length, .h 20016 1 0 [] 4 0 S.length, .h 30016 1 0 [] 1 0 W.length, .h 40016 1 0 [] 1 0 H.length]⟩), (10016, ⟨1, 0, false, tInsSS9 P⟩), (20016, ⟨1, 0, false, tStateS9 S⟩), (30016, ⟨1, 0, false, tItemSS9 W⟩), (40016, ⟨1, 0, false, tEventSS9 H⟩),
            (6, ⟨1, 0, true, .box [.h 10024 1 0 [] 1 0 P.length, .h 20024 1 0 [] 4 0 S'.length, .h 30024 1 0 [] 1 0 W'.length, .h 40024 1 0 [] 1 0 H'.length]⟩), (40024, ⟨1, 0, false, tEventSS9 H'⟩)])
          (fun j => H.length - j) (fun j => j ≤ H.length) 0 fitOk (Nat.zero_le _) (by simp [C]; omega) ?_
        clear q1 q2 q3 q4 b2 b3 hr
        rintro j sl ob hj
        by_cases hjl : j < H.length
        · have v1 := hh j hjl
          have v2 := hHh j hjl
          have e3 : (List.map rEvent (rd H j)).length = (rd H j).length := by simp
          have e4 : (List.map rEvent (rd H' j)).length = (rd H' j).length := by simp
          have q5 := fun k => ok_impl_Hangs k P S W H (j : Int) ((List.map rEvent (rd H' j)).length : Nat) (p : Int) i (hB.mono (by decide))
          by_cases d1 : (j : Int) = (p : Int)
          · (try dsimp only [cond_true, cond_false])
            (conv => whnf)
            repeat' ((with_reducible (first | refine st20 ?_|refine fG.split (fun _ => ?_) (fun _ => ?_)|refine fG.bool (fun _ => ?_) (fun _ => ?_))) <;> (try (conv => whnf)))
            refine ⟨⟨j + 1, fitOk, ?_, ?_⟩⟩
            · show j + 1 ≤ _; omega
            · show H.length - (j + 1) < H.length - j; omega
          · by_cases d2 : (rd H' j).length = (rd H j).length
            · (try dsimp only [cond_true, cond_false])
              (conv => whnf)
              repeat' ((with_reducible (first | refine st20 ?_|refine fG.split (fun _ => ?_) (fun _ => ?_)|refine fG.bool (fun _ => ?_) (fun _ => ?_))) <;> (try (conv => whnf)))
              refine ⟨⟨j + 1, fitOk, ?_, ?_⟩⟩
              · show j + 1 ≤ _; omega
              · show H.length - (j + 1) < H.length - j; omega
            · obtain ⟨w1, w2⟩ := v1 (by omega) d2
              rw [e4, w2] at q5
              rw [← e4] at q5
              (try dsimp only [cond_true, cond_false])
              (conv => whnf)
              repeat' ((with_reducible (first | refine sCall.of (q5 _) ?_|refine st20 ?_|refine fG.split (fun _ => ?_) (fun _ => ?_)|refine fG.bool (fun _ => ?_) (fun _ => ?_))) <;> (try (conv => whnf)))
              refine ⟨⟨j + 1, fitOk, ?_, ?_⟩⟩
              · show j + 1 ≤ _; omega
              · show H.length - (j + 1) < H.length - j; omega
        · (try dsimp only [cond_true, cond_false])
          (conv => whnf)
          repeat' ((with_reducible (first | refine st20 ?_|refine fG.split (fun _ => ?_) (fun _ => ?_)|refine fG.bool (fun _ => ?_) (fun _ => ?_))) <;> (try (conv => whnf)))
      · omega
    · have hn := back_same c1
      generalize backIs P S W H p i = X at *
      obtain ⟨⟨P', S', W', H'⟩, n⟩ := X
      simp only [sysRes] at q1 q2
      dsimp only at c1 hn
      rcases hn with ⟨n1, n2⟩ | ⟨n1, n2⟩
      · cases n2
        repeat' ((with_reducible (first | refine sCall.of (q1 _) ?_|refine sCall.of (q2 _) ?_|refine st20 ?_|refine fG.split (fun _ => ?_) (fun _ => ?_)|refine fG.bool (fun _ => ?_) (fun _ => ?_))) <;> (try (conv => whnf)))
        all_goals rfl
      · cases n2
        have q5 := fun k => ok_laws_sameHist k P P S S W W H (by have := hB.h; omega) (fun q hq => by have := hB.hh q hq; omega)
        repeat' ((with_reducible (first | refine sCall.of (q1 _) ?_|refine sCall.of (q2 _) ?_|refine sCall.of (q5 _) ?_|refine st20 ?_|refine fG.split (fun _ => ?_) (fun _ => ?_)|refine fG.bool (fun _ => ?_) (fun _ => ?_))) <;> (try (conv => whnf)))
        all_goals rfl

end Go.Proofs.YtipfcgbhaalcdaaGreat.Abs
namespace Go.Proofs.YtipfcgbhaalcdaaGreat.Abs
open Go
set_option linter.unusedVariables false

def Opens (P : Program) (t : TypeId) (n : Nat) (M : List T → Prop) : Prop :=
  ∀ (H : Type) (enc : TypeId × Value → H) (w : World) (base : Nat) (sp : Nat → Bool) (held : Bool) (fuel : Nat) (cs : List Value) (x : DataW H × List MemPlace),
    DataW.trod enc P w base sp held fuel t cs = some x → (∀ m ∈ x.1.weights P t, m ≤ reachBytes) →
      cs.length = n ∧ ∃ ts : List T, ts.length = n ∧ M ts ∧ ∀ (i : Nat) v t', cs[i]? = some v → ts[i]? = some t' → Ow (fun k => k < w.heap.size) w 0 v t' none_
theorem Opens.mono {P : Program} {t : TypeId} {n : Nat} {M M' : List T → Prop} (h : Opens P t n M) (hm : ∀ ts, M ts → M' ts) : Opens P t n M' := by
  intro H enc w base sp held fuel cs x hx hw
  obtain ⟨h1, ts, h2, h3, h4⟩ := h H enc w base sp held fuel cs x hx hw
  exact ⟨h1, ts, h2, hm _ h3, h4⟩
theorem one_ow {w : World} {v0 : Value} {t0 : T} (h : Ow (fun k => k < w.heap.size) w 0 v0 t0 none_) : ∀ (i : Nat) v t', [v0][i]? = some v → [t0][i]? = some t' → Ow (fun k => k < w.heap.size) w 0 v t' none_ := by
  rintro (_ | i) v t' h1 h2
  · simp at h1 h2; subst h1; subst h2; exact h
  · simp at h1
theorem Opens.int {P : Program} {t : TypeId} {k : IntKind} (ht : P.underlying t = some (.int k)) : Opens P t 1 (fun ts => ∃ n, (Lit.int k n).wf = true ∧ ts = [.v (.int k n)]) := by
  intro H enc w base sp held fuel cs x hx hw
  obtain ⟨n, rfl, rfl, h⟩ := DataW.trod_int ht hx
  exact ⟨rfl, _, rfl, ⟨n, h, rfl⟩, one_ow (.v rfl)⟩
theorem Opens.bool {P : Program} {t : TypeId} (ht : P.underlying t = some .bool) : Opens P t 1 (fun ts => ∃ b, ts = [.v (.bool b)]) := by
  intro H enc w base sp held fuel cs x hx hw
  obtain ⟨b, rfl, rfl⟩ := DataW.trod_bool ht hx
  exact ⟨rfl, _, rfl, ⟨b, rfl⟩, one_ow (.v rfl)⟩
theorem Opens.str {P : Program} {t : TypeId} (ht : P.underlying t = some .string) : Opens P t 1 (fun ts => ∃ s : ByteArray, s.size ≤ reachBytes ∧ ts = [.v (.string s)]) := by
  intro H enc w base sp held fuel cs x hx hw
  obtain ⟨s, rfl, rfl, h⟩ := DataW.trod_string ht hx
  refine ⟨rfl, _, rfl, ⟨s, ?_, rfl⟩, one_ow (.v rfl)⟩
  have := hw s.data.toList.length (by simp [DataW.weights])
  simpa using this
def Parts (P : Program) : List Field → Nat → Nat → (List T → Prop) → Prop
  | [], _, n, M => n = 0 ∧ M []
  | f :: r, off, n, M => f.offset = off ∧ ∃ n1 n2 M1 M2, P.cellsOf f.type = n1 ∧ Opens P f.type n1 M1 ∧ Parts P r (off + n1) n2 M2 ∧ n = n1 + n2 ∧ ∀ a b, M1 a → M2 b → M (a ++ b)
theorem weights_part {P : Program} {H : Type} {ts : List TypeId} : ∀ {ds : List (DataW H)} {R : Nat}, (∀ m ∈ DataW.weightsEach P ts ds, m ≤ R) → ∀ (j : Nat) t d, ts[j]? = some t → ds[j]? = some d → ∀ m ∈ d.weights P t, m ≤ R :=
  fun h j t d ht hd m hm => h m (DataW.weights_mem_each ht hd m hm)
theorem Parts.opens {P : Program} {H : Type} {enc : TypeId × Value → H} {w : World} {base : Nat} {sp : Nat → Bool} {held : Bool} {fuel : Nat} {cs : List Value} : ∀ {fs : List Field} {off n : Nat} {M : List T → Prop}, Parts P fs off n M → off + n = cs.length →
    (∀ f ∈ fs, ∃ x, DataW.trod enc P w base sp held fuel f.type ((cs.drop f.offset).take (P.cellsOf f.type)) = some x ∧ (∀ m ∈ x.1.weights P f.type, m ≤ reachBytes)) →
    ∃ ts : List T, ts.length = n ∧ M ts ∧ ∀ (i : Nat) v t', cs[off + i]? = some v → ts[i]? = some t' → Ow (fun k => k < w.heap.size) w 0 v t' none_ := by
  intro fs
  induction fs with
  | nil =>
    intro off n M h hl _
    exact ⟨[], h.1.symm, h.2, fun i v t' _ h2 => by simp at h2⟩
  | cons f r ih =>
    intro off n M h hl hx
    obtain ⟨rfl, n1, n2, M1, M2, h1, h2, h3, rfl, h4⟩ := h
    obtain ⟨x, hx1, hx2⟩ := hx f (by simp)
    rw [h1] at hx1
    obtain ⟨k1, t1, k2, k3, k4⟩ := h2 H enc w base sp held fuel _ x hx1 hx2
    obtain ⟨t2, q1, q2, q3⟩ := ih h3 (by omega) fun g hg => hx g (by simp [hg])
    refine ⟨t1 ++ t2, by simp [k2, q1], h4 _ _ k3 q2, fun i v t' hv ht' => ?_⟩
    by_cases hi : i < n1
    · rw [List.getElem?_append_left (by omega)] at ht'
      exact k4 i v t' (by rw [List.getElem?_take, if_pos hi, List.getElem?_drop]; exact hv) ht'
    · rw [List.getElem?_append_right (by omega), k2] at ht'
      exact q3 (i - n1) v t' (by rw [show f.offset + n1 + (i - n1) = f.offset + i by omega]; exact hv) ht'
theorem Opens.struct {P : Program} {t : TypeId} {fs : Array Field} {n : Nat} {M : List T → Prop} (ht : P.underlying t = some (.struct fs)) (hc : P.cellsOf t = n) (hp : Parts P fs.toList 0 n M) : Opens P t n M := by
  intro H enc w base sp held fuel cs x hx hw
  obtain ⟨xs, m, _, rfl, hl, hlen, hf⟩ := DataW.trod_struct ht hx
  have hl' : cs.length = n := hl.trans hc
  obtain ⟨ts, h1, h2, h3⟩ := hp.opens (enc := enc) (w := w) (base := base) (sp := sp) (held := held) (fuel := m) (cs := cs) (by omega) (by
    intro f hfm
    obtain ⟨i, hi⟩ := List.getElem?_of_mem hfm
    have hi' : fs[i]? = some f := by simpa using hi
    have hlt : i < xs.length := by rw [hlen]; exact (Array.getElem?_eq_some_iff.1 hi').1
    have hy : xs[i]? = some xs[i] := List.getElem?_eq_getElem hlt
    refine ⟨xs[i], (hf i f hi').trans hy, ?_⟩
    refine weights_part (ts := fs.toList.map (·.type)) (ds := xs.map (·.1)) ?_ i f.type xs[i].1 (by simp [hi']) (by rw [List.getElem?_map, hy]; rfl)
    intro q hq
    refine hw q ?_
    simpa [DataW.weights, ht] using hq)
  exact ⟨hl', ts, h1, h2, fun i v t' hv ht' => h3 i v t' (by simpa using hv) ht'⟩
def IntsM (n : Nat) (ts : List T) : Prop := ∃ zs : List Int, zs.length = n ∧ ts = zs.map fun z => T.v (.int .i64 z)
theorem Parts.nil {P : Program} {off : Nat} : Parts P [] off 0 (IntsM 0) := ⟨rfl, [], rfl, rfl⟩
theorem Parts.int {P : Program} {f : Field} {r : List Field} {off n : Nat} (ho : f.offset = off) (hc : P.cellsOf f.type = 1) (ht : P.underlying f.type = some (.int .i64)) (h : Parts P r (off + 1) n (IntsM n)) :
    Parts P (f :: r) off (1 + n) (IntsM (1 + n)) := by
  refine ⟨ho, 1, n, _, _, hc, Opens.int ht, h, rfl, ?_⟩
  rintro a b ⟨z, _, rfl⟩ ⟨zs, hz, rfl⟩
  exact ⟨z :: zs, by simp [hz]; omega, rfl⟩
def Ms : List (List T → Prop) → List T → Prop
  | [], ts => ts = []
  | M :: r, ts => ∃ a b, ts = a ++ b ∧ M a ∧ Ms r b
theorem Parts.mnil {P : Program} {off : Nat} : Parts P [] off 0 (Ms []) := ⟨rfl, rfl⟩
theorem Parts.mcons {P : Program} {f : Field} {r : List Field} {off n1 n : Nat} {M : List T → Prop} {l : List (List T → Prop)} (ho : f.offset = off) (hc : P.cellsOf f.type = n1) (ht : Opens P f.type n1 M) (h : Parts P r (off + n1) n (Ms l)) :
    Parts P (f :: r) off (n1 + n) (Ms (M :: l)) :=
  ⟨ho, n1, n, _, _, hc, ht, h, rfl, fun a b ha hb => ⟨a, b, rfl, ha, hb⟩⟩

theorem rows_map {α : Type} {f : α → List T} {p : α → Prop} {rows : List (List T)} (h : ∀ r ∈ rows, ∃ x, p x ∧ r = f x) : ∃ l : List α, rows = l.map f ∧ ∀ x ∈ l, p x := by
  induction rows with
  | nil => exact ⟨[], rfl, by simp⟩
  | cons r rows ih =>
    obtain ⟨x, hx, rfl⟩ := h r (by simp)
    obtain ⟨l, rfl, hl⟩ := ih fun q hq => h q (by simp [hq])
    exact ⟨x :: l, rfl, by simpa using ⟨hx, hl⟩⟩
theorem weights_all {P : Program} {H : Type} {e : TypeId} {d : DataW H} : ∀ {l : List (DataW H)}, d ∈ l → ∀ m ∈ d.weights P e, m ∈ DataW.weightsAll P e l
  | a :: r, hd, m, hm => by
    simp only [DataW.weightsAll, List.mem_append]
    rcases List.mem_cons.1 hd with rfl | hd
    · exact .inl hm
    · exact .inr (weights_all hd m hm)
theorem Opens.slice {P : Program} {t e : TypeId} {sz B : Nat} {M : List T → Prop} (ht : P.underlying t = some (.slice e)) (hc : P.cellsOf e = sz) (hB : P.bytesOf e = B) (hsz : 0 < sz) (hE : Opens P e sz M) :
    Opens P t 1 (fun ts => ∃ rows, ts = [.sl sz rows] ∧ (∀ x ∈ rows, M x) ∧ rows.length * B ≤ reachBytes) := by
  intro H enc w base sp held fuel cs0 x hx hw
  rcases DataW.trod_slice ht hx with ⟨rfl, _⟩ | ⟨a, len, cap, elems, rest, n, _, rfl, rfl, _, hl, _, hlen, hel, _⟩
  · exact ⟨rfl, _, rfl, ⟨[], rfl, by simp, by simp⟩, one_ow .nil⟩
  · have hw1 : (elems.length + rest.length) * B ≤ reachBytes := by
      have := hw ((elems.length + rest.length) * P.bytesOf e) (by simp [DataW.weights, ht])
      rwa [hB] at this
    have hcell : ∀ i : Nat, ∃ q : List Value × List T, i < len → q.1.length = sz ∧ q.2.length = sz ∧ M q.2 ∧ (∀ j, j < sz → w.cell? ((a.add (i * sz)).add j) = q.1[j]?) ∧
        ∀ (j : Nat) v t', q.1[j]? = some v → q.2[j]? = some t' → Ow (fun k => k < w.heap.size) w 0 v t' none_ := by
      intro i
      by_cases hi : i < len
      · have hy : elems[i]? = some (elems[i]'(by omega)) := List.getElem?_eq_getElem (by omega)
        have h1 := hel i hi
        rw [hy, hc, Option.bind_eq_some_iff] at h1
        obtain ⟨cs, hcs, htr⟩ := h1
        obtain ⟨k1, ts, k2, k3, k4⟩ := hE H enc w base sp held n cs _ htr (by
          intro m hm
          refine hw m ?_
          have := weights_all (P := P) (e := e) (l := elems.map (·.1)) (List.mem_map_of_mem (List.getElem_mem (by omega : i < elems.length))) m hm
          simp [DataW.weights, ht, this])
        obtain ⟨_, g1, g2⟩ := World.cells?_some hcs
        exact ⟨(cs, ts), fun _ => ⟨k1, k2, k3, g2, k4⟩⟩
      · exact ⟨([], []), fun h => absurd h hi⟩
    obtain ⟨c, hc2⟩ := Classical.axiomOfChoice hcell
    have hblk : 0 < len → a.block < w.heap.size := by
      intro h0
      obtain ⟨k1, k2, k3, k4, k5⟩ := hc2 0 h0
      have h1 := k4 0 hsz
      have h2 : (c 0).1[0]? = some ((c 0).1[0]'(by omega)) := List.getElem?_eq_getElem (by omega)
      rw [h2] at h1
      by_cases hlt : a.block < w.heap.size
      · exact hlt
      · unfold World.cell? at h1
        rw [add_block, add_block, Array.getElem?_eq_none (by omega)] at h1
        simp at h1
    have hat : ∀ i j t', cellT ((List.range len).map fun i => (c i).2) i j = some t' → i < len ∧ (c i).2[j]? = some t' := by
      intro i j t' h'
      unfold cellT at h'
      rw [List.getElem?_map] at h'
      by_cases hi : i < len
      · have hr : (List.range len)[i]? = some i := by simp [hi]
        rw [hr] at h'
        exact ⟨hi, by simpa using h'⟩
      · have hr : (List.range len)[i]? = none := by simp; omega
        rw [hr] at h'
        simp at h'
    refine ⟨rfl, [.sl sz ((List.range len).map fun i => (c i).2)], rfl, ⟨_, rfl, ?_, ?_⟩, one_ow ?_⟩
    · intro x hx
      obtain ⟨i, hi, rfl⟩ := List.mem_map.1 hx
      exact (hc2 i (List.mem_range.1 hi)).2.2.1
    · rw [List.length_map, List.length_range]
      exact Nat.le_trans (Nat.mul_le_mul_right _ (by omega)) hw1
    · have hro := Ow.ro (Z := fun k => k < w.heap.size) (w := w) (a := a) (c := cap) (rows := (List.range len).map fun i => (c i).2) (sz := sz) (fun i j => (c i).1.getD j undef) (by simpa using hl)
        (by
          intro r hr
          obtain ⟨i, hi, rfl⟩ := List.mem_map.1 hr
          exact (hc2 i (List.mem_range.1 hi)).2.1) (fun hne => hblk (by
            rcases Nat.eq_zero_or_pos len with h0 | h0
            · subst h0; exact absurd rfl hne
            · exact h0))
        (by
          intro i j t' h'
          obtain ⟨hi, hj⟩ := hat i j t' h'
          obtain ⟨k1, k2, k3, k4, k5⟩ := hc2 i hi
          have hj' : j < sz := by rw [← k2]; exact (List.getElem?_eq_some_iff.1 hj).1
          rw [← Addr.add_add, k4 j hj', List.getElem?_eq_getElem (by omega)]
          simp [List.getD, show j < (c i).1.length by omega])
        (by
          intro i j t' h'
          obtain ⟨hi, hj⟩ := hat i j t' h'
          obtain ⟨k1, k2, k3, k4, k5⟩ := hc2 i hi
          have hj' : j < sz := by rw [← k2]; exact (List.getElem?_eq_some_iff.1 hj).1
          refine k5 j _ t' ?_ hj
          rw [List.getElem?_eq_getElem (by omega)]
          simp [List.getD, show j < (c i).1.length by omega])
      simpa using hro
theorem Opens.one {P : Program} {t : TypeId} {M : List T → Prop} (h : Opens P t 1 M) {H : Type} {enc : TypeId × Value → H} {w : World} {base : Nat} {sp : Nat → Bool} {held : Bool} {v : Value} {d : DataW H} {ps : List MemPlace}
    (hv : v.cells.toList = [v]) (hd : DataW.Trod enc P w base sp held t v d ps) (hw : ∀ m ∈ d.weights P t, m ≤ reachBytes) : ∃ t', M [t'] ∧ Ow (fun k => k < w.heap.size) w 0 v t' none_ := by
  obtain ⟨fuel, hf⟩ := hd
  rw [hv] at hf
  obtain ⟨_, ts, h1, h2, h3⟩ := h H enc w base sp held fuel _ _ hf hw
  obtain ⟨t', rfl⟩ := List.length_eq_one_iff.1 h1
  exact ⟨t', h2, h3 0 v t' rfl rfl⟩
end Go.Proofs.YtipfcgbhaalcdaaGreat.Abs
namespace Go.Proofs.YtipfcgbhaalcdaaGreat.Abs
open Go Go.RowKit
set_option linter.unusedVariables false

theorem Ow.slice_inv {Z : Fp} {w : World} {v : Value} {sz : Nat} {rows : List (List T)} {F : Fp} {l : Nat} (h : Ow Z w l v (.sl sz rows) F) :
    (v = .slice none 0 0 ∧ rows = []) ∨ ∃ a c, v = .slice (some a) rows.length c ∧ rows.length ≤ c := by
  cases h with
  | nil => exact .inl ⟨rfl, rfl⟩
  | ro xs hc hs hz hx ht => exact .inr ⟨_, _, rfl, hc⟩
  | own xs F hb hfr hc hoff hmax hs hx ht hF hnb hd => exact .inr ⟨_, _, rfl, hc⟩
theorem arg_slice {Z : Fp} {w : World} {ob : Objs} {ρ : Nat → Value} {o sz : Nat} {rows : List (List T)} {v : Value} (h1 : ob o = ⟨0, 0, false, .tree 0 (.sl sz rows)⟩) (h2 : ρ o = v) (h3 : Ow Z w 0 v (.sl sz rows) none_) :
    AVR w ob ρ (.h o 0 0 [] sz 0 rows.length) v := by
  have hin := h3.slice_inv
  refine .h ?_ ?_ fun _ => ?_
  · rw [h1]; exact ⟨Nat.le_refl _, fun _ h => absurd rfl h⟩
  · rcases hin with ⟨rfl, rfl⟩ | ⟨a, c, rfl, hc⟩
    · exact ⟨none, 0, rfl, Nat.le_refl _, fun _ => rfl⟩
    · exact ⟨some a, c, rfl, hc, fun h => by cases h⟩
  · rw [h1, h2]
    refine ⟨fun cells h => by (dsimp only at h; cases h), fun lvl t hc => ?_⟩
    dsimp only at hc
    cases hc
    refine ⟨v, rows, .here, by omega, ?_⟩
    rcases hin with ⟨rfl, rfl⟩ | ⟨a, c, rfl, hc⟩
    · exact .inl ⟨rfl, rfl, rfl, rfl⟩
    · refine .inr ⟨a, rows.length, c, 0, c, rfl, ?_, hc, by omega, Nat.le_refl _, fun _ => rfl⟩
      rw [Nat.zero_mul]
      cases a with
      | mk b off s => cases s <;> simp [Addr.add]
theorem FnOk.outside {P : Program} {W : World} {f : FuncId} {args : List AV} {conts : List Cont} {r : Res} (h : FnOk P f args conts r) (vals : List Value)
    (ho : ∀ (i : Nat) c, conts[i]? = some c → ∃ t v, c = .tree 0 t ∧ vals[i]? = some v ∧ Ow (fun k => k < W.heap.size) W 0 v t none_) (vs : Array Value) (hs : vs.size = args.length)
    (hA : ∀ (i : Nat) x, args[i]? = some x → AVR W (obIn conts) (fun o => vals.getD (o - 1000000) undef) x (vs.getD i undef)) :
    Calls P f vs W (fun e w' => ∃ v, e = .returned v ∧ Below W.heap.size W w' ∧ ∃ ob' ρ', AVR w' ob' ρ' r.v v) := by
  have hI : OInv W none_ (obIn conts) W (fun o => vals.getD (o - 1000000) undef) (fun _ => none_) (fun k => k < W.heap.size) := by
    refine ⟨Keep.refl _ _, fun k hk _ => hk, fun k hk => hk, fun o k hk => hk.elim, fun o o' k hk => hk.elim, fun o k hk => hk.elim, fun o => ?_⟩
    unfold ObOk
    by_cases h1 : 1000000 ≤ o
    · simp only [obIn, h1, if_true]
      cases hc : conts[o - 1000000]? with
      | none =>
        have e : conts.getD (o - 1000000) .dead = .dead := by simp [List.getD, hc]
        rw [e]
        exact fun k hk => hk
      | some c =>
        obtain ⟨t, v, rfl, hv, how⟩ := ho _ _ hc
        have e : conts.getD (o - 1000000) .dead = .tree 0 t := by simp [List.getD, hc]
        have e2 : vals.getD (o - 1000000) undef = v := by simp [List.getD, hv]
        rw [e, e2]
        exact how
    · simp only [obIn, h1, if_false]
      exact fun k hk => hk
  have hr := h.run W none_ _ _ _ vs hI (fun k _ hk => hk) hs hA
  intro cs
  obtain ⟨e, w', fr, hR, hC, hfn, hl⟩ := hr cs
  refine ⟨e, w', fr, ?_, hC, hfn, hl⟩
  cases e with
  | returned v =>
    obtain ⟨ρ', φ', Z', hst, hav⟩ := hR
    exact ⟨v, rfl, ⟨hst.inv.keep.os, hst.inv.keep.tape, hst.inv.keep.output, hst.inv.keep.size, fun k hk => hst.inv.keep.block k hk id⟩, _, _, hav⟩
  | _ => exact hR.elim
theorem AVR.bool_inv {w : World} {ob : Objs} {ρ : Nat → Value} {b : Bool} {v : Value} (h : AVR w ob ρ (.s (.bool b)) v) : v = .bool b := by
  cases h; rfl
end Go.Proofs.YtipfcgbhaalcdaaGreat.Abs
namespace Go.Proofs.YtipfcgbhaalcdaaGreat.Abs
open Go Go.Proofs Go.RowKit
set_option linter.unusedVariables false
set_option linter.unusedSimpArgs false
attribute [local irreducible] callE
theorem u8_wf {n : Int} (h : (Lit.int .u8 n).wf = true) : 0 ≤ n ∧ n < 256 := by
  simp [Lit.wf, IntKind.min, IntKind.max, IntKind.bits, IntKind.signed] at h
  omega
set_option maxRecDepth 20000 in
theorem opens_Bytes : Opens Tryz.prog 22 1 (fun ts => ∃ l : List Int, (l.length ≤ 140737488355328 ∧ ∀ v ∈ l, 0 ≤ v ∧ v < 256) ∧ ts = [.sl 1 (l.map rB)]) :=
  (Opens.slice (sz := 1) (B := 1) Tryz.underlying22 (by kernel_rfl) (by kernel_rfl) (by decide) (Opens.int Tryz.underlying5)).mono fun ts h => by
    obtain ⟨rows, rfl, h1, h2⟩ := h
    obtain ⟨l, rfl, hl⟩ := rows_map (f := rB) (p := fun v => 0 ≤ v ∧ v < 256) (fun r hr => by obtain ⟨n, hn, rfl⟩ := h1 r hr; exact ⟨n, u8_wf hn, rfl⟩)
    rw [List.length_map] at h2
    have := reachBytes_lt
    exact ⟨l, ⟨by omega, hl⟩, rfl⟩
set_option maxRecDepth 20000 in
theorem open_Bytes {H : Type} {enc : TypeId × Value → H} {w : World} {base : Nat} {sp : Nat → Bool} {held : Bool} {v : Value} {d : DataW H} {ps : List MemPlace} {r : Go.Reach} {b0 : Nat}
    (hval : Value.okWide Tryz.prog w r b0 22 v) (h : DataW.Trod enc Tryz.prog w base sp held 22 v d ps) (hw : ∀ m ∈ d.weights Tryz.prog 22, m ≤ reachBytes) :
    ∃ l : List Int, (l.length ≤ 140737488355328 ∧ ∀ v ∈ l, 0 ≤ v ∧ v < 256) ∧ Ow (fun k => k < w.heap.size) w 0 v (.sl 1 (l.map rB)) none_ := by
  obtain ⟨a0, len0, cap0, rfl⟩ := Go.WideShapes.okWide_slice Tryz.underlying22 hval
  obtain ⟨t', ⟨l, h1, h2⟩, h3⟩ := opens_Bytes.one rfl h hw
  cases h2
  exact ⟨l, h1, h3⟩

theorem walk_FnBack {W : World} {v0 : Value} {l : List Int} (h1 : l.length ≤ 140737488355328 ∧ ∀ v ∈ l, 0 ≤ v ∧ v < 256)
    (o1 : Ow (fun k => k < W.heap.size) W 0 v0 (.sl 1 (l.map rB)) none_) :
    Calls PR 3 #[v0] W (fun e w' => e = .returned (.bool true) ∧ Below W.heap.size W w') := by
  have hF := callE_sound (C := C) tys_ok prims_ok _ _ _ _ _ (ok_laws_FnBack 0 l h1.1 h1.2)
  refine (hF.outside [v0] ?_ #[v0] rfl ?_).mono ?_
  · rintro (_ | i) c hc
    · cases hc; exact ⟨_, _, rfl, rfl, o1⟩
    · simp at hc
  · rintro (_ | i) x hx
    · cases hx
      have := arg_slice (ob := obIn [tB l]) (ρ := fun o => [v0].getD (o - 1000000) undef) (o := 1000000) (by rfl) (by rfl) o1
      rwa [List.length_map] at this
    · simp at hx
  · rintro e w' ⟨v, rfl, hb, ob', ρ', hv⟩
    exact ⟨by rw [hv.bool_inv], hb⟩

end Go.Proofs.YtipfcgbhaalcdaaGreat.Abs
namespace Go.Proofs.YtipfcgbhaalcdaaGreat.fnBack
open Go Go.Proofs Go.ChangeShapes Go.WideShapes Go.RowKit Go.Proofs.YtipfcgbhaalcdaaGreat.Abs
set_option linter.unusedVariables false
theorem own : ownKnob Tryz.prog.godebug = none := by kernel_rfl
theorem laidOut : laidOutB Tryz.prog = true := by kernel_rfl
set_option maxRecDepth 100000 in
theorem lifted (os : Os) (started : os.Started) (H : Type) (enc : TypeId × Value → H) :
    ReturnsInHanded {} Tryz.checked os 3 .any (Rows.fnBackSpec.pre6 enc Tryz.prog Tryz.f3 Rows.fnBackRow.domain false) (Rows.fnBackSpec.post enc Tryz.prog Tryz.f3 false true false false) := by
  refine returnsInHanded_of_change_sized (C := Tryz.checked) own started (by kernel_rfl) Tryz.func3
    (ChangeSpec.witness6 (enc := enc) (C := Tryz.checked) false ⟨#[], #[.slice none 0 0], []⟩ 8 (by kernel_rfl) (by kernel_rfl) (by kernel_rfl) (by kernel_rfl)) ?_
  intro W base args ds gs before hval0 hW hcnd hsz0 _
  have hsz : (DataW.weightsEach Tryz.prog (Tryz.f3.params.toList ++ Rows.fnBackSpec.plain.varTypes Tryz.prog) (ds ++ gs)).all (· ≤ reachBytes) = true := hsz0
  have hval : ∀ (j : Nat) t v, Tryz.f3.params[j]? = some t → args[j]? = some v → Value.okWide Tryz.prog W .any base t v := hval0
  have hW' := hW
  obtain ⟨p, q, hA0, hV, rfl, hfz, hnd⟩ := hW
  have hA : DataW.TrodAll enc Tryz.prog W 0 (fun _ => true) true Tryz.f3.params.toList args.toList ds p := hA0
  rw [Tryz.params3] at hA hval hsz
  obtain ⟨v0, vs0, d0, ds0, p0, q0, hargs, rfl, rfl, h0, r0⟩ := trodAll_cons hA
  obtain ⟨rfl, rfl, rfl⟩ := trodAll_nil r0
  obtain rfl : args = #[v0] := by cases args; simp_all
  obtain ⟨rfl, rfl⟩ := trodVars_none hV
  have hwt : ∀ (j : Nat) t d, [22][j]? = some t → [d0][j]? = some d → ∀ m ∈ d.weights Tryz.prog t, m ≤ reachBytes := by
    intro j t d ht hd m hm
    have := List.all_eq_true.1 hsz m (DataW.weights_mem_each (j := j) (t := t) (d := d) ht hd m hm)
    simpa using this
  have k0 := h0
  have lt0 : ∀ x ∈ p0, x.block < W.heap.size := by obtain ⟨m, hm⟩ := k0; exact DataW.trod_lt m _ _ _ hm
  obtain ⟨l0, s0, o0⟩ := open_Bytes (hval 0 22 v0 rfl rfl) h0 (hwt 0 _ _ rfl rfl)
  clear hA0 hval0 hsz0 hsz hwt
  refine (walk_FnBack s0 o0).mono fun e W' ⟨he, bel⟩ => ?_
  subst he
  exact ⟨_, rfl, _, _, _, [], _, [], hW', trodAll_mk1 (shut_bool Tryz.underlying4 _), (trodAll_cons_mk (Below.trod laidOut (by kernel_rfl) (of_decide_eq_true (by kernel_rfl)) k0 bel lt0) trodAll_mk0), rfl, bel.frame _, fun h => by cases h⟩
theorem andT {a b : Bool} (h1 : a = true) (h2 : b = true) : (a && b) = true := by rw [h1, h2]; rfl
theorem j0 : Rows.fnBackRow.wf (OpenSpec.ofChange Rows.fnBackSpec) = true := by kernel_rfl
theorem j1 : laidOutB Tryz.prog = true := by kernel_rfl
theorem j2 : mapsRowed Tryz.prog = true := by kernel_rfl
theorem j3 : Tryz.f3.params.all (Tryz.prog.readableRec ·) = true := by kernel_rfl
theorem j4 : namedTie Tryz.prog Rows.fnBackRow.named Rows.fnBackSpec.vars = true := by kernel_rfl
theorem j5 : (Rows.fnBackRow.stops == []) = true := by kernel_rfl
theorem j6 : (Tryz.prog.stops == []) = true := by kernel_rfl
theorem j7 : (Rows.fnBackRow.knobs == []) = true := by kernel_rfl
theorem j8 : (Tryz.prog.stopKnobs == []) = true := by kernel_rfl
theorem j9 : (Rows.fnBackRow.inPlace == Tryz.prog.inPlace 3) = true := by kernel_rfl
theorem j10 : (Rows.fnBackRow.unfollowed == Tryz.prog.unfollowed 3) = true := by kernel_rfl
theorem j11 : (Rows.fnBackRow.recurses == Tryz.prog.recurses 3) = true := by kernel_rfl
theorem j12 : (Rows.fnBackRow.named == Tryz.prog.varsNamed 3) = true := by kernel_rfl
theorem j13 : (Rows.fnBackRow.maps == (Tryz.f3.params.toList ++ Rows.fnBackSpec.plain.varTypes Tryz.prog).any (Tryz.prog.mapsRec ·)) = true := by kernel_rfl
theorem j14 : (Rows.fnBackRow.ifaces == (Tryz.f3.params.toList ++ Rows.fnBackSpec.plain.varTypes Tryz.prog).any (Tryz.prog.ifacesRec ·)) = true := by kernel_rfl
theorem j15 : (Rows.fnBackRow.mapsOut == Tryz.prog.mapsAmong Tryz.f3.resultTypes.toList) = true := by kernel_rfl
theorem j16 : (Rows.fnBackRow.loops == (Tryz.f3.params.toList ++ Rows.fnBackSpec.plain.varTypes Tryz.prog).any (Tryz.prog.loopsFrom ·)) = true := by kernel_rfl
theorem j17 : (Rows.fnBackRow.wideKeys == (Tryz.f3.params.toList ++ Rows.fnBackSpec.plain.varTypes Tryz.prog ++ Tryz.f3.resultTypes.toList).any (Tryz.prog.wideKeysFrom ·)) = true := by kernel_rfl
theorem j18 : Rows.fnBackSpec.vars.all (Tryz.prog.varReadable ·) = true := by kernel_rfl
theorem j19 : Tryz.f3.resultTypes.all (fun t => Tryz.prog.readableRec t && decide (t < Tryz.prog.types.size)) = true := by kernel_rfl
theorem j20 : (Rows.fnBackRow.ifacesOut == Tryz.f3.resultTypes.toList.any (Tryz.prog.ifacesRec ·)) = true := by kernel_rfl
theorem j21 : (Rows.fnBackRow.loopsOut == Tryz.f3.resultTypes.toList.any (Tryz.prog.loopsFrom ·)) = true := by kernel_rfl
theorem j22 : (Rows.fnBackRow.plainKeys == Tryz.prog.plainKeys) = true := by kernel_rfl
theorem j23 : Rows.fnBackRow.shortTexts.isNone = true := by kernel_rfl
theorem j24 : Tryz.prog.stopsHeard = true := by kernel_rfl
theorem j25 : Tryz.prog.mayEnter = true := by kernel_rfl
theorem j26 : (Rows.fnBackRow.lifted == Tryz.prog.liftsFinal) = true := by kernel_rfl
theorem j27 : (Tryz.prog.make == some Rows.fnBackRow.make) = true := by kernel_rfl
theorem j28 : (Rows.fnBackRow.kinds == (if Rows.fnBackRow.domain.isEmpty then [] else Tryz.f3.params.toList.map fun t => match Tryz.prog.underlying t with | some (.int k) => some k | _ => none)) = true := by kernel_rfl
theorem j29 : (Rows.fnBackRow.pinned == Rows.fnBackRow.pinnedBy) = true := by kernel_rfl
theorem j30 : (Rows.fnBackRow.veiled == (Tryz.f3.params.toList ++ Rows.fnBackSpec.plain.varTypes Tryz.prog ++ Tryz.f3.resultTypes.toList).any (Tryz.prog.veiledRec ·)) = true := by kernel_rfl
theorem j31 : Rows.fnBackRow.veiledFits Tryz.prog Tryz.f3.params.toList (Tryz.f3.params.toList ++ Rows.fnBackSpec.plain.varTypes Tryz.prog ++ Tryz.f3.resultTypes.toList) = true := by kernel_rfl
set_option maxRecDepth 100000 in
theorem joined : joinedFacts Tryz.prog 3 Tryz.f3 Rows.fnBackSpec Rows.fnBackRow = true := by
  unfold joinedFacts
  exact andT (andT (andT (andT (andT (andT (andT (andT (andT (andT (andT (andT (andT (andT (andT (andT (andT (andT (andT (andT (andT (andT (andT (andT (andT (andT (andT (andT (andT (andT (andT j0 j1) j2) j3) j4) j5) j6) j7) j8) j9) j10) j11) j12) j13) j14) j15) j16) j17) j18) j19) j20) j21) j22) j23) j24) j25) j26) j27) j28) j29) j30) j31
theorem over : Rows.fnBackRow.holds Tryz.pinned (OpenSpec.ofChange Rows.fnBackSpec) :=
  OpenClaim.holds_of_wide 3 Tryz.f3 rfl rfl rfl rfl rfl rfl rfl ⟨rfl, rfl, rfl, rfl, rfl⟩ rfl rfl rfl rfl rfl (by kernel_rfl) Tryz.func3 joined
    (of_decide_eq_true (by kernel_rfl)) (by unfold Func.isWrapper; first | (rw [if_pos (by decide +kernel)]; kernel_rfl) | (rw [if_neg (by decide +kernel)]; exact ⟨rfl, rfl⟩))
    (fun os started H enc _ => lifted os started H enc)
theorem proved : Rows.FnBackSaid := over
#print axioms proved
end Go.Proofs.YtipfcgbhaalcdaaGreat.fnBack
namespace Go.Proofs.YtipfcgbhaalcdaaGreat
theorem fnBack_holds : Rows.FnBackSaid := fnBack.proved
end Go.Proofs.YtipfcgbhaalcdaaGreat

