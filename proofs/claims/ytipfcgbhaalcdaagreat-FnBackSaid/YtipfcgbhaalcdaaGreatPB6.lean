/- Part 6 of the words by which the law is followed: an interpreter over data trees, proved of the machine, and what functions of this program come to by it. No condition. -/
import Derived.Test.YtipfcgbhaalcdaaGreatPB5
namespace Go.Proofs.YtipfcgbhaalcdaaGreat.Abs
open Go Go.Proofs
set_option linter.unusedVariables false
set_option linter.unusedSimpArgs false
attribute [local irreducible] callE
theorem snoc_rInsL (l : List (List Ins)) (x : List Ins) : l.map rInsL ++ [[.sl 5 (x.map rIns)]] = (l ++ [x]).map rInsL := by simp [rInsL]
theorem snoc_rItemL (l : List (List Item)) (x : List Item) : l.map rItemL ++ [[.sl 2 (x.map rItem)]] = (l ++ [x]).map rItemL := by simp [rItemL]
theorem snoc_rEventL (l : List (List Event)) (x : List Event) : l.map rEventL ++ [[.sl 3 (x.map rEvent)]] = (l ++ [x]).map rEventL := by simp [rEventL]
theorem snoc_rState (l : List State) (a c : Int) (r o : List Int) : l.map rState ++ [[.v (.int .i64 a), .sl 1 (r.map rI), .sl 1 (o.map rI), .v (.int .i64 c)]] = (l ++ [(⟨a, r, o, c⟩ : State)]).map rState := by simp [rState]
theorem gI15 {p A : Prop} (h : A) (e : p := by first | with_reducible assumption | omega | (simp only [Nat.zero_add, Nat.add_zero, Nat.sub_zero, Int.toNat_natCast, Int.toNat_zero, Int.toNat_one, List.length_map, List.length_nil, Int.reduceToNat, Nat.reduceAdd, Nat.reduceSub, Int.sub_zero, Int.reduceAdd, Int.reduceSub, Nat.sub_self, Int.toNat_natCast_add_one, marks_len, bs_len, List.length_append, List.length_cons, List.length_set, List.length_replicate, List.length_range]; first | done | omega)) : sI p A := sI.mk e h
theorem gNum15 {r r' : Nat} {F : Nat → Prop} (h : F r') (e : r = r' := by first | (simp only [Nat.zero_add, Nat.add_zero, Nat.sub_zero, Int.toNat_natCast, Int.toNat_zero, Int.toNat_one, List.length_map, List.length_nil, Int.reduceToNat, Nat.reduceAdd, Nat.reduceSub, Int.sub_zero, Int.reduceAdd, Int.reduceSub, Nat.sub_self, Int.toNat_natCast_add_one, marks_len, bs_len]; rfl) | rfl) : sN r F := sN.eq e h
theorem gRow15 {r r' : List (List T)} {F : List (List T) → Prop} (h : F r') (e : r = r' := by first | (simp only [Nat.add_zero, Nat.zero_add, Nat.reduceAdd, List.drop_zero, List.take_succ_cons, List.take_nil, List.drop_succ_cons, List.drop_nil, List.take_zero, List.nil_append, List.append_nil, List.map_nil, drop_suf, take_pre, drop_map, List.take_length, take_len_set, take_len_app, List.set_set, List.length_map, snoc_rInsL, snoc_rItemL, snoc_rEventL, snoc_rState, set_rWho, rep_rWho, snoc_rWho, set_rState, rep_rState, set_rInsL, rep_rInsL, set_rItemL, rep_rItemL, set_rEventL, rep_rEventL, set_rItem, rep_rItem, rep_rKept, marks_take, set_rKept, set_rIns, rep_rIns, set_rEvent, rep_rEvent, snoc_rKept, snoc_rEvent, snoc_rIns, bytesT_bs, snoc_rI, snoc_rB, snoc_rBool, set_rI, set_rBool, rep_rI, rep_rBool, map_app]; rfl) | rfl) : sR r F := sR.eq e h
theorem st15 {P Q : Prop} (h : Q) (e : Q → P := by with_reducible first | exact fun h => gP h | exact fun h => gN h | exact fun h => fG.not h | exact fun h => gY h | exact fun h => gF h | exact fun h => fG.yes (flat_map (fun _ => rfl) _) h | exact fun h => gS64 h | exact fun h => gU8 h | exact fun h => gI15 h | exact fun h => fE.of rfl h | exact fun h => gNum15 h | exact fun h => gSet h | exact fun h => gRd h | exact fun h => gLk h | exact fun h => gRow15 h | exact fun h => gRf4 h) : P := e h
theorem ok_Clone_Ins (k : Nat) (l : List Ins) (hl : l.length ≤ 100000000000) : callE PR C (k + 1) 180 [.h 1000000 0 0 [] 5 0 l.length] [tIns l] = some ⟨.h 2000000 1 0 [] 5 0 l.length, [tIns9 l], [none]⟩ := by
  have := callE_prim (k := k) (f := 180) rfl (cloneP_run (sz := 5) (bytes := 40) (wide_map (f := rIns) (fun _ => rfl) l) (flat_map (fun _ => rfl) l) (full_map (fun _ => rfl) l) (by simp; omega))
  simpa using this
theorem ok_Clone_Item (k : Nat) (l : List Item) (hl : l.length ≤ 100000000000) : callE PR C (k + 1) 147 [.h 1000000 0 0 [] 2 0 l.length] [tItem l] = some ⟨.h 2000000 1 0 [] 2 0 l.length, [tItem9 l], [none]⟩ := by
  have := callE_prim (k := k) (f := 147) rfl (cloneP_run (sz := 2) (bytes := 16) (wide_map (f := rItem) (fun _ => rfl) l) (flat_map (fun _ => rfl) l) (full_map (fun _ => rfl) l) (by simp; omega))
  simpa using this
theorem ok_Clone_Event (k : Nat) (l : List Event) (hl : l.length ≤ 100000000000) : callE PR C (k + 1) 182 [.h 1000000 0 0 [] 3 0 l.length] [tEvent l] = some ⟨.h 2000000 1 0 [] 3 0 l.length, [tEvent9 l], [none]⟩ := by
  have := callE_prim (k := k) (f := 182) rfl (cloneP_run (sz := 3) (bytes := 24) (wide_map (f := rEvent) (fun _ => rfl) l) (flat_map (fun _ => rfl) l) (full_map (fun _ => rfl) l) (by simp; omega))
  simpa using this
structure CS (α : Type) where
  j : Nat
  l : List α
  v : AV
  b : Nat
  g : Nat
  d : Bool
  c : Cont
  dd : Bool
def Grown {α : Type} (o sz : Nat) (t : List α → Cont) (X : List α) (z : CS α) : Prop := z.l = X.take z.j ∧ ((z.j = 0 ∧ z.v = .nl sz ∧ z.b = 0 ∧ z.g = 0 ∧ z.d = false ∧ z.c = .dead) ∨ (0 < z.j ∧ z.v = .h o z.b 0 [] sz 0 z.l.length ∧ z.c = t z.l))
theorem grown_nil {α : Type} {o sz : Nat} {t : List α → Cont} {X : List α} {dd : Bool} : Grown o sz t X ⟨0, [], .nl sz, 0, 0, false, .dead, dd⟩ := ⟨rfl, .inl ⟨rfl, rfl, rfl, rfl, rfl, rfl⟩⟩
theorem grown_one {α : Type} [Inhabited α] {o sz b g : Nat} {d dd : Bool} {t : List α → Cont} {X : List α} (h : 0 < X.length) : Grown o sz t X ⟨0 + 1, [rd X 0], .h o b 0 [] sz 0 1, b, g, d, t [rd X 0], dd⟩ := ⟨by show _ = X.take (0 + 1); rw [take_rd h]; rfl, .inr ⟨Nat.one_pos, rfl, rfl⟩⟩
theorem grown_more {α : Type} [Inhabited α] {o sz b g j : Nat} {l : List α} {d dd : Bool} {t : List α → Cont} {X : List α} (h : j < X.length) (hl : l = X.take j) : Grown o sz t X ⟨j + 1, l ++ [rd X j], .h o b 0 [] sz 0 (l ++ [rd X j]).length, b, g, d, t (l ++ [rd X j]), dd⟩ := ⟨by show _ = X.take (j + 1); rw [take_rd h, hl], .inr ⟨Nat.succ_pos j, rfl, rfl⟩⟩
structure SysN (P : List (List Ins)) (S : List State) (W : List (List Item)) (H : List (List Event)) : Prop where
  p : 0 < P.length
  s : 0 < S.length
  w : 0 < W.length
  h : 0 < H.length
theorem SysIs.some {P : List (List Ins)} {S : List State} {W : List (List Item)} {H : List (List Event)} (h : SysIs P S W H) : SysN P S W H := by
  have h1 := h.n
  have h2 := h.s
  have h3 := h.h
  have h4 := h.w
  exact ⟨by omega, by omega, by rw [h4]; exact Nat.mul_pos (by omega) (by omega), by omega⟩
set_option maxHeartbeats 4000000 in
theorem ok_impl_cloneSys (k : Nat) (P : List (List Ins)) (S : List State) (W : List (List Item)) (H : List (List Event)) (hb : SysB 100000000000 P S W H) (hn : SysN P S W H) :
    callE PR C (k + 3) 79 [aSys 0 P S W H] [tInsSS P, tStateS S, tItemSS W, tEventSS H] = some ⟨nSys 0 P S W H, [tInsSS9 P, tStateS9 S, tItemSS9 W, tEventSS9 H], [none, none, none, none]⟩ := by
  have n0 := hn.p
  have n1 := hn.s
  have n2 := hn.w
  have n3 := hn.h
  have m0 := hb.p
  have m1 := hb.s
  have m2 := hb.w
  have m3 := hb.h
  (refine fnI [ResultVar.cell 2 29] Tryz.func79 ?_; conv => whnf)
  repeat' ((with_reducible (first | refine st15 ?_|refine fG.split (fun _ => ?_) (fun _ => ?_)|refine fG.bool (fun _ => ?_) (fun _ => ?_)|refine gD 5 [(1, 3), (1, 4)] ?_|refine gD 10 [(1, 3), (1, 4)] ?_|refine gD 15 [(1, 3), (1, 4)] ?_|refine gD 20 [(1, 3), (1, 4)] ?_)) <;> (try (conv => whnf)))
  refine loop_rule (ι := CS (List Ins)) (fun z => [(1, .pt 1 1 0 [] 0 0), (2, .pt 2 1 0 [] 0 0), (3, .pt 3 1 0 [] 0 0), (14, .h 1000000 0 0 [] 1 0 P.length), (15, i64 P.length), (16, i64 (z.j : Nat))])
    (fun z => [(1000000, ⟨0, 0, false, tInsSS P⟩), (1000001, ⟨0, 0, false, tStateS S⟩), (1000002, ⟨0, 0, false, tItemSS W⟩), (1000003, ⟨0, 0, false, tEventSS H⟩), (1, ⟨1, 0, false, .box [.h 1000000 0 0 [] 1 0 P.length, .h 1000001 0 0 [] 4 0 S.length, .h 1000002 0 0 [] 1 0 W.length, .h 1000003 0 0 [] 1 0 H.length]⟩), (2, ⟨1, 0, false, .box [.nl 1, .nl 4, .nl 1, .nl 1]⟩), (3, ⟨1, 0, z.dd, .box [z.v, .nl 4, .nl 1, .nl 1]⟩), (25, ⟨z.b, z.g, z.d, z.c⟩), (40, ⟨0, 0, false, .dead⟩), (55, ⟨0, 0, false, .dead⟩), (70, ⟨0, 0, false, .dead⟩)])
    (fun z => P.length - z.j) (fun z => z.j ≤ P.length ∧ Grown 25 1 tInsSS9 P z) ⟨0, [], .nl 1, 0, 0, false, .dead, _⟩ fitOk ⟨Nat.zero_le _, grown_nil⟩ (by simp [C]; omega) ?_
  rintro ⟨j, l, v, b0, g0, d0, c, dd⟩ sl ob ⟨hj, hl, hg⟩
  dsimp only at hj hl hg
  by_cases hjl : j < P.length
  · have hx := hb.pp j hjl
    have q := fun k => ok_Clone_Ins k (rd P j) (by omega)
    rcases hg with ⟨e1, e2, e3, e4, e5, e6⟩ | ⟨h0, e2, e3⟩
    all_goals dsimp only at *
    · subst e1 e2 e3 e4 e5 e6 hl
      (try dsimp only [cond_true, cond_false])
      (conv => whnf)
      repeat' ((with_reducible (first | refine sCall.of (q _) ?_|refine st15 ?_|refine fG.split (fun _ => ?_) (fun _ => ?_)|refine fG.bool (fun _ => ?_) (fun _ => ?_)|refine gD 5 [(1, 3), (1, 4)] ?_|refine gD 10 [(1, 3), (1, 4)] ?_|refine gD 15 [(1, 3), (1, 4)] ?_|refine gD 20 [(1, 3), (1, 4)] ?_)) <;> (try (conv => whnf)))
      refine ⟨⟨⟨0 + 1, [rd P 0], _, _, _, _, _, _⟩, fitOk, ?_, ?_⟩⟩
      · exact ⟨by show 0 + 1 ≤ _; omega, grown_one hjl⟩
      · show P.length - (0 + 1) < P.length - 0; omega
    · subst e2 e3
      have hle : l.length = j := by rw [hl]; simp; omega
      (try dsimp only [cond_true, cond_false])
      (conv => whnf)
      repeat' ((with_reducible (first | refine sCall.of (q _) ?_|refine st15 ?_|refine fG.split (fun _ => ?_) (fun _ => ?_)|refine fG.bool (fun _ => ?_) (fun _ => ?_)|refine gD 5 [(1, 3), (1, 4)] ?_|refine gD 10 [(1, 3), (1, 4)] ?_|refine gD 15 [(1, 3), (1, 4)] ?_|refine gD 20 [(1, 3), (1, 4)] ?_)) <;> (try (conv => whnf)))
      refine ⟨⟨⟨j + 1, l ++ [rd P j], _, _, _, _, _, _⟩, fitOk, ?_, ?_⟩⟩
      · exact ⟨by show j + 1 ≤ _; omega, grown_more hjl hl⟩
      · show P.length - (j + 1) < P.length - j; omega
  rcases hg with ⟨e1, e2, e3, e4, e5, e6⟩ | ⟨h0, e2, e3⟩
  all_goals dsimp only at *
  · exfalso; omega
  rw [List.take_of_length_le (by omega)] at hl
  rw [hl] at e2 e3
  subst e2 e3
  (try dsimp only [cond_true, cond_false])
  (conv => whnf)
  repeat' ((with_reducible (first | refine st15 ?_|refine fG.split (fun _ => ?_) (fun _ => ?_)|refine fG.bool (fun _ => ?_) (fun _ => ?_)|refine gD 5 [(1, 3), (1, 4)] ?_|refine gD 10 [(1, 3), (1, 4)] ?_|refine gD 15 [(1, 3), (1, 4)] ?_|refine gD 20 [(1, 3), (1, 4)] ?_)) <;> (try (conv => whnf)))
  refine loop_rule (ι := CS State) (fun z => [(1, .pt 1 1 0 [] 0 0), (2, .pt 2 1 0 [] 0 0), (3, .pt 3 1 0 [] 0 0), (29, .h 1000001 0 0 [] 4 0 S.length), (30, i64 S.length), (31, i64 (z.j : Nat))])
    (fun z => [(1000000, ⟨0, 0, false, tInsSS P⟩), (1000001, ⟨0, 0, false, tStateS S⟩), (1000002, ⟨0, 0, false, tItemSS W⟩), (1000003, ⟨0, 0, false, tEventSS H⟩), (1, ⟨1, 0, false, .box [.h 1000000 0 0 [] 1 0 P.length, .h 1000001 0 0 [] 4 0 S.length, .h 1000002 0 0 [] 1 0 W.length, .h 1000003 0 0 [] 1 0 H.length]⟩), (2, ⟨1, 0, false, .box [.nl 1, .nl 4, .nl 1, .nl 1]⟩), (3, ⟨1, 0, z.dd, .box [.h 25 b0 0 [] 1 0 P.length, z.v, .nl 1, .nl 1]⟩), (25, ⟨b0, g0, d0, tInsSS9 P⟩), (40, ⟨z.b, z.g, z.d, z.c⟩), (55, ⟨0, 0, false, .dead⟩), (70, ⟨0, 0, false, .dead⟩)])
    (fun z => S.length - z.j) (fun z => z.j ≤ S.length ∧ Grown 40 4 tStateS9 S z) ⟨0, [], .nl 4, 0, 0, false, .dead, _⟩ fitOk ⟨Nat.zero_le _, grown_nil⟩ (by simp [C]; omega) ?_
  clear sl ob
  rintro ⟨j, l, v, b1, g1, d1, c, dd⟩ sl ob ⟨hj, hl, hg⟩
  dsimp only at hj hl hg
  by_cases hjl : j < S.length
  · have hx := hb.ss j hjl
    have q := fun k => ok_impl_cloneState k (rd S j).at_ (rd S j).regs (rd S j).out (rd S j).code hx.1 hx.2
    rcases hg with ⟨e1, e2, e3, e4, e5, e6⟩ | ⟨h0, e2, e3⟩
    all_goals dsimp only at *
    · subst e1 e2 e3 e4 e5 e6 hl
      (try dsimp only [cond_true, cond_false])
      (conv => whnf)
      repeat' ((with_reducible (first | refine sCall.of (q _) ?_|refine st15 ?_|refine fG.split (fun _ => ?_) (fun _ => ?_)|refine fG.bool (fun _ => ?_) (fun _ => ?_)|refine gD 5 [(1, 3), (1, 4)] ?_|refine gD 10 [(1, 3), (1, 4)] ?_|refine gD 15 [(1, 3), (1, 4)] ?_|refine gD 20 [(1, 3), (1, 4)] ?_)) <;> (try (conv => whnf)))
      refine ⟨⟨⟨0 + 1, [rd S 0], _, _, _, _, _, _⟩, fitOk, ?_, ?_⟩⟩
      · exact ⟨by show 0 + 1 ≤ _; omega, grown_one hjl⟩
      · show S.length - (0 + 1) < S.length - 0; omega
    · subst e2 e3
      have hle : l.length = j := by rw [hl]; simp; omega
      (try dsimp only [cond_true, cond_false])
      (conv => whnf)
      repeat' ((with_reducible (first | refine sCall.of (q _) ?_|refine st15 ?_|refine fG.split (fun _ => ?_) (fun _ => ?_)|refine fG.bool (fun _ => ?_) (fun _ => ?_)|refine gD 5 [(1, 3), (1, 4)] ?_|refine gD 10 [(1, 3), (1, 4)] ?_|refine gD 15 [(1, 3), (1, 4)] ?_|refine gD 20 [(1, 3), (1, 4)] ?_)) <;> (try (conv => whnf)))
      refine ⟨⟨⟨j + 1, l ++ [rd S j], _, _, _, _, _, _⟩, fitOk, ?_, ?_⟩⟩
      · exact ⟨by show j + 1 ≤ _; omega, grown_more hjl hl⟩
      · show S.length - (j + 1) < S.length - j; omega
  rcases hg with ⟨e1, e2, e3, e4, e5, e6⟩ | ⟨h0, e2, e3⟩
  all_goals dsimp only at *
  · exfalso; omega
  rw [List.take_of_length_le (by omega)] at hl
  rw [hl] at e2 e3
  subst e2 e3
  (try dsimp only [cond_true, cond_false])
  (conv => whnf)
  repeat' ((with_reducible (first | refine st15 ?_|refine fG.split (fun _ => ?_) (fun _ => ?_)|refine fG.bool (fun _ => ?_) (fun _ => ?_)|refine gD 5 [(1, 3), (1, 4)] ?_|refine gD 10 [(1, 3), (1, 4)] ?_|refine gD 15 [(1, 3), (1, 4)] ?_|refine gD 20 [(1, 3), (1, 4)] ?_)) <;> (try (conv => whnf)))
  refine loop_rule (ι := CS (List Item)) (fun z => [(1, .pt 1 1 0 [] 0 0), (2, .pt 2 1 0 [] 0 0), (3, .pt 3 1 0 [] 0 0), (44, .h 1000002 0 0 [] 1 0 W.length), (45, i64 W.length), (46, i64 (z.j : Nat))])
    (fun z => [(1000000, ⟨0, 0, false, tInsSS P⟩), (1000001, ⟨0, 0, false, tStateS S⟩), (1000002, ⟨0, 0, false, tItemSS W⟩), (1000003, ⟨0, 0, false, tEventSS H⟩), (1, ⟨1, 0, false, .box [.h 1000000 0 0 [] 1 0 P.length, .h 1000001 0 0 [] 4 0 S.length, .h 1000002 0 0 [] 1 0 W.length, .h 1000003 0 0 [] 1 0 H.length]⟩), (2, ⟨1, 0, false, .box [.nl 1, .nl 4, .nl 1, .nl 1]⟩), (3, ⟨1, 0, z.dd, .box [.h 25 b0 0 [] 1 0 P.length, .h 40 b1 0 [] 4 0 S.length, z.v, .nl 1]⟩), (25, ⟨b0, g0, d0, tInsSS9 P⟩), (40, ⟨b1, g1, d1, tStateS9 S⟩), (55, ⟨z.b, z.g, z.d, z.c⟩), (70, ⟨0, 0, false, .dead⟩)])
    (fun z => W.length - z.j) (fun z => z.j ≤ W.length ∧ Grown 55 1 tItemSS9 W z) ⟨0, [], .nl 1, 0, 0, false, .dead, _⟩ fitOk ⟨Nat.zero_le _, grown_nil⟩ (by simp [C]; omega) ?_
  clear sl ob
  rintro ⟨j, l, v, b2, g2, d2, c, dd⟩ sl ob ⟨hj, hl, hg⟩
  dsimp only at hj hl hg
  by_cases hjl : j < W.length
  · have hx := hb.ww j hjl
    have q := fun k => ok_Clone_Item k (rd W j) (by omega)
    rcases hg with ⟨e1, e2, e3, e4, e5, e6⟩ | ⟨h0, e2, e3⟩
    all_goals dsimp only at *
    · subst e1 e2 e3 e4 e5 e6 hl
      (try dsimp only [cond_true, cond_false])
      (conv => whnf)
      repeat' ((with_reducible (first | refine sCall.of (q _) ?_|refine st15 ?_|refine fG.split (fun _ => ?_) (fun _ => ?_)|refine fG.bool (fun _ => ?_) (fun _ => ?_)|refine gD 5 [(1, 3), (1, 4)] ?_|refine gD 10 [(1, 3), (1, 4)] ?_|refine gD 15 [(1, 3), (1, 4)] ?_|refine gD 20 [(1, 3), (1, 4)] ?_)) <;> (try (conv => whnf)))
      refine ⟨⟨⟨0 + 1, [rd W 0], _, _, _, _, _, _⟩, fitOk, ?_, ?_⟩⟩
      · exact ⟨by show 0 + 1 ≤ _; omega, grown_one hjl⟩
      · show W.length - (0 + 1) < W.length - 0; omega
    · subst e2 e3
      have hle : l.length = j := by rw [hl]; simp; omega
      (try dsimp only [cond_true, cond_false])
      (conv => whnf)
      repeat' ((with_reducible (first | refine sCall.of (q _) ?_|refine st15 ?_|refine fG.split (fun _ => ?_) (fun _ => ?_)|refine fG.bool (fun _ => ?_) (fun _ => ?_)|refine gD 5 [(1, 3), (1, 4)] ?_|refine gD 10 [(1, 3), (1, 4)] ?_|refine gD 15 [(1, 3), (1, 4)] ?_|refine gD 20 [(1, 3), (1, 4)] ?_)) <;> (try (conv => whnf)))
      refine ⟨⟨⟨j + 1, l ++ [rd W j], _, _, _, _, _, _⟩, fitOk, ?_, ?_⟩⟩
      · exact ⟨by show j + 1 ≤ _; omega, grown_more hjl hl⟩
      · show W.length - (j + 1) < W.length - j; omega
  rcases hg with ⟨e1, e2, e3, e4, e5, e6⟩ | ⟨h0, e2, e3⟩
  all_goals dsimp only at *
  · exfalso; omega
  rw [List.take_of_length_le (by omega)] at hl
  rw [hl] at e2 e3
  subst e2 e3
  (try dsimp only [cond_true, cond_false])
  (conv => whnf)
  repeat' ((with_reducible (first | refine st15 ?_|refine fG.split (fun _ => ?_) (fun _ => ?_)|refine fG.bool (fun _ => ?_) (fun _ => ?_)|refine gD 5 [(1, 3), (1, 4)] ?_|refine gD 10 [(1, 3), (1, 4)] ?_|refine gD 15 [(1, 3), (1, 4)] ?_|refine gD 20 [(1, 3), (1, 4)] ?_)) <;> (try (conv => whnf)))
  refine loop_rule (ι := CS (List Event)) (fun z => [(2, .pt 2 1 0 [] 0 0), (3, .pt 3 1 0 [] 0 0), (59, .h 1000003 0 0 [] 1 0 H.length), (60, i64 H.length), (61, i64 (z.j : Nat))])
    (fun z => [(1000000, ⟨0, 0, false, tInsSS P⟩), (1000001, ⟨0, 0, false, tStateS S⟩), (1000002, ⟨0, 0, false, tItemSS W⟩), (1000003, ⟨0, 0, false, tEventSS H⟩), (2, ⟨1, 0, false, .box [.nl 1, .nl 4, .nl 1, .nl 1]⟩), (3, ⟨1, 0, z.dd, .box [.h 25 b0 0 [] 1 0 P.length, .h 40 b1 0 [] 4 0 S.length, .h 55 b2 0 [] 1 0 W.length, z.v]⟩), (25, ⟨b0, g0, d0, tInsSS9 P⟩), (40, ⟨b1, g1, d1, tStateS9 S⟩), (55, ⟨b2, g2, d2, tItemSS9 W⟩), (70, ⟨z.b, z.g, z.d, z.c⟩)])
    (fun z => H.length - z.j) (fun z => z.j ≤ H.length ∧ Grown 70 1 tEventSS9 H z) ⟨0, [], .nl 1, 0, 0, false, .dead, _⟩ fitOk ⟨Nat.zero_le _, grown_nil⟩ (by simp [C]; omega) ?_
  clear sl ob
  rintro ⟨j, l, v, b3, g3, d3, c, dd⟩ sl ob ⟨hj, hl, hg⟩
  dsimp only at hj hl hg
  by_cases hjl : j < H.length
  · have hx := hb.hh j hjl
    have q := fun k => ok_Clone_Event k (rd H j) (by omega)
    rcases hg with ⟨e1, e2, e3, e4, e5, e6⟩ | ⟨h0, e2, e3⟩
    all_goals dsimp only at *
    · subst e1 e2 e3 e4 e5 e6 hl
      (try dsimp only [cond_true, cond_false])
      (conv => whnf)
      repeat' ((with_reducible (first | refine sCall.of (q _) ?_|refine st15 ?_|refine fG.split (fun _ => ?_) (fun _ => ?_)|refine fG.bool (fun _ => ?_) (fun _ => ?_)|refine gD 5 [(1, 3), (1, 4)] ?_|refine gD 10 [(1, 3), (1, 4)] ?_|refine gD 15 [(1, 3), (1, 4)] ?_|refine gD 20 [(1, 3), (1, 4)] ?_)) <;> (try (conv => whnf)))
      refine ⟨⟨⟨0 + 1, [rd H 0], _, _, _, _, _, _⟩, fitOk, ?_, ?_⟩⟩
      · exact ⟨by show 0 + 1 ≤ _; omega, grown_one hjl⟩
      · show H.length - (0 + 1) < H.length - 0; omega
    · subst e2 e3
      have hle : l.length = j := by rw [hl]; simp; omega
      (try dsimp only [cond_true, cond_false])
      (conv => whnf)
      repeat' ((with_reducible (first | refine sCall.of (q _) ?_|refine st15 ?_|refine fG.split (fun _ => ?_) (fun _ => ?_)|refine fG.bool (fun _ => ?_) (fun _ => ?_)|refine gD 5 [(1, 3), (1, 4)] ?_|refine gD 10 [(1, 3), (1, 4)] ?_|refine gD 15 [(1, 3), (1, 4)] ?_|refine gD 20 [(1, 3), (1, 4)] ?_)) <;> (try (conv => whnf)))
      refine ⟨⟨⟨j + 1, l ++ [rd H j], _, _, _, _, _, _⟩, fitOk, ?_, ?_⟩⟩
      · exact ⟨by show j + 1 ≤ _; omega, grown_more hjl hl⟩
      · show H.length - (j + 1) < H.length - j; omega
  rcases hg with ⟨e1, e2, e3, e4, e5, e6⟩ | ⟨h0, e2, e3⟩
  all_goals dsimp only at *
  · exfalso; omega
  rw [List.take_of_length_le (by omega)] at hl
  rw [hl] at e2 e3
  subst e2 e3
  (try dsimp only [cond_true, cond_false])
  (conv => whnf)
  repeat' ((with_reducible (first | refine st15 ?_|refine fG.split (fun _ => ?_) (fun _ => ?_)|refine fG.bool (fun _ => ?_) (fun _ => ?_)|refine gD 5 [(1, 3), (1, 4)] ?_|refine gD 10 [(1, 3), (1, 4)] ?_|refine gD 15 [(1, 3), (1, 4)] ?_|refine gD 20 [(1, 3), (1, 4)] ?_)) <;> (try (conv => whnf)))
structure CL4Ins where
  j : Nat
  l : List (List Ins)
  o : Nat
  b : Nat
theorem ok_spec_l4Ins (k : Nat) (l : List (List Ins)) (hl : l.length ≤ 100000000000) (hx : ∀ j : Nat, j < l.length → (rd l j).length ≤ 100000000000) :
    callE PR C (k + 1) 185 [.h 1000000 0 0 [] 1 0 l.length] [tInsSS l] = some ⟨.h 2000000 1 0 [] 1 0 l.length, [tInsSS9 l], [none]⟩ := by
  (refine fnI [ResultVar.tmp 2] Tryz.func185 ?_; conv => whnf)
  repeat' ((with_reducible (first | refine st15 ?_|refine fG.split (fun _ => ?_) (fun _ => ?_)|refine fG.bool (fun _ => ?_) (fun _ => ?_))) <;> (try (conv => whnf)))
  refine loop_rule (ι := CL4Ins) (fun z => [(0, .h 1000000 0 0 [] 1 0 l.length), (3, .h z.o z.b 0 [] 1 0 z.l.length), (4, i64 (z.j : Nat))])
    (fun z => [(1000000, ⟨0, 0, false, tInsSS l⟩), (z.o, ⟨z.b, 0, false, tInsSS9 z.l⟩)])
    (fun z => l.length - z.j) (fun z => z.j ≤ l.length ∧ z.l = l.take z.j ∧ (z.o = 5 ∨ z.o = 20)) ⟨0, [], 5, _⟩ fitOk ⟨Nat.zero_le _, rfl, .inl rfl⟩ (by simp [C]; omega) ?_
  rintro ⟨j, out, o, b⟩ sl ob ⟨hj, hout, ho⟩
  dsimp only at hj hout ho
  have hle : out.length ≤ l.length := by rw [hout]; simp; omega
  by_cases hjl : j < l.length
  · have hxj := hx j hjl
    rcases ho with rfl | rfl
    all_goals (try dsimp only [cond_true, cond_false])
    all_goals (conv => whnf)
    all_goals repeat' ((with_reducible (first | refine st15 ?_|refine fG.split (fun _ => ?_) (fun _ => ?_)|refine fG.bool (fun _ => ?_) (fun _ => ?_))) <;> (try (conv => whnf)))
    all_goals
      refine ⟨⟨⟨j + 1, out ++ [rd l j], 20, _⟩, fitOk, ?_, ?_⟩⟩
      · exact ⟨by show j + 1 ≤ _; omega, by show out ++ [rd l j] = _; rw [take_rd hjl, hout], .inr rfl⟩
      · show l.length - (j + 1) < l.length - j; omega
  · rw [List.take_of_length_le (by omega)] at hout
    subst hout
    rcases ho with rfl | rfl
    all_goals (try dsimp only [cond_true, cond_false])
    all_goals (conv => whnf)
    all_goals repeat' ((with_reducible (first | refine st15 ?_|refine fG.split (fun _ => ?_) (fun _ => ?_)|refine fG.bool (fun _ => ?_) (fun _ => ?_))) <;> (try (conv => whnf)))
    all_goals rfl
structure CL4Event where
  j : Nat
  l : List (List Event)
  o : Nat
  b : Nat
theorem ok_spec_l4Events (k : Nat) (l : List (List Event)) (hl : l.length ≤ 100000000000) (hx : ∀ j : Nat, j < l.length → (rd l j).length ≤ 100000000000) :
    callE PR C (k + 1) 186 [.h 1000000 0 0 [] 1 0 l.length] [tEventSS l] = some ⟨.h 2000000 1 0 [] 1 0 l.length, [tEventSS9 l], [none]⟩ := by
  (refine fnI [ResultVar.tmp 2] Tryz.func186 ?_; conv => whnf)
  repeat' ((with_reducible (first | refine st15 ?_|refine fG.split (fun _ => ?_) (fun _ => ?_)|refine fG.bool (fun _ => ?_) (fun _ => ?_))) <;> (try (conv => whnf)))
  refine loop_rule (ι := CL4Event) (fun z => [(0, .h 1000000 0 0 [] 1 0 l.length), (3, .h z.o z.b 0 [] 1 0 z.l.length), (4, i64 (z.j : Nat))])
    (fun z => [(1000000, ⟨0, 0, false, tEventSS l⟩), (z.o, ⟨z.b, 0, false, tEventSS9 z.l⟩)])
    (fun z => l.length - z.j) (fun z => z.j ≤ l.length ∧ z.l = l.take z.j ∧ (z.o = 5 ∨ z.o = 20)) ⟨0, [], 5, _⟩ fitOk ⟨Nat.zero_le _, rfl, .inl rfl⟩ (by simp [C]; omega) ?_
  rintro ⟨j, out, o, b⟩ sl ob ⟨hj, hout, ho⟩
  dsimp only at hj hout ho
  have hle : out.length ≤ l.length := by rw [hout]; simp; omega
  by_cases hjl : j < l.length
  · have hxj := hx j hjl
    rcases ho with rfl | rfl
    all_goals (try dsimp only [cond_true, cond_false])
    all_goals (conv => whnf)
    all_goals repeat' ((with_reducible (first | refine st15 ?_|refine fG.split (fun _ => ?_) (fun _ => ?_)|refine fG.bool (fun _ => ?_) (fun _ => ?_))) <;> (try (conv => whnf)))
    all_goals
      refine ⟨⟨⟨j + 1, out ++ [rd l j], 20, _⟩, fitOk, ?_, ?_⟩⟩
      · exact ⟨by show j + 1 ≤ _; omega, by show out ++ [rd l j] = _; rw [take_rd hjl, hout], .inr rfl⟩
      · show l.length - (j + 1) < l.length - j; omega
  · rw [List.take_of_length_le (by omega)] at hout
    subst hout
    rcases ho with rfl | rfl
    all_goals (try dsimp only [cond_true, cond_false])
    all_goals (conv => whnf)
    all_goals repeat' ((with_reducible (first | refine st15 ?_|refine fG.split (fun _ => ?_) (fun _ => ?_)|refine fG.bool (fun _ => ?_) (fun _ => ?_))) <;> (try (conv => whnf)))
    all_goals rfl
set_option maxHeartbeats 4000000 in
theorem ok_spec_l4Copy (k : Nat) (P : List (List Ins)) (S : List State) (W : List (List Item)) (H : List (List Event)) (hb : SysB 100000000000 P S W H) (hn : SysN P S W H) :
    callE PR C (k + 2) 83 [aSys 0 P S W H] [tInsSS P, tStateS S, tItemSS W, tEventSS H] = some ⟨nSys 0 P S W H, [tInsSS9 P, tStateS9 S, tItemSS9 W, tEventSS9 H], [none, none, none, none]⟩ := by
  have n1 := hn.s
  have n2 := hn.w
  have m0 := hb.p
  have m1 := hb.s
  have m2 := hb.w
  have m3 := hb.h
  have q1 := fun k => ok_spec_l4Ins k P m0 hb.pp
  have q2 := fun k => ok_spec_l4Events k H m3 hb.hh
  (refine fnI [ResultVar.cell 2 29] Tryz.func83 ?_; conv => whnf)
  repeat' ((with_reducible (first | refine sCall.of (q1 _) ?_|refine sCall.of (q2 _) ?_|refine st15 ?_|refine fG.split (fun _ => ?_) (fun _ => ?_)|refine fG.bool (fun _ => ?_) (fun _ => ?_)|refine gD 1 [(2, 4), (1, 7), (2, 7), (4, 7), (5, 7)] ?_|refine gD 5 [(1, 7), (1, 8)] ?_|refine gD 9 [(1, 2), (2, 4), (2, 7), (1, 8), (1, 9)] ?_)) <;> (try (conv => whnf)))
  refine loop_rule (ι := CS State) (fun z => [(1, .pt 1 1 0 [] 0 0), (2, .pt 2 1 0 [] 0 0), (3, .pt 3 1 0 [] 0 0), (4, i64 (z.j : Nat))])
    (fun z => [(1000000, ⟨0, 0, false, tInsSS P⟩), (1000001, ⟨0, 0, false, tStateS S⟩), (1000002, ⟨0, 0, false, tItemSS W⟩), (1000003, ⟨0, 0, false, tEventSS H⟩), (1, ⟨1, 0, false, .box [.h 1000000 0 0 [] 1 0 P.length, .h 1000001 0 0 [] 4 0 S.length, .h 1000002 0 0 [] 1 0 W.length, .h 1000003 0 0 [] 1 0 H.length]⟩), (2, ⟨1, 0, false, .box [.nl 1, .nl 4, .nl 1, .nl 1]⟩), (3, ⟨1, 0, z.dd, .box [.h 10008 1 0 [] 1 0 P.length, z.v, .nl 1, .h 10011 1 0 [] 1 0 H.length]⟩), (10008, ⟨1, 0, false, tInsSS9 P⟩), (10011, ⟨1, 0, false, tEventSS9 H⟩), (29, ⟨z.b, z.g, z.d, z.c⟩), (48, ⟨0, 0, false, .dead⟩)])
    (fun z => S.length - z.j) (fun z => z.j ≤ S.length ∧ Grown 29 4 tStateS9 S z) ⟨0, [], .nl 4, 0, 0, false, .dead, _⟩ fitOk ⟨Nat.zero_le _, grown_nil⟩ (by simp [C]; omega) ?_
  rintro ⟨j, l, v, b0, g0, d0, c, dd⟩ sl ob ⟨hj, hl, hg⟩
  dsimp only at hj hl hg
  by_cases hjl : j < S.length
  · have hx := hb.ss j hjl
    have q := fun k => ok_spec_l2Copy k (rd S j).at_ (rd S j).regs (rd S j).out (rd S j).code hx.1 hx.2
    rcases hg with ⟨e1, e2, e3, e4, e5, e6⟩ | ⟨h0, e2, e3⟩
    all_goals dsimp only at *
    · subst e1 e2 e3 e4 e5 e6 hl
      (try dsimp only [cond_true, cond_false])
      (conv => whnf)
      repeat' ((with_reducible (first | refine sCall.of (q _) ?_|refine st15 ?_|refine fG.split (fun _ => ?_) (fun _ => ?_)|refine fG.bool (fun _ => ?_) (fun _ => ?_)|refine gD 1 [(2, 4), (1, 7), (2, 7), (4, 7), (5, 7)] ?_|refine gD 5 [(1, 7), (1, 8)] ?_|refine gD 9 [(1, 2), (2, 4), (2, 7), (1, 8), (1, 9)] ?_)) <;> (try (conv => whnf)))
      refine ⟨⟨⟨0 + 1, [rd S 0], _, _, _, _, _, _⟩, fitOk, ?_, ?_⟩⟩
      · exact ⟨by show 0 + 1 ≤ _; omega, grown_one hjl⟩
      · show S.length - (0 + 1) < S.length - 0; omega
    · subst e2 e3
      have hle : l.length = j := by rw [hl]; simp; omega
      (try dsimp only [cond_true, cond_false])
      (conv => whnf)
      repeat' ((with_reducible (first | refine sCall.of (q _) ?_|refine st15 ?_|refine fG.split (fun _ => ?_) (fun _ => ?_)|refine fG.bool (fun _ => ?_) (fun _ => ?_)|refine gD 1 [(2, 4), (1, 7), (2, 7), (4, 7), (5, 7)] ?_|refine gD 5 [(1, 7), (1, 8)] ?_|refine gD 9 [(1, 2), (2, 4), (2, 7), (1, 8), (1, 9)] ?_)) <;> (try (conv => whnf)))
      refine ⟨⟨⟨j + 1, l ++ [rd S j], _, _, _, _, _, _⟩, fitOk, ?_, ?_⟩⟩
      · exact ⟨by show j + 1 ≤ _; omega, grown_more hjl hl⟩
      · show S.length - (j + 1) < S.length - j; omega
  rcases hg with ⟨e1, e2, e3, e4, e5, e6⟩ | ⟨h0, e2, e3⟩
  all_goals dsimp only at *
  · exfalso; omega
  rw [List.take_of_length_le (by omega)] at hl
  rw [hl] at e2 e3
  subst e2 e3
  (try dsimp only [cond_true, cond_false])
  (conv => whnf)
  repeat' ((with_reducible (first | refine st15 ?_|refine fG.split (fun _ => ?_) (fun _ => ?_)|refine fG.bool (fun _ => ?_) (fun _ => ?_)|refine gD 1 [(2, 4), (1, 7), (2, 7), (4, 7), (5, 7)] ?_|refine gD 5 [(1, 7), (1, 8)] ?_|refine gD 9 [(1, 2), (2, 4), (2, 7), (1, 8), (1, 9)] ?_)) <;> (try (conv => whnf)))
  refine loop_rule (ι := CS (List Item)) (fun z => [(1, .pt 1 1 0 [] 0 0), (2, .pt 2 1 0 [] 0 0), (3, .pt 3 1 0 [] 0 0), (5, i64 (z.j : Nat))])
    (fun z => [(1000000, ⟨0, 0, false, tInsSS P⟩), (1000001, ⟨0, 0, false, tStateS S⟩), (1000002, ⟨0, 0, false, tItemSS W⟩), (1000003, ⟨0, 0, false, tEventSS H⟩), (1, ⟨1, 0, false, .box [.h 1000000 0 0 [] 1 0 P.length, .h 1000001 0 0 [] 4 0 S.length, .h 1000002 0 0 [] 1 0 W.length, .h 1000003 0 0 [] 1 0 H.length]⟩), (2, ⟨1, 0, false, .box [.nl 1, .nl 4, .nl 1, .nl 1]⟩), (3, ⟨1, 0, z.dd, .box [.h 10008 1 0 [] 1 0 P.length, .h 29 b0 0 [] 4 0 S.length, z.v, .h 10011 1 0 [] 1 0 H.length]⟩), (10008, ⟨1, 0, false, tInsSS9 P⟩), (10011, ⟨1, 0, false, tEventSS9 H⟩), (29, ⟨b0, g0, d0, tStateS9 S⟩), (48, ⟨z.b, z.g, z.d, z.c⟩)])
    (fun z => W.length - z.j) (fun z => z.j ≤ W.length ∧ Grown 48 1 tItemSS9 W z) ⟨0, [], .nl 1, 0, 0, false, .dead, _⟩ fitOk ⟨Nat.zero_le _, grown_nil⟩ (by simp [C]; omega) ?_
  clear sl ob
  rintro ⟨j, l, v, b1, g1, d1, c, dd⟩ sl ob ⟨hj, hl, hg⟩
  dsimp only at hj hl hg
  by_cases hjl : j < W.length
  · have hx := hb.ww j hjl
    rcases hg with ⟨e1, e2, e3, e4, e5, e6⟩ | ⟨h0, e2, e3⟩
    all_goals dsimp only at *
    · subst e1 e2 e3 e4 e5 e6 hl
      (try dsimp only [cond_true, cond_false])
      (conv => whnf)
      repeat' ((with_reducible (first | refine st15 ?_|refine fG.split (fun _ => ?_) (fun _ => ?_)|refine fG.bool (fun _ => ?_) (fun _ => ?_)|refine gD 1 [(2, 4), (1, 7), (2, 7), (4, 7), (5, 7)] ?_|refine gD 5 [(1, 7), (1, 8)] ?_|refine gD 9 [(1, 2), (2, 4), (2, 7), (1, 8), (1, 9)] ?_)) <;> (try (conv => whnf)))
      refine ⟨⟨⟨0 + 1, [rd W 0], _, _, _, _, _, _⟩, fitOk, ?_, ?_⟩⟩
      · exact ⟨by show 0 + 1 ≤ _; omega, grown_one hjl⟩
      · show W.length - (0 + 1) < W.length - 0; omega
    · subst e2 e3
      have hle : l.length = j := by rw [hl]; simp; omega
      (try dsimp only [cond_true, cond_false])
      (conv => whnf)
      repeat' ((with_reducible (first | refine st15 ?_|refine fG.split (fun _ => ?_) (fun _ => ?_)|refine fG.bool (fun _ => ?_) (fun _ => ?_)|refine gD 1 [(2, 4), (1, 7), (2, 7), (4, 7), (5, 7)] ?_|refine gD 5 [(1, 7), (1, 8)] ?_|refine gD 9 [(1, 2), (2, 4), (2, 7), (1, 8), (1, 9)] ?_)) <;> (try (conv => whnf)))
      refine ⟨⟨⟨j + 1, l ++ [rd W j], _, _, _, _, _, _⟩, fitOk, ?_, ?_⟩⟩
      · exact ⟨by show j + 1 ≤ _; omega, grown_more hjl hl⟩
      · show W.length - (j + 1) < W.length - j; omega
  rcases hg with ⟨e1, e2, e3, e4, e5, e6⟩ | ⟨h0, e2, e3⟩
  all_goals dsimp only at *
  · exfalso; omega
  rw [List.take_of_length_le (by omega)] at hl
  rw [hl] at e2 e3
  subst e2 e3
  (try dsimp only [cond_true, cond_false])
  (conv => whnf)
  repeat' ((with_reducible (first | refine st15 ?_|refine fG.split (fun _ => ?_) (fun _ => ?_)|refine fG.bool (fun _ => ?_) (fun _ => ?_)|refine gD 1 [(2, 4), (1, 7), (2, 7), (4, 7), (5, 7)] ?_|refine gD 5 [(1, 7), (1, 8)] ?_|refine gD 9 [(1, 2), (2, 4), (2, 7), (1, 8), (1, 9)] ?_)) <;> (try (conv => whnf)))

end Go.Proofs.YtipfcgbhaalcdaaGreat.Abs
namespace Go.Proofs.YtipfcgbhaalcdaaGreat.Abs
open Go Go.Proofs
set_option linter.unusedVariables false
set_option linter.unusedSimpArgs false
attribute [local irreducible] callE
theorem drop_min (l : List Int) (t : Nat) : l.drop t = l.drop (min t l.length) := by
  rcases Nat.le_total t l.length with h | h
  · rw [Nat.min_eq_left h]
  · rw [Nat.min_eq_right h, List.drop_eq_nil_of_le h, List.drop_eq_nil_of_le (Nat.le_refl _)]
theorem rd_drop (l : List Int) (t j : Nat) : rd (l.drop t) j = rd l (t + j) := by simp [rd]
theorem gHole {α : Type} {l : List α} {n : Nat} {x : α} {F : α → Prop} (h : F x) (e : n < l.length := by first | omega | (simp only [List.length_map]; omega)) : fO (l.set n x)[n]? F := fO.of (by simp [e]) h
theorem snoc_rItem (l : List Item) (b : Bool) (x : Int) : l.map rItem ++ [[.v (.bool b), .v (.int .i64 x)]] = (l ++ [(⟨b, x⟩ : Item)]).map rItem := by simp [rItem]
theorem fill_self {α : Type} [Inhabited α] (l : List α) (j : Nat) (h : j < l.length) : (fill l j).set j default = fill l j := by
  apply List.ext_getElem?
  intro i
  simp only [fill, List.getElem?_set, List.getElem?_append, List.length_take, List.getElem?_take, List.getElem?_replicate, List.length_append, List.length_replicate]
  by_cases e : j = i
  · subst e
    simp [h, Nat.min_eq_left (Nat.le_of_lt h)]
  · simp [e]
theorem gI16 {p A : Prop} (h : A) (e : p := by first | with_reducible assumption | omega | (simp only [Nat.zero_add, Nat.add_zero, Nat.sub_zero, Int.toNat_natCast, Int.toNat_zero, Int.toNat_one, List.length_map, List.length_nil, Int.reduceToNat, Nat.reduceAdd, Nat.reduceSub, Int.sub_zero, Int.reduceAdd, Int.reduceSub, Nat.sub_self, Int.toNat_natCast_add_one, marks_len, bs_len, List.length_append, List.length_cons, List.length_set, List.length_replicate, List.length_range]; first | done | omega)) : sI p A := sI.mk e h
theorem gNum16 {r r' : Nat} {F : Nat → Prop} (h : F r') (e : r = r' := by first | (simp only [Nat.zero_add, Nat.add_zero, Nat.sub_zero, Int.toNat_natCast, Int.toNat_zero, Int.toNat_one, List.length_map, List.length_nil, Int.reduceToNat, Nat.reduceAdd, Nat.reduceSub, Int.sub_zero, Int.reduceAdd, Int.reduceSub, Nat.sub_self, Int.toNat_natCast_add_one, marks_len, bs_len]; rfl) | rfl) : sN r F := sN.eq e h
theorem gRow16 {r r' : List (List T)} {F : List (List T) → Prop} (h : F r') (e : r = r' := by first | (simp only [Nat.add_zero, Nat.zero_add, Nat.reduceAdd, List.drop_zero, List.take_succ_cons, List.take_nil, List.drop_succ_cons, List.drop_nil, List.take_zero, List.nil_append, List.append_nil, List.map_nil, drop_suf, take_pre, drop_map, List.take_length, take_len_set, take_len_app, List.set_set, List.length_map, snoc_rItem, snoc_rInsL, snoc_rItemL, snoc_rEventL, snoc_rState, set_rWho, rep_rWho, snoc_rWho, set_rState, rep_rState, set_rInsL, rep_rInsL, set_rItemL, rep_rItemL, set_rEventL, rep_rEventL, set_rItem, rep_rItem, rep_rKept, marks_take, set_rKept, set_rIns, rep_rIns, set_rEvent, rep_rEvent, snoc_rKept, snoc_rEvent, snoc_rIns, bytesT_bs, snoc_rI, snoc_rB, snoc_rBool, set_rI, set_rBool, rep_rI, rep_rBool, map_app]; rfl) | rfl) : sR r F := sR.eq e h
theorem st16 {P Q : Prop} (h : Q) (e : Q → P := by with_reducible first | exact fun h => gP h | exact fun h => gN h | exact fun h => fG.not h | exact fun h => gY h | exact fun h => gF h | exact fun h => fG.yes (flat_map (fun _ => rfl) _) h | exact fun h => gS64 h | exact fun h => gU8 h | exact fun h => gI16 h | exact fun h => fE.of rfl h | exact fun h => gNum16 h | exact fun h => gSet h | exact fun h => gRd h | exact fun h => gLk h | exact fun h => gRow16 h | exact fun h => gRf4 h) : P := e h
def procsOk (P : List (List Ins)) (H : List (List Event)) : Bool := allBelow P.length fun p => (replayAll (rd P p) (rd H p)).isSome && peersOk (rd H p) P.length
def ofOk (P : List (List Ins)) (H : List (List Event)) : Bool := procsOk P H && sysOk P (stsOf P H) (waysOf H P.length) H
structure SB where
  j : Nat
  lp : List (List Ins)
  ls : List State
  lh : List (List Event)
  v0 : AV
  v1 : AV
  v3 : AV
  b0 : Nat
  b1 : Nat
  b3 : Nat
  c0 : Cont
  c1 : Cont
  c3 : Cont
  dd : Bool
def SB.ok (P : List (List Ins)) (H : List (List Event)) (n0 n1 n3 : Nat) (z : SB) : Prop :=
  (z.lp = P.take z.j ∧ z.ls = (stsOf P H).take z.j ∧ z.lh = H.take z.j) ∧
  ((z.j = 0 ∧ (z.v0 = .nl 1 ∧ z.v1 = .nl 4 ∧ z.v3 = .nl 1) ∧ (z.b0 = 0 ∧ z.b1 = 0 ∧ z.b3 = 0) ∧ (z.c0 = .dead ∧ z.c1 = .dead ∧ z.c3 = .dead)) ∨
   (0 < z.j ∧ (z.v0 = .h n0 z.b0 0 [] 1 0 z.lp.length ∧ z.v1 = .h n1 z.b1 0 [] 4 0 z.ls.length ∧ z.v3 = .h n3 z.b3 0 [] 1 0 z.lh.length) ∧ (z.c0 = tInsSS9 z.lp ∧ z.c1 = tStateS9 z.ls ∧ z.c3 = tEventSS9 z.lh)))
theorem stsOf_len (P : List (List Ins)) (H : List (List Event)) : (stsOf P H).length = P.length := by simp [stsOf]
theorem stsOf_rd {P : List (List Ins)} {H : List (List Event)} {p : Nat} (hp : p < P.length) : rd (stsOf P H) p = stOf (replayAll (rd P p) (rd H p)) := rd_range _ hp
theorem waysOf_len (H : List (List Event)) (n : Nat) : (waysOf H n).length = n * n := by simp [waysOf]
theorem ofB {P : List (List Ins)} {H : List (List Event)} (hn1 : 1 ≤ P.length) (hp : P.length ≤ 4) (hh : H.length = P.length) (hx : ∀ j : Nat, j < P.length → (rd P j).length ≤ 1000000000) (hy : ∀ j : Nat, j < H.length → (rd H j).length ≤ 1000000000) (h : procsOk P H = true) :
    SysB 10000000000 P (stsOf P H) (waysOf H P.length) H := by
  have hnn : P.length * P.length ≤ 4 * 4 := Nat.mul_le_mul hp hp
  refine ⟨by omega, fun j hj => by have := hx j hj; omega, by rw [stsOf_len]; omega, fun j hj => ?_, by rw [waysOf_len]; omega, fun j hj => ?_, by omega, fun j hj => by have := hy j hj; omega⟩
  · rw [stsOf_len] at hj
    rw [stsOf_rd hj]
    have h1 := allBelow_eq.1 h j hj
    rw [Bool.and_eq_true] at h1
    have h2 := replay_take h1.1 (rd H j).length
    rw [List.take_length] at h2
    have h3 := h2.2.regs
    have h4 := h2.2.out
    omega
  · rw [waysOf_len] at hj
    have hm : j / P.length < H.length := by rw [hh]; exact Nat.div_lt_of_lt_mul (by omega)
    have h1 := hy (j / P.length) hm
    have h2 := vals_le (rd H (j / P.length)) 2 (j % P.length : Nat)
    show (rd (waysOf H P.length) j).length ≤ _
    unfold waysOf
    rw [rd_range _ hj]
    simp only [wayOf, leftOf, List.length_map, List.length_drop]
    omega
structure WB where
  a : Nat
  w : List (List Item)
  g : Nat
  d : Bool
structure WI where
  j : Nat
  w : List (List Item)
  g : Nat
  d : Bool
  bb : Nat
set_option maxRecDepth 20000 in
set_option maxHeartbeats 8000000 in
theorem ok_impl_systemOf (k : Nat) (P : List (List Ins)) (H : List (List Event)) (hn1 : 1 ≤ P.length) (hp : P.length ≤ 4) (hh : H.length = P.length) (hx : ∀ j : Nat, j < P.length → (rd P j).length ≤ 1000000000) (hy : ∀ j : Nat, j < H.length → (rd H j).length ≤ 1000000000) :
    callE PR C (k + 12) 157 [.h 1000000 0 0 [] 1 0 P.length, .h 1000001 0 0 [] 1 0 H.length] [tInsSS P, tEventSS H] =
      some (if ofOk P H = true then ⟨.tu [nSys 0 P (stsOf P H) (waysOf H P.length) H, bl true], [tInsSS9 P, tStateS9 (stsOf P H), tItemSS9 (waysOf H P.length), tEventSS9 H], [none, none]⟩ else ⟨.tu [nSys 0 [] [] [] [], bl false], [tInsSS9 [], tStateS9 [], tItemSS9 [], tEventSS9 []], [none, none]⟩) := by
  have hnn : P.length * P.length ≤ 4 * 4 := Nat.mul_le_mul hp hp
  have w1 : IntKind.i64.wrap ((P.length : Int) * (P.length : Int)) = ((P.length * P.length : Nat) : Int) := by
    rw [show (P.length : Int) * (P.length : Int) = ((P.length * P.length : Nat) : Int) by simp]; exact wrap_i64 _ (by omega) (by omega)
  have hTl := waysOf_len H P.length
  have hsl := stsOf_len P H
  (refine fnI [ResultVar.cell 4 29, ResultVar.tmp 5] Tryz.func157 ?_; conv => whnf)
  repeat' ((with_reducible (first | refine sW.eq (w1) ?_|refine st16 ?_|refine fG.split (fun _ => ?_) (fun _ => ?_)|refine fG.bool (fun _ => ?_) (fun _ => ?_)|refine gD 9 [(1, 3), (1, 4)] ?_|refine gD 11 [(1, 6), (1, 7)] ?_|refine gD 24 [(1, 18), (8, 18), (15, 18), (1, 19)] ?_)) <;> (try (conv => whnf)))
  refine loop_rule (ι := SB) (fun z => [(1, .h 1000001 0 0 [] 1 0 H.length), (4, .pt 4 1 0 [] 0 0), (6, i64 P.length), (7, .pt 7 1 0 [] 0 0), (25, .h 1000000 0 0 [] 1 0 P.length), (26, i64 P.length), (27, i64 (z.j : Nat))])
    (fun z => [(1000000, ⟨0, 0, false, tInsSS P⟩), (1000001, ⟨0, 0, false, tEventSS H⟩), (4, ⟨1, 0, false, .box [.nl 1, .nl 4, .nl 1, .nl 1]⟩), (7, ⟨1, 0, z.dd, .box [z.v0, z.v1, .h 23 1 0 [] 1 0 (P.length * P.length), z.v3]⟩), (23, ⟨1, 0, false, tItemSS9 (List.replicate (P.length * P.length) default)⟩), (58, ⟨z.b0, 0, false, z.c0⟩), (64, ⟨z.b1, 0, false, z.c1⟩), (74, ⟨z.b3, 0, false, z.c3⟩)])
    (fun z => P.length - z.j) (fun z => z.j ≤ P.length ∧ (∀ q, q < z.j → ((replayAll (rd P q) (rd H q)).isSome && peersOk (rd H q) P.length) = true) ∧ SB.ok P H 58 64 74 z)
    ⟨0, [], [], [], .nl 1, .nl 4, .nl 1, 0, 0, 0, .dead, .dead, .dead, _⟩ fitOk ⟨Nat.zero_le _, fun q h => absurd h (Nat.not_lt_zero q), ⟨rfl, rfl, rfl⟩, .inl ⟨rfl, ⟨rfl, rfl, rfl⟩, ⟨rfl, rfl, rfl⟩, ⟨rfl, rfl, rfl⟩⟩⟩ (by simp [C]; omega) ?_
  rintro ⟨j, lp, ls, lh, v0, v1, v3, b0, b1, b3, c0, c1, c3, dd⟩ sl ob ⟨hj, hok, ⟨hlp, hls, hlh⟩, hg⟩
  dsimp only at hj hok hlp hls hlh hg
  by_cases hjl : j < P.length
  · have hxj := hx j hjl
    have hyj := hy j (by omega)
    have q1 := fun k => ok_impl_Replay' k (rd P j) (rd H j) (by omega) (by omega)
    have q2 := fun k => ok_impl_peersOk k (rd H j) P.length (by omega) (by omega) (by omega)
    have q3 := fun k => ok_Clone_Ins k (rd P j) (by omega)
    have q4 := fun k => ok_Clone_Event k (rd H j) (by omega)
    have er : rd (stsOf P H) j = stOf (replayAll (rd P j) (rd H j)) := stsOf_rd hjl
    cases hb : ((replayAll (rd P j) (rd H j)).isSome && peersOk (rd H j) P.length) with
    | false =>
      have e0 : ofOk P H = false := by
        unfold ofOk procsOk
        rw [allBelow_no (f := fun p => (replayAll (rd P p) (rd H p)).isSome && peersOk (rd H p) P.length) hjl hb, Bool.false_and]
      rw [e0]
      cases hb1 : (replayAll (rd P j) (rd H j)).isSome with
      | false =>
        simp only [hb1] at q1
        rcases hg with ⟨e1, ⟨f1, f2, f3⟩, ⟨f4, f5, f6⟩, ⟨f7, f8, f9⟩⟩ | ⟨h0, ⟨f1, f2, f3⟩, ⟨f7, f8, f9⟩⟩
        all_goals subst f1 f2 f3 f7 f8 f9
        all_goals (try dsimp only [cond_true, cond_false])
        all_goals (conv => whnf)
        all_goals repeat' ((with_reducible (first | refine sCall.of (q1 _) ?_|refine st16 ?_|refine fG.split (fun _ => ?_) (fun _ => ?_)|refine fG.bool (fun _ => ?_) (fun _ => ?_)|refine gD 9 [(1, 3), (1, 4)] ?_|refine gD 11 [(1, 6), (1, 7)] ?_|refine gD 24 [(1, 18), (8, 18), (15, 18), (1, 19)] ?_)) <;> (try (conv => whnf)))
        all_goals rfl
      | true =>
        rw [hb1, Bool.true_and] at hb
        simp only [hb1] at q1
        simp only [hb] at q2
        rcases hg with ⟨e1, ⟨f1, f2, f3⟩, ⟨f4, f5, f6⟩, ⟨f7, f8, f9⟩⟩ | ⟨h0, ⟨f1, f2, f3⟩, ⟨f7, f8, f9⟩⟩
        all_goals subst f1 f2 f3 f7 f8 f9
        all_goals (try dsimp only [cond_true, cond_false])
        all_goals (conv => whnf)
        all_goals repeat' ((with_reducible (first | refine sCall.of (q1 _) ?_|refine sCall.of (q2 _) ?_|refine st16 ?_|refine fG.split (fun _ => ?_) (fun _ => ?_)|refine fG.bool (fun _ => ?_) (fun _ => ?_)|refine gD 9 [(1, 3), (1, 4)] ?_|refine gD 11 [(1, 6), (1, 7)] ?_|refine gD 24 [(1, 18), (8, 18), (15, 18), (1, 19)] ?_)) <;> (try (conv => whnf)))
        all_goals rfl
    | true =>
      rw [Bool.and_eq_true] at hb
      simp only [hb.1] at q1
      simp only [hb.2] at q2
      rw [← er] at q1
      have hok' : ∀ q, q < j + 1 → ((replayAll (rd P q) (rd H q)).isSome && peersOk (rd H q) P.length) = true := fun q hq => by
        rcases Nat.lt_succ_iff_lt_or_eq.1 hq with h | h
        · exact hok q h
        · rw [h, hb.1, hb.2]; rfl
      have hst := (hb.1)
      rcases hg with ⟨e1, ⟨f1, f2, f3⟩, ⟨f4, f5, f6⟩, ⟨f7, f8, f9⟩⟩ | ⟨h0, ⟨f1, f2, f3⟩, ⟨f7, f8, f9⟩⟩
      · subst e1 f1 f2 f3 f4 f5 f6 f7 f8 f9 hlp hls hlh
        (try dsimp only [cond_true, cond_false])
        (conv => whnf)
        repeat' ((with_reducible (first | refine sCall.of (q1 _) ?_|refine sCall.of (q2 _) ?_|refine sCall.of (q3 _) ?_|refine sCall.of (q4 _) ?_|refine st16 ?_|refine fG.split (fun _ => ?_) (fun _ => ?_)|refine fG.bool (fun _ => ?_) (fun _ => ?_)|refine gD 9 [(1, 3), (1, 4)] ?_|refine gD 11 [(1, 6), (1, 7)] ?_|refine gD 24 [(1, 18), (8, 18), (15, 18), (1, 19)] ?_)) <;> (try (conv => whnf)))
        refine ⟨⟨⟨0 + 1, [rd P 0], [rd (stsOf P H) 0], [rd H 0], _, _, _, _, _, _, _, _, _, _⟩, fitOk, ?_, ?_⟩⟩
        · exact ⟨by show 0 + 1 ≤ _; omega, hok', ⟨by show _ = P.take (0 + 1); rw [take_rd hjl]; rfl, by show _ = (stsOf P H).take (0 + 1); rw [take_rd (by omega)]; rfl, by show _ = H.take (0 + 1); rw [take_rd (by omega)]; rfl⟩, .inr ⟨Nat.one_pos, ⟨rfl, rfl, rfl⟩, ⟨rfl, rfl, rfl⟩⟩⟩
        · show P.length - (0 + 1) < P.length - 0; omega
      · have l0 : lp.length = j := by rw [hlp]; simp; omega
        have l1 : ls.length = j := by rw [hls]; simp; omega
        have l3 : lh.length = j := by rw [hlh]; simp; omega
        subst f1 f2 f3 f7 f8 f9
        (try dsimp only [cond_true, cond_false])
        (conv => whnf)
        repeat' ((with_reducible (first | refine sCall.of (q1 _) ?_|refine sCall.of (q2 _) ?_|refine sCall.of (q3 _) ?_|refine sCall.of (q4 _) ?_|refine st16 ?_|refine fG.split (fun _ => ?_) (fun _ => ?_)|refine fG.bool (fun _ => ?_) (fun _ => ?_)|refine gD 9 [(1, 3), (1, 4)] ?_|refine gD 11 [(1, 6), (1, 7)] ?_|refine gD 24 [(1, 18), (8, 18), (15, 18), (1, 19)] ?_)) <;> (try (conv => whnf)))
        refine ⟨⟨⟨j + 1, lp ++ [rd P j], ls ++ [rd (stsOf P H) j], lh ++ [rd H j], _, _, _, _, _, _, _, _, _, _⟩, fitOk, ?_, ?_⟩⟩
        · exact ⟨by show j + 1 ≤ _; omega, hok', ⟨by show _ = P.take (j + 1); rw [take_rd hjl, hlp], by show _ = (stsOf P H).take (j + 1); rw [take_rd (by omega), hls], by show _ = H.take (j + 1); rw [take_rd (by omega), hlh]⟩, .inr ⟨Nat.succ_pos j, ⟨rfl, rfl, rfl⟩, ⟨rfl, rfl, rfl⟩⟩⟩
        · show P.length - (j + 1) < P.length - j; omega
  · have hpo : procsOk P H = true := allBelow_yes fun q hq => hok q (by omega)
    rw [List.take_of_length_le (by omega)] at hlp hls hlh
    rcases hg with ⟨e1, ⟨f1, f2, f3⟩, ⟨f4, f5, f6⟩, ⟨f7, f8, f9⟩⟩ | ⟨h0, ⟨f1, f2, f3⟩, ⟨f7, f8, f9⟩⟩
    · exfalso; omega
    · rw [hlp] at f1 f7
      rw [hls] at f2 f8
      rw [hlh] at f3 f9
      subst f1 f2 f3 f7 f8 f9
      clear hlp hls hlh hok
      (try dsimp only [cond_true, cond_false])
      (conv => whnf)
      repeat' ((with_reducible (first | refine st16 ?_|refine fG.split (fun _ => ?_) (fun _ => ?_)|refine fG.bool (fun _ => ?_) (fun _ => ?_)|refine gD 9 [(1, 3), (1, 4)] ?_|refine gD 11 [(1, 6), (1, 7)] ?_|refine gD 24 [(1, 18), (8, 18), (15, 18), (1, 19)] ?_)) <;> (try (conv => whnf)))
      refine loop_rule (ι := WB) (fun z => [(4, .pt 4 1 0 [] 0 0), (6, i64 P.length), (7, .pt 7 1 0 [] 0 0), (77, i64 P.length), (78, i64 (z.a : Nat))])
        (fun z => [(1000000, ⟨0, 0, false, tInsSS P⟩), (1000001, ⟨0, 0, false, tEventSS H⟩), (4, ⟨1, 0, false, .box [.nl 1, .nl 4, .nl 1, .nl 1]⟩), (7, ⟨1, 0, dd, .box [.h 58 b0 0 [] 1 0 P.length, .h 64 b1 0 [] 4 0 (stsOf P H).length, .h 23 1 0 [] 1 0 (P.length * P.length), .h 74 b3 0 [] 1 0 H.length]⟩), (23, ⟨1, z.g, z.d, tItemSS9 z.w⟩), (58, ⟨b0, 0, false, tInsSS9 P⟩), (64, ⟨b1, 0, false, tStateS9 (stsOf P H)⟩), (74, ⟨b3, 0, false, tEventSS9 H⟩)])
        (fun z => P.length - z.a) (fun z => z.a ≤ P.length ∧ z.w = fill (waysOf H P.length) (z.a * P.length)) ⟨0, List.replicate (P.length * P.length) default, _, _⟩ fitOk ⟨Nat.zero_le _, by show _ = fill _ (0 * P.length); rw [Nat.zero_mul, fill_zero, hTl]⟩ (by simp [C]; omega) ?_
      clear sl ob
      rintro ⟨a, w, g, d⟩ sl ob ⟨ha, hw⟩
      dsimp only at ha hw
      (try dsimp only [cond_true, cond_false])
      (conv => whnf)
      by_cases hal : a < P.length
      · repeat' ((with_reducible (first | refine st16 ?_|refine fG.split (fun _ => ?_) (fun _ => ?_)|refine fG.bool (fun _ => ?_) (fun _ => ?_)|refine gD 9 [(1, 3), (1, 4)] ?_|refine gD 11 [(1, 6), (1, 7)] ?_|refine gD 24 [(1, 18), (8, 18), (15, 18), (1, 19)] ?_)) <;> (try (conv => whnf)))
        refine loop_rule (ι := WB) (fun z => [(4, .pt 4 1 0 [] 0 0), (6, i64 P.length), (7, .pt 7 1 0 [] 0 0), (12, i64 (a : Nat)), (77, i64 P.length), (78, i64 (a : Nat)), (81, i64 P.length), (82, i64 (z.a : Nat))])
          (fun z => [(1000000, ⟨0, 0, false, tInsSS P⟩), (1000001, ⟨0, 0, false, tEventSS H⟩), (4, ⟨1, 0, false, .box [.nl 1, .nl 4, .nl 1, .nl 1]⟩), (7, ⟨1, 0, dd, .box [.h 58 b0 0 [] 1 0 P.length, .h 64 b1 0 [] 4 0 (stsOf P H).length, .h 23 1 0 [] 1 0 (P.length * P.length), .h 74 b3 0 [] 1 0 H.length]⟩), (23, ⟨1, z.g, z.d, tItemSS9 z.w⟩), (58, ⟨b0, 0, false, tInsSS9 P⟩), (64, ⟨b1, 0, false, tStateS9 (stsOf P H)⟩), (74, ⟨b3, 0, false, tEventSS9 H⟩)])
          (fun z => P.length - z.a) (fun z => z.a ≤ P.length ∧ z.w = fill (waysOf H P.length) (a * P.length + z.a)) ⟨0, w, _, _⟩ fitOk ⟨Nat.zero_le _, hw⟩ (by simp [C]; omega) ?_
        clear sl ob hw w g d
        rintro ⟨b, w, g, d⟩ sl ob ⟨hb, hw⟩
        dsimp only at hb hw
        (try dsimp only [cond_true, cond_false])
        (conv => whnf)
        by_cases hbl : b < P.length
        · have hya := hy a (by omega)
          have hyb := hy b (by omega)
          have hva := vals_le (rd H a) 2 b
          have hcb := vals_le (rd H b) 3 a
          have q5 := fun k => ok_impl_Values k (rd H a) 2 b (by omega)
          have q6 := fun k => ok_impl_Count k (rd H b) 3 a (by omega)
          have hL : leftOf H a b = (vals (rd H a) 2 b).drop (min (cnt (rd H b) 3 a) (vals (rd H a) 2 b).length) := drop_min _ _
          have hcnt : cnt (rd H b) 3 a = (vals (rd H b) 3 a).length := rfl
          have hmin : (if ((vals (rd H a) 2 b).length : Int) < (cnt (rd H b) 3 a : Int) then ((vals (rd H a) 2 b).length : Int) else (cnt (rd H b) 3 a : Int)) = ((min (cnt (rd H b) 3 a) (vals (rd H a) 2 b).length : Nat) : Int) := by
            split <;> omega
          have htl : min (cnt (rd H b) 3 a) (vals (rd H a) 2 b).length ≤ (vals (rd H a) 2 b).length := Nat.min_le_right _ _
          generalize vals (rd H a) 2 b = sent at *
          generalize cnt (rd H b) 3 a = took at *
          generalize min took sent.length = tk at *
          have hpl := place_lt hal hbl
          have hT : rd (waysOf H P.length) (a * P.length + b) = wayOf (leftOf H a b) := rd_waysOf hal hbl
          have wm : IntKind.i64.wrap ((a : Int) * (P.length : Int)) = ((a * P.length : Nat) : Int) := by
            rw [show (a : Int) * (P.length : Int) = ((a * P.length : Nat) : Int) by simp]; exact wrap_i64 _ (by omega) (by omega)
          have wa : IntKind.i64.wrap (((a * P.length : Nat) : Int) + (b : Int)) = ((a * P.length + b : Nat) : Int) := by rw [wrap_i64 _ (by omega) (by omega)]; simp
          generalize ham : a * P.length = am at *
          generalize hix : am + b = ix at *
          repeat' ((with_reducible (first | refine sCall.of (q5 _) ?_|refine sCall.of (q6 _) ?_|refine sZ.eq (hmin) ?_|refine st16 ?_|refine fG.split (fun _ => ?_) (fun _ => ?_)|refine fG.bool (fun _ => ?_) (fun _ => ?_)|refine gD 9 [(1, 3), (1, 4)] ?_|refine gD 11 [(1, 6), (1, 7)] ?_|refine gD 24 [(1, 18), (8, 18), (15, 18), (1, 19)] ?_)) <;> (try (conv => whnf)))
          refine loop_rule (ι := WI) (fun z => [(4, .pt 4 1 0 [] 0 0), (6, i64 P.length), (7, .pt 7 1 0 [] 0 0), (12, i64 (a : Nat)), (13, i64 (b : Nat)), (77, i64 P.length), (78, i64 (a : Nat)), (81, i64 P.length), (82, i64 (b : Nat)), (104, .h 10091 z.bb 0 [] 1 tk (sent.length - tk)), (105, i64 (sent.length - tk : Nat)), (106, i64 (z.j : Nat))])
            (fun z => [(1000000, ⟨0, 0, false, tInsSS P⟩), (1000001, ⟨0, 0, false, tEventSS H⟩), (4, ⟨1, 0, false, .box [.nl 1, .nl 4, .nl 1, .nl 1]⟩), (7, ⟨1, 0, dd, .box [.h 58 b0 0 [] 1 0 P.length, .h 64 b1 0 [] 4 0 (stsOf P H).length, .h 23 1 0 [] 1 0 (P.length * P.length), .h 74 b3 0 [] 1 0 H.length]⟩), (23, ⟨1, z.g, z.d, tItemSS9 z.w⟩), (58, ⟨b0, 0, false, tInsSS9 P⟩), (64, ⟨b1, 0, false, tStateS9 (stsOf P H)⟩), (74, ⟨b3, 0, false, tEventSS9 H⟩), (10091, ⟨z.bb, 0, false, tI9 sent⟩)])
            (fun z => sent.length - tk - z.j) (fun z => z.j ≤ sent.length - tk ∧ z.w = (fill (waysOf H P.length) ix).set ix (wayOf ((leftOf H a b).take z.j))) ⟨0, w, _, _, _⟩ fitOk ⟨Nat.zero_le _, by show w = (fill _ ix).set ix default; rw [fill_self _ _ (by omega)]; exact hw⟩ (by simp [C]; omega) ?_
          clear sl ob hw w g d
          rintro ⟨j, w, g, d, bb⟩ sl ob ⟨hj, hw⟩
          dsimp only at hj hw
          have hwl : w.length = P.length * P.length := by rw [hw, List.length_set, fill_len, hTl]
          have hll : (leftOf H a b).length = sent.length - tk := by rw [hL, List.length_drop]
          (try dsimp only [cond_true, cond_false])
          (conv => whnf)
          by_cases hjl : j < sent.length - tk
          · have hwx : rd w ix = wayOf ((leftOf H a b).take j) := by rw [hw]; simp [rd, fill_len, hTl, hpl]
            have hwxl : (rd w ix).length = j := by rw [hwx]; simp [wayOf]; omega
            have hnx : rd (leftOf H a b) j = rd sent (tk + j) := by rw [hL, rd_drop]
            repeat' ((with_reducible (first | refine sW.eq (wm) ?_|refine sW.eq (wa) ?_|refine gHole ?_|refine st16 ?_|refine fG.split (fun _ => ?_) (fun _ => ?_)|refine fG.bool (fun _ => ?_) (fun _ => ?_)|refine gD 9 [(1, 3), (1, 4)] ?_|refine gD 11 [(1, 6), (1, 7)] ?_|refine gD 24 [(1, 18), (8, 18), (15, 18), (1, 19)] ?_)) <;> (try (conv => whnf)))
            refine ⟨⟨⟨j + 1, w.set ix (rd w ix ++ [⟨false, rd sent (tk + j)⟩]), _, _, _⟩, fitOk, ?_, ?_⟩⟩
            · exact ⟨by show j + 1 ≤ _; omega, by show w.set ix _ = _; rw [hwx, hw, List.set_set, take_rd (by omega), hnx]; simp [wayOf]⟩
            · show sent.length - tk - (j + 1) < sent.length - tk - j; omega
          · repeat' ((with_reducible (first | refine st16 ?_|refine fG.split (fun _ => ?_) (fun _ => ?_)|refine fG.bool (fun _ => ?_) (fun _ => ?_)|refine gD 9 [(1, 3), (1, 4)] ?_|refine gD 11 [(1, 6), (1, 7)] ?_|refine gD 24 [(1, 18), (8, 18), (15, 18), (1, 19)] ?_)) <;> (try (conv => whnf)))
            refine ⟨⟨⟨b + 1, w, _, _⟩, fitOk, ?_, ?_⟩⟩
            · refine ⟨by show b + 1 ≤ _; omega, ?_⟩
              show w = fill _ (am + (b + 1))
              rw [hw, List.take_of_length_le (by omega), ← hT, fill_set _ _ (by omega), ← Nat.add_assoc, hix]
            · show P.length - (b + 1) < P.length - b; omega
        · repeat' ((with_reducible (first | refine st16 ?_|refine fG.split (fun _ => ?_) (fun _ => ?_)|refine fG.bool (fun _ => ?_) (fun _ => ?_)|refine gD 9 [(1, 3), (1, 4)] ?_|refine gD 11 [(1, 6), (1, 7)] ?_|refine gD 24 [(1, 18), (8, 18), (15, 18), (1, 19)] ?_)) <;> (try (conv => whnf)))
          refine ⟨⟨⟨a + 1, w, _, _⟩, fitOk, ?_, ?_⟩⟩
          · exact ⟨by show a + 1 ≤ _; omega, by show w = fill _ ((a + 1) * P.length); rw [hw, Nat.add_mul, Nat.one_mul, show b = P.length by omega]⟩
          · show P.length - (a + 1) < P.length - a; omega
      · have hwT : w = waysOf H P.length := by rw [hw, show a = P.length by omega, ← hTl, fill_all]
        subst hwT
        have et : List.take (P.length * P.length) (waysOf H P.length) = waysOf H P.length := List.take_of_length_le (by omega)
        have q7 : ∀ k, callE PR C (k + 11) 20 [.ag [.h 1000000 0 0 [] 1 0 P.length, .h 1000001 0 0 [] 4 0 (stsOf P H).length, .h 1000002 0 0 [] 1 0 (List.take (P.length * P.length) (waysOf H P.length)).length, .h 1000003 0 0 [] 1 0 H.length]] [tInsSS P, tStateS (stsOf P H), tItemSS (List.take (P.length * P.length) (waysOf H P.length)), tEventSS H] = some ⟨bl (sysOk P (stsOf P H) (waysOf H P.length) H), [], [none, none, none, none]⟩ := by
          intro k
          rw [et]
          exact ok_impl_SysOk k P (stsOf P H) (waysOf H P.length) H (ofB hn1 hp hh hx hy hpo)
        have e0 : ofOk P H = sysOk P (stsOf P H) (waysOf H P.length) H := by unfold ofOk; rw [hpo, Bool.true_and]
        rw [e0]
        cases e : sysOk P (stsOf P H) (waysOf H P.length) H with
        | false =>
          simp only [e] at q7
          repeat' ((with_reducible (first | refine sCall.of (q7 _) ?_|refine st16 ?_|refine fG.split (fun _ => ?_) (fun _ => ?_)|refine fG.bool (fun _ => ?_) (fun _ => ?_)|refine gD 9 [(1, 3), (1, 4)] ?_|refine gD 11 [(1, 6), (1, 7)] ?_|refine gD 24 [(1, 18), (8, 18), (15, 18), (1, 19)] ?_)) <;> (try (conv => whnf)))
          all_goals rfl
        | true =>
          simp only [e] at q7
          repeat' ((with_reducible (first | refine sCall.of (q7 _) ?_|refine st16 ?_|refine fG.split (fun _ => ?_) (fun _ => ?_)|refine fG.bool (fun _ => ?_) (fun _ => ?_)|refine gD 9 [(1, 3), (1, 4)] ?_|refine gD 11 [(1, 6), (1, 7)] ?_|refine gD 24 [(1, 18), (8, 18), (15, 18), (1, 19)] ?_)) <;> (try (conv => whnf)))
          simp only [et, if_true, nSys, hTl] <;> rfl

end Go.Proofs.YtipfcgbhaalcdaaGreat.Abs
namespace Go.Proofs.YtipfcgbhaalcdaaGreat.Abs
open Go Go.Proofs
set_option linter.unusedVariables false
set_option linter.unusedSimpArgs false
attribute [local irreducible] callE
theorem cut_ofOk {P : List (List Ins)} {S : List State} {W : List (List Item)} {H : List (List Event)} {c : List Int} (h : sysOk P S W H = true) (hc : FOk H c) (hw : wholeB H c = true) : ofOk P (cutH H c) = waysFit (cutH H c) P.length := by
  unfold ofOk
  rw [cut_sysOk h hc hw]
  simp only [sysOk, sizesOk, inB, Bool.and_eq_true, decide_eq_true_eq, allBelow_eq] at h
  obtain ⟨⟨a1, a2, a3, a4⟩, b1, b2, b3, b4⟩ := h
  have : procsOk P (cutH H c) = true := by
    unfold procsOk
    rw [allBelow_eq]
    intro p hp
    have h1 := b2 p hp
    simp only [procOk, Bool.and_eq_true, stoodAs] at h1 ⊢
    rw [rd_cutH (by omega)]
    refine ⟨replayAll_cut h1.2.2.1 _, ?_⟩
    have h2 := h1.2.1
    simp only [peersOk, List.all_eq_true] at h2 ⊢
    intro e he
    exact h2 e (List.mem_of_mem_take he)
  rw [this, Bool.true_and]
def zeroRes (b : List (Option Cont)) : Res := ⟨.tu [nSys 0 [] [] [] [], bl false], [tInsSS9 [], tStateS9 [], tItemSS9 [], tEventSS9 []], b⟩
def atRes (P : List (List Ins)) (H : List (List Event)) (b : List (Option Cont)) : Res := ⟨.tu [nSys 0 P (stsOf P H) (waysOf H P.length) H, bl true], [tInsSS9 P, tStateS9 (stsOf P H), tItemSS9 (waysOf H P.length), tEventSS9 H], b⟩
structure AT where
  j : Nat
  l : List (List Event)
  o : Nat
  b : Nat
  lv : Nat
set_option maxHeartbeats 4000000 in
theorem ok_impl_At (k : Nat) (P : List (List Ins)) (S : List State) (W : List (List Item)) (H : List (List Event)) (c : List Int) (hb : SysB 1000000000 P S W H) (e : sysOk P S W H = true) (hc : FOk H c) :
    callE PR C (k + 14) 80 [aSys 0 P S W H, .h 1000004 0 0 [] 1 0 c.length] [tInsSS P, tStateS S, tItemSS W, tEventSS H, tI c] =
      some (if wholeB H c = true ∧ waysFit (cutH H c) P.length = true then atRes P (cutH H c) [none, none, none, none, none] else zeroRes [none, none, none, none, none]) := by
  have q1 := fun k => ok_impl_Whole k P S W H c (hb.mono (by decide)) e hc
  cases hw : wholeB H c with
  | false =>
    simp only [hw] at q1
    rw [if_neg (by simp)]
    (refine fnI [ResultVar.cell 4 29, ResultVar.tmp 5] Tryz.func80 ?_; conv => whnf)
    repeat' ((with_reducible (first | refine sCall.of (q1 _) ?_|refine st16 ?_|refine fG.split (fun _ => ?_) (fun _ => ?_)|refine fG.bool (fun _ => ?_) (fun _ => ?_))) <;> (try (conv => whnf)))
    all_goals rfl
  | true =>
    simp only [hw] at q1
    obtain ⟨hI, hP, hS, h200⟩ := sysOk_facts e
    have hN := hI.n
    have hHl := hI.h
    have hcl := hc.len
    have hcut := cutH_len H c
    have q2 := fun k => ok_impl_systemOf k P (cutH H c) hN.1 hN.2 (by omega) (fun j hj => hb.pp j hj) (fun j hj => by
      rw [cutH_len] at hj
      rw [rd_cutH hj, List.length_take]
      have := h200 j hj
      omega)
    rw [cut_ofOk e hc hw] at q2
    (refine fnI [ResultVar.cell 4 29, ResultVar.tmp 5] Tryz.func80 ?_; conv => whnf)
    repeat' ((with_reducible (first | refine sCall.of (q1 _) ?_|refine st16 ?_|refine fG.split (fun _ => ?_) (fun _ => ?_)|refine fG.bool (fun _ => ?_) (fun _ => ?_))) <;> (try (conv => whnf)))
    refine loop_rule (ι := AT) (fun z => [(2, .pt 2 1 0 [] 0 0), (4, .pt 4 1 0 [] 0 0), (6, .h z.o z.b 0 [] 1 0 z.l.length), (15, .h 1000004 0 0 [] 1 0 c.length), (16, i64 c.length), (17, i64 (z.j : Nat))])
      (fun z => [(1000000, ⟨0, 0, false, tInsSS P⟩), (1000001, ⟨0, 0, false, tStateS S⟩), (1000002, ⟨0, 0, false, tItemSS W⟩), (1000003, ⟨0, 0, false, tEventSS H⟩), (1000004, ⟨0, 0, false, tI c⟩), (2, ⟨1, 0, false, bSys P S W H⟩), (4, ⟨1, 0, false, .box [.nl 1, .nl 4, .nl 1, .nl 1]⟩), (z.o, ⟨z.b, 0, false, .tree z.lv (.sl 1 (z.l.map rEventL))⟩)])
      (fun z => c.length - z.j) (fun z => z.j ≤ c.length ∧ z.l = (cutH H c).take z.j ∧ (z.o = 14 ∧ z.lv = 9 ∨ z.o = 31 ∧ z.lv = 1)) ⟨0, [], 14, _, 9⟩ fitOk ⟨Nat.zero_le _, rfl, .inl ⟨rfl, rfl⟩⟩ (by simp [C]; omega) ?_
    clear q1
    rintro ⟨j, out, o, b, lv⟩ sl ob ⟨hj, hout, ho⟩
    dsimp only at hj hout ho
    have hle : out.length ≤ H.length := by rw [hout]; simp; omega
    by_cases hjl : j < c.length
    · have hr := hc.rng j (by omega)
      have hlj := h200 j (by omega)
      have e4 : (List.map rEvent (rd H j)).length = (rd H j).length := by simp
      rcases ho with ⟨rfl, rfl⟩ | ⟨rfl, rfl⟩
      all_goals (try dsimp only [cond_true, cond_false])
      all_goals (conv => whnf)
      all_goals repeat' ((with_reducible (first | refine st16 ?_|refine fG.split (fun _ => ?_) (fun _ => ?_)|refine fG.bool (fun _ => ?_) (fun _ => ?_))) <;> (try (conv => whnf)))
      all_goals
        refine ⟨⟨⟨j + 1, out ++ [(rd H j).take (rd c j).toNat], 31, _, 1⟩, fitOk, ?_, ?_⟩⟩
        · exact ⟨by show j + 1 ≤ _; omega, by show _ = (cutH H c).take (j + 1); rw [take_rd (by omega), hout, rd_cutH (by omega)], .inr ⟨rfl, rfl⟩⟩
        · show c.length - (j + 1) < c.length - j; omega
    · rw [List.take_of_length_le (by omega)] at hout
      subst hout
      cases hf : waysFit (cutH H c) P.length
      all_goals simp only [hf, if_true, Bool.false_eq_true, if_false, and_false, and_self] at q2 ⊢
      all_goals rcases ho with ⟨rfl, rfl⟩ | ⟨rfl, rfl⟩
      all_goals (try dsimp only [cond_true, cond_false])
      all_goals (conv => whnf)
      all_goals repeat' ((with_reducible (first | refine sCall.of (q2 _) ?_|refine st16 ?_|refine fG.split (fun _ => ?_) (fun _ => ?_)|refine fG.bool (fun _ => ?_) (fun _ => ?_))) <;> (try (conv => whnf)))
      all_goals rfl

theorem waysFit_no {H : List (List Event)} {n a b : Nat} (ha : a < n) (hb : b < n) (h : ¬ (leftOf H a b).length ≤ 12) : waysFit H n = false :=
  allBelow_no (f := fun a => allBelow n fun b => decide ((leftOf H a b).length ≤ 12)) ha (allBelow_no (f := fun b => decide ((leftOf H a b).length ≤ 12)) hb (decide_eq_false h))
theorem waysFit_yes {H : List (List Event)} {n : Nat} (h : ∀ a, a < n → ∀ b, b < n → (leftOf H a b).length ≤ 12) : waysFit H n = true :=
  allBelow_yes fun a ha => allBelow_yes fun b hb => decide_eq_true (h a ha b hb)
set_option maxRecDepth 20000 in
set_option maxHeartbeats 8000000 in
theorem ok_spec_l8At (k : Nat) (P : List (List Ins)) (S : List State) (W : List (List Item)) (H : List (List Event)) (c : List Int) (hb : SysB 1000000000 P S W H) (e : sysOk P S W H = true) (hc : FOk H c) (hw : wholeB H c = true) :
    callE PR C (k + 8) 85 [aSys 0 P S W H, .h 1000004 0 0 [] 1 0 c.length] [tInsSS P, tStateS S, tItemSS W, tEventSS H, tI c] =
      some (if waysFit (cutH H c) P.length = true then atRes P (cutH H c) [none, none, none, none, none] else zeroRes [none, none, none, none, none]) := by
  obtain ⟨hI, hP, hS, h200⟩ := sysOk_facts e
  have hN := hI.n
  have hHl := hI.h
  have hcl := hc.len
  have hcut := cutH_len H c
  have hnn : P.length * P.length ≤ 4 * 4 := Nat.mul_le_mul hN.2 hN.2
  have w1 : IntKind.i64.wrap ((P.length : Int) * (P.length : Int)) = ((P.length * P.length : Nat) : Int) := by
    rw [show (P.length : Int) * (P.length : Int) = ((P.length * P.length : Nat) : Int) by simp]; exact wrap_i64 _ (by omega) (by omega)
  have hTl := waysOf_len (cutH H c) P.length
  have hsl := stsOf_len P (cutH H c)
  have q0 := fun k => ok_spec_l4Ins k P (by omega) (fun j hj => by have := hb.pp j hj; omega)
  have hwh : ∀ a b, a < P.length → b < P.length → (vals (rd (cutH H c) b) 3 a).length ≤ (vals (rd (cutH H c) a) 2 b).length := fun a b ha hb => by
    have := wholeB_eq.1 hw a b (by omega) (by omega)
    rw [rd_cutH (by omega), rd_cutH (by omega)]
    exact this
  have h2c : ∀ j : Nat, j < P.length → (rd (cutH H c) j).length ≤ 200 := fun j hj => by
    rw [rd_cutH (by omega), List.length_take]
    have := h200 j (by omega)
    omega
  (refine fnI [ResultVar.cell 4 29, ResultVar.tmp 5] Tryz.func85 ?_; conv => whnf)
  repeat' ((with_reducible (first | refine sCall.of (q0 _) ?_|refine sW.eq (w1) ?_|refine st16 ?_|refine fG.split (fun _ => ?_) (fun _ => ?_)|refine fG.bool (fun _ => ?_) (fun _ => ?_)|refine gD 2 [(1, 6), (2, 6), (1, 8), (2, 8), (6, 8)] ?_|refine gD 6 [(0, 2), (0, 5), (0, 9)] ?_|refine gD 21 [(1, 21), (8, 21), (15, 21), (1, 22)] ?_)) <;> (try (conv => whnf)))
  refine loop_rule (ι := SB) (fun z => [(1, .h 1000004 0 0 [] 1 0 c.length), (2, .pt 2 1 0 [] 0 0), (4, .pt 4 1 0 [] 0 0), (6, i64 P.length), (7, .pt 7 1 0 [] 0 0), (8, i64 (z.j : Nat))])
    (fun z => [(1000000, ⟨0, 0, false, tInsSS P⟩), (1000001, ⟨0, 0, false, tStateS S⟩), (1000002, ⟨0, 0, false, tItemSS W⟩), (1000003, ⟨0, 0, false, tEventSS H⟩), (1000004, ⟨0, 0, false, tI c⟩), (2, ⟨1, 0, false, bSys P S W H⟩), (4, ⟨1, 0, false, .box [.nl 1, .nl 4, .nl 1, .nl 1]⟩), (7, ⟨1, 0, z.dd, .box [.h 10022 1 0 [] 1 0 P.length, z.v1, .h 26 1 0 [] 1 0 (P.length * P.length), z.v3]⟩), (10022, ⟨1, 0, false, tInsSS9 P⟩), (26, ⟨1, 0, false, tItemSS9 (List.replicate (P.length * P.length) default)⟩), (65, ⟨z.b1, 0, false, z.c1⟩), (59, ⟨z.b3, 0, false, z.c3⟩)])
    (fun z => P.length - z.j) (fun z => z.j ≤ P.length ∧ SB.ok P (cutH H c) 58 65 59 z)
    ⟨0, [], [], [], .nl 1, .nl 4, .nl 1, 0, 0, 0, .dead, .dead, .dead, _⟩ fitOk ⟨Nat.zero_le _, ⟨rfl, rfl, rfl⟩, .inl ⟨rfl, ⟨rfl, rfl, rfl⟩, ⟨rfl, rfl, rfl⟩, ⟨rfl, rfl, rfl⟩⟩⟩ (by simp [C]; omega) ?_
  rintro ⟨j, lp, ls, lh, v0, v1, v3, b0, b1, b3, c0, c1, c3, dd⟩ sl ob ⟨hj, ⟨hlp, hls, hlh⟩, hg⟩
  dsimp only at hj hlp hls hlh hg
  by_cases hjl : j < P.length
  · have hxj := hb.pp j hjl
    have hyj := h200 j (by omega)
    have hr := hc.rng j (by omega)
    have e4 : (List.map rEvent (rd H j)).length = (rd H j).length := by simp
    have e5 : (List.take (rd c j).toNat (rd H j)).length ≤ (rd H j).length := by simp; omega
    have q1 := fun k => ok_spec_Replay' k (rd P j) (rd (cutH H c) j) (by omega) (by have := h2c j hjl; omega)
    have er : rd (stsOf P (cutH H c)) j = stOf (replayAll (rd P j) (rd (cutH H c) j)) := stsOf_rd hjl
    rw [← er] at q1
    rw [rd_cutH (show j < H.length by omega)] at q1
    have ec : (rd H j).take (rd c j).toNat = rd (cutH H c) j := (rd_cutH (by omega)).symm
    rcases hg with ⟨e1, ⟨f1, f2, f3⟩, ⟨f4, f5, f6⟩, ⟨f7, f8, f9⟩⟩ | ⟨h0, ⟨f1, f2, f3⟩, ⟨f7, f8, f9⟩⟩
    · subst e1 f1 f2 f3 f4 f5 f6 f7 f8 f9 hlp hls hlh
      (try dsimp only [cond_true, cond_false])
      (conv => whnf)
      repeat' ((with_reducible (first | refine sCall.of (q1 _) ?_|refine st16 ?_|refine fG.split (fun _ => ?_) (fun _ => ?_)|refine fG.bool (fun _ => ?_) (fun _ => ?_)|refine gD 2 [(1, 6), (2, 6), (1, 8), (2, 8), (6, 8)] ?_|refine gD 6 [(0, 2), (0, 5), (0, 9)] ?_|refine gD 21 [(1, 21), (8, 21), (15, 21), (1, 22)] ?_)) <;> (try (conv => whnf)))
      refine ⟨⟨⟨0 + 1, [rd P 0], [rd (stsOf P (cutH H c)) 0], [(rd H 0).take (rd c 0).toNat], .h 58 0 0 [] 1 0 1, _, _, 0, _, _, tInsSS9 [rd P 0], _, _, _⟩, fitOk, ?_, ?_⟩⟩
      · exact ⟨by show 0 + 1 ≤ _; omega, ⟨by show _ = P.take (0 + 1); rw [take_rd hjl]; rfl, by show _ = (stsOf P (cutH H c)).take (0 + 1); rw [take_rd (by omega)]; rfl, by show _ = (cutH H c).take (0 + 1); rw [take_rd (by omega), ← ec]; rfl⟩, .inr ⟨Nat.one_pos, ⟨rfl, rfl, rfl⟩, ⟨rfl, rfl, rfl⟩⟩⟩
      · show P.length - (0 + 1) < P.length - 0; omega
    · have l1 : ls.length = j := by rw [hls]; simp; omega
      have l3 : lh.length = j := by rw [hlh]; simp; omega
      subst f1 f2 f3 f7 f8 f9
      (try dsimp only [cond_true, cond_false])
      (conv => whnf)
      repeat' ((with_reducible (first | refine sCall.of (q1 _) ?_|refine st16 ?_|refine fG.split (fun _ => ?_) (fun _ => ?_)|refine fG.bool (fun _ => ?_) (fun _ => ?_)|refine gD 2 [(1, 6), (2, 6), (1, 8), (2, 8), (6, 8)] ?_|refine gD 6 [(0, 2), (0, 5), (0, 9)] ?_|refine gD 21 [(1, 21), (8, 21), (15, 21), (1, 22)] ?_)) <;> (try (conv => whnf)))
      refine ⟨⟨⟨j + 1, lp ++ [rd P j], ls ++ [rd (stsOf P (cutH H c)) j], lh ++ [(rd H j).take (rd c j).toNat], .h 58 0 0 [] 1 0 (lp ++ [rd P j]).length, _, _, 0, _, _, tInsSS9 (lp ++ [rd P j]), _, _, _⟩, fitOk, ?_, ?_⟩⟩
      · exact ⟨by show j + 1 ≤ _; omega, ⟨by show _ = P.take (j + 1); rw [take_rd hjl, hlp], by show _ = (stsOf P (cutH H c)).take (j + 1); rw [take_rd (by omega), hls], by show _ = (cutH H c).take (j + 1); rw [take_rd (by omega), hlh, ← ec]⟩, .inr ⟨Nat.succ_pos j, ⟨rfl, rfl, rfl⟩, ⟨rfl, rfl, rfl⟩⟩⟩
      · show P.length - (j + 1) < P.length - j; omega
  · rw [List.take_of_length_le (by omega)] at hls hlh
    rcases hg with ⟨e1, ⟨f1, f2, f3⟩, ⟨f4, f5, f6⟩, ⟨f7, f8, f9⟩⟩ | ⟨h0, ⟨f1, f2, f3⟩, ⟨f7, f8, f9⟩⟩
    · exfalso; omega
    · rw [hls] at f2 f8
      rw [hlh] at f3 f9
      subst f1 f2 f3 f7 f8 f9
      clear hlp hls hlh
      generalize cutH H c = H' at *
      (try dsimp only [cond_true, cond_false])
      (conv => whnf)
      repeat' ((with_reducible (first | refine st16 ?_|refine fG.split (fun _ => ?_) (fun _ => ?_)|refine fG.bool (fun _ => ?_) (fun _ => ?_)|refine gD 2 [(1, 6), (2, 6), (1, 8), (2, 8), (6, 8)] ?_|refine gD 6 [(0, 2), (0, 5), (0, 9)] ?_|refine gD 21 [(1, 21), (8, 21), (15, 21), (1, 22)] ?_)) <;> (try (conv => whnf)))
      refine loop_rule (ι := WB) (fun z => [(4, .pt 4 1 0 [] 0 0), (6, i64 P.length), (7, .pt 7 1 0 [] 0 0), (12, i64 (z.a : Nat))])
        (fun z => [(1000000, ⟨0, 0, false, tInsSS P⟩), (1000001, ⟨0, 0, false, tStateS S⟩), (1000002, ⟨0, 0, false, tItemSS W⟩), (1000003, ⟨0, 0, false, tEventSS H⟩), (1000004, ⟨0, 0, false, tI c⟩), (4, ⟨1, 0, false, .box [.nl 1, .nl 4, .nl 1, .nl 1]⟩), (7, ⟨1, 0, dd, .box [.h 10022 1 0 [] 1 0 P.length, .h 65 b1 0 [] 4 0 (stsOf P H').length, .h 26 1 0 [] 1 0 (P.length * P.length), .h 59 b3 0 [] 1 0 H'.length]⟩), (10022, ⟨1, 0, false, tInsSS9 P⟩), (26, ⟨1, z.g, z.d, tItemSS9 z.w⟩), (65, ⟨b1, 0, false, tStateS9 (stsOf P H')⟩), (59, ⟨b3, 0, false, tEventSS9 H'⟩)])
        (fun z => P.length - z.a) (fun z => z.a ≤ P.length ∧ z.w = fill (waysOf H' P.length) (z.a * P.length) ∧ ∀ x, x < z.a → ∀ y, y < P.length → (leftOf H' x y).length ≤ 12) ⟨0, List.replicate (P.length * P.length) default, _, _⟩ fitOk ⟨Nat.zero_le _, by show _ = fill _ (0 * P.length); rw [Nat.zero_mul, fill_zero, hTl], fun x h => absurd h (Nat.not_lt_zero x)⟩ (by simp [C]; omega) ?_
      clear sl ob
      rintro ⟨a, w, g, d⟩ sl ob ⟨ha, hw', hfa⟩
      dsimp only at ha hw' hfa
      (try dsimp only [cond_true, cond_false])
      (conv => whnf)
      by_cases hal : a < P.length
      · repeat' ((with_reducible (first | refine st16 ?_|refine fG.split (fun _ => ?_) (fun _ => ?_)|refine fG.bool (fun _ => ?_) (fun _ => ?_)|refine gD 2 [(1, 6), (2, 6), (1, 8), (2, 8), (6, 8)] ?_|refine gD 6 [(0, 2), (0, 5), (0, 9)] ?_|refine gD 21 [(1, 21), (8, 21), (15, 21), (1, 22)] ?_)) <;> (try (conv => whnf)))
        refine loop_rule (ι := WB) (fun z => [(4, .pt 4 1 0 [] 0 0), (6, i64 P.length), (7, .pt 7 1 0 [] 0 0), (12, i64 (a : Nat)), (13, i64 (z.a : Nat))])
          (fun z => [(1000000, ⟨0, 0, false, tInsSS P⟩), (1000001, ⟨0, 0, false, tStateS S⟩), (1000002, ⟨0, 0, false, tItemSS W⟩), (1000003, ⟨0, 0, false, tEventSS H⟩), (1000004, ⟨0, 0, false, tI c⟩), (4, ⟨1, 0, false, .box [.nl 1, .nl 4, .nl 1, .nl 1]⟩), (7, ⟨1, 0, dd, .box [.h 10022 1 0 [] 1 0 P.length, .h 65 b1 0 [] 4 0 (stsOf P H').length, .h 26 1 0 [] 1 0 (P.length * P.length), .h 59 b3 0 [] 1 0 H'.length]⟩), (10022, ⟨1, 0, false, tInsSS9 P⟩), (26, ⟨1, z.g, z.d, tItemSS9 z.w⟩), (65, ⟨b1, 0, false, tStateS9 (stsOf P H')⟩), (59, ⟨b3, 0, false, tEventSS9 H'⟩)])
          (fun z => P.length - z.a) (fun z => z.a ≤ P.length ∧ z.w = fill (waysOf H' P.length) (a * P.length + z.a) ∧ ∀ y, y < z.a → (leftOf H' a y).length ≤ 12) ⟨0, w, _, _⟩ fitOk ⟨Nat.zero_le _, hw', fun x h => absurd h (Nat.not_lt_zero x)⟩ (by simp [C]; omega) ?_
        clear sl ob hw' w g d
        rintro ⟨b, w, g, d⟩ sl ob ⟨hb', hw', hfb⟩
        dsimp only at hb' hw' hfb
        (try dsimp only [cond_true, cond_false])
        (conv => whnf)
        by_cases hbl : b < P.length
        · have hya := h2c a hal
          have hyb := h2c b hbl
          have hva := vals_le (rd H' a) 2 b
          have q5 := fun k => ok_spec_Values k (rd H' a) 2 b (by omega)
          have q6 := fun k => ok_spec_Count k (rd H' b) 3 a (by omega)
          have hL : leftOf H' a b = (vals (rd H' a) 2 b).drop (cnt (rd H' b) 3 a) := rfl
          have htl : cnt (rd H' b) 3 a ≤ (vals (rd H' a) 2 b).length := hwh a b hal hbl
          generalize vals (rd H' a) 2 b = sent at *
          generalize cnt (rd H' b) 3 a = tk at *
          have hpl := place_lt hal hbl
          have hT : rd (waysOf H' P.length) (a * P.length + b) = wayOf (leftOf H' a b) := rd_waysOf hal hbl
          have hll : (leftOf H' a b).length = sent.length - tk := by rw [hL, List.length_drop]
          have wm : IntKind.i64.wrap ((a : Int) * (P.length : Int)) = ((a * P.length : Nat) : Int) := by
            rw [show (a : Int) * (P.length : Int) = ((a * P.length : Nat) : Int) by simp]; exact wrap_i64 _ (by omega) (by omega)
          have wa : IntKind.i64.wrap (((a * P.length : Nat) : Int) + (b : Int)) = ((a * P.length + b : Nat) : Int) := by rw [wrap_i64 _ (by omega) (by omega)]; simp
          generalize ham : a * P.length = am at *
          generalize hix : am + b = ix at *
          repeat' ((with_reducible (first | refine sCall.of (q5 _) ?_|refine sCall.of (q6 _) ?_|refine st16 ?_|refine fG.split (fun _ => ?_) (fun _ => ?_)|refine fG.bool (fun _ => ?_) (fun _ => ?_)|refine gD 2 [(1, 6), (2, 6), (1, 8), (2, 8), (6, 8)] ?_|refine gD 6 [(0, 2), (0, 5), (0, 9)] ?_|refine gD 21 [(1, 21), (8, 21), (15, 21), (1, 22)] ?_)) <;> (try (conv => whnf)))
          refine loop_rule (ι := WI) (fun z => [(4, .pt 4 1 0 [] 0 0), (6, i64 P.length), (7, .pt 7 1 0 [] 0 0), (12, i64 (a : Nat)), (13, i64 (b : Nat)), (14, .h 10083 z.bb 0 [] 1 0 sent.length), (15, i64 (tk : Nat)), (16, i64 (z.j : Nat))])
            (fun z => [(1000000, ⟨0, 0, false, tInsSS P⟩), (1000001, ⟨0, 0, false, tStateS S⟩), (1000002, ⟨0, 0, false, tItemSS W⟩), (1000003, ⟨0, 0, false, tEventSS H⟩), (1000004, ⟨0, 0, false, tI c⟩), (4, ⟨1, 0, false, .box [.nl 1, .nl 4, .nl 1, .nl 1]⟩), (7, ⟨1, 0, dd, .box [.h 10022 1 0 [] 1 0 P.length, .h 65 b1 0 [] 4 0 (stsOf P H').length, .h 26 1 0 [] 1 0 (P.length * P.length), .h 59 b3 0 [] 1 0 H'.length]⟩), (10022, ⟨1, 0, false, tInsSS9 P⟩), (26, ⟨1, z.g, z.d, tItemSS9 z.w⟩), (65, ⟨b1, 0, false, tStateS9 (stsOf P H')⟩), (59, ⟨b3, 0, false, tEventSS9 H'⟩), (10083, ⟨z.bb, 0, false, tI9 sent⟩)])
            (fun z => sent.length - z.j) (fun z => tk ≤ z.j ∧ z.j ≤ sent.length ∧ z.w = (fill (waysOf H' P.length) ix).set ix (wayOf ((leftOf H' a b).take (z.j - tk)))) ⟨tk, w, _, _, _⟩ fitOk ⟨Nat.le_refl _, htl, by show w = (fill _ ix).set ix (wayOf (List.take (tk - tk) _)); rw [Nat.sub_self]; show w = (fill _ ix).set ix default; rw [fill_self _ _ (by omega)]; exact hw'⟩ (by simp [C]; omega) ?_
          clear sl ob hw' w g d
          rintro ⟨j', w, g, d, bb⟩ sl ob ⟨hj0, hj', hw'⟩
          dsimp only at hj0 hj' hw'
          have hwl : w.length = P.length * P.length := by rw [hw', List.length_set, fill_len, hTl]
          (try dsimp only [cond_true, cond_false])
          (conv => whnf)
          by_cases hjl' : j' < sent.length
          · have hwx : rd w ix = wayOf ((leftOf H' a b).take (j' - tk)) := by rw [hw']; simp [rd, fill_len, hTl, hpl]
            have hwxl : (rd w ix).length = j' - tk := by rw [hwx]; simp [wayOf]; omega
            have hnx : rd (leftOf H' a b) (j' - tk) = rd sent j' := by rw [hL, rd_drop, show tk + (j' - tk) = j' by omega]
            repeat' ((with_reducible (first | refine sW.eq (wm) ?_|refine sW.eq (wa) ?_|refine gHole ?_|refine st16 ?_|refine fG.split (fun _ => ?_) (fun _ => ?_)|refine fG.bool (fun _ => ?_) (fun _ => ?_)|refine gD 2 [(1, 6), (2, 6), (1, 8), (2, 8), (6, 8)] ?_|refine gD 6 [(0, 2), (0, 5), (0, 9)] ?_|refine gD 21 [(1, 21), (8, 21), (15, 21), (1, 22)] ?_)) <;> (try (conv => whnf)))
            refine ⟨⟨⟨j' + 1, w.set ix (rd w ix ++ [⟨false, rd sent j'⟩]), _, _, _⟩, fitOk, ?_, ?_⟩⟩
            · exact ⟨by show tk ≤ j' + 1; omega, by show j' + 1 ≤ _; omega, by show w.set ix _ = (fill _ ix).set ix (wayOf (List.take (j' + 1 - tk) _)); rw [hwx, hw', List.set_set, show j' + 1 - tk = (j' - tk) + 1 by omega, take_rd (by omega), hnx]; simp [wayOf]⟩
            · show sent.length - (j' + 1) < sent.length - j'; omega
          · rw [List.take_of_length_le (by omega)] at hw'
            by_cases hf : (leftOf H' a b).length ≤ 12
            · repeat' ((with_reducible (first | refine st16 ?_|refine fG.split (fun _ => ?_) (fun _ => ?_)|refine fG.bool (fun _ => ?_) (fun _ => ?_)|refine gD 2 [(1, 6), (2, 6), (1, 8), (2, 8), (6, 8)] ?_|refine gD 6 [(0, 2), (0, 5), (0, 9)] ?_|refine gD 21 [(1, 21), (8, 21), (15, 21), (1, 22)] ?_)) <;> (try (conv => whnf)))
              refine ⟨⟨⟨b + 1, w, _, _⟩, fitOk, ?_, ?_⟩⟩
              · refine ⟨by show b + 1 ≤ _; omega, ?_, fun y hy => by rcases Nat.lt_succ_iff_lt_or_eq.1 hy with h | h; exact hfb y h; rw [h]; exact hf⟩
                show w = fill _ (am + (b + 1))
                rw [hw', ← hT, fill_set _ _ (by omega), ← Nat.add_assoc, hix]
              · show P.length - (b + 1) < P.length - b; omega
            · rw [waysFit_no hal hbl hf]
              repeat' ((with_reducible (first | refine st16 ?_|refine fG.split (fun _ => ?_) (fun _ => ?_)|refine fG.bool (fun _ => ?_) (fun _ => ?_)|refine gD 2 [(1, 6), (2, 6), (1, 8), (2, 8), (6, 8)] ?_|refine gD 6 [(0, 2), (0, 5), (0, 9)] ?_|refine gD 21 [(1, 21), (8, 21), (15, 21), (1, 22)] ?_)) <;> (try (conv => whnf)))
              all_goals rfl
        · repeat' ((with_reducible (first | refine st16 ?_|refine fG.split (fun _ => ?_) (fun _ => ?_)|refine fG.bool (fun _ => ?_) (fun _ => ?_)|refine gD 2 [(1, 6), (2, 6), (1, 8), (2, 8), (6, 8)] ?_|refine gD 6 [(0, 2), (0, 5), (0, 9)] ?_|refine gD 21 [(1, 21), (8, 21), (15, 21), (1, 22)] ?_)) <;> (try (conv => whnf)))
          refine ⟨⟨⟨a + 1, w, _, _⟩, fitOk, ?_, ?_⟩⟩
          · refine ⟨by show a + 1 ≤ _; omega, by show w = fill _ ((a + 1) * P.length); rw [hw', Nat.add_mul, Nat.one_mul, show b = P.length by omega], fun x hx y hy => ?_⟩
            rcases Nat.lt_succ_iff_lt_or_eq.1 hx with h | h
            · exact hfa x h y hy
            · rw [h]; exact hfb y (by omega)
          · show P.length - (a + 1) < P.length - a; omega
      · have hwT : w = waysOf H' P.length := by rw [hw', show a = P.length by omega, ← hTl, fill_all]
        subst hwT
        have et : List.take (P.length * P.length) (waysOf H' P.length) = waysOf H' P.length := List.take_of_length_le (by omega)
        rw [waysFit_yes fun x hx y hy => hfa x (by omega) y hy]
        repeat' ((with_reducible (first | refine st16 ?_|refine fG.split (fun _ => ?_) (fun _ => ?_)|refine fG.bool (fun _ => ?_) (fun _ => ?_)|refine gD 2 [(1, 6), (2, 6), (1, 8), (2, 8), (6, 8)] ?_|refine gD 6 [(0, 2), (0, 5), (0, 9)] ?_|refine gD 21 [(1, 21), (8, 21), (15, 21), (1, 22)] ?_)) <;> (try (conv => whnf)))
        simp only [et, if_true, atRes, nSys, hTl] <;> rfl

end Go.Proofs.YtipfcgbhaalcdaaGreat.Abs
namespace Go.Proofs.YtipfcgbhaalcdaaGreat.Abs
open Go Go.Proofs
set_option linter.unusedVariables false
set_option linter.unusedSimpArgs false
attribute [local irreducible] callE
theorem lensOf_len (H : List (List Event)) : (lensOf H).length = H.length := by simp [lensOf]
theorem lensOf_rd {H : List (List Event)} {q : Nat} (h : q < H.length) : rd (lensOf H) q = ((rd H q).length : Int) := by simp [lensOf, rd, h]
def hasCut (H : List (List Event)) (p i : Int) : Bool := decide (0 ≤ p ∧ p ≤ (H.length : Int) - 1) && decide (0 ≤ i ∧ i ≤ ((rd H p.toNat).length : Int))
theorem fok_back {H : List (List Event)} {p i : Int} (h : hasCut H p i = true) : FOk H ((lensOf H).set p.toNat i) := by
  simp only [hasCut, Bool.and_eq_true, decide_eq_true_eq] at h
  refine ⟨by simp [lensOf], fun q hq => ?_⟩
  rw [rd_set _ (by rw [lensOf_len]; omega)]
  split
  · rename_i e; rw [e]; omega
  · rw [lensOf_rd hq]; omega
noncomputable def backCutOf (H : List (List Event)) (p i : Int) : List Int := closeOf H ((lensOf H).set p.toNat i)
theorem backCut_is {H : List (List Event)} {p i : Int} (h : hasCut H p i = true) : FOk H (backCutOf H p i) ∧ wholeB H (backCutOf H p i) = true :=
  ⟨(closeOf_is (fok_back h)).1.fok (fok_back h), (closeOf_is (fok_back h)).2⟩
def atSys (P : List (List Ins)) (H : List (List Event)) : Sys := ⟨P, stsOf P H, waysOf H P.length, H⟩
noncomputable def backIs (P : List (List Ins)) (S : List State) (W : List (List Item)) (H : List (List Event)) (p i : Int) : Sys × Int :=
  if sysOk P S W H = true then (if hasCut H p i = true then (if waysFit (cutH H (backCutOf H p i)) P.length = true then (atSys P (cutH H (backCutOf H p i)), 0) else (⟨P, S, W, H⟩, 3)) else (⟨P, S, W, H⟩, 2)) else (⟨[], [], [], []⟩, 1)
def sysRes (X : Sys) (n : Int) (b : List (Option Cont)) : Res := ⟨.tu [nSys 0 X.progs X.states X.ways X.hist, i64 n], [tInsSS9 X.progs, tStateS9 X.states, tItemSS9 X.ways, tEventSS9 X.hist], b⟩
theorem ok_impl_backCut (k : Nat) (P : List (List Ins)) (S : List State) (W : List (List Item)) (H : List (List Event)) (p i : Int) (hb : SysB 1000000000 P S W H) (e : sysOk P S W H = true) (hp : hasCut H p i = true) :
    callE PR C (k + 14) 81 [aSys 0 P S W H, i64 p, i64 i] [tInsSS P, tStateS S, tItemSS W, tEventSS H] = some ⟨.h 2000000 1 0 [] 1 0 (backCutOf H p i).length, [tI9 (backCutOf H p i)], [none, none, none, none]⟩ := by
  have q1 := fun k => ok_impl_Full k P S W H (hb.mono (by decide)) e
  have q2 := fun k => ok_impl_Close k P S W H ((lensOf H).set p.toNat i) (hb.mono (by decide)) e (fok_back hp)
  have hl := lensOf_len H
  simp only [hasCut, Bool.and_eq_true, decide_eq_true_eq] at hp
  unfold backCutOf
  (refine fnI [ResultVar.tmp 6] Tryz.func81 ?_; conv => whnf)
  repeat' ((with_reducible (first | refine sCall.of (q1 _) ?_|refine sCall.of (q2 _) ?_|refine st16 ?_|refine fG.split (fun _ => ?_) (fun _ => ?_)|refine fG.bool (fun _ => ?_) (fun _ => ?_))) <;> (try (conv => whnf)))
theorem at_closed {P : List (List Ins)} {H : List (List Event)} {c : List Int} {b : List (Option Cont)} (hw : wholeB H c = true) : (if wholeB H c = true ∧ waysFit (cutH H c) P.length = true then atRes P (cutH H c) b else zeroRes b) = (if waysFit (cutH H c) P.length = true then atRes P (cutH H c) b else zeroRes b) := by
  simp only [hw, true_and]
set_option maxRecDepth 20000 in
set_option maxHeartbeats 4000000 in
theorem ok_impl_Back (k : Nat) (P : List (List Ins)) (S : List State) (W : List (List Item)) (H : List (List Event)) (p i : Int) (hb : SysB 1000000000 P S W H) :
    callE PR C (k + 16) 17 [aSys 0 P S W H, i64 p, i64 i] [tInsSS P, tStateS S, tItemSS W, tEventSS H] = some (sysRes (backIs P S W H p i).1 (backIs P S W H p i).2 [none, none, none, none]) := by
  have q1 := fun k => ok_impl_SysOk k P S W H (hb.mono (by decide))
  unfold backIs
  cases e : sysOk P S W H with
  | false =>
    simp only [e] at q1
    rw [if_neg (by decide)]
    (refine fnI [ResultVar.cell 6 29, ResultVar.tmp 7] Tryz.func17 ?_; conv => whnf)
    repeat' ((with_reducible (first | refine sCall.of (q1 _) ?_|refine st16 ?_|refine fG.split (fun _ => ?_) (fun _ => ?_)|refine fG.bool (fun _ => ?_) (fun _ => ?_)|refine gD 5 [(0, 4), (0, 9), (1, 9), (4, 9), (5, 9)] ?_)) <;> (try (conv => whnf)))
    all_goals rfl
  | true =>
    simp only [e] at q1
    rw [if_pos rfl]
    obtain ⟨hI, hP, hS, h200⟩ := sysOk_facts e
    have hN := hI.n
    have hHl := hI.h
    have q2 := fun k => ok_impl_cloneSys k P S W H (hb.mono (by decide)) hI.some
    have q3 := fun k => ok_impl_in k p 0 ((H.length : Int) - 1)
    have e4 : (List.map rEvent (rd H p.toNat)).length = (rd H p.toNat).length := by simp
    have q4 := fun k => ok_impl_in k i 0 ((List.map rEvent (rd H p.toNat)).length : Int)
    by_cases c1 : 0 ≤ p ∧ p ≤ (H.length : Int) - 1
    · rw [decide_eq_true c1] at q3
      by_cases c2 : 0 ≤ i ∧ i ≤ ((List.map rEvent (rd H p.toNat)).length : Int)
      · rw [decide_eq_true c2] at q4
        have hp : hasCut H p i = true := by simp only [hasCut, Bool.and_eq_true, decide_eq_true_eq]; omega
        obtain ⟨hf, hw⟩ := backCut_is hp
        rw [if_pos hp]
        have q5 := fun k => ok_impl_backCut k P S W H p i hb e hp
        have q6 := fun k => ok_impl_At k P S W H (backCutOf H p i) hb e hf
        rw [at_closed hw] at q6
        generalize backCutOf H p i = c at *
        cases hfit : waysFit (cutH H c) P.length
        all_goals simp only [hfit, if_true, if_false, Bool.false_eq_true] at q6 ⊢
        all_goals simp only [atRes, zeroRes] at q6
        all_goals (refine fnI [ResultVar.cell 6 29, ResultVar.tmp 7] Tryz.func17 ?_; conv => whnf)
        all_goals repeat' ((with_reducible (first | refine sCall.of (q1 _) ?_|refine sCall.of (q2 _) ?_|refine sCall.of (q3 _) ?_|refine sCall.of (q4 _) ?_|refine sCall.of (q5 _) ?_|refine sCall.of (q6 _) ?_|refine st16 ?_|refine fG.split (fun _ => ?_) (fun _ => ?_)|refine fG.bool (fun _ => ?_) (fun _ => ?_)|refine gD 5 [(0, 4), (0, 9), (1, 9), (4, 9), (5, 9)] ?_)) <;> (try (conv => whnf)))
        all_goals rfl
      · rw [decide_eq_false c2] at q4
        rw [if_neg (by simp only [hasCut, Bool.and_eq_true, decide_eq_true_eq]; omega)]
        (refine fnI [ResultVar.cell 6 29, ResultVar.tmp 7] Tryz.func17 ?_; conv => whnf)
        repeat' ((with_reducible (first | refine sCall.of (q1 _) ?_|refine sCall.of (q2 _) ?_|refine sCall.of (q3 _) ?_|refine sCall.of (q4 _) ?_|refine st16 ?_|refine fG.split (fun _ => ?_) (fun _ => ?_)|refine fG.bool (fun _ => ?_) (fun _ => ?_)|refine gD 5 [(0, 4), (0, 9), (1, 9), (4, 9), (5, 9)] ?_)) <;> (try (conv => whnf)))
        all_goals rfl
    · rw [decide_eq_false c1] at q3
      rw [if_neg (by simp only [hasCut, Bool.and_eq_true, decide_eq_true_eq]; omega)]
      (refine fnI [ResultVar.cell 6 29, ResultVar.tmp 7] Tryz.func17 ?_; conv => whnf)
      repeat' ((with_reducible (first | refine sCall.of (q1 _) ?_|refine sCall.of (q2 _) ?_|refine sCall.of (q3 _) ?_|refine st16 ?_|refine fG.split (fun _ => ?_) (fun _ => ?_)|refine fG.bool (fun _ => ?_) (fun _ => ?_)|refine gD 5 [(0, 4), (0, 9), (1, 9), (4, 9), (5, 9)] ?_)) <;> (try (conv => whnf)))
      all_goals rfl
set_option maxRecDepth 20000 in
set_option maxHeartbeats 4000000 in
theorem ok_spec_Back (k : Nat) (P : List (List Ins)) (S : List State) (W : List (List Item)) (H : List (List Event)) (p i : Int) (hb : SysB 1000000000 P S W H) :
    callE PR C (k + 9) 18 [aSys 0 P S W H, i64 p, i64 i] [tInsSS P, tStateS S, tItemSS W, tEventSS H] = some (sysRes (backIs P S W H p i).1 (backIs P S W H p i).2 [none, none, none, none]) := by
  have q1 := fun k => ok_spec_SysOk k P S W H (hb.mono (by decide))
  unfold backIs
  cases e : sysOk P S W H with
  | false =>
    simp only [e] at q1
    rw [if_neg (by decide)]
    (refine fnI [ResultVar.cell 6 29, ResultVar.tmp 7] Tryz.func18 ?_; conv => whnf)
    repeat' ((with_reducible (first | refine sCall.of (q1 _) ?_|refine st16 ?_|refine fG.split (fun _ => ?_) (fun _ => ?_)|refine fG.bool (fun _ => ?_) (fun _ => ?_)|refine gD 7 [(0, 3), (0, 8), (1, 8), (3, 8), (4, 8)] ?_)) <;> (try (conv => whnf)))
    all_goals rfl
  | true =>
    simp only [e] at q1
    rw [if_pos rfl]
    obtain ⟨hI, hP, hS, h200⟩ := sysOk_facts e
    have hN := hI.n
    have hHl := hI.h
    have q2 := fun k => ok_spec_l4Copy k P S W H (hb.mono (by decide)) hI.some
    have q3 := fun k => ok_spec_l1In k p 0 ((P.length : Int) - 1)
    have e4 : (List.map rEvent (rd H p.toNat)).length = (rd H p.toNat).length := by simp
    have q4 := fun k => ok_spec_l1In k i 0 ((List.map rEvent (rd H p.toNat)).length : Int)
    by_cases c1 : 0 ≤ p ∧ p ≤ (P.length : Int) - 1
    · rw [decide_eq_true c1] at q3
      by_cases c2 : 0 ≤ i ∧ i ≤ ((List.map rEvent (rd H p.toNat)).length : Int)
      · rw [decide_eq_true c2] at q4
        have hp : hasCut H p i = true := by simp only [hasCut, Bool.and_eq_true, decide_eq_true_eq]; omega
        obtain ⟨hf, hw⟩ := backCut_is hp
        rw [if_pos hp]
        have hl := lensOf_len H
        have q5 := fun k => ok_spec_l8Full k P S W H h200 (by omega)
        have q7 := fun k => ok_spec_l8Close k P S W H ((lensOf H).set p.toNat i) h200 (by omega) (fok_back hp)
        have q6 := fun k => ok_spec_l8At k P S W H (backCutOf H p i) hb e hf hw
        rw [show closeOf H ((lensOf H).set p.toNat i) = backCutOf H p i from rfl] at q7
        generalize backCutOf H p i = c at *
        cases hfit : waysFit (cutH H c) P.length
        all_goals simp only [hfit, if_true, if_false, Bool.false_eq_true] at q6 ⊢
        all_goals simp only [atRes, zeroRes] at q6
        all_goals (refine fnI [ResultVar.cell 6 29, ResultVar.tmp 7] Tryz.func18 ?_; conv => whnf)
        all_goals repeat' ((with_reducible (first | refine sCall.of (q1 _) ?_|refine sCall.of (q2 _) ?_|refine sCall.of (q3 _) ?_|refine sCall.of (q4 _) ?_|refine sCall.of (q5 _) ?_|refine sCall.of (q6 _) ?_|refine sCall.of (q7 _) ?_|refine st16 ?_|refine fG.split (fun _ => ?_) (fun _ => ?_)|refine fG.bool (fun _ => ?_) (fun _ => ?_)|refine gD 7 [(0, 3), (0, 8), (1, 8), (3, 8), (4, 8)] ?_)) <;> (try (conv => whnf)))
        all_goals rfl
      · rw [decide_eq_false c2] at q4
        rw [if_neg (by simp only [hasCut, Bool.and_eq_true, decide_eq_true_eq]; omega)]
        (refine fnI [ResultVar.cell 6 29, ResultVar.tmp 7] Tryz.func18 ?_; conv => whnf)
        repeat' ((with_reducible (first | refine sCall.of (q1 _) ?_|refine sCall.of (q2 _) ?_|refine sCall.of (q3 _) ?_|refine sCall.of (q4 _) ?_|refine st16 ?_|refine fG.split (fun _ => ?_) (fun _ => ?_)|refine fG.bool (fun _ => ?_) (fun _ => ?_)|refine gD 7 [(0, 3), (0, 8), (1, 8), (3, 8), (4, 8)] ?_)) <;> (try (conv => whnf)))
        all_goals rfl
    · rw [decide_eq_false c1] at q3
      rw [if_neg (by simp only [hasCut, Bool.and_eq_true, decide_eq_true_eq]; omega)]
      (refine fnI [ResultVar.cell 6 29, ResultVar.tmp 7] Tryz.func18 ?_; conv => whnf)
      repeat' ((with_reducible (first | refine sCall.of (q1 _) ?_|refine sCall.of (q2 _) ?_|refine sCall.of (q3 _) ?_|refine st16 ?_|refine fG.split (fun _ => ?_) (fun _ => ?_)|refine fG.bool (fun _ => ?_) (fun _ => ?_)|refine gD 7 [(0, 3), (0, 8), (1, 8), (3, 8), (4, 8)] ?_)) <;> (try (conv => whnf)))
      all_goals rfl
noncomputable def undoneIs (P : List (List Ins)) (S : List State) (W : List (List Item)) (H : List (List Event)) (p i : Int) : List Int := if (backIs P S W H p i).2 = 0 then (List.range H.length).map fun q => ((rd H q).length : Int) - ((rd (backIs P S W H p i).1.hist q).length : Int) else []
def lastOf (H : List (List Event)) (p : Int) : Int := if 0 ≤ p ∧ p ≤ (H.length : Int) - 1 then ((rd H p.toNat).length : Int) - 1 else -1
end Go.Proofs.YtipfcgbhaalcdaaGreat.Abs
namespace Go.Proofs.YtipfcgbhaalcdaaGreat.Abs
open Go Go.Proofs
set_option linter.unusedVariables false
set_option linter.unusedSimpArgs false
attribute [local irreducible] callE
def mItem (m : Int) (x : Item) : Item := ⟨decide (m.tmod 3 = 0), m + 1⟩
def wItem (x : Item) : Nat := 2
def mWho (m : Int) (x : Who) : Who := ⟨m, m + 1⟩
def wWho (x : Who) : Nat := 2
def mInsL (m : Int) (x : List Ins) : List Ins := marks mIns wIns m x
def wInsL (x : List Ins) : Nat := 5 * x.length
def mItemL (m : Int) (x : List Item) : List Item := marks mItem wItem m x
def wItemL (x : List Item) : Nat := 2 * x.length
def mEventL (m : Int) (x : List Event) : List Event := marks mEvent wEvent m x
def wEventL (x : List Event) : Nat := 3 * x.length
def mState (m : Int) (x : State) : State := ⟨m, marksI (m + 1) x.regs, marksI (m + 1 + x.regs.length) x.out, m + 1 + x.regs.length + x.out.length⟩
def wState (x : State) : Nat := 2 + x.regs.length + x.out.length
def sysW (P : List (List Ins)) (S : List State) (W : List (List Item)) (H : List (List Event)) : Nat := wts wInsL P + (wts wState S + (wts wItemL W + wts wEventL H))
def mkP (m : Int) (P : List (List Ins)) : List (List Ins) := marks mInsL wInsL m P
def mkS (m : Int) (P : List (List Ins)) (S : List State) : List State := marks mState wState (m + wts wInsL P) S
def mkW (m : Int) (P : List (List Ins)) (S : List State) (W : List (List Item)) : List (List Item) := marks mItemL wItemL (m + wts wInsL P + wts wState S) W
def mkH (m : Int) (P : List (List Ins)) (S : List State) (W : List (List Item)) (H : List (List Event)) : List (List Event) := marks mEventL wEventL (m + wts wInsL P + wts wState S + wts wItemL W) H
end Go.Proofs.YtipfcgbhaalcdaaGreat.Abs
namespace Go.Proofs.YtipfcgbhaalcdaaGreat.Abs
open Go Go.Proofs
set_option linter.unusedVariables false
set_option linter.unusedSimpArgs false
attribute [local irreducible] callE
structure SysG (X : Sys) : Prop where
  b : SysB 1048576 X.progs X.states X.ways X.hist
  w : sysW X.progs X.states X.ways X.hist ≤ 500000000
theorem sysG_of {X : Sys} (hB : SysB 1048576 X.progs X.states X.ways X.hist) (n1 : X.progs.length ≤ 4) (n2 : X.states.length ≤ 4) (n3 : X.ways.length ≤ 16) (n4 : X.hist.length ≤ 4) : SysG X := by
  refine ⟨hB, ?_⟩
  have h1 := wts_bound wInsL 5242880 X.progs fun j hj => by have := hB.pp j hj; unfold wInsL; omega
  have h2 := wts_bound wState 2097154 X.states fun j hj => by have := hB.ss j hj; unfold wState; omega
  have h3 := wts_bound wItemL 2097152 X.ways fun j hj => by have := hB.ww j hj; unfold wItemL; omega
  have h4 := wts_bound wEventL 3145728 X.hist fun j hj => by have := hB.hh j hj; unfold wEventL; omega
  unfold sysW
  omega
end Go.Proofs.YtipfcgbhaalcdaaGreat.Abs
namespace Go.Proofs.YtipfcgbhaalcdaaGreat.Abs
open Go Go.Proofs
set_option linter.unusedVariables false
set_option linter.unusedSimpArgs false
attribute [local irreducible] callE
def askedOf (x : Ins) (peer : Int) : Int := if x.n = 9 then peer else x.n
def srcIs (n : Nat) (W : List (List Item)) (p : Nat) (q : Int) : Int × Int :=
  if 0 ≤ q ∧ q ≤ (n : Int) - 1 then (if (rd W (q.toNat * n + p)).length = 0 then (0, 3) else if (rd (rd W (q.toNat * n + p)) 0).mark = true then (0, 5) else (q, 0)) else (0, 2)
def wantsOf (P : List (List Ins)) (S : List State) (p : Nat) : Event := next (rd P p) (rd S p)
def insAt (P : List (List Ins)) (S : List State) (p : Nat) : Ins := rd (rd P p) (rd S p).at_.toNat
def comingIs (P : List (List Ins)) (S : List State) (W : List (List Item)) (H : List (List Event)) (p peer : Int) : Event × Int :=
  if 0 ≤ p ∧ p ≤ (P.length : Int) - 1 then
    (if (rd S p.toNat).code = 0 then
      (if (200 : Int) ≤ ((rd H p.toNat).length : Int) then (⟨0, 0, 0⟩, 4) else
        if (wantsOf P S p.toNat).kind = 2 then (if (12 : Int) ≤ ((rd W (p.toNat * P.length + (wantsOf P S p.toNat).peer.toNat)).length : Int) then (⟨0, 0, 0⟩, 4) else (wantsOf P S p.toNat, 0))
        else if (wantsOf P S p.toNat).kind = 3 then
          (if (srcIs P.length W p.toNat (askedOf (insAt P S p.toNat) peer)).2 = 0 then (⟨3, askedOf (insAt P S p.toNat) peer, (rd (rd W ((askedOf (insAt P S p.toNat) peer).toNat * P.length + p.toNat)) 0).v⟩, 0) else (⟨0, 0, 0⟩, (srcIs P.length W p.toNat (askedOf (insAt P S p.toNat) peer)).2))
        else (wantsOf P S p.toNat, 0))
    else (⟨0, 0, 0⟩, 6))
  else (⟨0, 0, 0⟩, 2)
def stepW (n : Nat) (W : List (List Item)) (p : Nat) (e : Event) : List (List Item) :=
  if e.kind = 2 then W.set (p * n + e.peer.toNat) (rd W (p * n + e.peer.toNat) ++ [⟨false, e.v⟩]) else if e.kind = 3 then W.set (e.peer.toNat * n + p) ((rd W (e.peer.toNat * n + p)).drop 1) else W
def stepS (P : List (List Ins)) (S : List State) (W : List (List Item)) (H : List (List Event)) (p : Nat) (e : Event) : Sys :=
  ⟨P, S.set p (did (rd P p) (rd S p) e), stepW P.length W p e, H.set p (rd H p ++ [e])⟩
def stepIs (P : List (List Ins)) (S : List State) (W : List (List Item)) (H : List (List Event)) (p peer : Int) : Sys × Int :=
  if (comingIs P S W H p peer).2 = 0 then (stepS P S W H p.toNat (comingIs P S W H p peer).1, 0) else (⟨P, S, W, H⟩, (comingIs P S W H p peer).2)
structure ComesAt (P : List (List Ins)) (S : List State) (W : List (List Item)) (H : List (List Event)) (p : Nat) (e : Event) : Prop where
  lt : p < P.length
  code : (rd S p).code = 0
  few : (rd H p).length < 200
  comes : comes e (next (rd P p) (rd S p)) = true
  send : e.kind = 2 → (0 ≤ e.peer ∧ e.peer.toNat < P.length) ∧ (rd W (p * P.length + e.peer.toNat)).length < 12
  take : e.kind = 3 → (0 ≤ e.peer ∧ e.peer.toNat < P.length) ∧ 0 < (rd W (e.peer.toNat * P.length + p)).length ∧ (rd (rd W (e.peer.toNat * P.length + p)) 0).mark = false ∧ e.v = (rd (rd W (e.peer.toNat * P.length + p)) 0).v
theorem next_kind {l : List Ins} {s : State} : (next l s).kind = 2 ∧ (rd l s.at_.toNat).op = 6 ∧ (next l s).peer = (rd l s.at_.toNat).n ∨ (next l s).kind = 3 ∧ (rd l s.at_.toNat).op = 7 ∧ next l s = ⟨3, (rd l s.at_.toNat).n, 0⟩ ∨ (next l s).kind ≠ 2 ∧ (next l s).kind ≠ 3 := by
  unfold next
  by_cases h6 : (rd l s.at_.toNat).op = 6
  · left; simp [h6]
  · by_cases h7 : (rd l s.at_.toNat).op = 7
    · right; left; simp [h7]
    · right; right
      by_cases h8 : (rd l s.at_.toNat).op = 8 <;> simp [h6, h7, h8]
theorem insOk_peer {x : Ins} {m n : Int} (h : insOk x m n = true) (h6 : x.op = 6) : 0 ≤ x.n ∧ x.n ≤ n - 1 := by
  simp only [insOk, h6, inB, Bool.and_eq_true, decide_eq_true_eq] at h
  simp at h
  omega
theorem comes_self {w : Event} (h : w.kind ≠ 3) : comes w w = true := by rw [comes_other h]; simp
theorem coming_comes {P : List (List Ins)} {S : List State} {W : List (List Item)} {H : List (List Event)} {p peer : Int} (hs : sysOk P S W H = true) (h : (comingIs P S W H p peer).2 = 0) : 0 ≤ p ∧ ComesAt P S W H p.toNat (comingIs P S W H p peer).1 := by
  simp only [sysOk, sizesOk, inB, Bool.and_eq_true, decide_eq_true_eq, allBelow_eq, List.all_eq_true] at hs
  obtain ⟨⟨a1, a2, a3, a4⟩, b1, b2, b3, b4⟩ := hs
  unfold comingIs at h ⊢
  by_cases c1 : 0 ≤ p ∧ p ≤ (P.length : Int) - 1
  · rw [if_pos c1] at h ⊢
    refine ⟨c1.1, ?_⟩
    have hp : p.toNat < P.length := by omega
    have hpr := b2 p.toNat hp
    simp only [procOk, Bool.and_eq_true] at hpr
    obtain ⟨e1, e2, e3, e4, e5⟩ := stood_evOk hpr.2.2
    have hat0 := e2.at0
    have hat1 := e2.at1
    have hio := progOk_iok e3 (i := (rd S p.toNat).at_.toNat) (by omega)
    by_cases c2 : (rd S p.toNat).code = 0
    · rw [if_pos c2] at h ⊢
      by_cases c3 : (200 : Int) ≤ ((rd H p.toNat).length : Int)
      · rw [if_pos c3] at h; exact absurd h (by show ¬ (4 : Int) = 0; decide)
      · rw [if_neg c3] at h ⊢
        by_cases c4 : (wantsOf P S p.toNat).kind = 2
        · rw [if_pos c4] at h ⊢
          by_cases c5 : (12 : Int) ≤ ((rd W (p.toNat * P.length + (wantsOf P S p.toNat).peer.toNat)).length : Int)
          · rw [if_pos c5] at h; exact absurd h (by show ¬ (4 : Int) = 0; decide)
          · rw [if_neg c5] at h ⊢
            have hk := @next_kind (rd P p.toNat) (rd S p.toNat)
            have hpe : 0 ≤ (wantsOf P S p.toNat).peer ∧ (wantsOf P S p.toNat).peer ≤ (P.length : Int) - 1 := by
              rcases hk with hk | hk | hk
              · have h6 := hk.2.1
                have hx : insOk (rd (rd P p.toNat) (rd S p.toNat).at_.toNat) (rd P p.toNat).length P.length = true := by
                  have h1 := hpr.1
                  simp only [progOk, Bool.and_eq_true, List.all_eq_true] at h1
                  exact h1.2 _ (rd_mem (by omega))
                show 0 ≤ (next _ _).peer ∧ (next _ _).peer ≤ _
                rw [hk.2.2]
                exact insOk_peer hx h6
              · exact absurd hk.1 (by show ¬ (wantsOf P S p.toNat).kind = 3; omega)
              · exact absurd c4 hk.1
            exact ⟨hp, c2, by omega, comes_self (by show (wantsOf P S p.toNat).kind ≠ 3; omega), fun _ => ⟨⟨hpe.1, by show (wantsOf P S p.toNat).peer.toNat < _; omega⟩, by show (rd W (p.toNat * P.length + (wantsOf P S p.toNat).peer.toNat)).length < 12; omega⟩, fun h3 => absurd h3 (by show ¬ (wantsOf P S p.toNat).kind = 3; omega)⟩
        · rw [if_neg c4] at h ⊢
          by_cases c6 : (wantsOf P S p.toNat).kind = 3
          · rw [if_pos c6] at h ⊢
            generalize hq : askedOf (insAt P S p.toNat) peer = q at h ⊢
            by_cases c7 : (srcIs P.length W p.toNat q).2 = 0
            · rw [if_pos c7] at h ⊢
              unfold srcIs at c7
              by_cases d1 : 0 ≤ q ∧ q ≤ (P.length : Int) - 1
              · rw [if_pos d1] at c7
                by_cases d2 : (rd W (q.toNat * P.length + p.toNat)).length = 0
                · rw [if_pos d2] at c7; exact absurd c7 (by show ¬ (3 : Int) = 0; decide)
                · rw [if_neg d2] at c7
                  by_cases d3 : (rd (rd W (q.toNat * P.length + p.toNat)) 0).mark = true
                  · rw [if_pos d3] at c7; exact absurd c7 (by show ¬ (5 : Int) = 0; decide)
                  · have hpl := place_lt (n := P.length) (a := q.toNat) (b := p.toNat) (by omega) hp
                    have hw := b1 (rd W (q.toNat * P.length + p.toNat)) (rd_mem (by omega))
                    simp only [wayOk, Bool.and_eq_true, List.all_eq_true] at hw
                    have hit := hw.2 (rd (rd W (q.toNat * P.length + p.toNat)) 0) (rd_mem (by omega))
                    simp only [itemOk, numOk, Bool.and_eq_true, decide_eq_true_eq] at hit
                    have hk := @next_kind (rd P p.toNat) (rd S p.toNat)
                    have h7 : (rd (rd P p.toNat) (rd S p.toNat).at_.toNat).op = 7 ∧ next (rd P p.toNat) (rd S p.toNat) = ⟨3, (rd (rd P p.toNat) (rd S p.toNat).at_.toNat).n, 0⟩ := by
                      rcases hk with hk | hk | hk
                      · exact absurd hk.1 c4
                      · exact hk.2
                      · exact absurd c6 hk.2
                    have htk := hio.take h7.1
                    refine ⟨hp, c2, by omega, ?_, fun h3 => absurd h3 (by show ¬ (3 : Int) = 2; decide), fun _ => ⟨⟨d1.1, by show q.toNat < _; omega⟩, by show 0 < (rd W (q.toNat * P.length + p.toNat)).length; omega, by simpa using d3, rfl⟩⟩
                    rw [h7.2, comes_take]
                    refine ⟨rfl, hit.1, ?_⟩
                    show q = _ ∧ _ ∨ _ ∧ 0 ≤ q ∧ q ≤ 3
                    rw [← hq]
                    unfold askedOf insAt
                    by_cases h9 : (rd (rd P p.toNat) (rd S p.toNat).at_.toNat).n = 9
                    · right
                      rw [if_pos h9]
                      refine ⟨h9, ?_⟩
                      have : q = peer := by rw [← hq, askedOf, insAt, if_pos h9]
                      omega
                    · left
                      rw [if_neg h9]
                      exact ⟨rfl, h9⟩
              · rw [if_neg d1] at c7; exact absurd c7 (by show ¬ (2 : Int) = 0; decide)
            · rw [if_neg c7] at h; exact absurd h c7
          · rw [if_neg c6] at h ⊢
            exact ⟨hp, c2, by omega, comes_self c6, fun h3 => absurd h3 c4, fun h3 => absurd h3 c6⟩
    · rw [if_neg c2] at h; exact absurd h (by show ¬ (6 : Int) = 0; decide)
  · rw [if_neg c1] at h; exact absurd h (by show ¬ (2 : Int) = 0; decide)
theorem rd_put {α : Type} [Inhabited α] {l : List α} {b q : Nat} (x : α) (hb : b < l.length) : rd (l.set b x) q = if q = b then x else rd l q := by
  simp only [rd, List.getD_eq_getElem?_getD, List.getElem?_set]
  by_cases h : b = q
  · subst h; simp [hb]
  · rw [if_neg h, if_neg (fun e => h e.symm)]
theorem vals_end (es : List Event) (e : Event) (x y : Int) : vals (es ++ [e]) x y = vals es x y ++ (if isEv x y e = true then [e.v] else []) := by
  simp only [vals, List.filter_append, List.map_append]
  by_cases h : isEv x y e = true
  · rw [if_pos h]; simp [h]
  · rw [if_neg h]; simp [h]
theorem numbers_end (w : List Item) (v : Int) : numbersOf (w ++ [⟨false, v⟩]) = numbersOf w ++ [v] := by simp [numbersOf]
theorem numbers_drop {w : List Item} (h : 0 < w.length) (hm : (rd w 0).mark = false) : numbersOf w = (rd w 0).v :: numbersOf (w.drop 1) := by
  cases w with
  | nil => simp at h
  | cons x w =>
    have e : rd (x :: w) 0 = x := rfl
    rw [e] at hm ⊢
    simp [numbersOf, hm]
theorem reach_more {H : List (List Event)} {p : Nat} {e : Event} (hP : PeersIn H) (hp : p < H.length) {f : List Int} {n : Nat} (h : Reach H f n) : Reach (H.set p (rd H p ++ [e])) f n := by
  have hr : ∀ q, rd (H.set p (rd H p ++ [e])) q = if q = p then rd H p ++ [e] else rd H q := fun q => rd_put _ hp
  have hpre : ∀ q (k : Nat), k ≤ (rd H q).length → (rd (H.set p (rd H p ++ [e])) q).take k = (rd H q).take k := fun q k hk => by
    rw [hr]
    split
    · rename_i hq; subst hq; rw [List.take_append_of_le_length hk]
    · rfl
  have hel : ∀ q (k : Nat), k < (rd H q).length → rd (rd (H.set p (rd H p ++ [e])) q) k = rd (rd H q) k := fun q k hk => by
    rw [hr]
    split
    · rename_i hq; subst hq; simp only [rd, List.getD_eq_getElem?_getD] at hk ⊢; rw [List.getElem?_append_left hk]
    · rfl
  induction h with
  | zero =>
    have := @Reach.zero (H.set p (rd H p ++ [e]))
    rwa [List.length_set] at this
  | @step f n q h hq hc ih =>
    have hf := h.fok
    have hlt := can_lt hf hq hc
    have h0 := (hf.rng q hq).1
    refine ih.step (by rw [List.length_set]; exact hq) ?_
    unfold canCome at hc ⊢
    rw [hel q _ (by omega), hpre q _ (by omega)]
    simp only [Bool.and_eq_true, Bool.not_eq_true', Bool.and_eq_false_iff, decide_eq_true_eq, decide_eq_false_iff_not] at hc ⊢
    refine ⟨?_, ?_⟩
    · rw [hr]
      split
      · rename_i hq'; subst hq'; simp; omega
      · exact hc.1
    · rcases hc.2 with h1 | h1
      · exact .inl h1
      · by_cases hk : (rd (rd H q) (rd f q).toNat).kind = 3
        · right
          have hpe := hP q hq (rd f q).toNat (by omega) hk
          have hfr := hf.rng (rd (rd H q) (rd f q).toNat).peer.toNat (by omega)
          rw [hpre _ _ (by omega)]
          exact h1
        · exact .inl hk
theorem allEv_set : ∀ {H : List (List Event)} {p : Nat} {e : Event}, p < H.length → allEv (H.set p (rd H p ++ [e])) = allEv H + 1
  | h :: H, 0, e, _ => by simp [allEv, rd]; omega
  | h :: H, p + 1, e, hp => by
    have := allEv_set (H := H) (p := p) (e := e) (by simpa using hp)
    simp only [allEv, List.set_cons_succ, List.map_cons, List.sum_cons] at this ⊢
    rw [show rd (h :: H) (p + 1) = rd H p from rfl, this]
    omega

theorem step_fits {P : List (List Ins)} {S : List State} {W : List (List Item)} {H : List (List Event)} {p : Nat} {e : Event} (hh : H.length = P.length) (hwl : W.length = P.length * P.length) (hc : ComesAt P S W H p e) {a b : Nat} (ha : a < P.length) (hb : b < P.length) (h : fits P.length W H a b = true) : fits P.length (stepW P.length W p e) (H.set p (rd H p ++ [e])) a b = true := by
  have hp := hc.lt
  have hr : ∀ q, rd (H.set p (rd H p ++ [e])) q = if q = p then rd H p ++ [e] else rd H q := fun q => rd_put _ (by omega)
  have hv : ∀ q (x y : Int), vals (rd (H.set p (rd H p ++ [e])) q) x y = vals (rd H q) x y ++ (if q = p ∧ isEv x y e = true then [e.v] else []) := fun q x y => by
    rw [hr]
    by_cases hq : q = p
    · subst hq
      rw [if_pos rfl, vals_end]
      by_cases hi : isEv x y e = true
      · rw [if_pos hi, if_pos ⟨rfl, hi⟩]
      · rw [if_neg hi, if_neg (fun h => hi h.2)]
    · rw [if_neg hq, if_neg (fun h => hq h.1), List.append_nil]
  simp only [fits, decide_eq_true_eq] at h ⊢
  rw [hv, hv]
  unfold stepW
  by_cases k2 : e.kind = 2
  · have hs := hc.send k2
    rw [if_pos k2, if_neg (show ¬ (b = p ∧ isEv 3 a e = true) by simp [isEv, k2]), List.append_nil]
    have hpl := place_lt hp hs.1.2
    rw [rd_put _ (by omega)]
    by_cases hab : a = p ∧ b = e.peer.toNat
    · obtain ⟨rfl, rfl⟩ := hab
      rw [if_pos rfl, if_pos ⟨rfl, by simp [isEv, k2]; omega⟩, numbers_end, ← List.append_assoc, h]
    · have hne : ¬ a * P.length + b = p * P.length + e.peer.toNat := fun he => by
        have h1 := place_div (n := P.length) (a := a) hb
        have h2 := place_div (n := P.length) (a := p) hs.1.2
        rw [he] at h1
        exact hab ⟨by rw [← h1.1, h2.1], by rw [← h1.2, h2.2]⟩
      rw [if_neg hne, if_neg (fun h3 => hab ⟨h3.1, by have := h3.2; simp [isEv, k2] at this; omega⟩), List.append_nil, h]
  · rw [if_neg k2, if_neg (show ¬ (a = p ∧ isEv 2 b e = true) by simp [isEv, k2]), List.append_nil]
    by_cases k3 : e.kind = 3
    · have ht := hc.take k3
      rw [if_pos k3]
      have hpl := place_lt ht.1.2 hp
      rw [rd_put _ (by omega)]
      by_cases hab : a = e.peer.toNat ∧ b = p
      · obtain ⟨rfl, rfl⟩ := hab
        rw [if_pos rfl, if_pos ⟨rfl, by simp [isEv, k3]; omega⟩, ht.2.2.2, ← h, numbers_drop ht.2.1 ht.2.2.1]
        simp
      · have hne : ¬ a * P.length + b = e.peer.toNat * P.length + p := fun he => by
          have h1 := place_div (n := P.length) (a := a) hb
          have h2 := place_div (n := P.length) (a := e.peer.toNat) hp
          rw [he] at h1
          exact hab ⟨by rw [← h1.1, h2.1], by rw [← h1.2, h2.2]⟩
        rw [if_neg hne, if_neg (fun h3 => hab ⟨by have := h3.2; simp [isEv, k3] at this; omega, h3.1⟩), List.append_nil, h]
    · rw [if_neg k3, if_neg (show ¬ (b = p ∧ isEv 3 a e = true) by simp [isEv, k3]), List.append_nil, h]
theorem step_row {P : List (List Ins)} {S : List State} {W : List (List Item)} {H : List (List Event)} {p : Nat} {e : Event} (hs : sysOk P S W H = true) (hc : ComesAt P S W H p e) : inRow (H.set p (rd H p ++ [e])) = true := by
  obtain ⟨hI, hP, hS, h200⟩ := sysOk_facts hs
  simp only [sysOk, Bool.and_eq_true, allBelow_eq] at hs
  obtain ⟨_, _, _, b3, b4⟩ := hs
  have hHl := hI.h
  have hp := hc.lt
  have hpH : p < H.length := by omega
  simp only [inRow, decide_eq_true_eq] at b4 ⊢
  obtain ⟨g, k, h1, h2, h3⟩ := greedy_reach (H := H) (allEv H) .zero (by omega)
  have e1 : k = allEv H := by unfold rowOf at b4; omega
  have hg := (sum_le H g h1.fok.len fun q hq => (h1.fok.rng q hq).2).2 (by rw [h1.sum, e1])
  have hr : ∀ q, rd (H.set p (rd H p ++ [e])) q = if q = p then rd H p ++ [e] else rd H q := fun q => rd_put _ hpH
  have h4 := reach_more (e := e) hP hpH h1
  have hPI : PeersIn (H.set p (rd H p ++ [e])) := by
    intro q hq i hi hk
    rw [List.length_set] at hq ⊢
    rw [hr] at hi hk ⊢
    split at hi
    · rename_i hqp; subst hqp
      rw [if_pos rfl] at hk ⊢
      rw [List.length_append, List.length_singleton] at hi
      by_cases hil : i < (rd H q).length
      · have e0 : rd (rd H q ++ [e]) i = rd (rd H q) i := by simp only [rd, List.getD_eq_getElem?_getD] at hil ⊢; rw [List.getElem?_append_left hil]
        rw [e0] at hk ⊢
        exact hP q hq i hil hk
      · have e0 : rd (rd H q ++ [e]) i = e := by
          have : i = (rd H q).length := by omega
          rw [this]; simp [rd]
        rw [e0] at hk ⊢
        have := (hc.take hk).1
        omega
    · rename_i hqp
      rw [if_neg hqp] at hk ⊢
      exact hP q hq i hi hk
  have hcan : canCome (H.set p (rd H p ++ [e])) g p = true := by
    unfold canCome
    have hgp := hg p hpH
    rw [hr, if_pos rfl, hgp]
    have e0 : rd (rd H p ++ [e]) (((rd H p).length : Int).toNat) = e := by simp [rd]
    rw [e0]
    simp only [Bool.and_eq_true, Bool.not_eq_true', Bool.and_eq_false_iff, decide_eq_true_eq, decide_eq_false_iff_not]
    refine ⟨by rw [List.length_append, List.length_singleton]; omega, ?_⟩
    by_cases k3 : e.kind = 3
    · right
      have ht := hc.take k3
      have hz : e.peer.toNat < H.length := by omega
      have hgz := hg _ hz
      have e5 : (rd (H.set p (rd H p ++ [e])) e.peer.toNat).take (rd g e.peer.toNat).toNat = rd H e.peer.toNat := by
        rw [hr, hgz]
        split
        · rename_i hq; rw [hq]; simp
        · simp
      have e6 : (rd H p ++ [e]).take (((rd H p).length : Int).toNat) = rd H p := by simp
      rw [e5, e6]
      have hf := b3 e.peer.toNat (by omega) p hp
      simp only [fits, decide_eq_true_eq] at hf
      have h5 := congrArg List.length hf
      rw [List.length_append, numbers_drop ht.2.1 ht.2.2.1, List.length_cons] at h5
      rw [show ((e.peer.toNat : Nat) : Int) = e.peer by omega] at h5
      simp only [cnt]
      omega
    · exact .inl k3
  have h6 := h4.step (by rw [List.length_set]; exact hpH) hcan
  have ha := allEv_set (e := e) hpH
  rw [ha]
  have hfull := h6.full (by omega)
  rw [row_len hPI h6 hfull, e1]
theorem replay_more {l : List Ins} {es : List Event} {s : State} {e : Event} (h : stoodAs l es s = true) (hc : s.code = 0) (hn : es.length < 200) (hk : comes e (next l s) = true) : stoodAs l (es ++ [e]) (did l s e) = true := by
  obtain ⟨_, _, h3, h4, h5⟩ := stood_evOk h
  have e1 : replayAll l (es ++ [e]) = some (did l s e) := by
    unfold replayAll
    rw [if_pos ⟨h3, by rw [List.length_append, List.length_singleton]; omega⟩, replay_append, h5]
    show replay l s [e] = _
    rw [replay, if_pos ⟨hc, hk⟩, replay]
  simp only [stoodAs, e1, Option.isSome_some, Bool.true_and, decide_eq_true_eq]
  rfl
theorem step_sysOk {P : List (List Ins)} {S : List State} {W : List (List Item)} {H : List (List Event)} {p : Nat} {e : Event} (hs : sysOk P S W H = true) (hc : ComesAt P S W H p e) :
    sysOk P (S.set p (did (rd P p) (rd S p) e)) (stepW P.length W p e) (H.set p (rd H p ++ [e])) = true := by
  have hrow := step_row hs hc
  simp only [sysOk, sizesOk, inB, Bool.and_eq_true, decide_eq_true_eq, allBelow_eq, List.all_eq_true] at hs ⊢
  obtain ⟨⟨a1, a2, a3, a4⟩, b1, b2, b3, b4⟩ := hs
  have hp := hc.lt
  have hpr := b2 p hp
  simp only [procOk, Bool.and_eq_true] at hpr
  obtain ⟨e1, e2, e3, e4, e5⟩ := stood_evOk hpr.2.2
  have hat0 := e2.at0
  have hat1 := e2.at1
  have hio := progOk_iok e3 (i := (rd S p).at_.toNat) (by omega)
  have hev := comes_evOk e2 hio hc.comes
  have hwl : (stepW P.length W p e).length = W.length := by
    unfold stepW
    split
    · rw [List.length_set]
    · split
      · rw [List.length_set]
      · rfl
  refine ⟨⟨a1, by rw [List.length_set]; exact a2, by rw [List.length_set]; exact a3, by rw [hwl]; exact a4⟩, ?_, ?_, fun a ha b hb => step_fits a3 a4 hc ha hb (b3 a ha b hb), hrow⟩
  · intro w hw
    unfold stepW at hw
    split at hw
    · rename_i k2
      have hsd := hc.send k2
      have hpl := place_lt hp hsd.1.2
      rcases List.mem_or_eq_of_mem_set hw with h | h
      · exact b1 w h
      · have h1 := b1 _ (rd_mem (l := W) (n := p * P.length + e.peer.toNat) (by omega))
        have hnum := comes_num e2 hio hc.comes k2
        rw [h]
        simp only [wayOk, Bool.and_eq_true, decide_eq_true_eq, List.all_append] at h1 ⊢
        refine ⟨by rw [List.length_append, List.length_singleton]; omega, h1.2, ?_⟩
        simp [itemOk, numOk, hnum]
    · split at hw
      · rename_i k3
        have ht := hc.take k3
        have hpl := place_lt ht.1.2 hp
        rcases List.mem_or_eq_of_mem_set hw with h | h
        · exact b1 w h
        · have h1 := b1 _ (rd_mem (l := W) (n := e.peer.toNat * P.length + p) (by omega))
          rw [h]
          simp only [wayOk, Bool.and_eq_true, decide_eq_true_eq, List.all_eq_true] at h1 ⊢
          exact ⟨by rw [List.length_drop]; omega, fun x hx => h1.2 x (List.mem_of_mem_drop hx)⟩
      · exact b1 w hw
  · intro q hq
    have h1 := b2 q hq
    simp only [procOk, Bool.and_eq_true] at h1 ⊢
    rw [rd_put _ (show p < H.length by omega), rd_put _ (show p < S.length by omega)]
    by_cases hqp : q = p
    · subst hqp
      rw [if_pos rfl, if_pos rfl]
      refine ⟨h1.1, ?_, replay_more h1.2.2 hc.code hc.few hc.comes⟩
      simp only [peersOk, List.all_append, Bool.and_eq_true] at h1 ⊢
      refine ⟨h1.2.1, ?_⟩
      simp only [List.all_cons, List.all_nil, Bool.and_true, peerOk, Bool.not_eq_true', Bool.and_eq_false_iff, Bool.or_eq_false_iff, decide_eq_false_iff_not, inB, Bool.not_eq_false', decide_eq_true_eq]
      by_cases k2 : e.kind = 2
      · right; have := (hc.send k2).1; omega
      · by_cases k3 : e.kind = 3
        · right; have := (hc.take k3).1; omega
        · left; exact ⟨k2, k3⟩
    · rw [if_neg hqp, if_neg hqp]
      exact h1
theorem stepIs_sysOk {P : List (List Ins)} {S : List State} {W : List (List Item)} {H : List (List Event)} {p peer : Int} (hs : sysOk P S W H = true) : sysOk (stepIs P S W H p peer).1.progs (stepIs P S W H p peer).1.states (stepIs P S W H p peer).1.ways (stepIs P S W H p peer).1.hist = true := by
  unfold stepIs
  split
  · rename_i h
    exact step_sysOk hs (coming_comes hs h).2
  · exact hs

structure ProcF (P : List (List Ins)) (S : List State) (H : List (List Event)) (p : Nat) : Prop where
  ok : SOk (rd P p).length (rd S p)
  io : IOk (rd P p).length (rd (rd P p) (rd S p).at_.toNat)
  pl : (rd P p).length ≤ 30
  peer : (next (rd P p) (rd S p)).kind = 2 → 0 ≤ (next (rd P p) (rd S p)).peer ∧ (next (rd P p) (rd S p)).peer ≤ (P.length : Int) - 1
theorem procF_of {P : List (List Ins)} {S : List State} {W : List (List Item)} {H : List (List Event)} {p : Nat} (hs : sysOk P S W H = true) (hp : p < P.length) : ProcF P S H p := by
  simp only [sysOk, Bool.and_eq_true, allBelow_eq] at hs
  have hpr := hs.2.2.1 p hp
  simp only [procOk, Bool.and_eq_true] at hpr
  obtain ⟨e1, e2, e3, e4, e5⟩ := stood_evOk hpr.2.2
  have hat0 := e2.at0
  have hat1 := e2.at1
  refine ⟨e2, progOk_iok e3 (by omega), (progOk_len e3).2, fun h => ?_⟩
  rcases @next_kind (rd P p) (rd S p) with hk | hk | hk
  · rw [hk.2.2]
    have h1 := hpr.1
    simp only [progOk, Bool.and_eq_true, List.all_eq_true] at h1
    exact insOk_peer (h1.2 _ (rd_mem (by omega))) hk.2.1
  · omega
  · exact absurd h hk.1
theorem sysOk_G {P : List (List Ins)} {S : List State} {W : List (List Item)} {H : List (List Event)} (h : sysOk P S W H = true) : SysG ⟨P, S, W, H⟩ := by
  obtain ⟨hI, hP, hS, h200⟩ := sysOk_facts h
  have hN := hI.n
  have hsl := hI.s
  have hwl := hI.w
  have hHl := hI.h
  have hnn : P.length * P.length ≤ 4 * 4 := Nat.mul_le_mul hN.2 hN.2
  have h' := h
  simp only [sysOk, Bool.and_eq_true, List.all_eq_true] at h'
  refine sysG_of ⟨by show P.length ≤ _; omega, fun j hj => ?_, by show S.length ≤ _; omega, fun j hj => ?_, by show W.length ≤ _; omega, fun j hj => ?_, by show H.length ≤ _; omega, fun j hj => ?_⟩ hN.2 (by show S.length ≤ _; omega) (by show W.length ≤ _; omega) (by show H.length ≤ _; omega)
  · have hj : j < P.length := hj
    have := (procF_of h hj).pl
    show (rd P j).length ≤ _
    omega
  · have hj : j < S.length := hj
    have h1 := (procF_of (p := j) h (by omega)).ok
    have h2 := h1.regs
    have h3 := h1.out
    show (rd S j).regs.length ≤ _ ∧ (rd S j).out.length ≤ _
    omega
  · have hj : j < W.length := hj
    have h1 := h'.2.1 _ (rd_mem hj)
    simp only [wayOk, Bool.and_eq_true, decide_eq_true_eq] at h1
    show (rd W j).length ≤ _
    omega
  · have hj : j < H.length := hj
    have := h200 j hj
    show (rd H j).length ≤ _
    omega

end Go.Proofs.YtipfcgbhaalcdaaGreat.Abs
namespace Go.Proofs.YtipfcgbhaalcdaaGreat.Abs
open Go Go.Proofs
set_option linter.unusedVariables false
set_option linter.unusedSimpArgs false
attribute [local irreducible] callE
theorem dropLim {l : List Item} {t n m : Nat} (h : l.length ≤ 10000000000) (hm : m ≤ 16) : (0 + (List.map rItem (List.take t (List.drop n l))).length) * m ≤ 140737488355328 ∧ 0 + (List.map rItem (List.take t (List.drop n l))).length ≤ 140737488355328 := by
  have h1 : 0 + (List.map rItem (List.take t (List.drop n l))).length ≤ 10000000000 := by simp; omega
  have h2 := Nat.mul_le_mul h1 hm
  exact ⟨by omega, by omega⟩
theorem step_no {P : List (List Ins)} {S : List State} {W : List (List Item)} {H : List (List Event)} {p peer n : Int} {e : Event} (h : comingIs P S W H p peer = (e, n)) (hn : ¬ n = 0) : stepIs P S W H p peer = (⟨P, S, W, H⟩, n) := by
  unfold stepIs; rw [h, if_neg hn]
theorem step_yes {P : List (List Ins)} {S : List State} {W : List (List Item)} {H : List (List Event)} {p : Nat} {peer : Int} {e : Event} (h : comingIs P S W H p peer = (e, 0)) : stepIs P S W H p peer = (stepS P S W H p e, 0) := by
  unfold stepIs; rw [h, if_pos rfl]; rfl
theorem coming_peer {P : List (List Ins)} {S : List State} {W : List (List Item)} {H : List (List Event)} {p : Nat} {peer : Int} (c1 : 0 ≤ (p : Int) ∧ (p : Int) ≤ (P.length : Int) - 1) (c2 : (rd S p).code = 0) (c3 : ¬ (200 : Int) ≤ ((rd H p).length : Int)) (hk : (next (rd P p) (rd S p)).kind = 3) :
    comingIs P S W H p peer = (if (srcIs P.length W p (askedOf (insAt P S p) peer)).2 = 0 then (⟨3, askedOf (insAt P S p) peer, (rd (rd W ((askedOf (insAt P S p) peer).toNat * P.length + p)) 0).v⟩, 0) else (⟨0, 0, 0⟩, (srcIs P.length W p (askedOf (insAt P S p) peer)).2)) := by
  have hw3 : (wantsOf P S p).kind = 3 := hk
  unfold comingIs
  rw [if_pos c1, Int.toNat_natCast, if_pos c2, if_neg c3, if_neg (by omega), if_pos hw3]
theorem coming_send {P : List (List Ins)} {S : List State} {W : List (List Item)} {H : List (List Event)} {p b : Nat} {peer : Int} (c1 : 0 ≤ (p : Int) ∧ (p : Int) ≤ (P.length : Int) - 1) (c2 : (rd S p).code = 0) (c3 : ¬ (200 : Int) ≤ ((rd H p).length : Int)) (hk : (next (rd P p) (rd S p)).kind = 2) (hbq : (next (rd P p) (rd S p)).peer = (b : Int)) :
    comingIs P S W H p peer = (if (12 : Int) ≤ ((rd W (p * P.length + b)).length : Int) then (⟨0, 0, 0⟩, 4) else (next (rd P p) (rd S p), 0)) := by
  unfold comingIs
  rw [if_pos c1, Int.toNat_natCast, if_pos c2, if_neg c3, if_pos (show (wantsOf P S p).kind = 2 from hk), show (wantsOf P S p).peer = (b : Int) from hbq, Int.toNat_natCast]
  rfl
theorem coming_else {P : List (List Ins)} {S : List State} {W : List (List Item)} {H : List (List Event)} {p : Nat} {peer : Int} (c1 : 0 ≤ (p : Int) ∧ (p : Int) ≤ (P.length : Int) - 1) (c2 : (rd S p).code = 0) (c3 : ¬ (200 : Int) ≤ ((rd H p).length : Int)) (hk2 : (next (rd P p) (rd S p)).kind ≠ 2) (hk3 : (next (rd P p) (rd S p)).kind ≠ 3) :
    comingIs P S W H p peer = (next (rd P p) (rd S p), 0) := by
  unfold comingIs
  rw [if_pos c1, Int.toNat_natCast, if_pos c2, if_neg c3, if_neg (show ¬ (wantsOf P S p).kind = 2 from hk2), if_neg (show ¬ (wantsOf P S p).kind = 3 from hk3)]
  rfl
set_option maxRecDepth 20000 in
set_option maxHeartbeats 8000000 in
theorem ok_spec_l5Step (k : Nat) (P : List (List Ins)) (S : List State) (W : List (List Item)) (H : List (List Event)) (p peer : Int) (hb : SysB 10000000000 P S W H) (hs : sysOk P S W H = true) :
    callE PR C (k + 6) 153 [aSys 0 P S W H, i64 p, i64 peer] [tInsSS9 P, tStateS9 S, tItemSS9 W, tEventSS9 H] = some (sysRes (stepIs P S W H p peer).1 (stepIs P S W H p peer).2 [some .dead, some .dead, some .dead, some .dead]) := by
  obtain ⟨hI, hP, hS', h200⟩ := sysOk_facts hs
  have hN := hI.n
  have hsl := hI.s
  have hwl := hI.w
  have hHl := hI.h
  have q1 := fun k => ok_spec_l1In k p 0 ((P.length : Int) - 1)
  by_cases c1 : 0 ≤ p ∧ p ≤ (P.length : Int) - 1
  · rw [decide_eq_true c1] at q1
    obtain ⟨p, rfl⟩ : ∃ n : Nat, p = (n : Int) := ⟨p.toNat, by omega⟩
    have hp : p < P.length := by omega
    obtain ⟨f1, f2, f3, f4⟩ := procF_of hs hp
    have hh := h200 p (by omega)
    have e4 : (List.map rEvent (rd H p)).length = (rd H p).length := by simp
    have hat0 := f1.at0
    have hat1 := f1.at1
    by_cases c2 : (rd S p).code = 0
    · by_cases c3 : (200 : Int) ≤ ((rd H p).length : Int)
      · have hc : comingIs P S W H p peer = (⟨0, 0, 0⟩, 4) := by unfold comingIs; rw [if_pos c1, Int.toNat_natCast, if_pos c2, if_pos c3]
        rw [step_no hc (by decide)]
        (refine fnI [ResultVar.cell 6 29, ResultVar.tmp 7] Tryz.func153 ?_; conv => whnf)
        repeat' ((with_reducible (first | refine sCall.of (q1 _) ?_|refine st16 ?_|refine fG.split (fun _ => ?_) (fun _ => ?_)|refine fG.bool (fun _ => ?_) (fun _ => ?_)|refine gD 8 [(1, 11), (4, 11), (6, 11), (9, 11), (10, 11)] ?_|refine gD 14 [(1, 11), (4, 11), (7, 11), (1, 12)] ?_|refine gD 26 [(1, 8), (3, 8), (1, 11), (3, 11)] ?_|refine gD 27 [(1, 14)] ?_|refine gD 28 [(1, 9), (4, 9), (7, 9), (1, 10)] ?_)) <;> (try (conv => whnf)))
        all_goals rfl
      · have q2 : ∀ k, callE PR C (k + 1) 241 [hIns 0 (rd P p), aState 1 (rd S p).at_ (rd S p).regs (rd S p).out (rd S p).code] [tIns (rd P p), tI (rd S p).regs, tI (rd S p).out] = some ⟨aEvent (next (rd P p) (rd S p)), [], [none, none, none]⟩ := fun k => ok_spec_l2Next k (rd P p) (rd S p).at_ (rd S p).regs (rd S p).out (rd S p).code (by omega) f1 f2
        have q3 : ∀ e : Event, comes e (next (rd P p) (rd S p)) = true → ∀ k, callE PR C (k + 4) 242 [hIns 0 (rd P p), aState 1 (rd S p).at_ (rd S p).regs (rd S p).out (rd S p).code, aEvent e] [tIns (rd P p), tI (rd S p).regs, tI (rd S p).out] = some ⟨.tu [nSt 0 (did (rd P p) (rd S p) e), bl true], [tI9 (did (rd P p) (rd S p) e).regs, tI9 (did (rd P p) (rd S p) e).out], [none, none, none]⟩ := fun e he k => by
          rw [ok_spec_l2Do k (rd P p) (rd S p).at_ (rd S p).regs (rd S p).out (rd S p).code e (by omega) f1 f2]
          exact congrArg some (doRes_true (l := rd P p) (a := (rd S p).at_) (r := (rd S p).regs) (o := (rd S p).out) (c := (rd S p).code) he)
        rcases @next_kind (rd P p) (rd S p) with hk | hk | hk
        · have hpe := f4 hk.1
          obtain ⟨b, hbq⟩ : ∃ b : Nat, (next (rd P p) (rd S p)).peer = (b : Int) := ⟨_, (Int.toNat_of_nonneg hpe.1).symm⟩
          have hbl : b < P.length := by omega
          have hpl := place_lt hp hbl
          have hk2 := hk.1
          have hc := coming_send (W := W) (peer := peer) c1 c2 c3 hk2 hbq
          have q4 := q3 _ (comes_self (w := next (rd P p) (rd S p)) (by omega))
          have hwok : (rd W (p * P.length + b)).length ≤ 12 := by
            simp only [sysOk, Bool.and_eq_true, List.all_eq_true] at hs
            have h1 := hs.2.1 _ (rd_mem (l := W) (n := p * P.length + b) (by omega))
            simp only [wayOk, Bool.and_eq_true, decide_eq_true_eq] at h1
            exact h1.1
          have wm : IntKind.i64.wrap ((p : Int) * (P.length : Int)) = ((p * P.length : Nat) : Int) := by
            have := Nat.mul_le_mul (show p ≤ 4 by omega) hN.2
            rw [show (p : Int) * (P.length : Int) = ((p * P.length : Nat) : Int) by simp]; exact wrap_i64 _ (by omega) (by omega)
          have wa : IntKind.i64.wrap (((p * P.length : Nat) : Int) + (next (rd P p) (rd S p)).peer) = ((p * P.length + b : Nat) : Int) := by
            have := Nat.mul_le_mul (show p ≤ 4 by omega) hN.2
            rw [hbq, wrap_i64 _ (by omega) (by omega)]; simp
          by_cases c5 : (12 : Int) ≤ ((rd W (p * P.length + b)).length : Int)
          · rw [if_pos c5] at hc
            rw [step_no hc (by decide)]
            clear hc hk f4 hpe q3 q4
            generalize next (rd P p) (rd S p) = w at *
            obtain ⟨ix, hix⟩ : ∃ ix, ix = p * P.length + b := ⟨_, rfl⟩
            rw [← hix] at hpl hwok c5 wa
            clear hix
            generalize p * P.length = pm at *
            have e5 : (List.map rItem (rd W ix)).length = (rd W ix).length := by simp
            (refine fnI [ResultVar.cell 6 29, ResultVar.tmp 7] Tryz.func153 ?_; conv => whnf)
            repeat' ((with_reducible (first | refine sCall.of (q1 _) ?_|refine sCall.of (q2 _) ?_|refine sW.eq (wm) ?_|refine sW.eq (wa) ?_|refine st16 ?_|refine fG.split (fun _ => ?_) (fun _ => ?_)|refine fG.bool (fun _ => ?_) (fun _ => ?_)|refine gD 8 [(1, 11), (4, 11), (6, 11), (9, 11), (10, 11)] ?_|refine gD 14 [(1, 11), (4, 11), (7, 11), (1, 12)] ?_|refine gD 26 [(1, 8), (3, 8), (1, 11), (3, 11)] ?_|refine gD 27 [(1, 14)] ?_|refine gD 28 [(1, 9), (4, 9), (7, 9), (1, 10)] ?_)) <;> (try (conv => whnf)))
            all_goals rfl
          · rw [if_neg c5] at hc
            rw [step_yes hc]
            have hW : stepW P.length W p (next (rd P p) (rd S p)) = W.set (p * P.length + b) (rd W (p * P.length + b) ++ [⟨false, (next (rd P p) (rd S p)).v⟩]) := by
              unfold stepW
              rw [if_pos hk2, hbq]
              rfl
            simp only [sysRes, stepS, hW, nSys, List.length_set]
            clear hW hc hk f4 hpe q3
            generalize next (rd P p) (rd S p) = w at *
            obtain ⟨ix, hix⟩ : ∃ ix, ix = p * P.length + b := ⟨_, rfl⟩
            rw [← hix] at hpl hwok c5 wa ⊢
            clear hix
            generalize p * P.length = pm at *
            have e5 : (List.map rItem (rd W ix)).length = (rd W ix).length := by simp
            (refine fnI [ResultVar.cell 6 29, ResultVar.tmp 7] Tryz.func153 ?_; conv => whnf)
            repeat' ((with_reducible (first | refine sCall.of (q1 _) ?_|refine sCall.of (q2 _) ?_|refine sCall.of (q4 _) ?_|refine sW.eq (wm) ?_|refine sW.eq (wa) ?_|refine gHole ?_|refine st16 ?_|refine fG.split (fun _ => ?_) (fun _ => ?_)|refine fG.bool (fun _ => ?_) (fun _ => ?_)|refine gD 8 [(1, 11), (4, 11), (6, 11), (9, 11), (10, 11)] ?_|refine gD 14 [(1, 11), (4, 11), (7, 11), (1, 12)] ?_|refine gD 26 [(1, 8), (3, 8), (1, 11), (3, 11)] ?_|refine gD 27 [(1, 14)] ?_|refine gD 28 [(1, 9), (4, 9), (7, 9), (1, 10)] ?_)) <;> (try (conv => whnf)))
            all_goals rfl
        · have hc := coming_peer (W := W) (peer := peer) c1 c2 c3 hk.1
          have hcs : sysOk P S W H = true := hs
          have q2 : ∀ k, callE PR C (k + 1) 241 [hIns 0 (rd P p), aState 1 (rd S p).at_ (rd S p).regs (rd S p).out (rd S p).code] [tIns (rd P p), tI (rd S p).regs, tI (rd S p).out] = some ⟨aEvent ⟨3, (insAt P S p).n, 0⟩, [], [none, none, none]⟩ := fun k => by rw [show (⟨3, (insAt P S p).n, 0⟩ : Event) = next (rd P p) (rd S p) from hk.2.2.symm]; exact q2 k
          generalize hq : askedOf (insAt P S p) peer = q at hc
          have qI := fun k => ok_spec_l1In k q 0 ((P.length : Int) - 1)
          have hq9 : (insAt P S p).n = 9 ∧ q = peer ∨ ¬ (insAt P S p).n = 9 ∧ (insAt P S p).n = q := by
            unfold askedOf at hq
            by_cases h9 : (insAt P S p).n = 9
            · rw [if_pos h9] at hq; exact .inl ⟨h9, hq.symm⟩
            · rw [if_neg h9] at hq; exact .inr ⟨h9, hq⟩
          generalize (insAt P S p).n = xn at *
          by_cases d1 : 0 ≤ q ∧ q ≤ (P.length : Int) - 1
          · rw [decide_eq_true d1] at qI
            obtain ⟨b, rfl⟩ : ∃ n : Nat, q = (n : Int) := ⟨q.toNat, by omega⟩
            have hbl : b < P.length := by omega
            have hpl := place_lt hbl hp
            have hwx := hb.ww (b * P.length + p) (by omega)
            have wm : IntKind.i64.wrap ((b : Int) * (P.length : Int)) = ((b * P.length : Nat) : Int) := by
              have := Nat.mul_le_mul (show b ≤ 4 by omega) hN.2
              rw [show (b : Int) * (P.length : Int) = ((b * P.length : Nat) : Int) by simp]; exact wrap_i64 _ (by omega) (by omega)
            have wa : IntKind.i64.wrap (((b * P.length : Nat) : Int) + (p : Int)) = ((b * P.length + p : Nat) : Int) := by
              have := Nat.mul_le_mul (show b ≤ 4 by omega) hN.2
              rw [wrap_i64 _ (by omega) (by omega)]; simp
            have hsrc : srcIs P.length W p (b : Int) = (if (rd W (b * P.length + p)).length = 0 then (0, 3) else if (rd (rd W (b * P.length + p)) 0).mark = true then (0, 5) else ((b : Int), 0)) := by
              unfold srcIs
              rw [if_pos d1]
              rfl
            rw [hsrc, Int.toNat_natCast] at hc
            by_cases d2 : (rd W (b * P.length + p)).length = 0
            · rw [if_pos d2, if_neg (by decide)] at hc
              rw [step_no hc (by decide)]
              obtain ⟨ix, hix⟩ : ∃ ix, ix = b * P.length + p := ⟨_, rfl⟩
              rw [← hix] at hpl hwx d2 wa
              clear hc hsrc hix
              generalize b * P.length = pm at *
              have e5 : (List.map rItem (rd W ix)).length = (rd W ix).length := by simp
              rcases hq9 with ⟨h9, h9'⟩ | ⟨h9, h9'⟩
              · rw [← h9'] at *
                (refine fnI [ResultVar.cell 6 29, ResultVar.tmp 7] Tryz.func153 ?_; conv => whnf)
                repeat' ((with_reducible (first | refine sCall.of (q1 _) ?_|refine sCall.of (q2 _) ?_|refine sCall.of (qI _) ?_|refine sW.eq (wm) ?_|refine sW.eq (wa) ?_|refine st16 ?_|refine fG.split (fun _ => ?_) (fun _ => ?_)|refine fG.bool (fun _ => ?_) (fun _ => ?_)|refine gD 8 [(1, 11), (4, 11), (6, 11), (9, 11), (10, 11)] ?_|refine gD 14 [(1, 11), (4, 11), (7, 11), (1, 12)] ?_|refine gD 26 [(1, 8), (3, 8), (1, 11), (3, 11)] ?_|refine gD 27 [(1, 14)] ?_|refine gD 28 [(1, 9), (4, 9), (7, 9), (1, 10)] ?_)) <;> (try (conv => whnf)))
                all_goals rfl
              · rw [h9'] at q2 h9
                (refine fnI [ResultVar.cell 6 29, ResultVar.tmp 7] Tryz.func153 ?_; conv => whnf)
                repeat' ((with_reducible (first | refine sCall.of (q1 _) ?_|refine sCall.of (q2 _) ?_|refine sCall.of (qI _) ?_|refine sW.eq (wm) ?_|refine sW.eq (wa) ?_|refine st16 ?_|refine fG.split (fun _ => ?_) (fun _ => ?_)|refine fG.bool (fun _ => ?_) (fun _ => ?_)|refine gD 8 [(1, 11), (4, 11), (6, 11), (9, 11), (10, 11)] ?_|refine gD 14 [(1, 11), (4, 11), (7, 11), (1, 12)] ?_|refine gD 26 [(1, 8), (3, 8), (1, 11), (3, 11)] ?_|refine gD 27 [(1, 14)] ?_|refine gD 28 [(1, 9), (4, 9), (7, 9), (1, 10)] ?_)) <;> (try (conv => whnf)))
                all_goals rfl
            · rw [if_neg d2] at hc
              cases d3 : (rd (rd W (b * P.length + p)) 0).mark with
              | true =>
                rw [if_pos d3, if_neg (by decide)] at hc
                rw [step_no hc (by decide)]
                obtain ⟨ix, hix⟩ : ∃ ix, ix = b * P.length + p := ⟨_, rfl⟩
                rw [← hix] at hpl hwx d2 d3 wa
                clear hc hsrc hix
                generalize b * P.length = pm at *
                have e5 : (List.map rItem (rd W ix)).length = (rd W ix).length := by simp
                rcases hq9 with ⟨h9, h9'⟩ | ⟨h9, h9'⟩
                · rw [← h9'] at *
                  (refine fnI [ResultVar.cell 6 29, ResultVar.tmp 7] Tryz.func153 ?_; conv => whnf)
                  repeat' ((with_reducible (first | refine sCall.of (q1 _) ?_|refine sCall.of (q2 _) ?_|refine sCall.of (qI _) ?_|refine sW.eq (wm) ?_|refine sW.eq (wa) ?_|refine st16 ?_|refine fG.split (fun _ => ?_) (fun _ => ?_)|refine fG.bool (fun _ => ?_) (fun _ => ?_)|refine gD 8 [(1, 11), (4, 11), (6, 11), (9, 11), (10, 11)] ?_|refine gD 14 [(1, 11), (4, 11), (7, 11), (1, 12)] ?_|refine gD 26 [(1, 8), (3, 8), (1, 11), (3, 11)] ?_|refine gD 27 [(1, 14)] ?_|refine gD 28 [(1, 9), (4, 9), (7, 9), (1, 10)] ?_)) <;> (try (conv => whnf)))
                  all_goals rfl
                · rw [h9'] at q2 h9
                  (refine fnI [ResultVar.cell 6 29, ResultVar.tmp 7] Tryz.func153 ?_; conv => whnf)
                  repeat' ((with_reducible (first | refine sCall.of (q1 _) ?_|refine sCall.of (q2 _) ?_|refine sCall.of (qI _) ?_|refine sW.eq (wm) ?_|refine sW.eq (wa) ?_|refine st16 ?_|refine fG.split (fun _ => ?_) (fun _ => ?_)|refine fG.bool (fun _ => ?_) (fun _ => ?_)|refine gD 8 [(1, 11), (4, 11), (6, 11), (9, 11), (10, 11)] ?_|refine gD 14 [(1, 11), (4, 11), (7, 11), (1, 12)] ?_|refine gD 26 [(1, 8), (3, 8), (1, 11), (3, 11)] ?_|refine gD 27 [(1, 14)] ?_|refine gD 28 [(1, 9), (4, 9), (7, 9), (1, 10)] ?_)) <;> (try (conv => whnf)))
                  all_goals rfl
              | false =>
                rw [if_neg (show ¬ (rd (rd W (b * P.length + p)) 0).mark = true by rw [d3]; decide), if_pos rfl] at hc
                have hcc := (coming_comes (peer := peer) hs (by rw [hc])).2
                rw [hc, Int.toNat_natCast] at hcc
                dsimp only at hcc
                have q4 := q3 _ hcc.comes
                rw [step_yes hc]
                have hW : stepW P.length W p ⟨3, (b : Int), (rd (rd W (b * P.length + p)) 0).v⟩ = W.set (b * P.length + p) ((rd W (b * P.length + p)).drop 1) := by
                  unfold stepW
                  rw [if_neg (show ¬ (3 : Int) = 2 by decide), if_pos rfl]
                  rfl
                simp only [sysRes, stepS, hW, nSys, List.length_set]
                obtain ⟨ix, hix⟩ : ∃ ix, ix = b * P.length + p := ⟨_, rfl⟩
                rw [← hix] at hpl hwx d2 d3 wa q4 ⊢
                clear hc hsrc hix hcc hW q3
                generalize b * P.length = pm at *
                have e5 : (List.map rItem (rd W ix)).length = (rd W ix).length := by simp
                have hdl := dropLim (t := (rd W ix).length - 1) (n := 1) (m := 15 + 1) hwx (by decide)
                have et : List.take ((rd W ix).length - 1) (List.drop 1 (rd W ix)) = List.drop 1 (rd W ix) := List.take_of_length_le (by simp)
                rcases hq9 with ⟨h9, h9'⟩ | ⟨h9, h9'⟩
                · rw [← h9'] at *
                  (refine fnI [ResultVar.cell 6 29, ResultVar.tmp 7] Tryz.func153 ?_; conv => whnf)
                  repeat' ((with_reducible (first | refine sCall.of (q1 _) ?_|refine sCall.of (q2 _) ?_|refine sCall.of (qI _) ?_|refine sCall.of (q4 _) ?_|refine sW.eq (wm) ?_|refine sW.eq (wa) ?_|refine gHole ?_|refine sI.mk hdl ?_|refine st16 ?_|refine fG.split (fun _ => ?_) (fun _ => ?_)|refine fG.bool (fun _ => ?_) (fun _ => ?_)|refine gD 8 [(1, 11), (4, 11), (6, 11), (9, 11), (10, 11)] ?_|refine gD 14 [(1, 11), (4, 11), (7, 11), (1, 12)] ?_|refine gD 26 [(1, 8), (3, 8), (1, 11), (3, 11)] ?_|refine gD 27 [(1, 14)] ?_|refine gD 28 [(1, 9), (4, 9), (7, 9), (1, 10)] ?_)) <;> (try (conv => whnf)))
                  all_goals (try rw [et])
                  all_goals rfl
                · rw [h9'] at q2 h9
                  (refine fnI [ResultVar.cell 6 29, ResultVar.tmp 7] Tryz.func153 ?_; conv => whnf)
                  repeat' ((with_reducible (first | refine sCall.of (q1 _) ?_|refine sCall.of (q2 _) ?_|refine sCall.of (qI _) ?_|refine sCall.of (q4 _) ?_|refine sW.eq (wm) ?_|refine sW.eq (wa) ?_|refine gHole ?_|refine sI.mk hdl ?_|refine st16 ?_|refine fG.split (fun _ => ?_) (fun _ => ?_)|refine fG.bool (fun _ => ?_) (fun _ => ?_)|refine gD 8 [(1, 11), (4, 11), (6, 11), (9, 11), (10, 11)] ?_|refine gD 14 [(1, 11), (4, 11), (7, 11), (1, 12)] ?_|refine gD 26 [(1, 8), (3, 8), (1, 11), (3, 11)] ?_|refine gD 27 [(1, 14)] ?_|refine gD 28 [(1, 9), (4, 9), (7, 9), (1, 10)] ?_)) <;> (try (conv => whnf)))
                  all_goals (try rw [et])
                  all_goals rfl
          · rw [decide_eq_false d1] at qI
            rw [show srcIs P.length W p q = (0, 2) by unfold srcIs; rw [if_neg d1], if_neg (by decide)] at hc
            rw [step_no hc (by decide)]
            clear hc
            rcases hq9 with ⟨h9, h9'⟩ | ⟨h9, h9'⟩
            · rw [← h9'] at *
              (refine fnI [ResultVar.cell 6 29, ResultVar.tmp 7] Tryz.func153 ?_; conv => whnf)
              repeat' ((with_reducible (first | refine sCall.of (q1 _) ?_|refine sCall.of (q2 _) ?_|refine sCall.of (qI _) ?_|refine st16 ?_|refine fG.split (fun _ => ?_) (fun _ => ?_)|refine fG.bool (fun _ => ?_) (fun _ => ?_)|refine gD 8 [(1, 11), (4, 11), (6, 11), (9, 11), (10, 11)] ?_|refine gD 14 [(1, 11), (4, 11), (7, 11), (1, 12)] ?_|refine gD 26 [(1, 8), (3, 8), (1, 11), (3, 11)] ?_|refine gD 27 [(1, 14)] ?_|refine gD 28 [(1, 9), (4, 9), (7, 9), (1, 10)] ?_)) <;> (try (conv => whnf)))
              all_goals rfl
            · rw [h9'] at q2 h9
              (refine fnI [ResultVar.cell 6 29, ResultVar.tmp 7] Tryz.func153 ?_; conv => whnf)
              repeat' ((with_reducible (first | refine sCall.of (q1 _) ?_|refine sCall.of (q2 _) ?_|refine sCall.of (qI _) ?_|refine st16 ?_|refine fG.split (fun _ => ?_) (fun _ => ?_)|refine fG.bool (fun _ => ?_) (fun _ => ?_)|refine gD 8 [(1, 11), (4, 11), (6, 11), (9, 11), (10, 11)] ?_|refine gD 14 [(1, 11), (4, 11), (7, 11), (1, 12)] ?_|refine gD 26 [(1, 8), (3, 8), (1, 11), (3, 11)] ?_|refine gD 27 [(1, 14)] ?_|refine gD 28 [(1, 9), (4, 9), (7, 9), (1, 10)] ?_)) <;> (try (conv => whnf)))
              all_goals rfl
        · have hk2 := hk.1
          have hk3 := hk.2
          have hc := coming_else (W := W) (peer := peer) c1 c2 c3 hk2 hk3
          have q4 := q3 _ (comes_self (w := next (rd P p) (rd S p)) hk3)
          rw [step_yes hc]
          have hW : stepW P.length W p (next (rd P p) (rd S p)) = W := by
            unfold stepW
            rw [if_neg hk2, if_neg hk3]
          simp only [sysRes, stepS, hW, nSys, List.length_set]
          clear hW hc hk f4 q3
          generalize next (rd P p) (rd S p) = w at *
          (refine fnI [ResultVar.cell 6 29, ResultVar.tmp 7] Tryz.func153 ?_; conv => whnf)
          repeat' ((with_reducible (first | refine sCall.of (q1 _) ?_|refine sCall.of (q2 _) ?_|refine sCall.of (q4 _) ?_|refine gHole ?_|refine st16 ?_|refine fG.split (fun _ => ?_) (fun _ => ?_)|refine fG.bool (fun _ => ?_) (fun _ => ?_)|refine gD 8 [(1, 11), (4, 11), (6, 11), (9, 11), (10, 11)] ?_|refine gD 14 [(1, 11), (4, 11), (7, 11), (1, 12)] ?_|refine gD 26 [(1, 8), (3, 8), (1, 11), (3, 11)] ?_|refine gD 27 [(1, 14)] ?_|refine gD 28 [(1, 9), (4, 9), (7, 9), (1, 10)] ?_)) <;> (try (conv => whnf)))
          all_goals rfl
    · have hc : comingIs P S W H p peer = (⟨0, 0, 0⟩, 6) := by unfold comingIs; rw [if_pos c1, Int.toNat_natCast, if_neg c2]
      rw [step_no hc (by decide)]
      (refine fnI [ResultVar.cell 6 29, ResultVar.tmp 7] Tryz.func153 ?_; conv => whnf)
      repeat' ((with_reducible (first | refine sCall.of (q1 _) ?_|refine st16 ?_|refine fG.split (fun _ => ?_) (fun _ => ?_)|refine fG.bool (fun _ => ?_) (fun _ => ?_)|refine gD 8 [(1, 11), (4, 11), (6, 11), (9, 11), (10, 11)] ?_|refine gD 14 [(1, 11), (4, 11), (7, 11), (1, 12)] ?_|refine gD 26 [(1, 8), (3, 8), (1, 11), (3, 11)] ?_|refine gD 27 [(1, 14)] ?_|refine gD 28 [(1, 9), (4, 9), (7, 9), (1, 10)] ?_)) <;> (try (conv => whnf)))
      all_goals rfl
  · rw [decide_eq_false c1] at q1
    have hc : comingIs P S W H p peer = (⟨0, 0, 0⟩, 2) := by unfold comingIs; rw [if_neg c1]
    rw [step_no hc (by decide)]
    (refine fnI [ResultVar.cell 6 29, ResultVar.tmp 7] Tryz.func153 ?_; conv => whnf)
    repeat' ((with_reducible (first | refine sCall.of (q1 _) ?_|refine st16 ?_|refine fG.split (fun _ => ?_) (fun _ => ?_)|refine fG.bool (fun _ => ?_) (fun _ => ?_)|refine gD 8 [(1, 11), (4, 11), (6, 11), (9, 11), (10, 11)] ?_|refine gD 14 [(1, 11), (4, 11), (7, 11), (1, 12)] ?_|refine gD 26 [(1, 8), (3, 8), (1, 11), (3, 11)] ?_|refine gD 27 [(1, 14)] ?_|refine gD 28 [(1, 9), (4, 9), (7, 9), (1, 10)] ?_)) <;> (try (conv => whnf)))
    all_goals rfl

end Go.Proofs.YtipfcgbhaalcdaaGreat.Abs
namespace Go.Proofs.YtipfcgbhaalcdaaGreat.Abs
open Go Go.Proofs
set_option linter.unusedVariables false
set_option linter.unusedSimpArgs false
attribute [local irreducible] callE
def stopOk (P : List (List Ins)) (S : List State) (W : List (List Item)) (H : List (List Event)) (p kind : Int) : Bool := sysOk P S W H && (inB p 0 ((P.length : Int) - 1) && inB kind 1 3)
abbrev aStop (p kind v : Int) : AV := .ag [i64 p, i64 kind, i64 v]
def holdsB (kind v a : Int) (o : List Int) (es : List Event) : Bool :=
  if kind = 1 then decide (a = v) else if kind = 2 then decide (0 < (o.length : Int)) && decide (rd o ((o.length : Int) - 1).toNat = v)
  else !decide ((es.length : Int) = 0) && (decide ((rd es ((es.length : Int) - 1).toNat).kind = 3) && decide ((rd es ((es.length : Int) - 1).toNat).v = v))
def stopHolds (P : List (List Ins)) (S : List State) (W : List (List Item)) (H : List (List Event)) (p kind v : Int) : Bool := stopOk P S W H p kind && holdsB kind v (rd S p.toNat).at_ (rd S p.toNat).out (rd H p.toNat)
def lastIs (f : Nat → Bool) : Nat → Int
  | 0 => if f 0 = true then 0 else -1
  | n + 1 => if f (n + 1) = true then ((n + 1 : Nat) : Int) else lastIs f n
def heldAt (l : List Ins) (es : List Event) (kind v : Int) (n : Nat) : Bool := holdsB kind v (stOf (replayAll l (es.take n))).at_ (stOf (replayAll l (es.take n))).out (es.take n)
def lastMo (P : List (List Ins)) (S : List State) (W : List (List Item)) (H : List (List Event)) (p kind v : Int) : Int := if stopOk P S W H p kind = true then lastIs (heldAt (rd P p.toNat) (rd H p.toNat) kind v) (rd H p.toNat).length else -1
structure LA where
  n : Int
  d : Nat
end Go.Proofs.YtipfcgbhaalcdaaGreat.Abs
namespace Go.Proofs.YtipfcgbhaalcdaaGreat.Abs
open Go Go.Proofs
set_option linter.unusedVariables false
set_option linter.unusedSimpArgs false
attribute [local irreducible] callE
set_option maxRecDepth 20000 in
set_option maxHeartbeats 4000000 in
theorem ok_spec_Step (k : Nat) (P : List (List Ins)) (S : List State) (W : List (List Item)) (H : List (List Event)) (p peer : Int) (hb : SysB 10000000000 P S W H) (hs : sysOk P S W H = true) :
    callE PR C (k + 8) 286 [aSys 0 P S W H, i64 p, i64 peer] [tInsSS P, tStateS S, tItemSS W, tEventSS H] = some (sysRes (stepIs P S W H p peer).1 (stepIs P S W H p peer).2 [none, none, none, none]) := by
  have q1 := fun k => ok_spec_SysOk k P S W H hb
  simp only [hs] at q1
  have hI := (sysOk_facts hs).1
  have q2 := fun k => ok_spec_l4Copy k P S W H (hb.mono (by decide)) hI.some
  have q3 := fun k => ok_spec_l5Step k P S W H p peer hb hs
  have hno : ¬ (stepIs P S W H p peer).2 = 0 → (stepIs P S W H p peer).1 = ⟨P, S, W, H⟩ := fun h => by
    unfold stepIs at h ⊢
    split
    · rename_i h2; rw [if_pos h2] at h; exact absurd rfl h
    · rfl
  by_cases c0 : (stepIs P S W H p peer).2 = 0
  · generalize stepIs P S W H p peer = X at *
    obtain ⟨⟨P', S', W', H'⟩, n⟩ := X
    dsimp only at c0
    simp only [sysRes] at q3 ⊢
    (refine fnI [ResultVar.cell 6 29, ResultVar.tmp 7] Tryz.func286 ?_; conv => whnf)
    repeat' ((with_reducible (first | refine sCall.of (q1 _) ?_|refine sCall.of (q2 _) ?_|refine sCall.of (q3 _) ?_|refine st16 ?_|refine fG.split (fun _ => ?_) (fun _ => ?_)|refine fG.bool (fun _ => ?_) (fun _ => ?_))) <;> (try (conv => whnf)))
    all_goals rfl
  · have h1 := hno c0
    generalize stepIs P S W H p peer = X at *
    obtain ⟨X, n⟩ := X
    dsimp only at c0 h1
    subst h1
    simp only [sysRes] at q3 ⊢
    (refine fnI [ResultVar.cell 6 29, ResultVar.tmp 7] Tryz.func286 ?_; conv => whnf)
    repeat' ((with_reducible (first | refine sCall.of (q1 _) ?_|refine sCall.of (q2 _) ?_|refine sCall.of (q3 _) ?_|refine st16 ?_|refine fG.split (fun _ => ?_) (fun _ => ?_)|refine fG.bool (fun _ => ?_) (fun _ => ?_))) <;> (try (conv => whnf)))
    all_goals rfl
def heldIn (X : Sys) (q : Nat) (kind v : Int) : Bool := holdsB kind v (rd X.states q).at_ (rd X.states q).out (rd X.hist q)
def stepX (X : Sys) (w : Who) : Sys × Int := stepIs X.progs X.states X.ways X.hist w.p w.i
def untilGo (q : Nat) (kind v : Int) : Nat → List Who → Sys → Sys × Int
  | i, [], X => (X, (i : Int))
  | i, w :: r, X => if (stepX X w).2 = 0 ∧ heldIn (stepX X w).1 q kind v = true then ((stepX X w).1, ((i + 1 : Nat) : Int)) else untilGo q kind v (i + 1) r (stepX X w).1
def untilIs (P : List (List Ins)) (S : List State) (W : List (List Item)) (H : List (List Event)) (l : List Who) (p kind v : Int) : Sys × Int :=
  if stopOk P S W H p kind = true ∧ (l.length : Int) ≤ 200 then untilGo p.toNat kind v 0 l ⟨P, S, W, H⟩ else (⟨[], [], [], []⟩, -1)
structure Along (n : Nat) (X : Sys) : Prop where
  ok : sysOk X.progs X.states X.ways X.hist = true
  n : X.progs.length = n
structure US where
  j : Nat
  X : Sys
  o : Nat
  b0 : Nat
  b1 : Nat
  b2 : Nat
  b3 : Nat
  dd : Bool
def whoOk (H : List (List Event)) (f : List Int) (w : Who) : Bool := inB w.p 0 ((H.length : Int) - 1) && (decide (w.i = rd f w.p.toNat) && canCome H f w.p.toNat)
def rowGo (H : List (List Event)) : List Who → List Int → Bool
  | [], _ => true
  | w :: r, f => whoOk H f w && rowGo H r (goOn f w.p.toNat)
def rowOkB (P : List (List Ins)) (S : List State) (W : List (List Item)) (H : List (List Event)) (row : List Who) : Bool := sysOk P S W H && (decide (row.length = allEv H) && rowGo H row (List.replicate H.length 0))
structure RO where
  j : Nat
  f : List Int
  g : Nat
  d : Bool
theorem snoc_new (l : List State) : l.map rState ++ [[.v (.int .i64 0), .sl 1 ((List.replicate 4 0).map rI), .sl 1 [], .v (.int .i64 0)]] = (l ++ [newState]).map rState := by simp [rState, newState]
theorem gI17 {p A : Prop} (h : A) (e : p := by first | with_reducible assumption | omega | (simp only [Nat.zero_add, Nat.add_zero, Nat.sub_zero, Int.toNat_natCast, Int.toNat_zero, Int.toNat_one, List.length_map, List.length_nil, Int.reduceToNat, Nat.reduceAdd, Nat.reduceSub, Int.sub_zero, Int.reduceAdd, Int.reduceSub, Nat.sub_self, Int.toNat_natCast_add_one, marks_len, bs_len, List.length_append, List.length_cons, List.length_set, List.length_replicate, List.length_range]; first | done | omega)) : sI p A := sI.mk e h
theorem gNum17 {r r' : Nat} {F : Nat → Prop} (h : F r') (e : r = r' := by first | (simp only [Nat.zero_add, Nat.add_zero, Nat.sub_zero, Int.toNat_natCast, Int.toNat_zero, Int.toNat_one, List.length_map, List.length_nil, Int.reduceToNat, Nat.reduceAdd, Nat.reduceSub, Int.sub_zero, Int.reduceAdd, Int.reduceSub, Nat.sub_self, Int.toNat_natCast_add_one, marks_len, bs_len]; rfl) | rfl) : sN r F := sN.eq e h
theorem gRow17 {r r' : List (List T)} {F : List (List T) → Prop} (h : F r') (e : r = r' := by first | (simp only [Nat.add_zero, Nat.zero_add, Nat.reduceAdd, List.drop_zero, List.take_succ_cons, List.take_nil, List.drop_succ_cons, List.drop_nil, List.take_zero, List.nil_append, List.append_nil, List.map_nil, drop_suf, take_pre, drop_map, List.take_length, take_len_set, take_len_app, List.set_set, List.length_map, snoc_new, snoc_rItem, snoc_rInsL, snoc_rItemL, snoc_rEventL, snoc_rState, set_rWho, rep_rWho, snoc_rWho, set_rState, rep_rState, set_rInsL, rep_rInsL, set_rItemL, rep_rItemL, set_rEventL, rep_rEventL, set_rItem, rep_rItem, rep_rKept, marks_take, set_rKept, set_rIns, rep_rIns, set_rEvent, rep_rEvent, snoc_rKept, snoc_rEvent, snoc_rIns, bytesT_bs, snoc_rI, snoc_rB, snoc_rBool, set_rI, set_rBool, rep_rI, rep_rBool, map_app]; rfl) | rfl) : sR r F := sR.eq e h
theorem st17 {P Q : Prop} (h : Q) (e : Q → P := by with_reducible first | exact fun h => gP h | exact fun h => gN h | exact fun h => fG.not h | exact fun h => gY h | exact fun h => gF h | exact fun h => fG.yes (flat_map (fun _ => rfl) _) h | exact fun h => gS64 h | exact fun h => gU8 h | exact fun h => gI17 h | exact fun h => fE.of rfl h | exact fun h => gNum17 h | exact fun h => gSet h | exact fun h => gRd h | exact fun h => gLk h | exact fun h => gRow17 h | exact fun h => gRf4 h) : P := e h
def newSys (P : List (List Ins)) : Sys := ⟨P, List.replicate P.length newState, List.replicate (P.length * P.length) default, List.replicate P.length default⟩
theorem rd_rep {α : Type} [Inhabited α] {n i : Nat} (x : α) (h : i < n) : rd (List.replicate n x) i = x := by simp [rd, h]
structure NS where
  j : Nat
  lp : List (List Ins)
  ls : List State
  v0 : AV
  v1 : AV
  b0 : Nat
  b1 : Nat
  c0 : Cont
  c1 : Cont
  dd : Bool
def NS.ok (P : List (List Ins)) (n0 n1 : Nat) (z : NS) : Prop :=
  (z.lp = P.take z.j ∧ z.ls = (List.replicate P.length newState).take z.j) ∧
  ((z.j = 0 ∧ (z.v0 = .nl 1 ∧ z.v1 = .nl 4) ∧ (z.b0 = 0 ∧ z.b1 = 0) ∧ (z.c0 = .dead ∧ z.c1 = .dead)) ∨
   (0 < z.j ∧ (z.v0 = .h n0 z.b0 0 [] 1 0 z.lp.length ∧ z.v1 = .h n1 z.b1 0 [] 4 0 z.ls.length) ∧ (z.c0 = tInsSS9 z.lp ∧ z.c1 = tStateS9 z.ls)))
def newRes (P : List (List Ins)) : Res := ⟨.tu [nSys 0 P (List.replicate P.length newState) (List.replicate (P.length * P.length) default) (List.replicate P.length default), bl true], [tInsSS9 P, tStateS9 (List.replicate P.length newState), tItemSS9 (List.replicate (P.length * P.length) default), tEventSS9 (List.replicate P.length default)], [none]⟩
theorem new_B {P : List (List Ins)} (hN : P.length ≤ 4) (hB : ∀ j : Nat, j < P.length → (rd P j).length ≤ 1048576) : SysB 1048576 P (List.replicate P.length newState) (List.replicate (P.length * P.length) default) (List.replicate P.length default) := by
  have hnn : P.length * P.length ≤ 4 * 4 := Nat.mul_le_mul hN hN
  refine ⟨by omega, hB, by simp; omega, fun j hj => ?_, by simp; omega, fun j hj => ?_, by simp; omega, fun j hj => ?_⟩
  · rw [List.length_replicate] at hj; rw [rd_rep _ hj]; simp [newState]
  · rw [List.length_replicate] at hj; rw [rd_rep _ hj]; exact Nat.zero_le _
  · rw [List.length_replicate] at hj; rw [rd_rep _ hj]; exact Nat.zero_le _
set_option maxRecDepth 20000 in
set_option maxHeartbeats 4000000 in
theorem ok_spec_SysNew' (k : Nat) (P : List (List Ins)) (hN : 1 ≤ P.length ∧ P.length ≤ 4) (hBp : ∀ j : Nat, j < P.length → (rd P j).length ≤ 1048576) :
    callE PR C (k + 8) 160 [.h 1000000 0 0 [] 1 0 P.length] [tInsSS P] = some (if sysOk P (List.replicate P.length newState) (List.replicate (P.length * P.length) default) (List.replicate P.length default) = true then newRes P else zeroRes [none]) := by
  have hB := new_B hN.2 hBp
  generalize ht : sysOk P (List.replicate P.length newState) (List.replicate (P.length * P.length) default) (List.replicate P.length default) = t
  have hnn : P.length * P.length ≤ 4 * 4 := Nat.mul_le_mul hN.2 hN.2
  have w1 : IntKind.i64.wrap ((P.length : Int) * (P.length : Int)) = ((P.length * P.length : Nat) : Int) := by
    rw [show (P.length : Int) * (P.length : Int) = ((P.length * P.length : Nat) : Int) by simp]; exact wrap_i64 _ (by omega) (by omega)
  have q0 := fun k => ok_spec_l4Ins k P (by omega) (fun j hj => by have := hBp j hj; omega)
  have q1 : ∀ k, callE PR C (k + 7) 76 [aSys 0 P (List.replicate P.length newState) (List.replicate (P.length * P.length) default) (List.replicate P.length default)] [tInsSS P, tStateS (List.replicate P.length newState), tItemSS (List.replicate (P.length * P.length) default), tEventSS (List.replicate P.length default)] = some ⟨bl t, [], [none, none, none, none]⟩ := fun k => by
    rw [ok_spec_SysOk k P _ _ _ (hB.mono (by decide)), ht]
  have r1 : (List.replicate (P.length * P.length) (default : List Item)).length = P.length * P.length := List.length_replicate
  have r2 : (List.replicate P.length (default : List Event)).length = P.length := List.length_replicate
  have r3 : (List.replicate P.length newState).length = P.length := List.length_replicate
  have et1 : List.take (P.length * P.length) (List.replicate (P.length * P.length) (default : List Item)) = List.replicate (P.length * P.length) default := List.take_of_length_le (by rw [r1]; exact Nat.le_refl _)
  have et2 : List.take P.length (List.replicate P.length (default : List Event)) = List.replicate P.length default := List.take_of_length_le (by rw [r2]; exact Nat.le_refl _)
  simp only [newRes, nSys, r1, r2]
  simp only [aSys, r1, r2] at q1
  generalize hWe : List.replicate (P.length * P.length) (default : List Item) = W0 at *
  generalize hHe : List.replicate P.length (default : List Event) = H0 at *
  (refine fnI [ResultVar.cell 2 29, ResultVar.tmp 3] Tryz.func160 ?_; conv => whnf)
  repeat' ((with_reducible (first | refine sCall.of (q0 _) ?_|refine sW.eq (w1) ?_|refine st17 ?_|refine fG.split (fun _ => ?_) (fun _ => ?_)|refine fG.bool (fun _ => ?_) (fun _ => ?_)|refine gD 4 [(1, 5), (1, 7), (5, 7), (1, 9), (5, 9), (7, 9)] ?_|refine gD 8 [(1, 2), (1, 3)] ?_)) <;> (try (conv => whnf)))
  refine loop_rule (ι := NS) (fun z => [(2, .pt 2 1 0 [] 0 0), (4, i64 P.length), (5, .pt 5 1 0 [] 0 0), (6, i64 (z.j : Nat))])
    (fun z => [(1000000, ⟨0, 0, false, tInsSS P⟩), (2, ⟨1, 0, false, .box [.nl 1, .nl 4, .nl 1, .nl 1]⟩), (5, ⟨1, 0, z.dd, .box [.h 10013 1 0 [] 1 0 P.length, z.v1, .h 17 1 0 [] 1 0 (P.length * P.length), .h 19 1 0 [] 1 0 P.length]⟩), (10013, ⟨1, 0, false, tInsSS9 P⟩), (17, ⟨1, 0, false, tItemSS9 W0⟩), (19, ⟨1, 0, false, tEventSS9 H0⟩), (30, ⟨z.b1, 0, false, z.c1⟩)])
    (fun z => P.length - z.j) (fun z => z.j ≤ P.length ∧ NS.ok P 32 30 z)
    ⟨0, [], [], .nl 1, .nl 4, 0, 0, .dead, .dead, _⟩ (by rw [← hWe, ← hHe]; exact fitOk) ⟨Nat.zero_le _, ⟨rfl, rfl⟩, .inl ⟨rfl, ⟨rfl, rfl⟩, ⟨rfl, rfl⟩, ⟨rfl, rfl⟩⟩⟩ (by simp [C]; omega) ?_
  rintro ⟨j, lp, ls, v0, v1, b0, b1, c0, c1, dd⟩ sl ob ⟨hj, ⟨hlp, hls⟩, hg⟩
  dsimp only at hj hlp hls hg
  by_cases hjl : j < P.length
  · have hnew : rd (List.replicate P.length newState) j = newState := rd_rep _ hjl
    rcases hg with ⟨e1, ⟨f1, f2⟩, ⟨f4, f5⟩, ⟨f7, f8⟩⟩ | ⟨h0, ⟨f1, f2⟩, ⟨f7, f8⟩⟩
    · subst e1 f1 f2 f4 f5 f7 f8 hlp hls
      (try dsimp only [cond_true, cond_false])
      (conv => whnf)
      repeat' ((with_reducible (first | refine sCall.of (ok_spec_StateNew _) ?_|refine st17 ?_|refine fG.split (fun _ => ?_) (fun _ => ?_)|refine fG.bool (fun _ => ?_) (fun _ => ?_)|refine gD 4 [(1, 5), (1, 7), (5, 7), (1, 9), (5, 9), (7, 9)] ?_|refine gD 8 [(1, 2), (1, 3)] ?_)) <;> (try (conv => whnf)))
      refine ⟨⟨⟨0 + 1, [rd P 0], [newState], .h 32 0 0 [] 1 0 1, _, 0, _, tInsSS9 [rd P 0], _, _⟩, fitOk, ?_, ?_⟩⟩
      · exact ⟨by show 0 + 1 ≤ _; omega, ⟨by show _ = P.take (0 + 1); rw [take_rd hjl]; rfl, by show _ = (List.replicate P.length newState).take (0 + 1); rw [take_rd (by omega), hnew]; rfl⟩, .inr ⟨Nat.one_pos, ⟨rfl, rfl⟩, ⟨rfl, rfl⟩⟩⟩
      · show P.length - (0 + 1) < P.length - 0; omega
    · have l1 : ls.length = j := by rw [hls]; simp; omega
      subst f1 f2 f7 f8
      (try dsimp only [cond_true, cond_false])
      (conv => whnf)
      repeat' ((with_reducible (first | refine sCall.of (ok_spec_StateNew _) ?_|refine st17 ?_|refine fG.split (fun _ => ?_) (fun _ => ?_)|refine fG.bool (fun _ => ?_) (fun _ => ?_)|refine gD 4 [(1, 5), (1, 7), (5, 7), (1, 9), (5, 9), (7, 9)] ?_|refine gD 8 [(1, 2), (1, 3)] ?_)) <;> (try (conv => whnf)))
      refine ⟨⟨⟨j + 1, lp ++ [rd P j], ls ++ [newState], .h 32 0 0 [] 1 0 (lp ++ [rd P j]).length, _, 0, _, tInsSS9 (lp ++ [rd P j]), _, _⟩, fitOk, ?_, ?_⟩⟩
      · exact ⟨by show j + 1 ≤ _; omega, ⟨by show _ = P.take (j + 1); rw [take_rd hjl, hlp], by show _ = (List.replicate P.length newState).take (j + 1); rw [take_rd (by omega), hls, hnew]⟩, .inr ⟨Nat.succ_pos j, ⟨rfl, rfl⟩, ⟨rfl, rfl⟩⟩⟩
      · show P.length - (j + 1) < P.length - j; omega
  · rw [List.take_of_length_le (by omega)] at hls
    rcases hg with ⟨e1, ⟨f1, f2⟩, ⟨f4, f5⟩, ⟨f7, f8⟩⟩ | ⟨h0, ⟨f1, f2⟩, ⟨f7, f8⟩⟩
    · exfalso; omega
    · rw [hls] at f2 f8
      subst f1 f2 f7 f8
      have q1' : ∀ k, callE PR C (k + 7) 76 [.ag [.h 1000000 0 0 [] 1 0 P.length, .h 1000001 0 0 [] 4 0 (List.replicate P.length newState).length, .h 1000002 0 0 [] 1 0 (List.take (P.length * P.length) W0).length, .h 1000003 0 0 [] 1 0 (List.take P.length H0).length]] [tInsSS P, tStateS (List.replicate P.length newState), tItemSS (List.take (P.length * P.length) W0), tEventSS (List.take P.length H0)] = some ⟨bl t, [], [none, none, none, none]⟩ := fun k => by rw [et1, et2, r1, r2]; exact q1 k
      cases t
      all_goals (try dsimp only [cond_true, cond_false])
      all_goals (conv => whnf)
      all_goals repeat' ((with_reducible (first | refine sCall.of (q1' _) ?_|refine st17 ?_|refine fG.split (fun _ => ?_) (fun _ => ?_)|refine fG.bool (fun _ => ?_) (fun _ => ?_)|refine gD 4 [(1, 5), (1, 7), (5, 7), (1, 9), (5, 9), (7, 9)] ?_|refine gD 8 [(1, 2), (1, 3)] ?_)) <;> (try (conv => whnf)))
      all_goals first | rfl | (simp only [et1, et2] <;> rfl)
theorem ok_spec_StepBad (k : Nat) (P : List (List Ins)) (S : List State) (W : List (List Item)) (H : List (List Event)) (p peer : Int) (hb : SysB 10000000000 P S W H) (hs : sysOk P S W H = false) :
    callE PR C (k + 8) 286 [aSys 0 P S W H, i64 p, i64 peer] [tInsSS P, tStateS S, tItemSS W, tEventSS H] = some (sysRes ⟨[], [], [], []⟩ 1 [none, none, none, none]) := by
  have q1 := fun k => ok_spec_SysOk k P S W H hb
  simp only [hs] at q1
  (refine fnI [ResultVar.cell 6 29, ResultVar.tmp 7] Tryz.func286 ?_; conv => whnf)
  repeat' ((with_reducible (first | refine sCall.of (q1 _) ?_|refine st17 ?_|refine fG.split (fun _ => ?_) (fun _ => ?_)|refine fG.bool (fun _ => ?_) (fun _ => ?_))) <;> (try (conv => whnf)))
  all_goals rfl
end Go.Proofs.YtipfcgbhaalcdaaGreat.Abs
namespace Go.Proofs.YtipfcgbhaalcdaaGreat.Abs
open Go Go.Proofs
set_option linter.unusedVariables false
set_option linter.unusedSimpArgs false
attribute [local irreducible] callE
theorem i64_and255 (n : Int) : Go.bits .and .i64 n 255 = n % 256 := by
  have h127 : (BitVec.ofInt 64 255).toNat = 2 ^ 8 - 1 := by decide
  have key : (BitVec.ofInt 64 n &&& BitVec.ofInt 64 255).toNat = (n % ((2 ^ 64 : Nat) : Int)).toNat % 2 ^ 8 := by
    rw [BitVec.toNat_and, BitVec.toNat_ofInt, h127, Nat.and_two_pow_sub_one_eq_mod]
  show IntKind.i64.wrap ((BitVec.ofInt 64 n &&& BitVec.ofInt 64 255).toNat : Nat) = n % 256
  rw [key, IntKind.wrap_i64]
  omega
theorem i64_and30 (n : Int) : Go.bits .and .i64 n 1073741823 = n % 1073741824 := by
  have h127 : (BitVec.ofInt 64 1073741823).toNat = 2 ^ 30 - 1 := by decide
  have key : (BitVec.ofInt 64 n &&& BitVec.ofInt 64 1073741823).toNat = (n % ((2 ^ 64 : Nat) : Int)).toNat % 2 ^ 30 := by
    rw [BitVec.toNat_and, BitVec.toNat_ofInt, h127, Nat.and_two_pow_sub_one_eq_mod]
  show IntKind.i64.wrap ((BitVec.ofInt 64 n &&& BitVec.ofInt 64 1073741823).toNat : Nat) = n % 1073741824
  rw [key, IntKind.wrap_i64]
  omega
theorem sZ.all {r : Int} {F : Int → Prop} (h : ∀ n, F n) : sZ r F := ⟨h r⟩
theorem sW.all {k : IntKind} {r : Int} {F : Int → Prop} (h : ∀ n, F n) : sW k r F := ⟨h _⟩

abbrev tB (b : List Int) : Cont := .tree 0 (.sl 1 (b.map rB))
set_option maxRecDepth 20000 in
theorem ok_spec_l1New (k : Nat) (b : List Int) (hl : b.length ≤ 100000000000) (hb : ∀ v ∈ b, 0 ≤ v ∧ v < 256) :
    Told (callE PR C (k + 1) 102 [.h 1000000 0 0 [] 1 0 b.length] [tB b]) (fun r => ∃ h : Int, r = ⟨.pt 2000000 1 0 [] 0 0, [.box [.h 1000000 0 0 [] 1 0 b.length, i64 0, i64 h]], [none]⟩) := by
  (refine callE_w [ResultVar.tmp 2] rfl Tryz.func102 rfl (by decide +kernel) rfl (by simp) ?_; (conv => whnf))
  repeat' ((with_reducible (first | refine st17 ?_|refine fG.split (fun _ => ?_) (fun _ => ?_)|refine fG.bool (fun _ => ?_) (fun _ => ?_))) <;> (try (conv => whnf)))
  refine loop_rule (ι := TH) (fun x => [(0, .h 1000000 0 0 [] 1 0 b.length), (3, i64 x.m), (4, i64 (x.j : Nat))])
    (fun x => [(1000000, ⟨0, 0, false, tB b⟩)])
    (fun x => b.length - x.j) (fun x => x.j ≤ b.length ∧ 0 ≤ x.m ∧ x.m ≤ 2000000000000) ⟨0, 17259 + (b.length : Int)⟩ fitOk ⟨Nat.zero_le _, by show (0 : Int) ≤ 17259 + (b.length : Int); omega, by show 17259 + (b.length : Int) ≤ 2000000000000; omega⟩ (by simp [C]; omega) ?_
  rintro ⟨j, m⟩ sl ob ⟨hj, h0, h1⟩
  dsimp only at hj h0 h1
  (try dsimp only [cond_true, cond_false])
  (conv => whnf)
  by_cases hjl : j < b.length
  · have hmem := hb _ (rd_mem hjl)
    repeat' ((with_reducible (first | refine st17 ?_|refine fG.split (fun _ => ?_) (fun _ => ?_)|refine fG.bool (fun _ => ?_) (fun _ => ?_)|refine sZ.eq (i64_and255 _) ?_|refine sZ.eq (i64_and30 _) ?_)) <;> (try (conv => whnf)))
    case' refine_1 h =>
      refine ⟨⟨⟨j + 1, (m * 131 + rd b j + 7) % 1073741824⟩, fitOk, ?_, ?_⟩⟩
      · exact ⟨by show j + 1 ≤ _; omega, by show (0 : Int) ≤ (m * 131 + rd b j + 7) % 1073741824; omega, by show (m * 131 + rd b j + 7) % 1073741824 ≤ (2000000000000 : Int); omega⟩
      · show b.length - (j + 1) < b.length - j; omega
    all_goals exact ⟨_, rfl⟩
  · repeat' ((with_reducible (first | refine st17 ?_|refine fG.split (fun _ => ?_) (fun _ => ?_)|refine fG.bool (fun _ => ?_) (fun _ => ?_))) <;> (try (conv => whnf)))
    exact ⟨_, rfl⟩
def Cur (b : List Int) (lo hi : Int) (r : Res) : Prop := ∃ (x i h : Int), lo ≤ x ∧ x ≤ hi ∧ 0 ≤ i ∧ i ≤ b.length ∧ r = ⟨i64 x, [], [none, some (.box [.h 1000000 0 0 [] 1 0 b.length, i64 i, i64 h])]⟩
theorem ok_spec_l1Byte (k : Nat) (b : List Int) (i h : Int) (hl : b.length ≤ 100000000000) (hb : ∀ v ∈ b, 0 ≤ v ∧ v < 256) (h0 : 0 ≤ i) (h1 : i ≤ b.length) :
    Told (callE PR C (k + 1) 212 [.pt 1000001 0 0 [] 0 0] [tB b, .box [.h 1000000 0 0 [] 1 0 b.length, i64 i, i64 h]]) (Cur b 0 255) := by
  by_cases hc : i < b.length
  · have hmem := hb _ (rd_mem (l := b) (n := i.toNat) (by omega))
    (refine callE_w [ResultVar.tmp 2] rfl Tryz.func212 rfl (by decide +kernel) rfl (by simp) ?_; (conv => whnf))
    repeat' ((with_reducible (first | refine st17 ?_|refine fG.split (fun _ => ?_) (fun _ => ?_)|refine fG.bool (fun _ => ?_) (fun _ => ?_)|refine sZ.eq (i64_and255 _) ?_|refine sZ.eq (i64_and30 _) ?_|refine sZ.all (fun _ => ?_)|refine sW.all (fun _ => ?_)|refine gDn 2 ?_|refine gDn 3 ?_|refine gDn 4 ?_)) <;> (try (conv => whnf)))
    exact ⟨_, _, _, by omega, by omega, by omega, by omega, rfl⟩
  · (refine callE_w [ResultVar.tmp 2] rfl Tryz.func212 rfl (by decide +kernel) rfl (by simp) ?_; (conv => whnf))
    repeat' ((with_reducible (first | refine st17 ?_|refine fG.split (fun _ => ?_) (fun _ => ?_)|refine fG.bool (fun _ => ?_) (fun _ => ?_)|refine sZ.eq (i64_and255 _) ?_|refine sZ.eq (i64_and30 _) ?_|refine sZ.all (fun _ => ?_)|refine sW.all (fun _ => ?_)|refine gDn 2 ?_|refine gDn 3 ?_|refine gDn 4 ?_)) <;> (try (conv => whnf)))
    exact ⟨_, _, _, by omega, by omega, by omega, by omega, rfl⟩
set_option maxRecDepth 20000 in
theorem ok_spec_l1Below (k : Nat) (b : List Int) (i h n : Int) (hl : b.length ≤ 100000000000) (hb : ∀ v ∈ b, 0 ≤ v ∧ v < 256) (h0 : 0 ≤ i) (h1 : i ≤ b.length) (hn : n ≤ 100000000001) :
    Told (callE PR C (k + 2) 112 [.pt 1000001 0 0 [] 0 0, i64 n] [tB b, .box [.h 1000000 0 0 [] 1 0 b.length, i64 i, i64 h]]) (Cur b 0 (if n ≤ 0 then 0 else n - 1)) := by
  by_cases c0 : n ≤ 0
  · rw [if_pos c0]
    (refine callE_w [ResultVar.tmp 4] rfl Tryz.func112 rfl (by decide +kernel) rfl (by simp) ?_; (conv => whnf))
    repeat' ((with_reducible (first | refine st17 ?_|refine fG.split (fun _ => ?_) (fun _ => ?_)|refine fG.bool (fun _ => ?_) (fun _ => ?_))) <;> (try (conv => whnf)))
    exact ⟨_, _, _, by omega, by omega, by omega, by omega, rfl⟩
  · rw [if_neg c0]
    by_cases c1 : n ≤ 256
    · (refine callE_w [ResultVar.tmp 4] rfl Tryz.func112 rfl (by decide +kernel) rfl (by simp) ?_; (conv => whnf))
      repeat' ((with_reducible (first | (refine sCall.ex (ok_spec_l1Byte k b i h hl hb h0 h1) ?_)|refine st17 ?_|refine fG.split (fun _ => ?_) (fun _ => ?_)|refine fG.bool (fun _ => ?_) (fun _ => ?_))) <;> (try (conv => whnf)))
      rintro _ ⟨x1, i1, h1', ha, hb1, hc, hd, rfl⟩
      have e1 : x1.tmod n = x1 % n := Int.tmod_eq_emod_of_nonneg ha
      have e2 := Int.emod_nonneg x1 (by omega : n ≠ 0)
      have e3 := Int.emod_lt_of_pos x1 (by omega : 0 < n)
      (conv => whnf)
      repeat' ((with_reducible (first | refine st17 ?_|refine fG.split (fun _ => ?_) (fun _ => ?_)|refine fG.bool (fun _ => ?_) (fun _ => ?_))) <;> (try (conv => whnf)))
      refine sZ.eq e1 ?_
      (conv => whnf)
      repeat' ((with_reducible (first | refine st17 ?_|refine fG.split (fun _ => ?_) (fun _ => ?_)|refine fG.bool (fun _ => ?_) (fun _ => ?_))) <;> (try (conv => whnf)))
      exact ⟨_, _, _, e2, Int.le_sub_one_of_lt e3, hc, hd, rfl⟩
    · (refine callE_w [ResultVar.tmp 4] rfl Tryz.func112 rfl (by decide +kernel) rfl (by simp) ?_; (conv => whnf))
      repeat' ((with_reducible (first | (refine sCall.ex (ok_spec_l1Byte k b i h hl hb h0 h1) ?_)|refine st17 ?_|refine fG.split (fun _ => ?_) (fun _ => ?_)|refine fG.bool (fun _ => ?_) (fun _ => ?_))) <;> (try (conv => whnf)))
      rintro _ ⟨x1, i1, h1', ha, hb1, hc, hd, rfl⟩
      (conv => whnf)
      repeat' ((with_reducible (first | (refine sCall.ex (ok_spec_l1Byte k b i1 _ hl hb hc hd) ?_)|refine st17 ?_|refine fG.split (fun _ => ?_) (fun _ => ?_)|refine fG.bool (fun _ => ?_) (fun _ => ?_))) <;> (try (conv => whnf)))
      rintro _ ⟨x2, i2, h2', ha2, hb2, hc2, hd2, rfl⟩
      (conv => whnf)
      repeat' ((with_reducible (first | (refine sCall.ex (ok_spec_l1Byte k b i2 _ hl hb hc2 hd2) ?_)|refine st17 ?_|refine fG.split (fun _ => ?_) (fun _ => ?_)|refine fG.bool (fun _ => ?_) (fun _ => ?_))) <;> (try (conv => whnf)))
      rintro _ ⟨x3, i3, h3', ha3, hb3, hc3, hd3, rfl⟩
      (conv => whnf)
      repeat' ((with_reducible (first | (refine sCall.ex (ok_spec_l1Byte k b i3 _ hl hb hc3 hd3) ?_)|refine st17 ?_|refine fG.split (fun _ => ?_) (fun _ => ?_)|refine fG.bool (fun _ => ?_) (fun _ => ?_))) <;> (try (conv => whnf)))
      rintro _ ⟨x4, i4, h4', ha4, hb4, hc4, hd4, rfl⟩
      have e1 : (x1 * 16777216 + x2 * 65536 + x3 * 256 + x4).tmod n = (x1 * 16777216 + x2 * 65536 + x3 * 256 + x4) % n := Int.tmod_eq_emod_of_nonneg (by omega)
      have e2 := Int.emod_nonneg (x1 * 16777216 + x2 * 65536 + x3 * 256 + x4) (by omega : n ≠ 0)
      have e3 := Int.emod_lt_of_pos (x1 * 16777216 + x2 * 65536 + x3 * 256 + x4) (by omega : 0 < n)
      (conv => whnf)
      repeat' ((with_reducible (first | refine st17 ?_|refine fG.split (fun _ => ?_) (fun _ => ?_)|refine fG.bool (fun _ => ?_) (fun _ => ?_))) <;> (try (conv => whnf)))
      refine sZ.eq e1 ?_
      (conv => whnf)
      repeat' ((with_reducible (first | refine st17 ?_|refine fG.split (fun _ => ?_) (fun _ => ?_)|refine fG.bool (fun _ => ?_) (fun _ => ?_))) <;> (try (conv => whnf)))
      exact ⟨_, _, _, e2, Int.le_sub_one_of_lt e3, hc4, hd4, rfl⟩

abbrev tCur (b : List Int) (i h : Int) : Cont := .box [.h 1000000 0 0 [] 1 0 b.length, i64 i, i64 h]
structure Bytes (b : List Int) : Prop where
  len : b.length ≤ 100000000000
  num : ∀ v ∈ b, 0 ≤ v ∧ v < 256
theorem sCall.cur {x : Option Res} {b : List Int} {lo hi : Int} {F : Res → Prop} (e : Told x (Cur b lo hi)) (h : ∀ x i h : Int, lo ≤ x → x ≤ hi → 0 ≤ i → i ≤ b.length → F ⟨i64 x, [], [none, some (tCur b i h)]⟩) : sCall x F :=
  sCall.ex e fun r hr => by obtain ⟨x, i, h', h1, h2, h3, h4, rfl⟩ := hr; exact h x i h' h1 h2 h3 h4
theorem ok_Below (k : Nat) (b : List Int) (i h n : Int) (hb : Bytes b) (h0 : 0 ≤ i := by assumption) (h1 : i ≤ b.length := by assumption) (hn0 : 0 < n := by omega) (hn : n ≤ 100000000001 := by omega) :
    Told (callE PR C (k + 2) 112 [.pt 1000001 0 0 [] 0 0, i64 n] [tB b, tCur b i h]) (Cur b 0 (n - 1)) := by
  have := ok_spec_l1Below k b i h n hb.len hb.num h0 h1 hn
  rwa [if_neg (by omega)] at this
theorem ok_spec_l1Once (k : Nat) (b : List Int) (i h n : Int) (hb : Bytes b) (h0 : 0 ≤ i := by assumption) (h1 : i ≤ b.length := by assumption) (hn0 : 0 < n := by omega) (hn : n ≤ 100000000001 := by omega) :
    Told (callE PR C (k + 3) 139 [.pt 1000001 0 0 [] 0 0, i64 n] [tB b, tCur b i h]) (fun r => ∃ (x : Bool) (i h : Int), 0 ≤ i ∧ i ≤ b.length ∧ r = ⟨bl x, [], [none, some (tCur b i h)]⟩) := by
  (refine callE_w [ResultVar.tmp 4] rfl Tryz.func139 rfl (by decide +kernel) rfl (by simp) ?_; (conv => whnf))
  repeat' ((with_reducible (first | refine sCall.cur (ok_Below _ _ _ _ _ hb) (fun _ _ _ _ _ _ _ => ?_)|refine st17 ?_|refine fG.split (fun _ => ?_) (fun _ => ?_)|refine fG.bool (fun _ => ?_) (fun _ => ?_))) <;> (try (conv => whnf)))
  exact ⟨_, _, _, by assumption, by assumption, rfl⟩
theorem ok_spec_l1PickInt (k : Nat) (b : List Int) (i h : Int) (l : List Int) (hb : Bytes b) (hl0 : 0 < l.length) (hl : l.length ≤ 100000000000) (h0 : 0 ≤ i := by assumption) (h1 : i ≤ b.length := by assumption) :
    Told (callE PR C (k + 3) 149 [.pt 1000001 0 0 [] 0 0, .h 1000002 0 0 [] 1 0 l.length] [tB b, tCur b i h, tI l]) (fun r => ∃ x i h : Int, x ∈ l ∧ 0 ≤ i ∧ i ≤ b.length ∧ r = ⟨i64 x, [], [none, some (tCur b i h), none]⟩) := by
  have hbl := hb.len
  (refine callE_w [ResultVar.tmp 4] rfl Tryz.func149 rfl (by decide +kernel) rfl (by simp) ?_; (conv => whnf))
  repeat' ((with_reducible (first | refine sCall.cur (ok_Below _ _ _ _ _ hb) (fun _ _ _ _ _ _ _ => ?_)|refine st17 ?_|refine fG.split (fun _ => ?_) (fun _ => ?_)|refine fG.bool (fun _ => ?_) (fun _ => ?_))) <;> (try (conv => whnf)))
  exact ⟨_, _, _, rd_mem (by omega), by assumption, by assumption, rfl⟩
theorem sCall.curB {x : Option Res} {b : List Int} {F : Res → Prop} (e : Told x (fun r => ∃ (x : Bool) (i h : Int), 0 ≤ i ∧ i ≤ b.length ∧ r = ⟨bl x, [], [none, some (tCur b i h)]⟩)) (h : ∀ (x : Bool) (i h : Int), 0 ≤ i → i ≤ b.length → F ⟨bl x, [], [none, some (tCur b i h)]⟩) : sCall x F :=
  sCall.ex e fun r hr => by obtain ⟨x, i, h', h3, h4, rfl⟩ := hr; exact h x i h' h3 h4
theorem sCall.newCur {x : Option Res} {b : List Int} {F : Res → Prop} (e : Told x (fun r => ∃ h : Int, r = ⟨.pt 2000000 1 0 [] 0 0, [.box [.h 1000000 0 0 [] 1 0 b.length, i64 0, i64 h]], [none]⟩)) (h : ∀ h : Int, F ⟨.pt 2000000 1 0 [] 0 0, [tCur b 0 h], [none]⟩) : sCall x F :=
  sCall.ex e fun r hr => by obtain ⟨h', rfl⟩ := hr; exact h h'

end Go.Proofs.YtipfcgbhaalcdaaGreat.Abs
namespace Go.Proofs.YtipfcgbhaalcdaaGreat.Abs
open Go Go.Proofs
set_option linter.unusedVariables false
set_option linter.unusedSimpArgs false
attribute [local irreducible] callE
set_option maxRecDepth 20000 in
set_option maxHeartbeats 8000000 in
theorem ok_spec_l1DrawIns (k : Nat) (b : List Int) (i h m p : Int) (hb : Bytes b) (hm : 0 < m := by omega) (hm2 : m ≤ 100000000001 := by omega) (hp : 0 < p := by omega) (hp2 : p ≤ 100000000001 := by omega) (h0 : 0 ≤ i := by assumption) (h1 : i ≤ b.length := by assumption) :
    Told (callE PR C (k + 4) 304 [.pt 1000001 0 0 [] 0 0, i64 m, i64 p] [tB b, tCur b i h]) (fun r => ∃ o q a c n i h : Int, 0 ≤ i ∧ i ≤ b.length ∧ r = ⟨.ag [i64 o, i64 q, i64 a, i64 c, i64 n], [], [none, some (tCur b i h)]⟩) := by
  have hbl := hb.len
  (refine callE_w [ResultVar.cell 6 116] rfl Tryz.func304 rfl (by decide +kernel) rfl (by simp) ?_; (conv => whnf))
  repeat' ((with_reducible (first | refine sCall.cur (ok_Below _ _ _ _ _ hb) (fun _ _ _ _ _ _ _ => ?_)|refine sCall.curB (ok_spec_l1Once _ _ _ _ _ hb) (fun _ _ _ _ _ => ?_)|refine st17 ?_|refine fG.split (fun _ => ?_) (fun _ => ?_)|refine fG.bool (fun _ => ?_) (fun _ => ?_))) <;> (try (conv => whnf)))
  all_goals exact ⟨_, _, _, _, _, _, _, by assumption, by assumption, rfl⟩

theorem one_rIns (a b c d e : Int) : [[T.v (.int .i64 a), .v (.int .i64 b), .v (.int .i64 c), .v (.int .i64 d), .v (.int .i64 e)]] = [(⟨a, b, c, d, e⟩ : Ins)].map rIns := rfl
theorem cons_rIns (l : List Ins) (a b c d e : Int) : [T.v (.int .i64 a), .v (.int .i64 b), .v (.int .i64 c), .v (.int .i64 d), .v (.int .i64 e)] :: l.map rIns = ((⟨a, b, c, d, e⟩ : Ins) :: l).map rIns := rfl
theorem one_rI (a : Int) : [[T.v (.int .i64 a)]] = [a].map rI := rfl
theorem cons_rI (l : List Int) (a : Int) : [T.v (.int .i64 a)] :: l.map rI = (a :: l).map rI := rfl
theorem gI18 {p A : Prop} (h : A) (e : p := by first | with_reducible assumption | omega | (simp only [Nat.zero_add, Nat.add_zero, Nat.sub_zero, Int.toNat_natCast, Int.toNat_zero, Int.toNat_one, List.length_map, List.length_nil, Int.reduceToNat, Nat.reduceAdd, Nat.reduceSub, Int.sub_zero, Int.reduceAdd, Int.reduceSub, Nat.sub_self, Int.toNat_natCast_add_one, marks_len, bs_len, List.length_append, List.length_cons, List.length_set, List.length_replicate, List.length_range]; first | done | omega)) : sI p A := sI.mk e h
theorem gNum18 {r r' : Nat} {F : Nat → Prop} (h : F r') (e : r = r' := by first | (simp only [Nat.zero_add, Nat.add_zero, Nat.sub_zero, Int.toNat_natCast, Int.toNat_zero, Int.toNat_one, List.length_map, List.length_nil, Int.reduceToNat, Nat.reduceAdd, Nat.reduceSub, Int.sub_zero, Int.reduceAdd, Int.reduceSub, Nat.sub_self, Int.toNat_natCast_add_one, marks_len, bs_len]; rfl) | rfl) : sN r F := sN.eq e h
theorem gRow18 {r r' : List (List T)} {F : List (List T) → Prop} (h : F r') (e : r = r' := by first | (simp only [Nat.add_zero, Nat.zero_add, Nat.reduceAdd, List.drop_zero, List.take_succ_cons, List.take_nil, List.drop_succ_cons, List.drop_nil, List.take_zero, List.nil_append, List.append_nil, List.map_nil, drop_suf, take_pre, drop_map, List.take_length, take_len_set, take_len_app, List.set_set, List.length_map, one_rIns, cons_rIns, one_rI, cons_rI, snoc_new, snoc_rItem, snoc_rInsL, snoc_rItemL, snoc_rEventL, snoc_rState, set_rWho, rep_rWho, snoc_rWho, set_rState, rep_rState, set_rInsL, rep_rInsL, set_rItemL, rep_rItemL, set_rEventL, rep_rEventL, set_rItem, rep_rItem, rep_rKept, marks_take, set_rKept, set_rIns, rep_rIns, set_rEvent, rep_rEvent, snoc_rKept, snoc_rEvent, snoc_rIns, bytesT_bs, snoc_rI, snoc_rB, snoc_rBool, set_rI, set_rBool, rep_rI, rep_rBool, map_app]; rfl) | rfl) : sR r F := sR.eq e h
theorem st18 {P Q : Prop} (h : Q) (e : Q → P := by with_reducible first | exact fun h => gP h | exact fun h => gN h | exact fun h => fG.not h | exact fun h => gY h | exact fun h => gF h | exact fun h => fG.yes (flat_map (fun _ => rfl) _) h | exact fun h => gS64 h | exact fun h => gU8 h | exact fun h => gI18 h | exact fun h => fE.of rfl h | exact fun h => gNum18 h | exact fun h => gSet h | exact fun h => gRd h | exact fun h => gLk h | exact fun h => gRow18 h | exact fun h => gRf4 h) : P := e h
def DrawnIns (b : List Int) (m n : Nat) (r : Res) : Prop := ∃ (l : List Ins) (i h : Int), m ≤ l.length ∧ l.length ≤ n ∧ 0 ≤ i ∧ i ≤ b.length ∧ r = ⟨.h 2000000 1 0 [] 5 0 l.length, [tIns9 l], [none, some (tCur b i h)]⟩
structure DP where
  j : Nat
  l : List Ins
  o : Nat
  bb : Nat
  i : Int
  h : Int
theorem sCall.ins {x : Option Res} {b : List Int} {F : Res → Prop} (e : Told x (fun r => ∃ o q a c n i h : Int, 0 ≤ i ∧ i ≤ b.length ∧ r = ⟨.ag [i64 o, i64 q, i64 a, i64 c, i64 n], [], [none, some (tCur b i h)]⟩)) (h : ∀ o q a c n i h : Int, 0 ≤ i → i ≤ b.length → F ⟨.ag [i64 o, i64 q, i64 a, i64 c, i64 n], [], [none, some (tCur b i h)]⟩) : sCall x F :=
  sCall.ex e fun r hr => by obtain ⟨o, q, a, c, n, i, h', h3, h4, rfl⟩ := hr; exact h o q a c n i h' h3 h4
theorem sCall.pick {x : Option Res} {b l : List Int} {F : Res → Prop} (e : Told x (fun r => ∃ x i h : Int, x ∈ l ∧ 0 ≤ i ∧ i ≤ b.length ∧ r = ⟨i64 x, [], [none, some (tCur b i h), none]⟩)) (h : ∀ x i h : Int, x ∈ l → 0 ≤ i → i ≤ b.length → F ⟨i64 x, [], [none, some (tCur b i h), none]⟩) : sCall x F :=
  sCall.ex e fun r hr => by obtain ⟨x, i, h', h2, h3, h4, rfl⟩ := hr; exact h x i h' h2 h3 h4
theorem ok_PickInt (k : Nat) (b : List Int) (i h : Int) (l : List Int) (hb : Bytes b) (hl0 : 0 < l.length := by simp) (hl : l.length ≤ 100000000000 := by simp) (h0 : 0 ≤ i := by assumption) (h1 : i ≤ b.length := by assumption) :
    Told (callE PR C (k + 3) 149 [.pt 1000001 0 0 [] 0 0, .h 1000002 0 0 [] 1 0 l.length] [tB b, tCur b i h, tI l]) (fun r => ∃ x i h : Int, x ∈ l ∧ 0 ≤ i ∧ i ≤ b.length ∧ r = ⟨i64 x, [], [none, some (tCur b i h), none]⟩) := ok_spec_l1PickInt k b i h l hb hl0 hl h0 h1
theorem drawn_mk {b : List Int} {m n' n : Nat} {l : List Ins} {i h : Int} (e : l.length = n) (h1 : m ≤ n) (h2 : n ≤ n') (h3 : 0 ≤ i) (h4 : i ≤ b.length) : DrawnIns b m n' ⟨.h 2000000 1 0 [] 5 0 n, [tIns9 l], [none, some (tCur b i h)]⟩ := by
  subst e
  exact ⟨l, i, h, h1, h2, h3, h4, rfl⟩

set_option maxRecDepth 20000 in
set_option maxHeartbeats 8000000 in
theorem ok_spec_l1DrawProg (k : Nat) (b : List Int) (i h p q : Int) (hb : Bytes b) (hp : 0 < p := by omega) (hp2 : p ≤ 100000000001 := by omega) (hq : 0 ≤ q := by omega) (hq2 : q ≤ 100000000001 := by omega) (h0 : 0 ≤ i := by assumption) (h1 : i ≤ b.length := by assumption) :
    Told (callE PR C (k + 5) 275 [.pt 1000001 0 0 [] 0 0, i64 p, i64 q] [tB b, tCur b i h]) (DrawnIns b 4 11) := by
  have hbl := hb.len
  (refine callE_w [ResultVar.tmp 6] rfl Tryz.func275 rfl (by decide +kernel) rfl (by simp) ?_; (conv => whnf))
  repeat' ((with_reducible (first | refine sCall.cur (ok_Below _ _ _ _ _ hb) (fun _ _ _ _ _ _ _ => ?_)|refine st18 ?_|refine fG.split (fun _ => ?_) (fun _ => ?_)|refine fG.bool (fun _ => ?_) (fun _ => ?_)|refine sZ.eq (i64_and255 _) ?_|refine sZ.eq (i64_and30 _) ?_|refine sZ.all (fun _ => ?_)|refine sW.all (fun _ => ?_))) <;> (try (conv => whnf)))
  case' refine_1 | refine_2.refine_1 | refine_2.refine_2.refine_1 =>
    exact drawn_mk rfl (by decide) (by decide) (by assumption) (by assumption)
  case refine_2.refine_2.refine_2 =>
    rename_i x i0 h0' ha hb' hc hd
    refine loop_rule (ι := DP) (fun y => [(0, .pt 1000001 0 0 [] 0 0), (1, i64 p), (8, i64 (3 + x)), (9, .h y.o y.bb 0 [] 5 0 y.l.length), (10, i64 (y.j : Nat))])
      (fun y => [(1000000, ⟨0, 0, false, tB b⟩), (1000001, ⟨0, 0, true, tCur b y.i y.h⟩), (y.o, ⟨y.bb, 0, false, tIns9 y.l⟩)])
      (fun y => (3 + x - y.j).toNat) (fun y => (y.j : Int) ≤ 3 + x ∧ y.l.length = y.j ∧ 0 ≤ y.i ∧ y.i ≤ b.length ∧ (y.o = 56 ∨ y.o = 69)) ⟨0, [], 56, _, i0, h0'⟩ fitOk ⟨by show (0 : Int) ≤ 3 + x; omega, rfl, hc, hd, .inl rfl⟩ (by simp [C]; omega) ?_
    rintro ⟨j, out, o, bb, i1, h1'⟩ sl ob ⟨hj, hlen, hi0, hi1, ho⟩
    dsimp only at hj hlen hi0 hi1 ho
    by_cases hjl : (j : Int) < 3 + x
    · rcases ho with rfl | rfl
      all_goals (try dsimp only [cond_true, cond_false])
      all_goals (conv => whnf)
      all_goals repeat' ((with_reducible (first | refine sCall.ins (ok_spec_l1DrawIns _ _ _ _ _ _ hb) (fun _ _ _ _ _ _ _ _ _ => ?_)|refine st18 ?_|refine fG.split (fun _ => ?_) (fun _ => ?_)|refine fG.bool (fun _ => ?_) (fun _ => ?_)|refine sZ.eq (i64_and255 _) ?_|refine sZ.eq (i64_and30 _) ?_|refine sZ.all (fun _ => ?_)|refine sW.all (fun _ => ?_))) <;> (try (conv => whnf)))
      all_goals
        rename_i o1 q1 a1 c1 n1 i2 h2 e1 e2
        refine ⟨⟨⟨j + 1, out ++ [⟨o1, q1, a1, c1, n1⟩], 69, _, i2, h2⟩, fitOk, ?_, ?_⟩⟩
        · exact ⟨by show ((j + 1 : Nat) : Int) ≤ 3 + x; omega, by show (out ++ [_]).length = j + 1; simp [hlen], e1, e2, .inr rfl⟩
        · show (3 + x - ((j + 1 : Nat) : Int)).toNat < (3 + x - j).toNat; omega
    · rcases ho with rfl | rfl
      all_goals (try dsimp only [cond_true, cond_false])
      all_goals (conv => whnf)
      all_goals repeat' ((with_reducible (first | refine sCall.pick (ok_PickInt _ _ _ _ _ hb) (fun _ _ _ _ _ _ => ?_)|refine st18 ?_|refine fG.split (fun _ => ?_) (fun _ => ?_)|refine fG.bool (fun _ => ?_) (fun _ => ?_)|refine sZ.eq (i64_and255 _) ?_|refine sZ.eq (i64_and30 _) ?_|refine sZ.all (fun _ => ?_)|refine sW.all (fun _ => ?_))) <;> (try (conv => whnf)))
      all_goals
        refine drawn_mk rfl ?_ ?_ (by assumption) (by assumption)
        · simp only [List.length_append, List.length_cons, List.length_nil, hlen]; omega
        · simp only [List.length_append, List.length_cons, List.length_nil, hlen]; omega

set_option maxRecDepth 20000 in
set_option maxHeartbeats 8000000 in
theorem ok_spec_l1Spoil (k : Nat) (b : List Int) (i h o q a c n : Int) (hb : Bytes b) (h0 : 0 ≤ i := by assumption) (h1 : i ≤ b.length := by assumption) :
    Told (callE PR C (k + 4) 294 [.pt 1000001 0 0 [] 0 0, .ag [i64 o, i64 q, i64 a, i64 c, i64 n]] [tB b, tCur b i h]) (fun r => ∃ o q a c n i h : Int, 0 ≤ i ∧ i ≤ b.length ∧ r = ⟨.ag [i64 o, i64 q, i64 a, i64 c, i64 n], [], [none, some (tCur b i h)]⟩) := by
  have hbl := hb.len
  (refine callE_w [ResultVar.cell 4 116] rfl Tryz.func294 rfl (by decide +kernel) rfl (by simp) ?_; (conv => whnf))
  repeat' ((with_reducible (first | refine sCall.cur (ok_Below _ _ _ _ _ hb) (fun _ _ _ _ _ _ _ => ?_)|refine sCall.pick (ok_PickInt _ _ _ _ _ hb) (fun _ _ _ _ _ _ => ?_)|refine st18 ?_|refine fG.split (fun _ => ?_) (fun _ => ?_)|refine fG.bool (fun _ => ?_) (fun _ => ?_)|refine sZ.eq (i64_and255 _) ?_|refine sZ.eq (i64_and30 _) ?_|refine sZ.all (fun _ => ?_)|refine sW.all (fun _ => ?_))) <;> (try (conv => whnf)))
  all_goals exact ⟨_, _, _, _, _, _, _, by assumption, by assumption, rfl⟩

theorem sCall.prog {x : Option Res} {b : List Int} {m n : Nat} {F : Res → Prop} (e : Told x (DrawnIns b m n)) (h : ∀ (l : List Ins) (i h : Int), m ≤ l.length → l.length ≤ n → 0 ≤ i → i ≤ b.length → F ⟨.h 2000000 1 0 [] 5 0 l.length, [tIns9 l], [none, some (tCur b i h)]⟩) : sCall x F :=
  sCall.ex e fun r hr => by obtain ⟨l, i, h', h1, h2, h3, h4, rfl⟩ := hr; exact h l i h' h1 h2 h3 h4
structure DA where
  l : List Ins
  n : Nat
  o : Nat
  bb : Nat
  g : Nat
  d : Bool
  i : Int
  h : Int
set_option maxRecDepth 20000 in
set_option maxHeartbeats 8000000 in
theorem ok_spec_l1DrawAny (k : Nat) (b : List Int) (i h : Int) (hb : Bytes b) (h0 : 0 ≤ i := by assumption) (h1 : i ≤ b.length := by assumption) :
    Told (callE PR C (k + 6) 243 [.pt 1000001 0 0 [] 0 0] [tB b, tCur b i h]) (DrawnIns b 1 40) := by
  have hbl := hb.len
  (refine callE_w [ResultVar.tmp 2] rfl Tryz.func243 rfl (by decide +kernel) rfl (by simp) ?_; (conv => whnf))
  repeat' ((with_reducible (first | refine sCall.cur (ok_Below _ _ _ _ _ hb) (fun _ _ _ _ _ _ _ => ?_)|refine sCall.prog (ok_spec_l1DrawProg _ _ _ _ _ _ hb) (fun _ _ _ _ _ _ _ => ?_)|refine sCall.curB (ok_spec_l1Once _ _ _ _ _ hb) (fun _ _ _ _ _ => ?_)|refine sCall.ins (ok_spec_l1Spoil _ _ _ _ _ _ _ _ _ hb) (fun _ _ _ _ _ _ _ _ _ => ?_)|refine st18 ?_|refine fG.split (fun _ => ?_) (fun _ => ?_)|refine fG.bool (fun _ => ?_) (fun _ => ?_)|refine sZ.eq (i64_and255 _) ?_|refine sZ.eq (i64_and30 _) ?_|refine sZ.all (fun _ => ?_)|refine sW.all (fun _ => ?_))) <;> (try (conv => whnf)))
  case' refine_1.refine_2 | refine_2.refine_2 =>
    exact drawn_mk (by simp) (by omega) (by omega) (by assumption) (by assumption)
  all_goals
    refine loop_rule (ι := DA) (fun y => [(0, .pt 1000001 0 0 [] 0 0), (3, .h y.o y.bb 0 [] 5 0 y.n)])
      (fun y => [(1000000, ⟨0, 0, false, tB b⟩), (1000001, ⟨0, 0, true, tCur b y.i y.h⟩), (y.o, ⟨y.bb, y.g, y.d, tIns9 y.l⟩)])
      (fun y => 31 - y.n) (fun y => y.n = y.l.length ∧ 1 ≤ y.n ∧ y.n ≤ 31 ∧ 0 ≤ y.i ∧ y.i ≤ b.length ∧ (y.o = 10008 ∨ y.o = 35)) ⟨_, _, 10008, _, _, _, _, _⟩ fitOk ⟨by simp, by show 1 ≤ List.length _; omega, by show List.length _ ≤ 31; omega, by assumption, by assumption, .inl rfl⟩ (by simp [C]; omega) ?_
    rintro ⟨out, n, o, bb, g, d, i1, h1'⟩ sl ob ⟨hn, hn1, hn2, hi0, hi1, ho⟩
    dsimp only at hn hn1 hn2 hi0 hi1 ho
    subst hn
    rcases ho with rfl | rfl
    all_goals (try dsimp only [cond_true, cond_false])
    all_goals (conv => whnf)
    all_goals repeat' ((with_reducible (first | refine sCall.cur (ok_Below _ _ _ _ _ hb) (fun _ _ _ _ _ _ _ => ?_)|refine st18 ?_|refine fG.split (fun _ => ?_) (fun _ => ?_)|refine fG.bool (fun _ => ?_) (fun _ => ?_)|refine sZ.eq (i64_and255 _) ?_|refine sZ.eq (i64_and30 _) ?_|refine sZ.all (fun _ => ?_)|refine sW.all (fun _ => ?_))) <;> (try (conv => whnf)))
    case' inl.refine_1 | inr.refine_1 =>
      rename_i x i2 h2 e1 e2 e3 e4 e5
      refine ⟨⟨⟨out ++ [⟨11, 0, 0, 0, 0⟩], _, 35, _, _, _, i2, h2⟩, fitOk, ?_, ?_⟩⟩
      · exact ⟨by first | rfl | simp, by show 1 ≤ List.length _; simp, by show List.length _ ≤ 31; simp; omega, e3, e4, .inr rfl⟩
      · show 31 - List.length _ < 31 - out.length; simp; omega
    all_goals exact drawn_mk rfl (by omega) (by omega) (by assumption) (by assumption)

end Go.Proofs.YtipfcgbhaalcdaaGreat.Abs
namespace Go.Proofs.YtipfcgbhaalcdaaGreat.Abs
open Go Go.Proofs
set_option linter.unusedVariables false
set_option linter.unusedSimpArgs false
attribute [local irreducible] callE
theorem ok_spec_l1Max (k : Nat) (a c : Int) : callE PR C (k + 1) 148 [i64 a, i64 c] [] = some ⟨i64 (if c < a then a else c), [], []⟩ := by
  by_cases h : c < a
  · rw [if_pos h]
    (refine fnI [ResultVar.tmp 4] Tryz.func148 ?_; conv => whnf)
    repeat' ((with_reducible (first | refine st18 ?_|refine fG.split (fun _ => ?_) (fun _ => ?_)|refine fG.bool (fun _ => ?_) (fun _ => ?_))) <;> (try (conv => whnf)))
  · rw [if_neg h]
    (refine fnI [ResultVar.tmp 4] Tryz.func148 ?_; conv => whnf)
    repeat' ((with_reducible (first | refine st18 ?_|refine fG.split (fun _ => ?_) (fun _ => ?_)|refine fG.bool (fun _ => ?_) (fun _ => ?_))) <;> (try (conv => whnf)))
theorem ok_spec_l1Long (k : Nat) (b : List Int) (x y : Int) (hl : b.length ≤ 100000000000) (hx : 0 ≤ x ∧ x ≤ 1000) (hy : 0 ≤ y ∧ y ≤ 1000) :
    Told (callE PR C (k + 1) 103 [.h 1000000 0 0 [] 1 0 b.length, i64 x, i64 y] [tB b]) (fun r => ∃ n : Int, 0 ≤ n ∧ n ≤ y ∧ r = ⟨i64 n, [], [none]⟩) := by
  have e : (b.length : Int).tdiv 4 = (b.length : Int) / 4 := Int.tdiv_eq_ediv_of_nonneg (by omega)
  (refine callE_w [ResultVar.tmp 6] rfl Tryz.func103 rfl (by decide +kernel) rfl (by simp) ?_; (conv => whnf))
  repeat' ((with_reducible (first | refine sZ.eq (e) ?_|refine st18 ?_|refine fG.split (fun _ => ?_) (fun _ => ?_)|refine fG.bool (fun _ => ?_) (fun _ => ?_))) <;> (try (conv => whnf)))
  all_goals exact ⟨_, by omega, by omega, rfl⟩
def Rt (P : List (List Ins)) (S : List State) (W : List (List Item)) (H : List (List Event)) : Prop := sysOk P S W H = true ∨ (P = [] ∧ S = []) ∧ W = [] ∧ H = []
theorem none_B : SysB 1048576 [] [] [] [] := by
  refine ⟨by simp, fun j hj => ?_, by simp, fun j hj => ?_, by simp, fun j hj => ?_, by simp, fun j hj => ?_⟩ <;> simp at hj
theorem none_bad : sysOk [] [] [] [] = false := by decide
theorem Rt.B {P : List (List Ins)} {S : List State} {W : List (List Item)} {H : List (List Event)} (h : Rt P S W H) : SysB 1048576 P S W H := by
  rcases h with h | ⟨⟨rfl, rfl⟩, rfl, rfl⟩
  · exact (sysOk_G h).b
  · exact none_B
def DSys (b : List Int) (R : List (List Ins) → List State → List (List Item) → List (List Event) → Prop) (m : List (Option Cont)) (r : Res) : Prop :=
  ∃ (P : List (List Ins)) (S : List State) (W : List (List Item)) (H : List (List Event)) (i h : Int), R P S W H ∧ 0 ≤ i ∧ i ≤ b.length ∧ r = ⟨nSys 0 P S W H, [tInsSS9 P, tStateS9 S, tItemSS9 W, tEventSS9 H], none :: some (tCur b i h) :: m⟩
theorem sCall.dsys {x : Option Res} {b : List Int} {R : List (List Ins) → List State → List (List Item) → List (List Event) → Prop} {m : List (Option Cont)} {F : Res → Prop} (e : Told x (DSys b R m))
    (h : ∀ (P : List (List Ins)) (S : List State) (W : List (List Item)) (H : List (List Event)) (i h : Int), R P S W H → 0 ≤ i → i ≤ b.length → F ⟨nSys 0 P S W H, [tInsSS9 P, tStateS9 S, tItemSS9 W, tEventSS9 H], none :: some (tCur b i h) :: m⟩) : sCall x F :=
  sCall.ex e fun r hr => by obtain ⟨P, S, W, H, i, h', h1, h2, h3, rfl⟩ := hr; exact h P S W H i h' h1 h2 h3
structure DN where
  j : Nat
  l : List (List Ins)
  o : Nat
  bb : Nat
  i : Int
  h : Int
set_option maxRecDepth 20000 in
set_option maxHeartbeats 8000000 in
theorem ok_spec_l6DrawNew (k : Nat) (b : List Int) (i h : Int) (hb : Bytes b) (h0 : 0 ≤ i := by assumption) (h1 : i ≤ b.length := by assumption) :
    Told (callE PR C (k + 9) 203 [.pt 1000001 0 0 [] 0 0] [tB b, tCur b i h]) (DSys b Rt []) := by
  have hbl := hb.len
  (refine callE_w [ResultVar.cell 2 29] rfl Tryz.func203 rfl (by decide +kernel) rfl (by simp) ?_; (conv => whnf))
  repeat' ((with_reducible (first | refine sCall.cur (ok_Below _ _ _ _ _ hb) (fun _ _ _ _ _ _ _ => ?_)|refine st18 ?_|refine fG.split (fun _ => ?_) (fun _ => ?_)|refine fG.bool (fun _ => ?_) (fun _ => ?_))) <;> (try (conv => whnf)))
  rename_i x i0 h0' ha hb' hc hd
  refine loop_rule (ι := DN) (fun y => [(0, .pt 1000001 0 0 [] 0 0), (2, .pt 2 1 0 [] 0 0), (3, i64 (1 + x)), (4, .h y.o y.bb 0 [] 1 0 y.l.length), (5, i64 (y.j : Nat))])
    (fun y => [(1000000, ⟨0, 0, false, tB b⟩), (1000001, ⟨0, 0, true, tCur b y.i y.h⟩), (2, ⟨1, 0, false, .box [.nl 1, .nl 4, .nl 1, .nl 1]⟩), (y.o, ⟨y.bb, 0, false, tInsSS9 y.l⟩)])
    (fun y => (1 + x - y.j).toNat) (fun y => (y.j : Int) ≤ 1 + x ∧ (y.l.length = y.j ∧ ∀ q : Nat, q < y.l.length → (rd y.l q).length ≤ 1048576) ∧ 0 ≤ y.i ∧ y.i ≤ b.length ∧ (y.o = 11 ∨ y.o = 23)) ⟨0, [], 11, _, i0, h0'⟩ fitOk ⟨by show (0 : Int) ≤ 1 + x; omega, ⟨rfl, fun q hq => by simp at hq⟩, hc, hd, .inl rfl⟩ (by simp [C]; omega) ?_
  rintro ⟨j, out, o, bb, i1, h1'⟩ sl ob ⟨hj, ⟨hlen, hin⟩, hi0, hi1, ho⟩
  dsimp only at hj hlen hin hi0 hi1 ho
  by_cases hjl : (j : Int) < 1 + x
  · rcases ho with rfl | rfl
    all_goals (try dsimp only [cond_true, cond_false])
    all_goals (conv => whnf)
    all_goals repeat' ((with_reducible (first | refine sCall.prog (ok_spec_l1DrawProg _ _ _ _ _ _ hb) (fun _ _ _ _ _ _ _ => ?_)|refine st18 ?_|refine fG.split (fun _ => ?_) (fun _ => ?_)|refine fG.bool (fun _ => ?_) (fun _ => ?_))) <;> (try (conv => whnf)))
    all_goals
      rename_i l i2 h2 e1 e2 e3 e4
      refine ⟨⟨⟨j + 1, out ++ [l], 23, _, i2, h2⟩, fitOk, ?_, ?_⟩⟩
      · refine ⟨by show ((j + 1 : Nat) : Int) ≤ 1 + x; omega, ⟨by show (out ++ [l]).length = j + 1; simp [hlen], fun q hq => ?_⟩, e3, e4, .inr rfl⟩
        have hq : q < (out ++ [l]).length := hq
        show (rd (out ++ [l]) q).length ≤ 1048576
        by_cases hq2 : q < out.length
        · have := hin q hq2
          simp only [rd, List.getD_eq_getElem?_getD] at this ⊢
          rwa [List.getElem?_append_left hq2]
        · have e : q = out.length := by simp at hq; omega
          subst e
          have : rd (out ++ [l]) out.length = l := by simp [rd]
          rw [this]; omega
      · show (1 + x - ((j + 1 : Nat) : Int)).toNat < (1 + x - j).toNat; omega
  · have hlen2 : 1 ≤ out.length ∧ out.length ≤ 4 := by omega
    have q1 := fun k => ok_spec_SysNew' k out hlen2 hin
    cases hs : sysOk out (List.replicate out.length newState) (List.replicate (out.length * out.length) default) (List.replicate out.length default) with
    | true =>
      simp only [hs, if_true, newRes] at q1
      rcases ho with rfl | rfl
      all_goals (try dsimp only [cond_true, cond_false])
      all_goals (conv => whnf)
      all_goals repeat' ((with_reducible (first | refine sCall.of (q1 _) ?_|refine st18 ?_|refine fG.split (fun _ => ?_) (fun _ => ?_)|refine fG.bool (fun _ => ?_) (fun _ => ?_))) <;> (try (conv => whnf)))
      all_goals exact ⟨_, _, _, _, _, _, .inl hs, hi0, hi1, rfl⟩
    | false =>
      simp only [hs, Bool.false_eq_true, if_false, zeroRes] at q1
      rcases ho with rfl | rfl
      all_goals (try dsimp only [cond_true, cond_false])
      all_goals (conv => whnf)
      all_goals repeat' ((with_reducible (first | refine sCall.of (q1 _) ?_|refine st18 ?_|refine fG.split (fun _ => ?_) (fun _ => ?_)|refine fG.bool (fun _ => ?_) (fun _ => ?_))) <;> (try (conv => whnf)))
      all_goals exact ⟨[], [], [], [], _, _, .inr ⟨⟨rfl, rfl⟩, rfl, rfl⟩, hi0, hi1, rfl⟩
def Peers (r : Res) : Prop := ∃ l : List Int, l.length ≤ 4 ∧ r = ⟨.h 2000000 1 0 [] 1 0 l.length, [tI9 l], [none, none, none, none]⟩
theorem sCall.peers {x : Option Res} {F : Res → Prop} (e : Told x Peers) (h : ∀ l : List Int, l.length ≤ 4 → F ⟨.h 2000000 1 0 [] 1 0 l.length, [tI9 l], [none, none, none, none]⟩) : sCall x F :=
  sCall.ex e fun r hr => by obtain ⟨l, h1, rfl⟩ := hr; exact h l h1
structure PE where
  j : Nat
  m : Int
  l : List Int
  o : Nat
  bb : Nat
set_option maxRecDepth 20000 in
set_option maxHeartbeats 8000000 in
theorem ok_spec_l5Ready (k : Nat) (P : List (List Ins)) (S : List State) (W : List (List Item)) (H : List (List Event)) (p : Int) (hs : sysOk P S W H = true) :
    Told (callE PR C (k + 7) 287 [aSys 0 P S W H, i64 p] [tInsSS P, tStateS S, tItemSS W, tEventSS H]) Peers := by
  have hB := (sysOk_G hs).b
  obtain ⟨hI, hP, hS', h200⟩ := sysOk_facts hs
  have hN := hI.n
  have hsl := hI.s
  have q1 := fun k => ok_spec_l1In k p 0 ((P.length : Int) - 1)
  by_cases c1 : 0 ≤ p ∧ p ≤ (P.length : Int) - 1
  · rw [decide_eq_true c1] at q1
    obtain ⟨p, rfl⟩ : ∃ n : Nat, p = (n : Int) := ⟨p.toNat, by omega⟩
    have hpP : p < P.length := by omega
    have hF := procF_of hs hpP
    by_cases c2 : (rd S p).code = 0
    · have q2 := fun k => ok_spec_l4Copy k P S W H (hB.mono (by decide)) hI.some
      have q3 := fun (j : Nat) k => ok_spec_l5Step k P S W H p j (hB.mono (by decide)) hs
      have hpl := hF.pl
      have hok := hF.ok
      have hat0 := hok.at0
      have hat1 := hok.at1
      have hio := hF.io
      have q4 := fun k => ok_spec_l2Next k (rd P p) (rd S p).at_ (rd S p).regs (rd S p).out (rd S p).code (by omega) hok hio
      generalize next (rd P p) ⟨(rd S p).at_, (rd S p).regs, (rd S p).out, (rd S p).code⟩ = e at q4
      obtain ⟨ek, ep, ev⟩ := e
      (refine callE_w [ResultVar.tmp 4] rfl Tryz.func287 rfl (by decide +kernel) rfl (by simp) ?_; (conv => whnf))
      repeat' ((with_reducible (first | refine sCall.of (q1 _) ?_|refine sCall.of (q4 _) ?_|refine st18 ?_|refine fG.split (fun _ => ?_) (fun _ => ?_)|refine fG.bool (fun _ => ?_) (fun _ => ?_)|refine gD 5 [(1, 11), (4, 11), (6, 11), (9, 11), (10, 11)] ?_)) <;> (try (conv => whnf)))
      all_goals
        refine loop_rule (ι := PE) (fun y => [(1, i64 (p : Nat)), (2, .pt 2 1 0 [] 0 0), (5, .h y.o y.bb 0 [] 1 0 y.l.length), (8, i64 y.m), (9, i64 (y.j : Nat))])
          (fun y => [(1000000, ⟨0, 0, false, tInsSS P⟩), (1000001, ⟨0, 0, false, tStateS S⟩), (1000002, ⟨0, 0, false, tItemSS W⟩), (1000003, ⟨0, 0, false, tEventSS H⟩), (2, ⟨1, 0, false, bSys P S W H⟩), (y.o, ⟨y.bb, 0, false, tI9 y.l⟩)])
          (fun y => 4 - y.j) (fun y => (y.j ≤ 4 ∧ y.m ≤ 4) ∧ y.l.length ≤ y.j ∧ (y.o = 12 ∨ y.o = 69)) ⟨0, _, [], 12, _⟩ fitOk ⟨⟨Nat.zero_le _, by dsimp only; omega⟩, Nat.zero_le _, .inl rfl⟩ (by simp [C]) ?_
        rintro ⟨j, m, out, o, bb⟩ sl ob ⟨⟨hj, hm⟩, hlen, ho⟩
        dsimp only at hj hm hlen ho
        by_cases hjl : (j : Int) < m
        · have q3 := q3 j
          by_cases c0 : (stepIs P S W H p j).2 = 0
          · generalize stepIs P S W H p j = X at *
            obtain ⟨⟨P', S', W', H'⟩, n⟩ := X
            dsimp only at c0
            simp only [sysRes] at q3
            rcases ho with rfl | rfl
            all_goals (try dsimp only [cond_true, cond_false])
            all_goals (conv => whnf)
            all_goals repeat' ((with_reducible (first | refine sCall.of (q2 _) ?_|refine sCall.of (q3 _) ?_|refine st18 ?_|refine fG.split (fun _ => ?_) (fun _ => ?_)|refine fG.bool (fun _ => ?_) (fun _ => ?_)|refine gD 5 [(1, 11), (4, 11), (6, 11), (9, 11), (10, 11)] ?_)) <;> (try (conv => whnf)))
            all_goals
              refine ⟨⟨⟨j + 1, m, out ++ [(j : Int)], 69, _⟩, fitOk, ?_, ?_⟩⟩
              · exact ⟨⟨by show j + 1 ≤ 4; omega, hm⟩, by show (out ++ [_]).length ≤ j + 1; simp; omega, .inr rfl⟩
              · show 4 - (j + 1) < 4 - j; omega
          · generalize stepIs P S W H p j = X at *
            obtain ⟨⟨P', S', W', H'⟩, n⟩ := X
            dsimp only at c0
            simp only [sysRes] at q3
            rcases ho with rfl | rfl
            all_goals (try dsimp only [cond_true, cond_false])
            all_goals (conv => whnf)
            all_goals repeat' ((with_reducible (first | refine sCall.of (q2 _) ?_|refine sCall.of (q3 _) ?_|refine st18 ?_|refine fG.split (fun _ => ?_) (fun _ => ?_)|refine fG.bool (fun _ => ?_) (fun _ => ?_)|refine gD 5 [(1, 11), (4, 11), (6, 11), (9, 11), (10, 11)] ?_)) <;> (try (conv => whnf)))
            case' inl =>
              refine ⟨⟨⟨j + 1, m, out, 12, _⟩, fitOk, ?_, ?_⟩⟩
              · exact ⟨⟨by show j + 1 ≤ 4; omega, hm⟩, by show out.length ≤ j + 1; omega, .inl rfl⟩
              · show 4 - (j + 1) < 4 - j; omega
            case' inr =>
              refine ⟨⟨⟨j + 1, m, out, 69, _⟩, fitOk, ?_, ?_⟩⟩
              · exact ⟨⟨by show j + 1 ≤ 4; omega, hm⟩, by show out.length ≤ j + 1; omega, .inr rfl⟩
              · show 4 - (j + 1) < 4 - j; omega
        · rcases ho with rfl | rfl
          all_goals (try dsimp only [cond_true, cond_false])
          all_goals (conv => whnf)
          all_goals repeat' ((with_reducible (first | refine st18 ?_|refine fG.split (fun _ => ?_) (fun _ => ?_)|refine fG.bool (fun _ => ?_) (fun _ => ?_)|refine gD 5 [(1, 11), (4, 11), (6, 11), (9, 11), (10, 11)] ?_)) <;> (try (conv => whnf)))
          all_goals exact ⟨_, by omega, rfl⟩
    · (refine callE_w [ResultVar.tmp 4] rfl Tryz.func287 rfl (by decide +kernel) rfl (by simp) ?_; (conv => whnf))
      repeat' ((with_reducible (first | refine sCall.of (q1 _) ?_|refine st18 ?_|refine fG.split (fun _ => ?_) (fun _ => ?_)|refine fG.bool (fun _ => ?_) (fun _ => ?_)|refine gD 5 [(1, 11), (4, 11), (6, 11), (9, 11), (10, 11)] ?_)) <;> (try (conv => whnf)))
      all_goals exact ⟨[], by simp, rfl⟩
  · rw [decide_eq_false c1] at q1
    (refine callE_w [ResultVar.tmp 4] rfl Tryz.func287 rfl (by decide +kernel) rfl (by simp) ?_; (conv => whnf))
    repeat' ((with_reducible (first | refine sCall.of (q1 _) ?_|refine st18 ?_|refine fG.split (fun _ => ?_) (fun _ => ?_)|refine fG.bool (fun _ => ?_) (fun _ => ?_)|refine gD 5 [(1, 11), (4, 11), (6, 11), (9, 11), (10, 11)] ?_)) <;> (try (conv => whnf)))
    all_goals exact ⟨[], by simp, rfl⟩
theorem ok_spec_Ready (k : Nat) (P : List (List Ins)) (S : List State) (W : List (List Item)) (H : List (List Event)) (p : Int) (hR : Rt P S W H) :
    Told (callE PR C (k + 8) 237 [aSys 0 P S W H, i64 p] [tInsSS P, tStateS S, tItemSS W, tEventSS H]) Peers := by
  have q1 := fun k => ok_spec_SysOk k P S W H (hR.B.mono (by decide))
  rcases hR with hs | ⟨⟨rfl, rfl⟩, rfl, rfl⟩
  · simp only [hs] at q1
    (refine callE_w [ResultVar.tmp 4] rfl Tryz.func237 rfl (by decide +kernel) rfl (by simp) ?_; (conv => whnf))
    repeat' ((with_reducible (first | refine sCall.of (q1 _) ?_|refine sCall.peers (ok_spec_l5Ready _ _ _ _ _ _ hs) (fun _ _ => ?_)|refine st18 ?_|refine fG.split (fun _ => ?_) (fun _ => ?_)|refine fG.bool (fun _ => ?_) (fun _ => ?_))) <;> (try (conv => whnf)))
    exact ⟨_, by assumption, rfl⟩
  · simp only [none_bad] at q1
    (refine callE_w [ResultVar.tmp 4] rfl Tryz.func237 rfl (by decide +kernel) rfl (by simp) ?_; (conv => whnf))
    repeat' ((with_reducible (first | refine sCall.of (q1 _) ?_|refine st18 ?_|refine fG.split (fun _ => ?_) (fun _ => ?_)|refine fG.bool (fun _ => ?_) (fun _ => ?_))) <;> (try (conv => whnf)))
    exact ⟨[], by simp, rfl⟩
def DPick (b : List Int) (r : Res) : Prop := ∃ p q i h : Int, 0 ≤ i ∧ i ≤ b.length ∧ r = ⟨.ag [i64 p, i64 q], [], [none, some (tCur b i h), none, none, none, none]⟩
theorem sCall.dpick {x : Option Res} {b : List Int} {F : Res → Prop} (e : Told x (DPick b)) (h : ∀ p q i h : Int, 0 ≤ i → i ≤ b.length → F ⟨.ag [i64 p, i64 q], [], [none, some (tCur b i h), none, none, none, none]⟩) : sCall x F :=
  sCall.ex e fun r hr => by obtain ⟨p, q, i, h', h1, h2, rfl⟩ := hr; exact h p q i h' h1 h2
set_option maxRecDepth 20000 in
set_option maxHeartbeats 8000000 in
theorem ok_spec_l6DrawPick (k : Nat) (b : List Int) (i h : Int) (P : List (List Ins)) (S : List State) (W : List (List Item)) (H : List (List Event)) (hb : Bytes b) (hR : Rt P S W H) (h0 : 0 ≤ i := by assumption) (h1 : i ≤ b.length := by assumption) :
    Told (callE PR C (k + 9) 150 [.pt 1000001 0 0 [] 0 0, aSys 2 P S W H] [tB b, tCur b i h, tInsSS P, tStateS S, tItemSS W, tEventSS H]) (DPick b) := by
  have hbl := hb.len
  have hB := hR.B.p
  have q1 := fun k => ok_spec_l1Max k (P.length : Int) 1
  have hn : 1 ≤ (if (1 : Int) < (P.length : Int) then (P.length : Int) else 1) ∧ (if (1 : Int) < (P.length : Int) then (P.length : Int) else 1) ≤ 1048576 := by split <;> omega
  generalize (if (1 : Int) < (P.length : Int) then (P.length : Int) else 1) = n at *
  (refine callE_w [ResultVar.cell 4 163] rfl Tryz.func150 rfl (by decide +kernel) rfl (by simp) ?_; (conv => whnf))
  repeat' ((with_reducible (first | refine sCall.of (q1 _) ?_|refine sCall.cur (ok_Below _ _ _ _ _ hb) (fun _ _ _ _ _ _ _ => ?_)|refine sCall.peers (ok_spec_Ready _ _ _ _ _ _ hR) (fun _ _ => ?_)|refine sCall.curB (ok_spec_l1Once _ _ _ _ _ hb) (fun _ _ _ _ _ => ?_)|refine st18 ?_|refine fG.split (fun _ => ?_) (fun _ => ?_)|refine fG.bool (fun _ => ?_) (fun _ => ?_))) <;> (try (conv => whnf)))
  all_goals exact ⟨_, _, _, _, by assumption, by assumption, rfl⟩

def stepRt (P : List (List Ins)) (S : List State) (W : List (List Item)) (H : List (List Event)) (p peer : Int) : Sys × Int := if sysOk P S W H = true then stepIs P S W H p peer else (⟨[], [], [], []⟩, 1)
theorem stepRt_rt {P : List (List Ins)} {S : List State} {W : List (List Item)} {H : List (List Event)} (p peer : Int) : Rt (stepRt P S W H p peer).1.progs (stepRt P S W H p peer).1.states (stepRt P S W H p peer).1.ways (stepRt P S W H p peer).1.hist := by
  unfold stepRt
  split
  · rename_i h; exact .inl (stepIs_sysOk h)
  · exact .inr ⟨⟨rfl, rfl⟩, rfl, rfl⟩
theorem ok_spec_StepRt (k : Nat) (P : List (List Ins)) (S : List State) (W : List (List Item)) (H : List (List Event)) (p peer : Int) (hb : SysB 10000000000 P S W H) :
    callE PR C (k + 8) 286 [aSys 0 P S W H, i64 p, i64 peer] [tInsSS P, tStateS S, tItemSS W, tEventSS H] = some (sysRes (stepRt P S W H p peer).1 (stepRt P S W H p peer).2 [none, none, none, none]) := by
  unfold stepRt
  cases hs : sysOk P S W H with
  | true => exact ok_spec_Step k P S W H p peer hb hs
  | false => exact ok_spec_StepBad k P S W H p peer hb hs
def DRun (b : List Int) (m : Int) (r : Res) : Prop :=
  ∃ (P : List (List Ins)) (S : List State) (W : List (List Item)) (H : List (List Event)) (l : List Who) (i h : Int), Rt P S W H ∧ (l.length : Int) ≤ m ∧ (0 ≤ i ∧ i ≤ b.length) ∧
  (r = ⟨.tu [nSys 0 P S W H, .h 2000004 1 0 [] 2 0 l.length, nSys 0 P S W H], [tInsSS9 P, tStateS9 S, tItemSS9 W, tEventSS9 H, tWho9 l], [none, some (tCur b i h)]⟩ ∨
   ∃ (P' : List (List Ins)) (S' : List State) (W' : List (List Item)) (H' : List (List Event)), Rt P' S' W' H' ∧ r = ⟨.tu [nSys 0 P S W H, .h 2000004 1 0 [] 2 0 l.length, nSys 5 P' S' W' H'], [tInsSS9 P, tStateS9 S, tItemSS9 W, tEventSS9 H, tWho9 l, tInsSS9 P', tStateS9 S', tItemSS9 W', tEventSS9 H'], [none, some (tCur b i h)]⟩)
structure DR where
  j : Nat
  l : List Who
  lo : Nat
  lb : Nat
  P : List (List Ins)
  S : List State
  W : List (List Item)
  H : List (List Event)
  o : Nat
  b0 : Nat
  b1 : Nat
  b2 : Nat
  b3 : Nat
  d7 : Bool
  dd : Bool
  i : Int
  h : Int
set_option maxRecDepth 20000 in
set_option maxHeartbeats 16000000 in
theorem ok_spec_l6DrawRun (k : Nat) (b : List Int) (i h m : Int) (hb : Bytes b) (hm : 0 ≤ m ∧ m ≤ 1000) (h0 : 0 ≤ i := by assumption) (h1 : i ≤ b.length := by assumption) :
    Told (callE PR C (k + 10) 234 [.pt 1000001 0 0 [] 0 0, i64 m] [tB b, tCur b i h]) (DRun b m) := by
  have hbl := hb.len
  (refine callE_w [ResultVar.cell 4 29, ResultVar.tmp 5, ResultVar.cell 6 29] rfl Tryz.func234 rfl (by decide +kernel) rfl (by simp) ?_; (conv => whnf))
  repeat' ((with_reducible (first | refine sCall.dsys (ok_spec_l6DrawNew _ _ _ _ hb) (fun _ _ _ _ _ _ _ _ _ => ?_)|refine sCall.cur (ok_Below _ _ _ _ _ hb) (fun _ _ _ _ _ _ _ => ?_)|refine st18 ?_|refine fG.split (fun _ => ?_) (fun _ => ?_)|refine fG.bool (fun _ => ?_) (fun _ => ?_)|refine gD 13 [(2, 3)] ?_)) <;> (try (conv => whnf)))
  rename_i P S W H i1 h1' hR0 a1 a2 x i0 h0' ha hb' hc hd
  refine loop_rule (ι := DR) (fun y => [(0, .pt 1000001 0 0 [] 0 0), (4, .pt 4 1 0 [] 0 0), (6, .pt 6 1 0 [] 0 0), (7, .pt 7 1 0 [] 0 0), (8, .pt 8 1 0 [] 0 0), (9, .h y.lo y.lb 0 [] 2 0 y.l.length), (10, i64 x), (11, i64 (y.j : Nat))])
    (fun y => [(1000000, ⟨0, 0, false, tB b⟩), (1000001, ⟨0, 0, true, tCur b y.i y.h⟩), (4, ⟨1, 0, false, .box [.nl 1, .nl 4, .nl 1, .nl 1]⟩), (6, ⟨1, 0, false, .box [.nl 1, .nl 4, .nl 1, .nl 1]⟩),
      (7, ⟨1, 0, y.d7, .box [.h 10016 1 0 [] 1 0 P.length, .h 20016 1 0 [] 4 0 S.length, .h 30016 1 0 [] 1 0 W.length, .h 40016 1 0 [] 1 0 H.length]⟩),
      (8, ⟨1, 0, y.dd, .box [.h (y.o + 10000) y.b0 0 [] 1 0 y.P.length, .h (y.o + 20000) y.b1 0 [] 4 0 y.S.length, .h (y.o + 30000) y.b2 0 [] 1 0 y.W.length, .h (y.o + 40000) y.b3 0 [] 1 0 y.H.length]⟩),
      (10016, ⟨1, 0, false, tInsSS9 P⟩), (20016, ⟨1, 0, false, tStateS9 S⟩), (30016, ⟨1, 0, false, tItemSS9 W⟩), (40016, ⟨1, 0, false, tEventSS9 H⟩), (y.lo, ⟨y.lb, 0, false, tWho9 y.l⟩),
      (y.o + 10000, ⟨y.b0, 0, false, tInsSS9 y.P⟩), (y.o + 20000, ⟨y.b1, 0, false, tStateS9 y.S⟩), (y.o + 30000, ⟨y.b2, 0, false, tItemSS9 y.W⟩), (y.o + 40000, ⟨y.b3, 0, false, tEventSS9 y.H⟩)])
    (fun y => (x - y.j).toNat) (fun y => (y.j : Int) ≤ x ∧ (y.l.length = y.j ∧ (y.lo = 18 ∨ y.lo = 34)) ∧ Rt y.P y.S y.W y.H ∧ (0 ≤ y.i ∧ y.i ≤ b.length) ∧
      ((y.o = 16 ∧ (y.P = P ∧ y.S = S ∧ y.W = W ∧ y.H = H) ∧ y.b0 = 1 ∧ y.b1 = 1 ∧ y.b2 = 1 ∧ y.b3 = 1) ∨ y.o = 41 ∨ y.o = 5041))
    ⟨0, [], 18, _, P, S, W, H, 16, 1, 1, 1, 1, _, _, i0, h0'⟩ fitOk ⟨by show (0 : Int) ≤ x; omega, ⟨rfl, .inl rfl⟩, hR0, ⟨hc, hd⟩, .inl ⟨rfl, ⟨rfl, rfl, rfl, rfl⟩, rfl, rfl, rfl, rfl⟩⟩ (by simp [C]; omega) ?_
  clear a1 a2 hc hd
  rintro ⟨j, out, lo, lb, P1, S1, W1, H1, o, b0, b1, b2, b3, d7, dd, i2, h2⟩ sl ob ⟨hj, ⟨hlen, hlo⟩, hR, ⟨hi0, hi1⟩, ho⟩
  dsimp only at hj hlen hlo hR hi0 hi1 ho
  by_cases hjl : (j : Int) < x
  · have hB := hR.B
    rcases hlo with rfl | rfl
    all_goals rcases ho with ⟨rfl, ⟨rfl, rfl, rfl, rfl⟩, rfl, rfl, rfl, rfl⟩ | rfl | rfl
    all_goals (try dsimp only [cond_true, cond_false])
    all_goals (conv => whnf)
    all_goals repeat' ((with_reducible (first | refine sCall.dpick (ok_spec_l6DrawPick _ _ _ _ _ _ _ _ hb hR) (fun _ _ _ _ _ _ => ?_)|refine st18 ?_|refine fG.split (fun _ => ?_) (fun _ => ?_)|refine fG.bool (fun _ => ?_) (fun _ => ?_)|refine gD 13 [(2, 3)] ?_)) <;> (try (conv => whnf)))
    all_goals
      rename_i p q i3 h3 e1 e2
      have hR2 := @stepRt_rt P1 S1 W1 H1 p q
      have q3 := fun k => ok_spec_StepRt k P1 S1 W1 H1 p q (hB.mono (by decide))
      generalize stepRt P1 S1 W1 H1 p q = X at hR2 q3
      obtain ⟨⟨P2, S2, W2, H2⟩, n⟩ := X
      dsimp only at hR2
      simp only [sysRes] at q3
      by_cases c0 : n = 0
    all_goals repeat' ((with_reducible (first | refine sCall.of (q3 _) ?_|refine st18 ?_|refine fG.split (fun _ => ?_) (fun _ => ?_)|refine fG.bool (fun _ => ?_) (fun _ => ?_)|refine gD 13 [(2, 3)] ?_)) <;> (try (conv => whnf)))
    all_goals first
      | refine ⟨⟨⟨j + 1, out ++ [⟨p, q⟩], 34, _, P2, S2, W2, H2, 41, _, _, _, _, _, _, i3, h3⟩, fitOk, ?_, ?_⟩⟩
      | refine ⟨⟨⟨j + 1, out ++ [⟨p, q⟩], 34, _, P2, S2, W2, H2, 5041, _, _, _, _, _, _, i3, h3⟩, fitOk, ?_, ?_⟩⟩
      | refine ⟨⟨⟨j + 1, out ++ [⟨p, q⟩], 34, _, P1, S1, W1, H1, 16, _, _, _, _, _, _, i3, h3⟩, fitOk, ?_, ?_⟩⟩
      | refine ⟨⟨⟨j + 1, out ++ [⟨p, q⟩], 34, _, P1, S1, W1, H1, 41, _, _, _, _, _, _, i3, h3⟩, fitOk, ?_, ?_⟩⟩
      | refine ⟨⟨⟨j + 1, out ++ [⟨p, q⟩], 34, _, P1, S1, W1, H1, 5041, _, _, _, _, _, _, i3, h3⟩, fitOk, ?_, ?_⟩⟩
    all_goals first
      | (show (x - ((j + 1 : Nat) : Int)).toNat < (x - j).toNat; omega)
      | exact ⟨by show ((j + 1 : Nat) : Int) ≤ x; omega, ⟨by show (out ++ [_]).length = j + 1; simp [hlen], .inr rfl⟩, hR2, ⟨e1, e2⟩, .inr (.inl rfl)⟩
      | exact ⟨by show ((j + 1 : Nat) : Int) ≤ x; omega, ⟨by show (out ++ [_]).length = j + 1; simp [hlen], .inr rfl⟩, hR2, ⟨e1, e2⟩, .inr (.inr rfl)⟩
      | exact ⟨by show ((j + 1 : Nat) : Int) ≤ x; omega, ⟨by show (out ++ [_]).length = j + 1; simp [hlen], .inr rfl⟩, hR, ⟨e1, e2⟩, .inl ⟨rfl, ⟨rfl, rfl, rfl, rfl⟩, rfl, rfl, rfl, rfl⟩⟩
      | exact ⟨by show ((j + 1 : Nat) : Int) ≤ x; omega, ⟨by show (out ++ [_]).length = j + 1; simp [hlen], .inr rfl⟩, hR, ⟨e1, e2⟩, .inr (.inl rfl)⟩
      | exact ⟨by show ((j + 1 : Nat) : Int) ≤ x; omega, ⟨by show (out ++ [_]).length = j + 1; simp [hlen], .inr rfl⟩, hR, ⟨e1, e2⟩, .inr (.inr rfl)⟩
  · rcases hlo with rfl | rfl
    all_goals rcases ho with ⟨rfl, ⟨rfl, rfl, rfl, rfl⟩, rfl, rfl, rfl, rfl⟩ | rfl | rfl
    all_goals (try dsimp only [cond_true, cond_false])
    all_goals (conv => whnf)
    all_goals repeat' ((with_reducible (first | refine st18 ?_|refine fG.split (fun _ => ?_) (fun _ => ?_)|refine fG.bool (fun _ => ?_) (fun _ => ?_)|refine gD 13 [(2, 3)] ?_)) <;> (try (conv => whnf)))
    all_goals first
      | exact ⟨_, _, _, _, _, _, _, hR0, by omega, ⟨hi0, hi1⟩, .inl rfl⟩
      | exact ⟨_, _, _, _, _, _, _, hR0, by omega, ⟨hi0, hi1⟩, .inr ⟨_, _, _, _, hR, rfl⟩⟩

end Go.Proofs.YtipfcgbhaalcdaaGreat.Abs
