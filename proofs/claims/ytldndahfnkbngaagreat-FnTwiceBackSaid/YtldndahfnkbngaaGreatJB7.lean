/- Part 7 of the words by which the law is followed: an interpreter over data trees, proved of the machine, and what functions of this program come to by it. No condition. -/
import Derived.ChangeSame
import Derived.SizedLaws
import Derived.DataReads
import Derived.Carry
import Derived.WideShapes
import Derived.Test.YtldndahfnkbngaaGreatJB6
namespace Go.Proofs.YtldndahfnkbngaaGreat.Abs
open Go Go.Proofs
set_option linter.unusedVariables false
set_option linter.unusedSimpArgs false
attribute [local irreducible] callE
set_option maxRecDepth 20000 in
set_option maxHeartbeats 8000000 in
theorem ok_spec_l1DrawIns (k : Nat) (b : List Int) (i h m p : Int) (hb : Bytes b) (hm : 0 < m := by omega) (hm2 : m ≤ 100000000001 := by omega) (hp : 0 < p := by omega) (hp2 : p ≤ 100000000001 := by omega) (h0 : 0 ≤ i := by assumption) (h1 : i ≤ b.length := by assumption) :
    Told (callE PR C (k + 4) 279 [.pt 1000001 0 0 [] 0 0, i64 m, i64 p] [tB b, tCur b i h]) (fun r => ∃ o q a c n i h : Int, 0 ≤ i ∧ i ≤ b.length ∧ r = ⟨.ag [i64 o, i64 q, i64 a, i64 c, i64 n], [], [none, some (tCur b i h)]⟩) := by
  have hbl := hb.len
  (refine callE_w [ResultVar.cell 6 170] rfl Tryz.func279 rfl (by decide +kernel) rfl (by simp) ?_; (conv => whnf))
  repeat' ((with_reducible (first | refine sCall.cur (ok_Below _ _ _ _ _ hb) (fun _ _ _ _ _ _ _ => ?_)|refine sCall.curB (ok_spec_l1Once _ _ _ _ _ hb) (fun _ _ _ _ _ => ?_)|refine st17 ?_|refine fG.split (fun _ => ?_) (fun _ => ?_)|refine fG.bool (fun _ => ?_) (fun _ => ?_))) <;> (try (conv => whnf)))
  all_goals exact ⟨_, _, _, _, _, _, _, by assumption, by assumption, rfl⟩

theorem one_rIns (a b c d e : Int) : [[T.v (.int .i64 a), .v (.int .i64 b), .v (.int .i64 c), .v (.int .i64 d), .v (.int .i64 e)]] = [(⟨a, b, c, d, e⟩ : Ins)].map rIns := rfl
theorem cons_rIns (l : List Ins) (a b c d e : Int) : [T.v (.int .i64 a), .v (.int .i64 b), .v (.int .i64 c), .v (.int .i64 d), .v (.int .i64 e)] :: l.map rIns = ((⟨a, b, c, d, e⟩ : Ins) :: l).map rIns := rfl
theorem one_rI (a : Int) : [[T.v (.int .i64 a)]] = [a].map rI := rfl
theorem cons_rI (l : List Int) (a : Int) : [T.v (.int .i64 a)] :: l.map rI = (a :: l).map rI := rfl
theorem gI18 {p A : Prop} (h : A) (e : p := by first | with_reducible assumption | omega | (simp only [Nat.zero_add, Nat.add_zero, Nat.sub_zero, Int.toNat_natCast, Int.toNat_zero, Int.toNat_one, List.length_map, List.length_nil, Int.reduceToNat, Nat.reduceAdd, Nat.reduceSub, Int.sub_zero, Int.reduceAdd, Int.reduceSub, Nat.sub_self, Int.toNat_natCast_add_one, marks_len, bs_len, List.length_append, List.length_cons, List.length_set, List.length_replicate, List.length_range]; first | done | omega)) : sI p A := sI.mk e h
theorem gNum18 {r r' : Nat} {F : Nat → Prop} (h : F r') (e : r = r' := by first | (simp only [Nat.zero_add, Nat.add_zero, Nat.sub_zero, Int.toNat_natCast, Int.toNat_zero, Int.toNat_one, List.length_map, List.length_nil, Int.reduceToNat, Nat.reduceAdd, Nat.reduceSub, Int.sub_zero, Int.reduceAdd, Int.reduceSub, Nat.sub_self, Int.toNat_natCast_add_one, marks_len, bs_len]; rfl) | rfl) : sN r F := sN.eq e h
theorem gRow18 {r r' : List (List T)} {F : List (List T) → Prop} (h : F r') (e : r = r' := by first | (simp only [Nat.add_zero, Nat.zero_add, Nat.reduceAdd, List.drop_zero, List.take_succ_cons, List.take_nil, List.drop_succ_cons, List.drop_nil, List.take_zero, List.nil_append, List.append_nil, List.map_nil, drop_suf, take_pre, drop_map, List.take_length, take_len_set, take_len_app, List.set_set, List.length_map, one_rIns, cons_rIns, one_rI, cons_rI, snoc_new, snoc_rItem, snoc_rInsL, snoc_rItemL, snoc_rEventL, snoc_rState, set_rWho, rep_rWho, snoc_rWho, set_rState, rep_rState, set_rInsL, rep_rInsL, set_rItemL, rep_rItemL, set_rEventL, rep_rEventL, set_rItem, rep_rItem, rep_rKept, marks_take, set_rKept, set_rIns, rep_rIns, set_rEvent, rep_rEvent, snoc_rKept, snoc_rEvent, snoc_rIns, bytesT_bs, snoc_rI, snoc_rB, snoc_rBool, set_rI, set_rBool, rep_rI, rep_rBool, map_app]; rfl) | rfl) : sR r F := sR.eq e h
theorem st18 {P Q : Prop} (h : Q) (e : Q → P := by with_reducible first | exact fun h => gP h | exact fun h => gN h | exact fun h => fG.not h | exact fun h => gY h | exact fun h => gF h | exact fun h => fG.yes (flat_map (fun _ => rfl) _) h | exact fun h => gS64 h | exact fun h => gU8 h | exact fun h => gI18 h | exact fun h => fE.of rfl h | exact fun h => gNum18 h | exact fun h => gSet h | exact fun h => gRd h | exact fun h => gLk h | exact fun h => gRow18 h | exact fun h => gRf4 h) : P := e h
def DrawnIns (b : List Int) (m n : Nat) (r : Res) : Prop := ∃ (l : List Ins) (i h : Int), m ≤ l.length ∧ l.length ≤ n ∧ 0 ≤ i ∧ i ≤ b.length ∧ r = ⟨.h 2000000 1 0 [] 5 0 l.length, [tIns9 l], [none, some (tCur b i h)]⟩
structure DP where
  j : Nat
  l : List Ins
  o : Nat
  bb : Nat
  i : Int
  h : Int
theorem sCall.ins {x : Option Res} {b : List Int} {F : Res → Prop} (e : Told x (fun r => ∃ o q a c n i h : Int, 0 ≤ i ∧ i ≤ b.length ∧ r = ⟨.ag [i64 o, i64 q, i64 a, i64 c, i64 n], [], [none, some (tCur b i h)]⟩)) (h : ∀ o q a c n i h : Int, 0 ≤ i → i ≤ b.length → F ⟨.ag [i64 o, i64 q, i64 a, i64 c, i64 n], [], [none, some (tCur b i h)]⟩) : sCall x F :=
  sCall.ex e fun r hr => by obtain ⟨o, q, a, c, n, i, h', h3, h4, rfl⟩ := hr; exact h o q a c n i h' h3 h4
theorem sCall.pick {x : Option Res} {b l : List Int} {F : Res → Prop} (e : Told x (fun r => ∃ x i h : Int, x ∈ l ∧ 0 ≤ i ∧ i ≤ b.length ∧ r = ⟨i64 x, [], [none, some (tCur b i h), none]⟩)) (h : ∀ x i h : Int, x ∈ l → 0 ≤ i → i ≤ b.length → F ⟨i64 x, [], [none, some (tCur b i h), none]⟩) : sCall x F :=
  sCall.ex e fun r hr => by obtain ⟨x, i, h', h2, h3, h4, rfl⟩ := hr; exact h x i h' h2 h3 h4
theorem ok_PickInt (k : Nat) (b : List Int) (i h : Int) (l : List Int) (hb : Bytes b) (hl0 : 0 < l.length := by simp) (hl : l.length ≤ 100000000000 := by simp) (h0 : 0 ≤ i := by assumption) (h1 : i ≤ b.length := by assumption) :
    Told (callE PR C (k + 3) 174 [.pt 1000001 0 0 [] 0 0, .h 1000002 0 0 [] 1 0 l.length] [tB b, tCur b i h, tI l]) (fun r => ∃ x i h : Int, x ∈ l ∧ 0 ≤ i ∧ i ≤ b.length ∧ r = ⟨i64 x, [], [none, some (tCur b i h), none]⟩) := ok_spec_l1PickInt k b i h l hb hl0 hl h0 h1
theorem drawn_mk {b : List Int} {m n' n : Nat} {l : List Ins} {i h : Int} (e : l.length = n) (h1 : m ≤ n) (h2 : n ≤ n') (h3 : 0 ≤ i) (h4 : i ≤ b.length) : DrawnIns b m n' ⟨.h 2000000 1 0 [] 5 0 n, [tIns9 l], [none, some (tCur b i h)]⟩ := by
  subst e
  exact ⟨l, i, h, h1, h2, h3, h4, rfl⟩

set_option maxRecDepth 20000 in
set_option maxHeartbeats 8000000 in
theorem ok_spec_l1DrawProg (k : Nat) (b : List Int) (i h p q : Int) (hb : Bytes b) (hp : 0 < p := by omega) (hp2 : p ≤ 100000000001 := by omega) (hq : 0 ≤ q := by omega) (hq2 : q ≤ 100000000001 := by omega) (h0 : 0 ≤ i := by assumption) (h1 : i ≤ b.length := by assumption) :
    Told (callE PR C (k + 5) 266 [.pt 1000001 0 0 [] 0 0, i64 p, i64 q] [tB b, tCur b i h]) (DrawnIns b 4 11) := by
  have hbl := hb.len
  (refine callE_w [ResultVar.tmp 6] rfl Tryz.func266 rfl (by decide +kernel) rfl (by simp) ?_; (conv => whnf))
  repeat' ((with_reducible (first | refine sCall.cur (ok_Below _ _ _ _ _ hb) (fun _ _ _ _ _ _ _ => ?_)|refine st18 ?_|refine fG.split (fun _ => ?_) (fun _ => ?_)|refine fG.bool (fun _ => ?_) (fun _ => ?_)|refine sZ.eq (i64_and255 _) ?_|refine sZ.eq (i64_and30 _) ?_|refine sZ.all (fun _ => ?_)|refine sW.all (fun _ => ?_))) <;> (try (conv => whnf)))
  case' refine_1 | refine_2.refine_1 | refine_2.refine_2.refine_1 =>
    exact drawn_mk rfl (by decide) (by decide) (by assumption) (by assumption)
  case refine_2.refine_2.refine_2 =>
    rename_i x i0 h0' ha hb' hc hd
    refine loop_rule (ι := DP) (fun y => [(0, .pt 1000001 0 0 [] 0 0), (1, i64 p), (8, i64 (3 + x)), (9, .h y.o y.bb 0 [] 5 0 y.l.length), (10, i64 (y.j : Nat))])
      (fun y => [(1000000, ⟨0, 0, false, tB b⟩), (1000001, ⟨0, 0, true, tCur b y.i y.h⟩), (y.o, ⟨y.bb, 0, false, tIns9 y.l⟩)])
      (fun y => (3 + x - y.j).toNat) (fun y => (y.j : Int) ≤ 3 + x ∧ y.l.length = y.j ∧ 0 ≤ y.i ∧ y.i ≤ b.length ∧ (y.o = 56 ∨ y.o = 69)) ⟨0, [], 56, _, i0, h0'⟩ fitOk ⟨by show (0 : Int) ≤ 3 + x; omega, rfl, hc, hd, .inl rfl⟩ (by simp [C]; omega) ?_
    rintro ⟨j, out, o, bb, i1, h1'⟩ sl ob ⟨hj, hlen, hi0, hi1, ho⟩
    dsimp only at hj hlen hi0 hi1 ho
    by_cases hjl : (j : Int) < 3 + x
    · rcases ho with rfl | rfl
      all_goals (try dsimp only [cond_true, cond_false])
      all_goals (conv => whnf)
      all_goals repeat' ((with_reducible (first | refine sCall.ins (ok_spec_l1DrawIns _ _ _ _ _ _ hb) (fun _ _ _ _ _ _ _ _ _ => ?_)|refine st18 ?_|refine fG.split (fun _ => ?_) (fun _ => ?_)|refine fG.bool (fun _ => ?_) (fun _ => ?_)|refine sZ.eq (i64_and255 _) ?_|refine sZ.eq (i64_and30 _) ?_|refine sZ.all (fun _ => ?_)|refine sW.all (fun _ => ?_))) <;> (try (conv => whnf)))
      all_goals
        rename_i o1 q1 a1 c1 n1 i2 h2 e1 e2
        refine ⟨⟨⟨j + 1, out ++ [⟨o1, q1, a1, c1, n1⟩], 69, _, i2, h2⟩, fitOk, ?_, ?_⟩⟩
        · exact ⟨by show ((j + 1 : Nat) : Int) ≤ 3 + x; omega, by show (out ++ [_]).length = j + 1; simp [hlen], e1, e2, .inr rfl⟩
        · show (3 + x - ((j + 1 : Nat) : Int)).toNat < (3 + x - j).toNat; omega
    · rcases ho with rfl | rfl
      all_goals (try dsimp only [cond_true, cond_false])
      all_goals (conv => whnf)
      all_goals repeat' ((with_reducible (first | refine sCall.pick (ok_PickInt _ _ _ _ _ hb) (fun _ _ _ _ _ _ => ?_)|refine st18 ?_|refine fG.split (fun _ => ?_) (fun _ => ?_)|refine fG.bool (fun _ => ?_) (fun _ => ?_)|refine sZ.eq (i64_and255 _) ?_|refine sZ.eq (i64_and30 _) ?_|refine sZ.all (fun _ => ?_)|refine sW.all (fun _ => ?_))) <;> (try (conv => whnf)))
      all_goals
        refine drawn_mk rfl ?_ ?_ (by assumption) (by assumption)
        · simp only [List.length_append, List.length_cons, List.length_nil, hlen]; omega
        · simp only [List.length_append, List.length_cons, List.length_nil, hlen]; omega

set_option maxRecDepth 20000 in
set_option maxHeartbeats 8000000 in
theorem ok_spec_l1Spoil (k : Nat) (b : List Int) (i h o q a c n : Int) (hb : Bytes b) (h0 : 0 ≤ i := by assumption) (h1 : i ≤ b.length := by assumption) :
    Told (callE PR C (k + 4) 267 [.pt 1000001 0 0 [] 0 0, .ag [i64 o, i64 q, i64 a, i64 c, i64 n]] [tB b, tCur b i h]) (fun r => ∃ o q a c n i h : Int, 0 ≤ i ∧ i ≤ b.length ∧ r = ⟨.ag [i64 o, i64 q, i64 a, i64 c, i64 n], [], [none, some (tCur b i h)]⟩) := by
  have hbl := hb.len
  (refine callE_w [ResultVar.cell 4 170] rfl Tryz.func267 rfl (by decide +kernel) rfl (by simp) ?_; (conv => whnf))
  repeat' ((with_reducible (first | refine sCall.cur (ok_Below _ _ _ _ _ hb) (fun _ _ _ _ _ _ _ => ?_)|refine sCall.pick (ok_PickInt _ _ _ _ _ hb) (fun _ _ _ _ _ _ => ?_)|refine st18 ?_|refine fG.split (fun _ => ?_) (fun _ => ?_)|refine fG.bool (fun _ => ?_) (fun _ => ?_)|refine sZ.eq (i64_and255 _) ?_|refine sZ.eq (i64_and30 _) ?_|refine sZ.all (fun _ => ?_)|refine sW.all (fun _ => ?_))) <;> (try (conv => whnf)))
  all_goals exact ⟨_, _, _, _, _, _, _, by assumption, by assumption, rfl⟩

theorem sCall.prog {x : Option Res} {b : List Int} {m n : Nat} {F : Res → Prop} (e : Told x (DrawnIns b m n)) (h : ∀ (l : List Ins) (i h : Int), m ≤ l.length → l.length ≤ n → 0 ≤ i → i ≤ b.length → F ⟨.h 2000000 1 0 [] 5 0 l.length, [tIns9 l], [none, some (tCur b i h)]⟩) : sCall x F :=
  sCall.ex e fun r hr => by obtain ⟨l, i, h', h1, h2, h3, h4, rfl⟩ := hr; exact h l i h' h1 h2 h3 h4
structure DA where
  l : List Ins
  n : Nat
  o : Nat
  bb : Nat
  g : Nat
  d : Bool
  i : Int
  h : Int
set_option maxRecDepth 20000 in
set_option maxHeartbeats 8000000 in
theorem ok_spec_l1DrawAny (k : Nat) (b : List Int) (i h : Int) (hb : Bytes b) (h0 : 0 ≤ i := by assumption) (h1 : i ≤ b.length := by assumption) :
    Told (callE PR C (k + 6) 218 [.pt 1000001 0 0 [] 0 0] [tB b, tCur b i h]) (DrawnIns b 1 40) := by
  have hbl := hb.len
  (refine callE_w [ResultVar.tmp 2] rfl Tryz.func218 rfl (by decide +kernel) rfl (by simp) ?_; (conv => whnf))
  repeat' ((with_reducible (first | refine sCall.cur (ok_Below _ _ _ _ _ hb) (fun _ _ _ _ _ _ _ => ?_)|refine sCall.prog (ok_spec_l1DrawProg _ _ _ _ _ _ hb) (fun _ _ _ _ _ _ _ => ?_)|refine sCall.curB (ok_spec_l1Once _ _ _ _ _ hb) (fun _ _ _ _ _ => ?_)|refine sCall.ins (ok_spec_l1Spoil _ _ _ _ _ _ _ _ _ hb) (fun _ _ _ _ _ _ _ _ _ => ?_)|refine st18 ?_|refine fG.split (fun _ => ?_) (fun _ => ?_)|refine fG.bool (fun _ => ?_) (fun _ => ?_)|refine sZ.eq (i64_and255 _) ?_|refine sZ.eq (i64_and30 _) ?_|refine sZ.all (fun _ => ?_)|refine sW.all (fun _ => ?_))) <;> (try (conv => whnf)))
  case' refine_1.refine_2 | refine_2.refine_2 =>
    exact drawn_mk (by simp) (by omega) (by omega) (by assumption) (by assumption)
  all_goals
    refine loop_rule (ι := DA) (fun y => [(0, .pt 1000001 0 0 [] 0 0), (3, .h y.o y.bb 0 [] 5 0 y.n)])
      (fun y => [(1000000, ⟨0, 0, false, tB b⟩), (1000001, ⟨0, 0, true, tCur b y.i y.h⟩), (y.o, ⟨y.bb, y.g, y.d, tIns9 y.l⟩)])
      (fun y => 31 - y.n) (fun y => y.n = y.l.length ∧ 1 ≤ y.n ∧ y.n ≤ 31 ∧ 0 ≤ y.i ∧ y.i ≤ b.length ∧ (y.o = 10008 ∨ y.o = 35)) ⟨_, _, 10008, _, _, _, _, _⟩ fitOk ⟨by simp, by show 1 ≤ List.length _; omega, by show List.length _ ≤ 31; omega, by assumption, by assumption, .inl rfl⟩ (by simp [C]; omega) ?_
    rintro ⟨out, n, o, bb, g, d, i1, h1'⟩ sl ob ⟨hn, hn1, hn2, hi0, hi1, ho⟩
    dsimp only at hn hn1 hn2 hi0 hi1 ho
    subst hn
    rcases ho with rfl | rfl
    all_goals (try dsimp only [cond_true, cond_false])
    all_goals (conv => whnf)
    all_goals repeat' ((with_reducible (first | refine sCall.cur (ok_Below _ _ _ _ _ hb) (fun _ _ _ _ _ _ _ => ?_)|refine st18 ?_|refine fG.split (fun _ => ?_) (fun _ => ?_)|refine fG.bool (fun _ => ?_) (fun _ => ?_)|refine sZ.eq (i64_and255 _) ?_|refine sZ.eq (i64_and30 _) ?_|refine sZ.all (fun _ => ?_)|refine sW.all (fun _ => ?_))) <;> (try (conv => whnf)))
    case' inl.refine_1 | inr.refine_1 =>
      rename_i x i2 h2 e1 e2 e3 e4 e5
      refine ⟨⟨⟨out ++ [⟨11, 0, 0, 0, 0⟩], _, 35, _, _, _, i2, h2⟩, fitOk, ?_, ?_⟩⟩
      · exact ⟨by first | rfl | simp, by show 1 ≤ List.length _; simp, by show List.length _ ≤ 31; simp; omega, e3, e4, .inr rfl⟩
      · show 31 - List.length _ < 31 - out.length; simp; omega
    all_goals exact drawn_mk rfl (by omega) (by omega) (by assumption) (by assumption)

end Go.Proofs.YtldndahfnkbngaaGreat.Abs
namespace Go.Proofs.YtldndahfnkbngaaGreat.Abs
open Go Go.Proofs
set_option linter.unusedVariables false
set_option linter.unusedSimpArgs false
attribute [local irreducible] callE
theorem ok_spec_l1Max (k : Nat) (a c : Int) : callE PR C (k + 1) 173 [i64 a, i64 c] [] = some ⟨i64 (if c < a then a else c), [], []⟩ := by
  by_cases h : c < a
  · rw [if_pos h]
    (refine fnI [ResultVar.tmp 4] Tryz.func173 ?_; conv => whnf)
    repeat' ((with_reducible (first | refine st18 ?_|refine fG.split (fun _ => ?_) (fun _ => ?_)|refine fG.bool (fun _ => ?_) (fun _ => ?_))) <;> (try (conv => whnf)))
  · rw [if_neg h]
    (refine fnI [ResultVar.tmp 4] Tryz.func173 ?_; conv => whnf)
    repeat' ((with_reducible (first | refine st18 ?_|refine fG.split (fun _ => ?_) (fun _ => ?_)|refine fG.bool (fun _ => ?_) (fun _ => ?_))) <;> (try (conv => whnf)))
theorem ok_spec_l1Long (k : Nat) (b : List Int) (x y : Int) (hl : b.length ≤ 100000000000) (hx : 0 ≤ x ∧ x ≤ 1000) (hy : 0 ≤ y ∧ y ≤ 1000) :
    Told (callE PR C (k + 1) 237 [.h 1000000 0 0 [] 1 0 b.length, i64 x, i64 y] [tB b]) (fun r => ∃ n : Int, 0 ≤ n ∧ n ≤ y ∧ r = ⟨i64 n, [], [none]⟩) := by
  have e : (b.length : Int).tdiv 4 = (b.length : Int) / 4 := Int.tdiv_eq_ediv_of_nonneg (by omega)
  (refine callE_w [ResultVar.tmp 6] rfl Tryz.func237 rfl (by decide +kernel) rfl (by simp) ?_; (conv => whnf))
  repeat' ((with_reducible (first | refine sZ.eq (e) ?_|refine st18 ?_|refine fG.split (fun _ => ?_) (fun _ => ?_)|refine fG.bool (fun _ => ?_) (fun _ => ?_))) <;> (try (conv => whnf)))
  all_goals exact ⟨_, by omega, by omega, rfl⟩
def Rt (P : List (List Ins)) (S : List State) (W : List (List Item)) (H : List (List Event)) : Prop := sysOk P S W H = true ∨ (P = [] ∧ S = []) ∧ W = [] ∧ H = []
theorem none_B : SysB 1048576 [] [] [] [] := by
  refine ⟨by simp, fun j hj => ?_, by simp, fun j hj => ?_, by simp, fun j hj => ?_, by simp, fun j hj => ?_⟩ <;> simp at hj
theorem none_bad : sysOk [] [] [] [] = false := by decide
theorem Rt.B {P : List (List Ins)} {S : List State} {W : List (List Item)} {H : List (List Event)} (h : Rt P S W H) : SysB 1048576 P S W H := by
  rcases h with h | ⟨⟨rfl, rfl⟩, rfl, rfl⟩
  · exact (sysOk_G h).b
  · exact none_B
def DSys (b : List Int) (R : List (List Ins) → List State → List (List Item) → List (List Event) → Prop) (m : List (Option Cont)) (r : Res) : Prop :=
  ∃ (P : List (List Ins)) (S : List State) (W : List (List Item)) (H : List (List Event)) (i h : Int), R P S W H ∧ 0 ≤ i ∧ i ≤ b.length ∧ r = ⟨nSys 0 P S W H, [tInsSS9 P, tStateS9 S, tItemSS9 W, tEventSS9 H], none :: some (tCur b i h) :: m⟩
theorem sCall.dsys {x : Option Res} {b : List Int} {R : List (List Ins) → List State → List (List Item) → List (List Event) → Prop} {m : List (Option Cont)} {F : Res → Prop} (e : Told x (DSys b R m))
    (h : ∀ (P : List (List Ins)) (S : List State) (W : List (List Item)) (H : List (List Event)) (i h : Int), R P S W H → 0 ≤ i → i ≤ b.length → F ⟨nSys 0 P S W H, [tInsSS9 P, tStateS9 S, tItemSS9 W, tEventSS9 H], none :: some (tCur b i h) :: m⟩) : sCall x F :=
  sCall.ex e fun r hr => by obtain ⟨P, S, W, H, i, h', h1, h2, h3, rfl⟩ := hr; exact h P S W H i h' h1 h2 h3
structure DN where
  j : Nat
  l : List (List Ins)
  o : Nat
  bb : Nat
  i : Int
  h : Int
set_option maxRecDepth 20000 in
set_option maxHeartbeats 8000000 in
theorem ok_spec_l6DrawNew (k : Nat) (b : List Int) (i h : Int) (hb : Bytes b) (h0 : 0 ≤ i := by assumption) (h1 : i ≤ b.length := by assumption) :
    Told (callE PR C (k + 9) 217 [.pt 1000001 0 0 [] 0 0] [tB b, tCur b i h]) (DSys b Rt []) := by
  have hbl := hb.len
  (refine callE_w [ResultVar.cell 2 36] rfl Tryz.func217 rfl (by decide +kernel) rfl (by simp) ?_; (conv => whnf))
  repeat' ((with_reducible (first | refine sCall.cur (ok_Below _ _ _ _ _ hb) (fun _ _ _ _ _ _ _ => ?_)|refine st18 ?_|refine fG.split (fun _ => ?_) (fun _ => ?_)|refine fG.bool (fun _ => ?_) (fun _ => ?_))) <;> (try (conv => whnf)))
  rename_i x i0 h0' ha hb' hc hd
  refine loop_rule (ι := DN) (fun y => [(0, .pt 1000001 0 0 [] 0 0), (2, .pt 2 1 0 [] 0 0), (3, i64 (1 + x)), (4, .h y.o y.bb 0 [] 1 0 y.l.length), (5, i64 (y.j : Nat))])
    (fun y => [(1000000, ⟨0, 0, false, tB b⟩), (1000001, ⟨0, 0, true, tCur b y.i y.h⟩), (2, ⟨1, 0, false, .box [.nl 1, .nl 4, .nl 1, .nl 1]⟩), (y.o, ⟨y.bb, 0, false, tInsSS9 y.l⟩)])
    (fun y => (1 + x - y.j).toNat) (fun y => (y.j : Int) ≤ 1 + x ∧ (y.l.length = y.j ∧ ∀ q : Nat, q < y.l.length → (rd y.l q).length ≤ 1048576) ∧ 0 ≤ y.i ∧ y.i ≤ b.length ∧ (y.o = 11 ∨ y.o = 23)) ⟨0, [], 11, _, i0, h0'⟩ fitOk ⟨by show (0 : Int) ≤ 1 + x; omega, ⟨rfl, fun q hq => by simp at hq⟩, hc, hd, .inl rfl⟩ (by simp [C]; omega) ?_
  rintro ⟨j, out, o, bb, i1, h1'⟩ sl ob ⟨hj, ⟨hlen, hin⟩, hi0, hi1, ho⟩
  dsimp only at hj hlen hin hi0 hi1 ho
  by_cases hjl : (j : Int) < 1 + x
  · rcases ho with rfl | rfl
    all_goals (try dsimp only [cond_true, cond_false])
    all_goals (conv => whnf)
    all_goals repeat' ((with_reducible (first | refine sCall.prog (ok_spec_l1DrawProg _ _ _ _ _ _ hb) (fun _ _ _ _ _ _ _ => ?_)|refine st18 ?_|refine fG.split (fun _ => ?_) (fun _ => ?_)|refine fG.bool (fun _ => ?_) (fun _ => ?_))) <;> (try (conv => whnf)))
    all_goals
      rename_i l i2 h2 e1 e2 e3 e4
      refine ⟨⟨⟨j + 1, out ++ [l], 23, _, i2, h2⟩, fitOk, ?_, ?_⟩⟩
      · refine ⟨by show ((j + 1 : Nat) : Int) ≤ 1 + x; omega, ⟨by show (out ++ [l]).length = j + 1; simp [hlen], fun q hq => ?_⟩, e3, e4, .inr rfl⟩
        have hq : q < (out ++ [l]).length := hq
        show (rd (out ++ [l]) q).length ≤ 1048576
        by_cases hq2 : q < out.length
        · have := hin q hq2
          simp only [rd, List.getD_eq_getElem?_getD] at this ⊢
          rwa [List.getElem?_append_left hq2]
        · have e : q = out.length := by simp at hq; omega
          subst e
          have : rd (out ++ [l]) out.length = l := by simp [rd]
          rw [this]; omega
      · show (1 + x - ((j + 1 : Nat) : Int)).toNat < (1 + x - j).toNat; omega
  · have hlen2 : 1 ≤ out.length ∧ out.length ≤ 4 := by omega
    have q1 := fun k => ok_spec_SysNew' k out hlen2 hin
    cases hs : sysOk out (List.replicate out.length newState) (List.replicate (out.length * out.length) default) (List.replicate out.length default) with
    | true =>
      simp only [hs, if_true, newRes] at q1
      rcases ho with rfl | rfl
      all_goals (try dsimp only [cond_true, cond_false])
      all_goals (conv => whnf)
      all_goals repeat' ((with_reducible (first | refine sCall.of (q1 _) ?_|refine st18 ?_|refine fG.split (fun _ => ?_) (fun _ => ?_)|refine fG.bool (fun _ => ?_) (fun _ => ?_))) <;> (try (conv => whnf)))
      all_goals exact ⟨_, _, _, _, _, _, .inl hs, hi0, hi1, rfl⟩
    | false =>
      simp only [hs, Bool.false_eq_true, if_false, zeroRes] at q1
      rcases ho with rfl | rfl
      all_goals (try dsimp only [cond_true, cond_false])
      all_goals (conv => whnf)
      all_goals repeat' ((with_reducible (first | refine sCall.of (q1 _) ?_|refine st18 ?_|refine fG.split (fun _ => ?_) (fun _ => ?_)|refine fG.bool (fun _ => ?_) (fun _ => ?_))) <;> (try (conv => whnf)))
      all_goals exact ⟨[], [], [], [], _, _, .inr ⟨⟨rfl, rfl⟩, rfl, rfl⟩, hi0, hi1, rfl⟩
def Peers (r : Res) : Prop := ∃ l : List Int, l.length ≤ 4 ∧ r = ⟨.h 2000000 1 0 [] 1 0 l.length, [tI9 l], [none, none, none, none]⟩
theorem sCall.peers {x : Option Res} {F : Res → Prop} (e : Told x Peers) (h : ∀ l : List Int, l.length ≤ 4 → F ⟨.h 2000000 1 0 [] 1 0 l.length, [tI9 l], [none, none, none, none]⟩) : sCall x F :=
  sCall.ex e fun r hr => by obtain ⟨l, h1, rfl⟩ := hr; exact h l h1
structure PE where
  j : Nat
  m : Int
  l : List Int
  o : Nat
  bb : Nat
set_option maxRecDepth 20000 in
set_option maxHeartbeats 8000000 in
theorem ok_spec_l5Ready (k : Nat) (P : List (List Ins)) (S : List State) (W : List (List Item)) (H : List (List Event)) (p : Int) (hs : sysOk P S W H = true) :
    Told (callE PR C (k + 7) 274 [aSys 0 P S W H, i64 p] [tInsSS P, tStateS S, tItemSS W, tEventSS H]) Peers := by
  have hB := (sysOk_G hs).b
  obtain ⟨hI, hP, hS', h200⟩ := sysOk_facts hs
  have hN := hI.n
  have hsl := hI.s
  have q1 := fun k => ok_spec_l1In k p 0 ((P.length : Int) - 1)
  by_cases c1 : 0 ≤ p ∧ p ≤ (P.length : Int) - 1
  · rw [decide_eq_true c1] at q1
    obtain ⟨p, rfl⟩ : ∃ n : Nat, p = (n : Int) := ⟨p.toNat, by omega⟩
    have hpP : p < P.length := by omega
    have hF := procF_of hs hpP
    by_cases c2 : (rd S p).code = 0
    · have q2 := fun k => ok_spec_l4Copy k P S W H (hB.mono (by decide)) hI.some
      have q3 := fun (j : Nat) k => ok_spec_l5Step k P S W H p j (hB.mono (by decide)) hs
      have hpl := hF.pl
      have hok := hF.ok
      have hat0 := hok.at0
      have hat1 := hok.at1
      have hio := hF.io
      have q4 := fun k => ok_spec_l2Next k (rd P p) (rd S p).at_ (rd S p).regs (rd S p).out (rd S p).code (by omega) hok hio
      generalize next (rd P p) ⟨(rd S p).at_, (rd S p).regs, (rd S p).out, (rd S p).code⟩ = e at q4
      obtain ⟨ek, ep, ev⟩ := e
      (refine callE_w [ResultVar.tmp 4] rfl Tryz.func274 rfl (by decide +kernel) rfl (by simp) ?_; (conv => whnf))
      repeat' ((with_reducible (first | refine sCall.of (q1 _) ?_|refine sCall.of (q4 _) ?_|refine st18 ?_|refine fG.split (fun _ => ?_) (fun _ => ?_)|refine fG.bool (fun _ => ?_) (fun _ => ?_)|refine gD 5 [(1, 11), (4, 11), (6, 11), (9, 11), (10, 11)] ?_)) <;> (try (conv => whnf)))
      all_goals
        refine loop_rule (ι := PE) (fun y => [(1, i64 (p : Nat)), (2, .pt 2 1 0 [] 0 0), (5, .h y.o y.bb 0 [] 1 0 y.l.length), (8, i64 y.m), (9, i64 (y.j : Nat))])
          (fun y => [(1000000, ⟨0, 0, false, tInsSS P⟩), (1000001, ⟨0, 0, false, tStateS S⟩), (1000002, ⟨0, 0, false, tItemSS W⟩), (1000003, ⟨0, 0, false, tEventSS H⟩), (2, ⟨1, 0, false, bSys P S W H⟩), (y.o, ⟨y.bb, 0, false, tI9 y.l⟩)])
          (fun y => 4 - y.j) (fun y => (y.j ≤ 4 ∧ y.m ≤ 4) ∧ y.l.length ≤ y.j ∧ (y.o = 12 ∨ y.o = 69)) ⟨0, _, [], 12, _⟩ fitOk ⟨⟨Nat.zero_le _, by dsimp only; omega⟩, Nat.zero_le _, .inl rfl⟩ (by simp [C]) ?_
        rintro ⟨j, m, out, o, bb⟩ sl ob ⟨⟨hj, hm⟩, hlen, ho⟩
        dsimp only at hj hm hlen ho
        by_cases hjl : (j : Int) < m
        · have q3 := q3 j
          by_cases c0 : (stepIs P S W H p j).2 = 0
          · generalize stepIs P S W H p j = X at *
            obtain ⟨⟨P', S', W', H'⟩, n⟩ := X
            dsimp only at c0
            simp only [sysRes] at q3
            rcases ho with rfl | rfl
            all_goals (try dsimp only [cond_true, cond_false])
            all_goals (conv => whnf)
            all_goals repeat' ((with_reducible (first | refine sCall.of (q2 _) ?_|refine sCall.of (q3 _) ?_|refine st18 ?_|refine fG.split (fun _ => ?_) (fun _ => ?_)|refine fG.bool (fun _ => ?_) (fun _ => ?_)|refine gD 5 [(1, 11), (4, 11), (6, 11), (9, 11), (10, 11)] ?_)) <;> (try (conv => whnf)))
            all_goals
              refine ⟨⟨⟨j + 1, m, out ++ [(j : Int)], 69, _⟩, fitOk, ?_, ?_⟩⟩
              · exact ⟨⟨by show j + 1 ≤ 4; omega, hm⟩, by show (out ++ [_]).length ≤ j + 1; simp; omega, .inr rfl⟩
              · show 4 - (j + 1) < 4 - j; omega
          · generalize stepIs P S W H p j = X at *
            obtain ⟨⟨P', S', W', H'⟩, n⟩ := X
            dsimp only at c0
            simp only [sysRes] at q3
            rcases ho with rfl | rfl
            all_goals (try dsimp only [cond_true, cond_false])
            all_goals (conv => whnf)
            all_goals repeat' ((with_reducible (first | refine sCall.of (q2 _) ?_|refine sCall.of (q3 _) ?_|refine st18 ?_|refine fG.split (fun _ => ?_) (fun _ => ?_)|refine fG.bool (fun _ => ?_) (fun _ => ?_)|refine gD 5 [(1, 11), (4, 11), (6, 11), (9, 11), (10, 11)] ?_)) <;> (try (conv => whnf)))
            case' inl =>
              refine ⟨⟨⟨j + 1, m, out, 12, _⟩, fitOk, ?_, ?_⟩⟩
              · exact ⟨⟨by show j + 1 ≤ 4; omega, hm⟩, by show out.length ≤ j + 1; omega, .inl rfl⟩
              · show 4 - (j + 1) < 4 - j; omega
            case' inr =>
              refine ⟨⟨⟨j + 1, m, out, 69, _⟩, fitOk, ?_, ?_⟩⟩
              · exact ⟨⟨by show j + 1 ≤ 4; omega, hm⟩, by show out.length ≤ j + 1; omega, .inr rfl⟩
              · show 4 - (j + 1) < 4 - j; omega
        · rcases ho with rfl | rfl
          all_goals (try dsimp only [cond_true, cond_false])
          all_goals (conv => whnf)
          all_goals repeat' ((with_reducible (first | refine st18 ?_|refine fG.split (fun _ => ?_) (fun _ => ?_)|refine fG.bool (fun _ => ?_) (fun _ => ?_)|refine gD 5 [(1, 11), (4, 11), (6, 11), (9, 11), (10, 11)] ?_)) <;> (try (conv => whnf)))
          all_goals exact ⟨_, by omega, rfl⟩
    · (refine callE_w [ResultVar.tmp 4] rfl Tryz.func274 rfl (by decide +kernel) rfl (by simp) ?_; (conv => whnf))
      repeat' ((with_reducible (first | refine sCall.of (q1 _) ?_|refine st18 ?_|refine fG.split (fun _ => ?_) (fun _ => ?_)|refine fG.bool (fun _ => ?_) (fun _ => ?_)|refine gD 5 [(1, 11), (4, 11), (6, 11), (9, 11), (10, 11)] ?_)) <;> (try (conv => whnf)))
      all_goals exact ⟨[], by simp, rfl⟩
  · rw [decide_eq_false c1] at q1
    (refine callE_w [ResultVar.tmp 4] rfl Tryz.func274 rfl (by decide +kernel) rfl (by simp) ?_; (conv => whnf))
    repeat' ((with_reducible (first | refine sCall.of (q1 _) ?_|refine st18 ?_|refine fG.split (fun _ => ?_) (fun _ => ?_)|refine fG.bool (fun _ => ?_) (fun _ => ?_)|refine gD 5 [(1, 11), (4, 11), (6, 11), (9, 11), (10, 11)] ?_)) <;> (try (conv => whnf)))
    all_goals exact ⟨[], by simp, rfl⟩
theorem ok_spec_Ready (k : Nat) (P : List (List Ins)) (S : List State) (W : List (List Item)) (H : List (List Event)) (p : Int) (hR : Rt P S W H) :
    Told (callE PR C (k + 8) 243 [aSys 0 P S W H, i64 p] [tInsSS P, tStateS S, tItemSS W, tEventSS H]) Peers := by
  have q1 := fun k => ok_spec_SysOk k P S W H (hR.B.mono (by decide))
  rcases hR with hs | ⟨⟨rfl, rfl⟩, rfl, rfl⟩
  · simp only [hs] at q1
    (refine callE_w [ResultVar.tmp 4] rfl Tryz.func243 rfl (by decide +kernel) rfl (by simp) ?_; (conv => whnf))
    repeat' ((with_reducible (first | refine sCall.of (q1 _) ?_|refine sCall.peers (ok_spec_l5Ready _ _ _ _ _ _ hs) (fun _ _ => ?_)|refine st18 ?_|refine fG.split (fun _ => ?_) (fun _ => ?_)|refine fG.bool (fun _ => ?_) (fun _ => ?_))) <;> (try (conv => whnf)))
    exact ⟨_, by assumption, rfl⟩
  · simp only [none_bad] at q1
    (refine callE_w [ResultVar.tmp 4] rfl Tryz.func243 rfl (by decide +kernel) rfl (by simp) ?_; (conv => whnf))
    repeat' ((with_reducible (first | refine sCall.of (q1 _) ?_|refine st18 ?_|refine fG.split (fun _ => ?_) (fun _ => ?_)|refine fG.bool (fun _ => ?_) (fun _ => ?_))) <;> (try (conv => whnf)))
    exact ⟨[], by simp, rfl⟩
def DPick (b : List Int) (r : Res) : Prop := ∃ p q i h : Int, 0 ≤ i ∧ i ≤ b.length ∧ r = ⟨.ag [i64 p, i64 q], [], [none, some (tCur b i h), none, none, none, none]⟩
theorem sCall.dpick {x : Option Res} {b : List Int} {F : Res → Prop} (e : Told x (DPick b)) (h : ∀ p q i h : Int, 0 ≤ i → i ≤ b.length → F ⟨.ag [i64 p, i64 q], [], [none, some (tCur b i h), none, none, none, none]⟩) : sCall x F :=
  sCall.ex e fun r hr => by obtain ⟨p, q, i, h', h1, h2, rfl⟩ := hr; exact h p q i h' h1 h2
set_option maxRecDepth 20000 in
set_option maxHeartbeats 8000000 in
theorem ok_spec_l6DrawPick (k : Nat) (b : List Int) (i h : Int) (P : List (List Ins)) (S : List State) (W : List (List Item)) (H : List (List Event)) (hb : Bytes b) (hR : Rt P S W H) (h0 : 0 ≤ i := by assumption) (h1 : i ≤ b.length := by assumption) :
    Told (callE PR C (k + 9) 175 [.pt 1000001 0 0 [] 0 0, aSys 2 P S W H] [tB b, tCur b i h, tInsSS P, tStateS S, tItemSS W, tEventSS H]) (DPick b) := by
  have hbl := hb.len
  have hB := hR.B.p
  have q1 := fun k => ok_spec_l1Max k (P.length : Int) 1
  have hn : 1 ≤ (if (1 : Int) < (P.length : Int) then (P.length : Int) else 1) ∧ (if (1 : Int) < (P.length : Int) then (P.length : Int) else 1) ≤ 1048576 := by split <;> omega
  generalize (if (1 : Int) < (P.length : Int) then (P.length : Int) else 1) = n at *
  (refine callE_w [ResultVar.cell 4 80] rfl Tryz.func175 rfl (by decide +kernel) rfl (by simp) ?_; (conv => whnf))
  repeat' ((with_reducible (first | refine sCall.of (q1 _) ?_|refine sCall.cur (ok_Below _ _ _ _ _ hb) (fun _ _ _ _ _ _ _ => ?_)|refine sCall.peers (ok_spec_Ready _ _ _ _ _ _ hR) (fun _ _ => ?_)|refine sCall.curB (ok_spec_l1Once _ _ _ _ _ hb) (fun _ _ _ _ _ => ?_)|refine st18 ?_|refine fG.split (fun _ => ?_) (fun _ => ?_)|refine fG.bool (fun _ => ?_) (fun _ => ?_))) <;> (try (conv => whnf)))
  all_goals exact ⟨_, _, _, _, by assumption, by assumption, rfl⟩

def stepRt (P : List (List Ins)) (S : List State) (W : List (List Item)) (H : List (List Event)) (p peer : Int) : Sys × Int := if sysOk P S W H = true then stepIs P S W H p peer else (⟨[], [], [], []⟩, 1)
theorem stepRt_rt {P : List (List Ins)} {S : List State} {W : List (List Item)} {H : List (List Event)} (p peer : Int) : Rt (stepRt P S W H p peer).1.progs (stepRt P S W H p peer).1.states (stepRt P S W H p peer).1.ways (stepRt P S W H p peer).1.hist := by
  unfold stepRt
  split
  · rename_i h; exact .inl (stepIs_sysOk h)
  · exact .inr ⟨⟨rfl, rfl⟩, rfl, rfl⟩
theorem ok_spec_StepRt (k : Nat) (P : List (List Ins)) (S : List State) (W : List (List Item)) (H : List (List Event)) (p peer : Int) (hb : SysB 10000000000 P S W H) :
    callE PR C (k + 8) 112 [aSys 0 P S W H, i64 p, i64 peer] [tInsSS P, tStateS S, tItemSS W, tEventSS H] = some (sysRes (stepRt P S W H p peer).1 (stepRt P S W H p peer).2 [none, none, none, none]) := by
  unfold stepRt
  cases hs : sysOk P S W H with
  | true => exact ok_spec_Step k P S W H p peer hb hs
  | false => exact ok_spec_StepBad k P S W H p peer hb hs
def DRun (b : List Int) (m : Int) (r : Res) : Prop :=
  ∃ (P : List (List Ins)) (S : List State) (W : List (List Item)) (H : List (List Event)) (l : List Who) (i h : Int), Rt P S W H ∧ (l.length : Int) ≤ m ∧ (0 ≤ i ∧ i ≤ b.length) ∧
  (r = ⟨.tu [nSys 0 P S W H, .h 2000004 1 0 [] 2 0 l.length, nSys 0 P S W H], [tInsSS9 P, tStateS9 S, tItemSS9 W, tEventSS9 H, tWho9 l], [none, some (tCur b i h)]⟩ ∨
   ∃ (P' : List (List Ins)) (S' : List State) (W' : List (List Item)) (H' : List (List Event)), Rt P' S' W' H' ∧ r = ⟨.tu [nSys 0 P S W H, .h 2000004 1 0 [] 2 0 l.length, nSys 5 P' S' W' H'], [tInsSS9 P, tStateS9 S, tItemSS9 W, tEventSS9 H, tWho9 l, tInsSS9 P', tStateS9 S', tItemSS9 W', tEventSS9 H'], [none, some (tCur b i h)]⟩)
structure DR where
  j : Nat
  l : List Who
  lo : Nat
  lb : Nat
  P : List (List Ins)
  S : List State
  W : List (List Item)
  H : List (List Event)
  o : Nat
  b0 : Nat
  b1 : Nat
  b2 : Nat
  b3 : Nat
  d7 : Bool
  dd : Bool
  i : Int
  h : Int
set_option maxRecDepth 20000 in
set_option maxHeartbeats 16000000 in
theorem ok_spec_l6DrawRun (k : Nat) (b : List Int) (i h m : Int) (hb : Bytes b) (hm : 0 ≤ m ∧ m ≤ 1000) (h0 : 0 ≤ i := by assumption) (h1 : i ≤ b.length := by assumption) :
    Told (callE PR C (k + 10) 136 [.pt 1000001 0 0 [] 0 0, i64 m] [tB b, tCur b i h]) (DRun b m) := by
  have hbl := hb.len
  (refine callE_w [ResultVar.cell 4 36, ResultVar.tmp 5, ResultVar.cell 6 36] rfl Tryz.func136 rfl (by decide +kernel) rfl (by simp) ?_; (conv => whnf))
  repeat' ((with_reducible (first | refine sCall.dsys (ok_spec_l6DrawNew _ _ _ _ hb) (fun _ _ _ _ _ _ _ _ _ => ?_)|refine sCall.cur (ok_Below _ _ _ _ _ hb) (fun _ _ _ _ _ _ _ => ?_)|refine st18 ?_|refine fG.split (fun _ => ?_) (fun _ => ?_)|refine fG.bool (fun _ => ?_) (fun _ => ?_)|refine gD 13 [(2, 3)] ?_)) <;> (try (conv => whnf)))
  rename_i P S W H i1 h1' hR0 a1 a2 x i0 h0' ha hb' hc hd
  refine loop_rule (ι := DR) (fun y => [(0, .pt 1000001 0 0 [] 0 0), (4, .pt 4 1 0 [] 0 0), (6, .pt 6 1 0 [] 0 0), (7, .pt 7 1 0 [] 0 0), (8, .pt 8 1 0 [] 0 0), (9, .h y.lo y.lb 0 [] 2 0 y.l.length), (10, i64 x), (11, i64 (y.j : Nat))])
    (fun y => [(1000000, ⟨0, 0, false, tB b⟩), (1000001, ⟨0, 0, true, tCur b y.i y.h⟩), (4, ⟨1, 0, false, .box [.nl 1, .nl 4, .nl 1, .nl 1]⟩), (6, ⟨1, 0, false, .box [.nl 1, .nl 4, .nl 1, .nl 1]⟩),
      (7, ⟨1, 0, y.d7, .box [.h 10016 1 0 [] 1 0 P.length, .h 20016 1 0 [] 4 0 S.length, .h 30016 1 0 [] 1 0 W.length, .h 40016 1 0 [] 1 0 H.length]⟩),
      (8, ⟨1, 0, y.dd, .box [.h (y.o + 10000) y.b0 0 [] 1 0 y.P.length, .h (y.o + 20000) y.b1 0 [] 4 0 y.S.length, .h (y.o + 30000) y.b2 0 [] 1 0 y.W.length, .h (y.o + 40000) y.b3 0 [] 1 0 y.H.length]⟩),
      (10016, ⟨1, 0, false, tInsSS9 P⟩), (20016, ⟨1, 0, false, tStateS9 S⟩), (30016, ⟨1, 0, false, tItemSS9 W⟩), (40016, ⟨1, 0, false, tEventSS9 H⟩), (y.lo, ⟨y.lb, 0, false, tWho9 y.l⟩),
      (y.o + 10000, ⟨y.b0, 0, false, tInsSS9 y.P⟩), (y.o + 20000, ⟨y.b1, 0, false, tStateS9 y.S⟩), (y.o + 30000, ⟨y.b2, 0, false, tItemSS9 y.W⟩), (y.o + 40000, ⟨y.b3, 0, false, tEventSS9 y.H⟩)])
    (fun y => (x - y.j).toNat) (fun y => (y.j : Int) ≤ x ∧ (y.l.length = y.j ∧ (y.lo = 18 ∨ y.lo = 34)) ∧ Rt y.P y.S y.W y.H ∧ (0 ≤ y.i ∧ y.i ≤ b.length) ∧
      ((y.o = 16 ∧ (y.P = P ∧ y.S = S ∧ y.W = W ∧ y.H = H) ∧ y.b0 = 1 ∧ y.b1 = 1 ∧ y.b2 = 1 ∧ y.b3 = 1) ∨ y.o = 41 ∨ y.o = 5041))
    ⟨0, [], 18, _, P, S, W, H, 16, 1, 1, 1, 1, _, _, i0, h0'⟩ fitOk ⟨by show (0 : Int) ≤ x; omega, ⟨rfl, .inl rfl⟩, hR0, ⟨hc, hd⟩, .inl ⟨rfl, ⟨rfl, rfl, rfl, rfl⟩, rfl, rfl, rfl, rfl⟩⟩ (by simp [C]; omega) ?_
  clear a1 a2 hc hd
  rintro ⟨j, out, lo, lb, P1, S1, W1, H1, o, b0, b1, b2, b3, d7, dd, i2, h2⟩ sl ob ⟨hj, ⟨hlen, hlo⟩, hR, ⟨hi0, hi1⟩, ho⟩
  dsimp only at hj hlen hlo hR hi0 hi1 ho
  by_cases hjl : (j : Int) < x
  · have hB := hR.B
    rcases hlo with rfl | rfl
    all_goals rcases ho with ⟨rfl, ⟨rfl, rfl, rfl, rfl⟩, rfl, rfl, rfl, rfl⟩ | rfl | rfl
    all_goals (try dsimp only [cond_true, cond_false])
    all_goals (conv => whnf)
    all_goals repeat' ((with_reducible (first | refine sCall.dpick (ok_spec_l6DrawPick _ _ _ _ _ _ _ _ hb hR) (fun _ _ _ _ _ _ => ?_)|refine st18 ?_|refine fG.split (fun _ => ?_) (fun _ => ?_)|refine fG.bool (fun _ => ?_) (fun _ => ?_)|refine gD 13 [(2, 3)] ?_)) <;> (try (conv => whnf)))
    all_goals
      rename_i p q i3 h3 e1 e2
      have hR2 := @stepRt_rt P1 S1 W1 H1 p q
      have q3 := fun k => ok_spec_StepRt k P1 S1 W1 H1 p q (hB.mono (by decide))
      generalize stepRt P1 S1 W1 H1 p q = X at hR2 q3
      obtain ⟨⟨P2, S2, W2, H2⟩, n⟩ := X
      dsimp only at hR2
      simp only [sysRes] at q3
      by_cases c0 : n = 0
    all_goals repeat' ((with_reducible (first | refine sCall.of (q3 _) ?_|refine st18 ?_|refine fG.split (fun _ => ?_) (fun _ => ?_)|refine fG.bool (fun _ => ?_) (fun _ => ?_)|refine gD 13 [(2, 3)] ?_)) <;> (try (conv => whnf)))
    all_goals first
      | refine ⟨⟨⟨j + 1, out ++ [⟨p, q⟩], 34, _, P2, S2, W2, H2, 41, _, _, _, _, _, _, i3, h3⟩, fitOk, ?_, ?_⟩⟩
      | refine ⟨⟨⟨j + 1, out ++ [⟨p, q⟩], 34, _, P2, S2, W2, H2, 5041, _, _, _, _, _, _, i3, h3⟩, fitOk, ?_, ?_⟩⟩
      | refine ⟨⟨⟨j + 1, out ++ [⟨p, q⟩], 34, _, P1, S1, W1, H1, 16, _, _, _, _, _, _, i3, h3⟩, fitOk, ?_, ?_⟩⟩
      | refine ⟨⟨⟨j + 1, out ++ [⟨p, q⟩], 34, _, P1, S1, W1, H1, 41, _, _, _, _, _, _, i3, h3⟩, fitOk, ?_, ?_⟩⟩
      | refine ⟨⟨⟨j + 1, out ++ [⟨p, q⟩], 34, _, P1, S1, W1, H1, 5041, _, _, _, _, _, _, i3, h3⟩, fitOk, ?_, ?_⟩⟩
    all_goals first
      | (show (x - ((j + 1 : Nat) : Int)).toNat < (x - j).toNat; omega)
      | exact ⟨by show ((j + 1 : Nat) : Int) ≤ x; omega, ⟨by show (out ++ [_]).length = j + 1; simp [hlen], .inr rfl⟩, hR2, ⟨e1, e2⟩, .inr (.inl rfl)⟩
      | exact ⟨by show ((j + 1 : Nat) : Int) ≤ x; omega, ⟨by show (out ++ [_]).length = j + 1; simp [hlen], .inr rfl⟩, hR2, ⟨e1, e2⟩, .inr (.inr rfl)⟩
      | exact ⟨by show ((j + 1 : Nat) : Int) ≤ x; omega, ⟨by show (out ++ [_]).length = j + 1; simp [hlen], .inr rfl⟩, hR, ⟨e1, e2⟩, .inl ⟨rfl, ⟨rfl, rfl, rfl, rfl⟩, rfl, rfl, rfl, rfl⟩⟩
      | exact ⟨by show ((j + 1 : Nat) : Int) ≤ x; omega, ⟨by show (out ++ [_]).length = j + 1; simp [hlen], .inr rfl⟩, hR, ⟨e1, e2⟩, .inr (.inl rfl)⟩
      | exact ⟨by show ((j + 1 : Nat) : Int) ≤ x; omega, ⟨by show (out ++ [_]).length = j + 1; simp [hlen], .inr rfl⟩, hR, ⟨e1, e2⟩, .inr (.inr rfl)⟩
  · rcases hlo with rfl | rfl
    all_goals rcases ho with ⟨rfl, ⟨rfl, rfl, rfl, rfl⟩, rfl, rfl, rfl, rfl⟩ | rfl | rfl
    all_goals (try dsimp only [cond_true, cond_false])
    all_goals (conv => whnf)
    all_goals repeat' ((with_reducible (first | refine st18 ?_|refine fG.split (fun _ => ?_) (fun _ => ?_)|refine fG.bool (fun _ => ?_) (fun _ => ?_)|refine gD 13 [(2, 3)] ?_)) <;> (try (conv => whnf)))
    all_goals first
      | exact ⟨_, _, _, _, _, _, _, hR0, by omega, ⟨hi0, hi1⟩, .inl rfl⟩
      | exact ⟨_, _, _, _, _, _, _, hR0, by omega, ⟨hi0, hi1⟩, .inr ⟨_, _, _, _, hR, rfl⟩⟩

end Go.Proofs.YtldndahfnkbngaaGreat.Abs
namespace Go.Proofs.YtldndahfnkbngaaGreat.Abs
open Go Go.Proofs
set_option linter.unusedVariables false
set_option linter.unusedSimpArgs false
attribute [local irreducible] callE
theorem sCall.long {x : Option Res} {y : Int} {F : Res → Prop} (e : Told x (fun r => ∃ n : Int, 0 ≤ n ∧ n ≤ y ∧ r = ⟨i64 n, [], [none]⟩)) (h : ∀ n : Int, 0 ≤ n → n ≤ y → F ⟨i64 n, [], [none]⟩) : sCall x F :=
  sCall.ex e fun r hr => by obtain ⟨n, h1, h2, rfl⟩ := hr; exact h n h1 h2
set_option maxRecDepth 20000 in
set_option maxHeartbeats 4000000 in
theorem ok_spec_l6DrawRight (k : Nat) (b : List Int) (i h : Int) (hb : Bytes b) (h0 : 0 ≤ i := by assumption) (h1 : i ≤ b.length := by assumption) :
    Told (callE PR C (k + 11) 162 [.pt 1000001 0 0 [] 0 0, .h 1000002 0 0 [] 1 0 b.length] [tB b, tCur b i h, tB b]) (DSys b Rt [none]) := by
  have hbl := hb.len
  (refine callE_w [ResultVar.cell 4 36] rfl Tryz.func162 rfl (by decide +kernel) rfl (by simp) ?_; (conv => whnf))
  repeat' ((with_reducible (first | refine sCall.long (ok_spec_l1Long _ b 25 70 hbl ⟨by decide, by decide⟩ ⟨by decide, by decide⟩) (fun _ _ _ => ?_)|refine st18 ?_|refine fG.split (fun _ => ?_) (fun _ => ?_)|refine fG.bool (fun _ => ?_) (fun _ => ?_))) <;> (try (conv => whnf)))
  rename_i n hn0 hn1
  repeat' ((with_reducible (first | (refine sCall.ex (ok_spec_l6DrawRun _ b i h n hb ⟨hn0, by omega⟩) ?_)|refine st18 ?_|refine fG.split (fun _ => ?_) (fun _ => ?_)|refine fG.bool (fun _ => ?_) (fun _ => ?_))) <;> (try (conv => whnf)))
  rintro _ ⟨P, S, W, H, l, i', h', hR, hl, ⟨e1, e2⟩, rfl | ⟨P', S', W', H', hR', rfl⟩⟩
  · (conv => whnf)
    repeat' ((with_reducible (first | refine st18 ?_|refine fG.split (fun _ => ?_) (fun _ => ?_)|refine fG.bool (fun _ => ?_) (fun _ => ?_))) <;> (try (conv => whnf)))
    exact ⟨_, _, _, _, _, _, hR, e1, e2, rfl⟩
  · (conv => whnf)
    repeat' ((with_reducible (first | refine st18 ?_|refine fG.split (fun _ => ?_) (fun _ => ?_)|refine fG.bool (fun _ => ?_) (fun _ => ?_))) <;> (try (conv => whnf)))
    exact ⟨_, _, _, _, _, _, hR', e1, e2, rfl⟩
theorem cons_rItem (l : List Item) (a : Bool) (v : Int) : [[T.v (.bool a), .v (.int .i64 v)]] ++ l.map rItem = ((⟨a, v⟩ : Item) :: l).map rItem := rfl
theorem gI19 {p A : Prop} (h : A) (e : p := by first | with_reducible assumption | omega | (simp only [Nat.zero_add, Nat.add_zero, Nat.sub_zero, Int.toNat_natCast, Int.toNat_zero, Int.toNat_one, List.length_map, List.length_nil, Int.reduceToNat, Nat.reduceAdd, Nat.reduceSub, Int.sub_zero, Int.reduceAdd, Int.reduceSub, Nat.sub_self, Int.toNat_natCast_add_one, marks_len, bs_len, List.length_append, List.length_cons, List.length_set, List.length_replicate, List.length_range]; first | done | omega)) : sI p A := sI.mk e h
theorem gNum19 {r r' : Nat} {F : Nat → Prop} (h : F r') (e : r = r' := by first | (simp only [Nat.zero_add, Nat.add_zero, Nat.sub_zero, Int.toNat_natCast, Int.toNat_zero, Int.toNat_one, List.length_map, List.length_nil, Int.reduceToNat, Nat.reduceAdd, Nat.reduceSub, Int.sub_zero, Int.reduceAdd, Int.reduceSub, Nat.sub_self, Int.toNat_natCast_add_one, marks_len, bs_len]; rfl) | rfl) : sN r F := sN.eq e h
theorem gRow19 {r r' : List (List T)} {F : List (List T) → Prop} (h : F r') (e : r = r' := by first | (simp only [Nat.add_zero, Nat.zero_add, Nat.reduceAdd, List.drop_zero, List.take_succ_cons, List.take_nil, List.drop_succ_cons, List.drop_nil, List.take_zero, List.nil_append, List.append_nil, List.map_nil, drop_suf, take_pre, drop_map, List.take_length, take_len_set, take_len_app, List.set_set, List.length_map, cons_rItem, one_rIns, cons_rIns, one_rI, cons_rI, snoc_new, snoc_rItem, snoc_rInsL, snoc_rItemL, snoc_rEventL, snoc_rState, set_rWho, rep_rWho, snoc_rWho, set_rState, rep_rState, set_rInsL, rep_rInsL, set_rItemL, rep_rItemL, set_rEventL, rep_rEventL, set_rItem, rep_rItem, rep_rKept, marks_take, set_rKept, set_rIns, rep_rIns, set_rEvent, rep_rEvent, snoc_rKept, snoc_rEvent, snoc_rIns, bytesT_bs, snoc_rI, snoc_rB, snoc_rBool, set_rI, set_rBool, rep_rI, rep_rBool, map_app]; rfl) | rfl) : sR r F := sR.eq e h
theorem st19 {P Q : Prop} (h : Q) (e : Q → P := by with_reducible first | exact fun h => gP h | exact fun h => gN h | exact fun h => fG.not h | exact fun h => gY h | exact fun h => gF h | exact fun h => fG.yes (flat_map (fun _ => rfl) _) h | exact fun h => gS64 h | exact fun h => gU8 h | exact fun h => gI19 h | exact fun h => fE.of rfl h | exact fun h => gNum19 h | exact fun h => gSet h | exact fun h => gRd h | exact fun h => gLk h | exact fun h => gRow19 h | exact fun h => gRf4 h) : P := e h
theorem mem_rd {α : Type} [Inhabited α] {l : List α} {x : α} (h : x ∈ l) : ∃ j, j < l.length ∧ rd l j = x := by
  obtain ⟨i, hi, rfl⟩ := List.mem_iff_getElem.1 h
  exact ⟨i, hi, by simp [rd, hi]⟩
theorem SysB.all {B : Nat} {P : List (List Ins)} {S : List State} {W : List (List Item)} {H : List (List Event)} (h : SysB B P S W H) : (∀ x ∈ P, x.length ≤ B) ∧ (∀ x ∈ S, x.regs.length ≤ B ∧ x.out.length ≤ B) ∧ (∀ x ∈ W, x.length ≤ B) ∧ ∀ x ∈ H, x.length ≤ B := by
  refine ⟨fun x hx => ?_, fun x hx => ?_, fun x hx => ?_, fun x hx => ?_⟩
  · obtain ⟨j, hj, rfl⟩ := mem_rd hx; exact h.pp j hj
  · obtain ⟨j, hj, rfl⟩ := mem_rd hx; exact h.ss j hj
  · obtain ⟨j, hj, rfl⟩ := mem_rd hx; exact h.ww j hj
  · obtain ⟨j, hj, rfl⟩ := mem_rd hx; exact h.hh j hj
theorem SysB.mk' {B : Nat} {P : List (List Ins)} {S : List State} {W : List (List Item)} {H : List (List Event)} (h1 : (P.length ≤ B ∧ S.length ≤ B) ∧ W.length ≤ B ∧ H.length ≤ B) (h2 : (∀ x ∈ P, x.length ≤ B) ∧ (∀ x ∈ S, x.regs.length ≤ B ∧ x.out.length ≤ B) ∧ (∀ x ∈ W, x.length ≤ B) ∧ ∀ x ∈ H, x.length ≤ B) : SysB B P S W H :=
  ⟨h1.1.1, fun _ hj => h2.1 _ (rd_mem hj), h1.1.2, fun _ hj => h2.2.1 _ (rd_mem hj), h1.2.1, fun _ hj => h2.2.2.1 _ (rd_mem hj), h1.2.2, fun _ hj => h2.2.2.2 _ (rd_mem hj)⟩
theorem all_set {α : Type} {l : List α} {i : Nat} {y : α} {p : α → Prop} (h : ∀ x ∈ l, p x) (hy : p y) : ∀ x ∈ l.set i y, p x := by
  intro x hx
  rcases List.mem_or_eq_of_mem_set hx with h1 | h1
  · exact h x h1
  · rw [h1]; exact hy
theorem dsys_mk {b : List Int} {P : List (List Ins)} {S : List State} {W : List (List Item)} {H : List (List Event)} {i h : Int} {n0 n1 n2 n3 : Nat} (hB : SysB 2000000 P S W H) (e0 : P.length = n0) (e1 : S.length = n1) (e2 : W.length = n2) (e3 : H.length = n3) (h0 : 0 ≤ i) (h1 : i ≤ b.length) :
    DSys b (SysB 2000000) [none] ⟨.ag [.h 2000000 1 0 [] 1 0 n0, .h 2000001 1 0 [] 4 0 n1, .h 2000002 1 0 [] 1 0 n2, .h 2000003 1 0 [] 1 0 n3], [tInsSS9 P, tStateS9 S, tItemSS9 W, tEventSS9 H], [none, some (tCur b i h), none]⟩ := by
  subst e0 e1 e2 e3
  exact ⟨P, S, W, H, i, h, hB, h0, h1, rfl⟩
set_option maxRecDepth 20000 in
set_option maxHeartbeats 8000000 in
theorem ok_spec_l6Draw (k : Nat) (b : List Int) (i h : Int) (hb : Bytes b) (h0 : 0 ≤ i := by assumption) (h1 : i ≤ b.length := by assumption) :
    Told (callE PR C (k + 12) 138 [.pt 1000001 0 0 [] 0 0, .h 1000002 0 0 [] 1 0 b.length] [tB b, tCur b i h, tB b]) (DSys b (SysB 2000000) [none]) := by
  have hbl := hb.len
  (refine callE_w [ResultVar.cell 4 36] rfl Tryz.func138 rfl (by decide +kernel) rfl (by simp) ?_; (conv => whnf))
  repeat' ((with_reducible (first | refine sCall.dsys (ok_spec_l6DrawRight _ _ _ _ hb) (fun _ _ _ _ _ _ _ _ _ => ?_)|refine st19 ?_|refine fG.split (fun _ => ?_) (fun _ => ?_)|refine fG.bool (fun _ => ?_) (fun _ => ?_)|refine gD 9 [(1, 9), (4, 9), (7, 9), (1, 11), (4, 11), (7, 11), (1, 13), (4, 13), (7, 13), (1, 15), (4, 15), (7, 15), (1, 16)] ?_|refine gD 12 [(1, 9), (4, 9), (7, 9), (1, 11), (4, 11), (7, 11), (1, 13), (4, 13), (7, 13), (1, 14)] ?_|refine gD 16 [(1, 4)] ?_|refine gD 19 [(1, 4), (4, 6), (4, 9), (1, 10)] ?_)) <;> (try (conv => whnf)))
  rename_i P S W H i1 h1' hR a1 a2
  have hB := hR.B
  have q1 := fun k => ok_spec_l1Max k (P.length : Int) 1
  by_cases c0 : P.length = 0
  · rw [if_neg (by omega)] at q1
    repeat' ((with_reducible (first | refine sCall.of (q1 _) ?_|refine sCall.cur (ok_Below _ _ _ _ _ hb) (fun _ _ _ _ _ _ _ => ?_)|refine st19 ?_|refine fG.split (fun _ => ?_) (fun _ => ?_)|refine fG.bool (fun _ => ?_) (fun _ => ?_)|refine gD 9 [(1, 9), (4, 9), (7, 9), (1, 11), (4, 11), (7, 11), (1, 13), (4, 13), (7, 13), (1, 15), (4, 15), (7, 15), (1, 16)] ?_|refine gD 12 [(1, 9), (4, 9), (7, 9), (1, 11), (4, 11), (7, 11), (1, 13), (4, 13), (7, 13), (1, 14)] ?_|refine gD 16 [(1, 4)] ?_|refine gD 19 [(1, 4), (4, 6), (4, 9), (1, 10)] ?_)) <;> (try (conv => whnf)))
    exact ⟨_, _, _, _, _, _, hB.mono (by decide), by assumption, by assumption, rfl⟩
  · have hs : sysOk P S W H = true := by
      rcases hR with h | ⟨⟨rfl, rfl⟩, rfl, rfl⟩
      · exact h
      · exact absurd rfl c0
    obtain ⟨hI, _, _, _⟩ := sysOk_facts hs
    have hN := hI.n
    have hsl := hI.s
    have hhl := hI.h
    have hwl : 1 ≤ W.length ∧ W.length ≤ 16 := by
      rw [hI.w]
      have := Nat.mul_le_mul hN.2 hN.2
      have := Nat.mul_le_mul hN.1 hN.1
      omega
    have hn : (if (1 : Int) < (P.length : Int) then (P.length : Int) else 1) = (P.length : Int) := by split <;> omega
    rw [hn] at q1
    have qb := fun k => ok_Below k b i1 h1' (P.length : Int) hb
    repeat' ((with_reducible (first | refine sCall.of (q1 _) ?_|refine sCall.cur (qb _) (fun _ _ _ _ _ _ _ => ?_)|refine st19 ?_|refine fG.split (fun _ => ?_) (fun _ => ?_)|refine fG.bool (fun _ => ?_) (fun _ => ?_)|refine gD 9 [(1, 9), (4, 9), (7, 9), (1, 11), (4, 11), (7, 11), (1, 13), (4, 13), (7, 13), (1, 15), (4, 15), (7, 15), (1, 16)] ?_|refine gD 12 [(1, 9), (4, 9), (7, 9), (1, 11), (4, 11), (7, 11), (1, 13), (4, 13), (7, 13), (1, 14)] ?_|refine gD 16 [(1, 4)] ?_|refine gD 19 [(1, 4), (4, 6), (4, 9), (1, 10)] ?_)) <;> (try (conv => whnf)))
    rename_i x i2 h2 x0 x1 e1 e2
    obtain ⟨p, rfl⟩ : ∃ n : Nat, x = (n : Int) := ⟨x.toNat, by omega⟩
    have hpP : p < P.length := by omega
    have f1 := (procF_of hs hpP).ok.regs
    have f2 := hB.hh p (by omega)
    have f3 : ∀ w : Int, 0 ≤ w → w ≤ (W.length : Int) - 1 → (rd W w.toNat).length ≤ 1048576 := fun w h0 h1 => hB.ww w.toNat (by omega)
    have qc := fun k => ok_Below k b i2 h2 25 hb
    have hM := hB.mono (show 1048576 ≤ 2000000 by decide)
    obtain ⟨m1, m2, m3, m4⟩ := hM.all
    repeat' ((with_reducible (first | refine sCall.cur (qc _) (fun _ _ _ _ _ _ _ => ?_)|refine st19 ?_|refine fG.split (fun _ => ?_) (fun _ => ?_)|refine fG.bool (fun _ => ?_) (fun _ => ?_)|refine gD 9 [(1, 9), (4, 9), (7, 9), (1, 11), (4, 11), (7, 11), (1, 13), (4, 13), (7, 13), (1, 15), (4, 15), (7, 15), (1, 16)] ?_|refine gD 12 [(1, 9), (4, 9), (7, 9), (1, 11), (4, 11), (7, 11), (1, 13), (4, 13), (7, 13), (1, 14)] ?_|refine gD 16 [(1, 4)] ?_|refine gD 19 [(1, 4), (4, 6), (4, 9), (1, 10)] ?_)) <;> (try (conv => whnf)))
    · exact dsys_mk (S := S.set p ⟨(rd S p).at_, (rd S p).regs.set 1 5, (rd S p).out, (rd S p).code⟩) (SysB.mk' ⟨⟨hM.p, by simp; exact hM.s⟩, hM.w, hM.h⟩ ⟨m1, all_set m2 (by have := m2 _ (rd_mem (l := S) (n := p) (by omega)); simpa using this), m3, m4⟩) rfl (by simp) rfl rfl (by assumption) (by assumption)
    · repeat' ((with_reducible (first | refine sCall.cur (ok_Below _ _ _ _ _ hb) (fun _ _ _ _ _ _ _ => ?_)|refine gHole ?_|refine st19 ?_|refine fG.split (fun _ => ?_) (fun _ => ?_)|refine fG.bool (fun _ => ?_) (fun _ => ?_)|refine gD 9 [(1, 9), (4, 9), (7, 9), (1, 11), (4, 11), (7, 11), (1, 13), (4, 13), (7, 13), (1, 15), (4, 15), (7, 15), (1, 16)] ?_|refine gD 12 [(1, 9), (4, 9), (7, 9), (1, 11), (4, 11), (7, 11), (1, 13), (4, 13), (7, 13), (1, 14)] ?_|refine gD 16 [(1, 4)] ?_|refine gD 19 [(1, 4), (4, 6), (4, 9), (1, 10)] ?_)) <;> (try (conv => whnf)))
      exact dsys_mk (SysB.mk' ⟨⟨hM.p, hM.s⟩, hM.w, by simp; exact hM.h⟩ ⟨m1, m2, m3, all_set m4 (by simp; omega)⟩) rfl rfl rfl (by simp) (by assumption) (by assumption)
    · repeat' ((with_reducible (first | refine sCall.cur (ok_Below _ _ _ _ _ hb) (fun _ _ _ _ _ _ _ => ?_)|refine st19 ?_|refine fG.split (fun _ => ?_) (fun _ => ?_)|refine fG.bool (fun _ => ?_) (fun _ => ?_)|refine gD 9 [(1, 9), (4, 9), (7, 9), (1, 11), (4, 11), (7, 11), (1, 13), (4, 13), (7, 13), (1, 15), (4, 15), (7, 15), (1, 16)] ?_|refine gD 12 [(1, 9), (4, 9), (7, 9), (1, 11), (4, 11), (7, 11), (1, 13), (4, 13), (7, 13), (1, 14)] ?_|refine gD 16 [(1, 4)] ?_|refine gD 19 [(1, 4), (4, 6), (4, 9), (1, 10)] ?_)) <;> (try (conv => whnf)))
      rename_i w i4 h4 w0 w1 e3 e4
      have f4 := f3 w w0 w1
      repeat' ((with_reducible (first | refine sCall.cur (ok_Below _ _ _ _ _ hb) (fun _ _ _ _ _ _ _ => ?_)|refine sCall.curB (ok_spec_l1Once _ _ _ _ _ hb) (fun _ _ _ _ _ => ?_)|refine gHole ?_|refine st19 ?_|refine fG.split (fun _ => ?_) (fun _ => ?_)|refine fG.bool (fun _ => ?_) (fun _ => ?_)|refine gD 9 [(1, 9), (4, 9), (7, 9), (1, 11), (4, 11), (7, 11), (1, 13), (4, 13), (7, 13), (1, 15), (4, 15), (7, 15), (1, 16)] ?_|refine gD 12 [(1, 9), (4, 9), (7, 9), (1, 11), (4, 11), (7, 11), (1, 13), (4, 13), (7, 13), (1, 14)] ?_|refine gD 16 [(1, 4)] ?_|refine gD 19 [(1, 4), (4, 6), (4, 9), (1, 10)] ?_)) <;> (try (conv => whnf)))
      exact dsys_mk (SysB.mk' ⟨⟨hM.p, hM.s⟩, by simp; omega, hM.h⟩ ⟨m1, m2, all_set m3 (by simp; omega), m4⟩) rfl rfl (by simp) rfl (by assumption) (by assumption)
    · exact dsys_mk (SysB.mk' ⟨⟨hM.p, hM.s⟩, by simp; omega, hM.h⟩ ⟨m1, m2, fun x hx => m3 x (List.mem_of_mem_drop (List.mem_of_mem_take hx)), m4⟩) rfl rfl (by simp) rfl (by assumption) (by assumption)
    · repeat' ((with_reducible (first | refine sCall.prog (ok_spec_l1DrawAny _ _ _ _ hb) (fun _ _ _ _ _ _ _ => ?_)|refine st19 ?_|refine fG.split (fun _ => ?_) (fun _ => ?_)|refine fG.bool (fun _ => ?_) (fun _ => ?_)|refine gD 9 [(1, 9), (4, 9), (7, 9), (1, 11), (4, 11), (7, 11), (1, 13), (4, 13), (7, 13), (1, 15), (4, 15), (7, 15), (1, 16)] ?_|refine gD 12 [(1, 9), (4, 9), (7, 9), (1, 11), (4, 11), (7, 11), (1, 13), (4, 13), (7, 13), (1, 14)] ?_|refine gD 16 [(1, 4)] ?_|refine gD 19 [(1, 4), (4, 6), (4, 9), (1, 10)] ?_)) <;> (try (conv => whnf)))
      exact dsys_mk (SysB.mk' ⟨⟨by simp; omega, hM.s⟩, hM.w, hM.h⟩ ⟨all_set m1 (by omega), m2, m3, m4⟩) (by simp) rfl rfl rfl (by assumption) (by assumption)
    · repeat' ((with_reducible (first | refine sCall.cur (ok_Below _ _ _ _ _ hb) (fun _ _ _ _ _ _ _ => ?_)|refine st19 ?_|refine fG.split (fun _ => ?_) (fun _ => ?_)|refine fG.bool (fun _ => ?_) (fun _ => ?_)|refine gD 9 [(1, 9), (4, 9), (7, 9), (1, 11), (4, 11), (7, 11), (1, 13), (4, 13), (7, 13), (1, 15), (4, 15), (7, 15), (1, 16)] ?_|refine gD 12 [(1, 9), (4, 9), (7, 9), (1, 11), (4, 11), (7, 11), (1, 13), (4, 13), (7, 13), (1, 14)] ?_|refine gD 16 [(1, 4)] ?_|refine gD 19 [(1, 4), (4, 6), (4, 9), (1, 10)] ?_)) <;> (try (conv => whnf)))
      rename_i w i4 h4 w0 w1 e3 e4
      have f4 := f3 w w0 w1
      repeat' ((with_reducible (first | refine gHole ?_|refine st19 ?_|refine fG.split (fun _ => ?_) (fun _ => ?_)|refine fG.bool (fun _ => ?_) (fun _ => ?_)|refine gD 9 [(1, 9), (4, 9), (7, 9), (1, 11), (4, 11), (7, 11), (1, 13), (4, 13), (7, 13), (1, 15), (4, 15), (7, 15), (1, 16)] ?_|refine gD 12 [(1, 9), (4, 9), (7, 9), (1, 11), (4, 11), (7, 11), (1, 13), (4, 13), (7, 13), (1, 14)] ?_|refine gD 16 [(1, 4)] ?_|refine gD 19 [(1, 4), (4, 6), (4, 9), (1, 10)] ?_)) <;> (try (conv => whnf)))
      exact dsys_mk (SysB.mk' ⟨⟨hM.p, hM.s⟩, by simp; omega, hM.h⟩ ⟨m1, m2, all_set m3 (by simp; omega), m4⟩) rfl rfl (by simp) rfl (by assumption) (by assumption)
    · exact dsys_mk hM rfl rfl rfl rfl (by assumption) (by assumption)

def DSys2 (r : Res) : Prop := ∃ (P : List (List Ins)) (S : List State) (W : List (List Item)) (H : List (List Event)) (p k : Int), SysB 2000000 P S W H ∧ r = ⟨.tu [nSys 0 P S W H, i64 p, i64 k], [tInsSS9 P, tStateS9 S, tItemSS9 W, tEventSS9 H], [none]⟩
def DSys1 (r : Res) : Prop := ∃ (P : List (List Ins)) (S : List State) (W : List (List Item)) (H : List (List Event)) (p : Int), SysB 2000000 P S W H ∧ r = ⟨.tu [nSys 0 P S W H, i64 p], [tInsSS9 P, tStateS9 S, tItemSS9 W, tEventSS9 H], [none]⟩
def DSys0 (r : Res) : Prop := ∃ (P : List (List Ins)) (S : List State) (W : List (List Item)) (H : List (List Event)), SysB 2000000 P S W H ∧ r = ⟨nSys 0 P S W H, [tInsSS9 P, tStateS9 S, tItemSS9 W, tEventSS9 H], [none]⟩
def DSysStop (r : Res) : Prop := ∃ (P : List (List Ins)) (S : List State) (W : List (List Item)) (H : List (List Event)) (p kind v : Int), SysB 2000000 P S W H ∧ r = ⟨.tu [nSys 0 P S W H, aStop p kind v], [tInsSS9 P, tStateS9 S, tItemSS9 W, tEventSS9 H], [none]⟩
theorem sCall.sys2 {x : Option Res} {F : Res → Prop} (e : Told x DSys2) (h : ∀ (P : List (List Ins)) (S : List State) (W : List (List Item)) (H : List (List Event)) (p k : Int), SysB 2000000 P S W H → F ⟨.tu [nSys 0 P S W H, i64 p, i64 k], [tInsSS9 P, tStateS9 S, tItemSS9 W, tEventSS9 H], [none]⟩) : sCall x F :=
  sCall.ex e fun r hr => by obtain ⟨P, S, W, H, p, k, h1, rfl⟩ := hr; exact h P S W H p k h1
theorem sCall.sys1 {x : Option Res} {F : Res → Prop} (e : Told x DSys1) (h : ∀ (P : List (List Ins)) (S : List State) (W : List (List Item)) (H : List (List Event)) (p : Int), SysB 2000000 P S W H → F ⟨.tu [nSys 0 P S W H, i64 p], [tInsSS9 P, tStateS9 S, tItemSS9 W, tEventSS9 H], [none]⟩) : sCall x F :=
  sCall.ex e fun r hr => by obtain ⟨P, S, W, H, p, h1, rfl⟩ := hr; exact h P S W H p h1
theorem sCall.sys0 {x : Option Res} {F : Res → Prop} (e : Told x DSys0) (h : ∀ (P : List (List Ins)) (S : List State) (W : List (List Item)) (H : List (List Event)), SysB 2000000 P S W H → F ⟨nSys 0 P S W H, [tInsSS9 P, tStateS9 S, tItemSS9 W, tEventSS9 H], [none]⟩) : sCall x F :=
  sCall.ex e fun r hr => by obtain ⟨P, S, W, H, h1, rfl⟩ := hr; exact h P S W H h1
theorem sCall.sysStop {x : Option Res} {F : Res → Prop} (e : Told x DSysStop) (h : ∀ (P : List (List Ins)) (S : List State) (W : List (List Item)) (H : List (List Event)) (p kind v : Int), SysB 2000000 P S W H → F ⟨.tu [nSys 0 P S W H, aStop p kind v], [tInsSS9 P, tStateS9 S, tItemSS9 W, tEventSS9 H], [none]⟩) : sCall x F :=
  sCall.ex e fun r hr => by obtain ⟨P, S, W, H, p, kind, v, h1, rfl⟩ := hr; exact h P S W H p kind v h1
set_option maxRecDepth 20000 in
set_option maxHeartbeats 4000000 in
theorem ok_spec_l9DrawAt (k : Nat) (b : List Int) (hb : Bytes b) : Told (callE PR C (k + 13) 117 [.h 1000000 0 0 [] 1 0 b.length] [tB b]) DSys2 := by
  have hbl := hb.len
  have z0 : (0 : Int) ≤ 0 := Int.le_refl 0
  have z1 : (0 : Int) ≤ b.length := by omega
  (refine callE_w [ResultVar.cell 2 36, ResultVar.tmp 3, ResultVar.tmp 4] rfl Tryz.func117 rfl (by decide +kernel) rfl (by simp) ?_; (conv => whnf))
  repeat' ((with_reducible (first | refine sCall.newCur (ok_spec_l1New _ b hb.len hb.num) (fun _ => ?_)|refine st19 ?_|refine fG.split (fun _ => ?_) (fun _ => ?_)|refine fG.bool (fun _ => ?_) (fun _ => ?_))) <;> (try (conv => whnf)))
  rename_i h
  repeat' ((with_reducible (first | refine sCall.dsys (ok_spec_l6Draw _ b 0 h hb z0 z1) (fun _ _ _ _ _ _ _ _ _ => ?_)|refine st19 ?_|refine fG.split (fun _ => ?_) (fun _ => ?_)|refine fG.bool (fun _ => ?_) (fun _ => ?_))) <;> (try (conv => whnf)))
  rename_i P S W H i1 h1 hB a1 a2
  have q1 := fun k => ok_spec_l1Max k (H.length : Int) 1
  have hh := hB.h
  have hn : 1 ≤ (if (1 : Int) < (H.length : Int) then (H.length : Int) else 1) ∧ (if (1 : Int) < (H.length : Int) then (H.length : Int) else 1) ≤ 2000000 := by split <;> omega
  generalize (if (1 : Int) < (H.length : Int) then (H.length : Int) else 1) = n at *
  have qb := fun k => ok_Below k b i1 h1 n hb
  repeat' ((with_reducible (first | refine sCall.of (q1 _) ?_|refine sCall.cur (qb _) (fun _ _ _ _ _ _ _ => ?_)|refine st19 ?_|refine fG.split (fun _ => ?_) (fun _ => ?_)|refine fG.bool (fun _ => ?_) (fun _ => ?_))) <;> (try (conv => whnf)))
  case' refine_1 =>
    rename_i x i2 h2 x0 x1 e1 e2 c1
    have f2 := hB.hh x.toNat (by omega)
    have e4 : (List.map rEvent (rd H x.toNat)).length = (rd H x.toNat).length := by simp
  all_goals repeat' ((with_reducible (first | refine sCall.cur (ok_Below _ _ _ _ _ hb) (fun _ _ _ _ _ _ _ => ?_)|refine sCall.pick (ok_PickInt _ _ _ _ _ hb) (fun _ _ _ _ _ _ => ?_)|refine st19 ?_|refine fG.split (fun _ => ?_) (fun _ => ?_)|refine fG.bool (fun _ => ?_) (fun _ => ?_))) <;> (try (conv => whnf)))
  all_goals exact ⟨_, _, _, _, _, _, hB, rfl⟩
theorem ok_spec_DrawUndone (k : Nat) (b : List Int) (hb : Bytes b) : Told (callE PR C (k + 14) 35 [.h 1000000 0 0 [] 1 0 b.length] [tB b]) DSys2 := by
  (refine callE_w [ResultVar.cell 2 36, ResultVar.tmp 3, ResultVar.tmp 4] rfl Tryz.func35 rfl (by decide +kernel) rfl (by simp) ?_; (conv => whnf))
  repeat' ((with_reducible (first | refine sCall.sys2 (ok_spec_l9DrawAt _ _ hb) (fun _ _ _ _ _ _ _ => ?_)|refine st19 ?_|refine fG.split (fun _ => ?_) (fun _ => ?_)|refine fG.bool (fun _ => ?_) (fun _ => ?_))) <;> (try (conv => whnf)))
  exact ⟨_, _, _, _, _, _, by assumption, rfl⟩
theorem ok_spec_DrawBack (k : Nat) (b : List Int) (hb : Bytes b) : Told (callE PR C (k + 14) 46 [.h 1000000 0 0 [] 1 0 b.length] [tB b]) DSys2 := by
  (refine callE_w [ResultVar.cell 2 36, ResultVar.tmp 3, ResultVar.tmp 4] rfl Tryz.func46 rfl (by decide +kernel) rfl (by simp) ?_; (conv => whnf))
  repeat' ((with_reducible (first | refine sCall.sys2 (ok_spec_l9DrawAt _ _ hb) (fun _ _ _ _ _ _ _ => ?_)|refine st19 ?_|refine fG.split (fun _ => ?_) (fun _ => ?_)|refine fG.bool (fun _ => ?_) (fun _ => ?_))) <;> (try (conv => whnf)))
  exact ⟨_, _, _, _, _, _, by assumption, rfl⟩
theorem ok_spec_DrawBackOne (k : Nat) (b : List Int) (hb : Bytes b) : Told (callE PR C (k + 14) 40 [.h 1000000 0 0 [] 1 0 b.length] [tB b]) DSys1 := by
  (refine callE_w [ResultVar.cell 2 36, ResultVar.tmp 3] rfl Tryz.func40 rfl (by decide +kernel) rfl (by simp) ?_; (conv => whnf))
  repeat' ((with_reducible (first | refine sCall.sys2 (ok_spec_l9DrawAt _ _ hb) (fun _ _ _ _ _ _ _ => ?_)|refine st19 ?_|refine fG.split (fun _ => ?_) (fun _ => ?_)|refine fG.bool (fun _ => ?_) (fun _ => ?_))) <;> (try (conv => whnf)))
  exact ⟨_, _, _, _, _, by assumption, rfl⟩
set_option maxRecDepth 20000 in
theorem ok_spec_DrawRow (k : Nat) (b : List Int) (hb : Bytes b) : Told (callE PR C (k + 13) 58 [.h 1000000 0 0 [] 1 0 b.length] [tB b]) DSys0 := by
  have hbl := hb.len
  have z0 : (0 : Int) ≤ 0 := Int.le_refl 0
  have z1 : (0 : Int) ≤ b.length := by omega
  (refine callE_w [ResultVar.cell 2 36] rfl Tryz.func58 rfl (by decide +kernel) rfl (by simp) ?_; (conv => whnf))
  repeat' ((with_reducible (first | refine sCall.newCur (ok_spec_l1New _ b hb.len hb.num) (fun _ => ?_)|refine st19 ?_|refine fG.split (fun _ => ?_) (fun _ => ?_)|refine fG.bool (fun _ => ?_) (fun _ => ?_))) <;> (try (conv => whnf)))
  rename_i h
  repeat' ((with_reducible (first | refine sCall.dsys (ok_spec_l6Draw _ b 0 h hb z0 z1) (fun _ _ _ _ _ _ _ _ _ => ?_)|refine st19 ?_|refine fG.split (fun _ => ?_) (fun _ => ?_)|refine fG.bool (fun _ => ?_) (fun _ => ?_))) <;> (try (conv => whnf)))
  exact ⟨_, _, _, _, by assumption, rfl⟩
def DStop (b : List Int) (r : Res) : Prop := ∃ p kind v i h : Int, 0 ≤ i ∧ i ≤ b.length ∧ r = ⟨aStop p kind v, [], [none, some (tCur b i h), none, none, none, none]⟩
theorem sCall.stop {x : Option Res} {b : List Int} {F : Res → Prop} (e : Told x (DStop b)) (h : ∀ p kind v i h : Int, 0 ≤ i → i ≤ b.length → F ⟨aStop p kind v, [], [none, some (tCur b i h), none, none, none, none]⟩) : sCall x F :=
  sCall.ex e fun r hr => by obtain ⟨p, kind, v, i, h', h1, h2, rfl⟩ := hr; exact h p kind v i h' h1 h2
set_option maxRecDepth 20000 in
theorem ok_spec_l12DrawStop (k : Nat) (b : List Int) (i h : Int) (P : List (List Ins)) (S : List State) (W : List (List Item)) (H : List (List Event)) (hb : Bytes b) (hB : SysB 2000000 P S W H) (h0 : 0 ≤ i := by assumption) (h1 : i ≤ b.length := by assumption) :
    Told (callE PR C (k + 4) 139 [.pt 1000001 0 0 [] 0 0, aSys 2 P S W H] [tB b, tCur b i h, tInsSS P, tStateS S, tItemSS W, tEventSS H]) (DStop b) := by
  have hbl := hb.len
  have hp := hB.p
  have q1 := fun k => ok_spec_l1Max k (P.length : Int) 1
  have hn : 1 ≤ (if (1 : Int) < (P.length : Int) then (P.length : Int) else 1) ∧ (if (1 : Int) < (P.length : Int) then (P.length : Int) else 1) ≤ 2000000 := by split <;> omega
  generalize (if (1 : Int) < (P.length : Int) then (P.length : Int) else 1) = n at *
  (refine callE_w [ResultVar.cell 4 55] rfl Tryz.func139 rfl (by decide +kernel) rfl (by simp) ?_; (conv => whnf))
  repeat' ((with_reducible (first | refine sCall.of (q1 _) ?_|refine sCall.cur (ok_Below _ _ _ _ _ hb) (fun _ _ _ _ _ _ _ => ?_)|refine sCall.pick (ok_PickInt _ _ _ _ _ hb) (fun _ _ _ _ _ _ => ?_)|refine st19 ?_|refine fG.split (fun _ => ?_) (fun _ => ?_)|refine fG.bool (fun _ => ?_) (fun _ => ?_))) <;> (try (conv => whnf)))
  all_goals exact ⟨_, _, _, _, _, by assumption, by assumption, rfl⟩
set_option maxRecDepth 20000 in
theorem ok_spec_l12Draw (k : Nat) (b : List Int) (hb : Bytes b) : Told (callE PR C (k + 13) 132 [.h 1000000 0 0 [] 1 0 b.length] [tB b]) DSysStop := by
  have hbl := hb.len
  have z0 : (0 : Int) ≤ 0 := Int.le_refl 0
  have z1 : (0 : Int) ≤ b.length := by omega
  (refine callE_w [ResultVar.cell 2 36, ResultVar.cell 3 55] rfl Tryz.func132 rfl (by decide +kernel) rfl (by simp) ?_; (conv => whnf))
  repeat' ((with_reducible (first | refine sCall.newCur (ok_spec_l1New _ b hb.len hb.num) (fun _ => ?_)|refine st19 ?_|refine fG.split (fun _ => ?_) (fun _ => ?_)|refine fG.bool (fun _ => ?_) (fun _ => ?_)|refine gD 3 [(0, 3)] ?_)) <;> (try (conv => whnf)))
  rename_i h
  repeat' ((with_reducible (first | refine sCall.dsys (ok_spec_l6Draw _ b 0 h hb z0 z1) (fun _ _ _ _ _ _ _ _ _ => ?_)|refine st19 ?_|refine fG.split (fun _ => ?_) (fun _ => ?_)|refine fG.bool (fun _ => ?_) (fun _ => ?_)|refine gD 3 [(0, 3)] ?_)) <;> (try (conv => whnf)))
  rename_i P S W H i1 h1 hB a1 a2
  repeat' ((with_reducible (first | refine sCall.stop (ok_spec_l12DrawStop _ _ _ _ _ _ _ _ hb hB) (fun _ _ _ _ _ _ _ => ?_)|refine st19 ?_|refine fG.split (fun _ => ?_) (fun _ => ?_)|refine fG.bool (fun _ => ?_) (fun _ => ?_)|refine gD 3 [(0, 3)] ?_)) <;> (try (conv => whnf)))
  exact ⟨_, _, _, _, _, _, _, hB, rfl⟩
theorem ok_spec_DrawLast (k : Nat) (b : List Int) (hb : Bytes b) : Told (callE PR C (k + 14) 49 [.h 1000000 0 0 [] 1 0 b.length] [tB b]) DSysStop := by
  (refine callE_w [ResultVar.cell 2 36, ResultVar.cell 3 55] rfl Tryz.func49 rfl (by decide +kernel) rfl (by simp) ?_; (conv => whnf))
  repeat' ((with_reducible (first | refine sCall.sysStop (ok_spec_l12Draw _ _ hb) (fun _ _ _ _ _ _ _ _ => ?_)|refine st19 ?_|refine fG.split (fun _ => ?_) (fun _ => ?_)|refine fG.bool (fun _ => ?_) (fun _ => ?_)|refine gD 2 [(1, 2)] ?_)) <;> (try (conv => whnf)))
  exact ⟨_, _, _, _, _, _, _, by assumption, rfl⟩

end Go.Proofs.YtldndahfnkbngaaGreat.Abs
namespace Go.Proofs.YtldndahfnkbngaaGreat.Abs
open Go Go.Proofs
set_option linter.unusedVariables false
set_option linter.unusedSimpArgs false
attribute [local irreducible] callE
theorem ok_laws_sameInts (k : Nat) (r s : List Int) (hr : r.length ≤ 100000000000) (hs : s.length ≤ 100000000000) : callE PR C (k + 1) 37 [.h 1000000 0 0 [] 1 0 r.length, .h 1000001 0 0 [] 1 0 s.length] [tI r, tI s] = some ⟨bl (decide (r = s)), [], [none, none]⟩ := by
  by_cases h : r.length = s.length
  · (refine fnI [ResultVar.tmp 4] Tryz.func37 ?_; conv => whnf)
    repeat' ((with_reducible (first | refine st19 ?_|refine fG.split (fun _ => ?_) (fun _ => ?_)|refine fG.bool (fun _ => ?_) (fun _ => ?_)|refine gDn 6 ?_)) <;> (try (conv => whnf)))
    refine loop_rule (ι := Nat) (fun j => [(0, .h 1000000 0 0 [] 1 0 r.length), (1, .h 1000001 0 0 [] 1 0 s.length), (5, i64 (j : Nat))])
      (fun x => [(1000000, ⟨0, 0, false, tI r⟩), (1000001, ⟨0, 0, false, tI s⟩)])
      (fun j => r.length - j) (fun j => j ≤ r.length ∧ r.take j = s.take j) 0 fitOk ⟨Nat.zero_le _, rfl⟩ (by simp [C]; omega) ?_
    rintro j sl ob ⟨hj, ht⟩
    (try dsimp only [cond_true, cond_false])
    (conv => whnf)
    by_cases hjl : j < r.length
    · by_cases e : rd r j = rd s j
      · repeat' ((with_reducible (first | refine st19 ?_|refine fG.split (fun _ => ?_) (fun _ => ?_)|refine fG.bool (fun _ => ?_) (fun _ => ?_)|refine gDn 6 ?_)) <;> (try (conv => whnf)))
        refine ⟨⟨j + 1, fitOk, ?_, ?_⟩⟩
        · exact ⟨by show j + 1 ≤ _; omega, take_next hjl (by omega) ht e⟩
        · show r.length - (j + 1) < r.length - j; omega
      · rw [decide_eq_false (fun hh : r = s => e (by rw [hh]))]
        repeat' ((with_reducible (first | refine st19 ?_|refine fG.split (fun _ => ?_) (fun _ => ?_)|refine fG.bool (fun _ => ?_) (fun _ => ?_)|refine gDn 6 ?_)) <;> (try (conv => whnf)))
    · have hjj : j = r.length := by omega
      rw [decide_eq_true (take_all_eq h (by rw [← hjj]; exact ht))]
      repeat' ((with_reducible (first | refine st19 ?_|refine fG.split (fun _ => ?_) (fun _ => ?_)|refine fG.bool (fun _ => ?_) (fun _ => ?_)|refine gDn 6 ?_)) <;> (try (conv => whnf)))
  · rw [decide_eq_false (fun hh : r = s => h (by rw [hh]))]
    (refine fnI [ResultVar.tmp 4] Tryz.func37 ?_; conv => whnf)
    repeat' ((with_reducible (first | refine st19 ?_|refine fG.split (fun _ => ?_) (fun _ => ?_)|refine fG.bool (fun _ => ?_) (fun _ => ?_)|refine gDn 6 ?_)) <;> (try (conv => whnf)))
theorem ok_laws_sameState (k : Nat) (a : Int) (r o : List Int) (c a2 : Int) (r2 o2 : List Int) (c2 : Int) (h1 : r.length ≤ 100000000000) (h2 : o.length ≤ 100000000000) (h3 : r2.length ≤ 100000000000) (h4 : o2.length ≤ 100000000000) :
    callE PR C (k + 2) 128 [aState 0 a r o c, aState 2 a2 r2 o2 c2] [tI r, tI o, tI r2, tI o2] = some ⟨bl (sameS a r o c a2 r2 o2 c2), [], [none, none, none, none]⟩ := by
  rw [sameS_eq]
  (refine fnI [ResultVar.tmp 4] Tryz.func128 ?_; conv => whnf)
  repeat' ((with_reducible (first | refine sCall.of (ok_laws_sameInts _ _ _ h1 h3) ?_|refine sCall.of (ok_laws_sameInts _ _ _ h2 h4) ?_|refine st19 ?_|refine fG.split (fun _ => ?_) (fun _ => ?_)|refine fG.bool (fun _ => ?_) (fun _ => ?_))) <;> (try (conv => whnf)))
  all_goals (simp [*]; done)
theorem ok_laws_big (k : Nat) (b : List Int) : callE PR C (k + 1) 34 [.h 1000000 0 0 [] 1 0 b.length] [tB b] = some ⟨bl (decide (1048576 < (b.length : Int))), [], [none]⟩ := by
  (refine fnI [ResultVar.tmp 2] Tryz.func34 ?_; conv => whnf)
  repeat' ((with_reducible (first | refine st19 ?_|refine fG.split (fun _ => ?_) (fun _ => ?_)|refine fG.bool (fun _ => ?_) (fun _ => ?_))) <;> (try (conv => whnf)))
  all_goals (try simp [*]; done)

theorem ok_laws_sameEvents (k : Nat) (l : List Event) (hl : l.length ≤ 100000000000) : callE PR C (k + 1) 127 [.h 1000000 0 0 [] 3 0 l.length, .h 1000001 0 0 [] 3 0 l.length] [tEvent l, tEvent l] = some ⟨bl true, [], [none, none]⟩ := by
  (refine fnI [ResultVar.tmp 4] Tryz.func127 ?_; conv => whnf)
  repeat' ((with_reducible (first | refine st19 ?_|refine fG.split (fun _ => ?_) (fun _ => ?_)|refine fG.bool (fun _ => ?_) (fun _ => ?_)|refine gDn 6 ?_)) <;> (try (conv => whnf)))
  refine loop_rule (ι := Nat) (fun j => [(0, .h 1000000 0 0 [] 3 0 l.length), (1, .h 1000001 0 0 [] 3 0 l.length), (5, i64 (j : Nat))])
    (fun x => [(1000000, ⟨0, 0, false, tEvent l⟩), (1000001, ⟨0, 0, false, tEvent l⟩)])
    (fun j => l.length - j) (fun j => j ≤ l.length) 0 fitOk (Nat.zero_le _) (by simp [C]; omega) ?_
  rintro j sl ob hj
  (try dsimp only [cond_true, cond_false])
  (conv => whnf)
  repeat' ((with_reducible (first | refine st19 ?_|refine fG.split (fun _ => ?_) (fun _ => ?_)|refine fG.bool (fun _ => ?_) (fun _ => ?_)|refine gDn 6 ?_)) <;> (try (conv => whnf)))
  case refine_1.refine_2 =>
    rename_i h
    exact absurd h (by simp)
  case' refine_1.refine_1 =>
    refine ⟨⟨j + 1, fitOk, ?_, ?_⟩⟩
    · show j + 1 ≤ _; omega
    · show l.length - (j + 1) < l.length - j; omega
set_option maxRecDepth 20000 in
theorem ok_laws_sameHist (k : Nat) (P P' : List (List Ins)) (S S' : List State) (W W' : List (List Item)) (H : List (List Event)) (hl : H.length ≤ 100000000000) (hh : ∀ j : Nat, j < H.length → (rd H j).length ≤ 100000000000) :
    callE PR C (k + 2) 44 [aSys 0 P S W H, aSys 4 P' S' W' H] [tInsSS P, tStateS S, tItemSS W, tEventSS H, tInsSS P', tStateS S', tItemSS W', tEventSS H] = some ⟨bl true, [], [none, none, none, none, none, none, none, none]⟩ := by
  (refine fnI [ResultVar.tmp 4] Tryz.func44 ?_; conv => whnf)
  repeat' ((with_reducible (first | refine st19 ?_|refine fG.split (fun _ => ?_) (fun _ => ?_)|refine fG.bool (fun _ => ?_) (fun _ => ?_)|refine gDn 6 ?_)) <;> (try (conv => whnf)))
  refine loop_rule (ι := Nat) (fun j => [(2, .pt 2 1 0 [] 0 0), (3, .pt 3 1 0 [] 0 0), (5, i64 (j : Nat))])
    (fun x => [(1000003, ⟨0, 0, false, tEventSS H⟩), (1000007, ⟨0, 0, false, tEventSS H⟩), (2, ⟨1, 0, false, bSys P S W H⟩), (3, ⟨1, 0, false, .box [.h 1000004 0 0 [] 1 0 P'.length, .h 1000005 0 0 [] 4 0 S'.length, .h 1000006 0 0 [] 1 0 W'.length, .h 1000007 0 0 [] 1 0 H.length]⟩)])
    (fun j => H.length - j) (fun j => j ≤ H.length) 0 fitOk (Nat.zero_le _) (by simp [C]; omega) ?_
  rintro j sl ob hj
  by_cases hjl : j < H.length
  · have q1 := fun k => ok_laws_sameEvents k (rd H j) (hh j hjl)
    (try dsimp only [cond_true, cond_false])
    (conv => whnf)
    repeat' ((with_reducible (first | refine sCall.of (q1 _) ?_|refine st19 ?_|refine fG.split (fun _ => ?_) (fun _ => ?_)|refine fG.bool (fun _ => ?_) (fun _ => ?_)|refine gDn 6 ?_)) <;> (try (conv => whnf)))
    refine ⟨⟨j + 1, fitOk, ?_, ?_⟩⟩
    · show j + 1 ≤ _; omega
    · show H.length - (j + 1) < H.length - j; omega
  · (try dsimp only [cond_true, cond_false])
    (conv => whnf)
    repeat' ((with_reducible (first | refine st19 ?_|refine fG.split (fun _ => ?_) (fun _ => ?_)|refine fG.bool (fun _ => ?_) (fun _ => ?_)|refine gDn 6 ?_)) <;> (try (conv => whnf)))
theorem sameS_self (a : Int) (r o : List Int) (c : Int) : sameS a r o c a r o c = true := decide_eq_true rfl
set_option maxRecDepth 20000 in
theorem ok_laws_sameStates (k : Nat) (P P' : List (List Ins)) (S : List State) (W W' : List (List Item)) (H H' : List (List Event)) (hl : S.length ≤ 100000000000) (hh : ∀ j : Nat, j < S.length → (rd S j).regs.length ≤ 100000000000 ∧ (rd S j).out.length ≤ 100000000000) :
    callE PR C (k + 3) 45 [aSys 0 P S W H, aSys 4 P' S W' H'] [tInsSS P, tStateS S, tItemSS W, tEventSS H, tInsSS P', tStateS S, tItemSS W', tEventSS H'] = some ⟨bl true, [], [none, none, none, none, none, none, none, none]⟩ := by
  (refine fnI [ResultVar.tmp 4] Tryz.func45 ?_; conv => whnf)
  repeat' ((with_reducible (first | refine st19 ?_|refine fG.split (fun _ => ?_) (fun _ => ?_)|refine fG.bool (fun _ => ?_) (fun _ => ?_)|refine gDn 6 ?_)) <;> (try (conv => whnf)))
  refine loop_rule (ι := Nat) (fun j => [(2, .pt 2 1 0 [] 0 0), (3, .pt 3 1 0 [] 0 0), (5, i64 (j : Nat))])
    (fun x => [(1000001, ⟨0, 0, false, tStateS S⟩), (1000005, ⟨0, 0, false, tStateS S⟩), (2, ⟨1, 0, false, bSys P S W H⟩), (3, ⟨1, 0, false, .box [.h 1000004 0 0 [] 1 0 P'.length, .h 1000005 0 0 [] 4 0 S.length, .h 1000006 0 0 [] 1 0 W'.length, .h 1000007 0 0 [] 1 0 H'.length]⟩)])
    (fun j => S.length - j) (fun j => j ≤ S.length) 0 fitOk (Nat.zero_le _) (by simp [C]; omega) ?_
  rintro j sl ob hj
  by_cases hjl : j < S.length
  · have hx := hh j hjl
    have q1 := fun k => ok_laws_sameState k (rd S j).at_ (rd S j).regs (rd S j).out (rd S j).code (rd S j).at_ (rd S j).regs (rd S j).out (rd S j).code hx.1 hx.2 hx.1 hx.2
    rw [sameS_self] at q1
    (try dsimp only [cond_true, cond_false])
    (conv => whnf)
    repeat' ((with_reducible (first | refine sCall.of (q1 _) ?_|refine st19 ?_|refine fG.split (fun _ => ?_) (fun _ => ?_)|refine fG.bool (fun _ => ?_) (fun _ => ?_)|refine gDn 6 ?_)) <;> (try (conv => whnf)))
    refine ⟨⟨j + 1, fitOk, ?_, ?_⟩⟩
    · show j + 1 ≤ _; omega
    · show S.length - (j + 1) < S.length - j; omega
  · (try dsimp only [cond_true, cond_false])
    (conv => whnf)
    repeat' ((with_reducible (first | refine st19 ?_|refine fG.split (fun _ => ?_) (fun _ => ?_)|refine fG.bool (fun _ => ?_) (fun _ => ?_)|refine gDn 6 ?_)) <;> (try (conv => whnf)))

theorem wholeB_lens {P : List (List Ins)} {S : List State} {W : List (List Item)} {H : List (List Event)} (h : sysOk P S W H = true) : wholeB H (lensOf H) = true := by
  have hs := (sysOk_facts h).2.2.1
  rw [wholeB_eq]
  intro a b ha hb
  simp only [tookC, sentC]
  rw [lensOf_rd hb, lensOf_rd ha, Int.toNat_natCast, Int.toNat_natCast, List.take_length, List.take_length]
  exact hs b a hb ha
theorem fok_lens (H : List (List Event)) : FOk H (lensOf H) := ⟨lensOf_len H, fun q hq => by rw [lensOf_rd hq]; omega⟩
theorem closeOf_whole {H : List (List Event)} {c : List Int} (hc : FOk H c) (hw : wholeB H c = true) : closeOf H c = c := closeOf_eq hc .refl hw
theorem rdH_ext {G H : List (List Event)} (hl : G.length = H.length) (h : ∀ q, q < G.length → rd G q = rd H q) : G = H := by
  apply List.ext_getElem hl
  intro i h1 h2
  have := h i h1
  simpa [rd, h1, h2] using this
theorem rdS_ext {G H : List State} (hl : G.length = H.length) (h : ∀ q, q < G.length → rd G q = rd H q) : G = H := by
  apply List.ext_getElem hl
  intro i h1 h2
  have := h i h1
  simpa [rd, h1, h2] using this
theorem cutH_lens (H : List (List Event)) : cutH H (lensOf H) = H := by
  refine rdH_ext (cutH_len _ _) fun q hq => ?_
  rw [cutH_len] at hq
  rw [rd_cutH hq, lensOf_rd hq, Int.toNat_natCast, List.take_length]
theorem lens_self {H : List (List Event)} {q : Nat} (hq : q < H.length) : (lensOf H).set q ((rd H q).length : Int) = lensOf H := by
  refine rd_ext (by simp) fun j hj => ?_
  rw [List.length_set, lensOf_len] at hj
  rw [rd_set _ (by rw [lensOf_len]; exact hq)]
  split
  · rename_i e; subst e; rw [lensOf_rd hj]
  · rfl
theorem backCut_self {P : List (List Ins)} {S : List State} {W : List (List Item)} {H : List (List Event)} (h : sysOk P S W H = true) {q : Nat} (hq : q < H.length) : backCutOf H (q : Int) ((rd H q).length : Int) = lensOf H := by
  unfold backCutOf
  rw [Int.toNat_natCast, lens_self hq]
  exact closeOf_whole (fok_lens H) (wholeB_lens h)
theorem stsOf_self {P : List (List Ins)} {S : List State} {W : List (List Item)} {H : List (List Event)} (h : sysOk P S W H = true) : stsOf P H = S := by
  have hI := (sysOk_facts h).1
  simp only [sysOk, Bool.and_eq_true, allBelow_eq] at h
  have h2 := h.2.2.1
  refine rdS_ext (by rw [stsOf_len, hI.s]) fun q hq => ?_
  rw [stsOf_len] at hq
  rw [stsOf_rd hq]
  have h3 := h2 q hq
  simp only [procOk, stoodAs, Bool.and_eq_true, decide_eq_true_eq] at h3
  exact h3.2.2.2
theorem left_numbers {P : List (List Ins)} {S : List State} {W : List (List Item)} {H : List (List Event)} (h : sysOk P S W H = true) {a b : Nat} (ha : a < P.length) (hb : b < P.length) : leftOf H a b = numbersOf (rd W (a * P.length + b)) := by
  simp only [sysOk, Bool.and_eq_true, allBelow_eq] at h
  have h3 := h.2.2.2.1 a ha b hb
  simp only [fits, decide_eq_true_eq] at h3
  unfold leftOf
  rw [← h3, List.drop_left]
theorem waysFit_self {P : List (List Ins)} {S : List State} {W : List (List Item)} {H : List (List Event)} (h : sysOk P S W H = true) : waysFit H P.length = true := by
  unfold waysFit
  simp only [allBelow_eq, decide_eq_true_eq]
  intro a ha b hb
  rw [left_numbers h ha hb]
  have hI := (sysOk_facts h).1
  simp only [sysOk, Bool.and_eq_true] at h
  have hw := h.2.1
  have hp := place_lt ha hb
  have h1 : rd W (a * P.length + b) ∈ W := rd_mem (by rw [hI.w]; exact hp)
  have h2 := List.all_eq_true.1 hw _ h1
  simp only [wayOk, Bool.and_eq_true, decide_eq_true_eq] at h2
  have h3 : (numbersOf (rd W (a * P.length + b))).length ≤ (rd W (a * P.length + b)).length := by
    unfold numbersOf
    rw [List.length_map]
    exact List.length_filter_le _ _
  omega
theorem back_self {P : List (List Ins)} {S : List State} {W : List (List Item)} {H : List (List Event)} (h : sysOk P S W H = true) {q : Nat} (hq : q < H.length) :
    backIs P S W H (q : Int) ((rd H q).length : Int) = (⟨P, S, waysOf H P.length, H⟩, 0) := by
  have hc : hasCut H (q : Int) ((rd H q).length : Int) = true := by
    simp only [hasCut, Bool.and_eq_true, decide_eq_true_eq, Int.toNat_natCast]
    omega
  unfold backIs
  rw [if_pos h, if_pos hc, backCut_self h hq, cutH_lens, if_pos (waysFit_self h)]
  simp only [atSys, stsOf_self h]
theorem Reach.whole {H : List (List Event)} {f : List Int} {n : Nat} (h : Reach H f n) (hP : PeersIn H) : wholeB H f = true := by
  rw [wholeB_eq]
  induction h with
  | zero => intro a b ha hb; simp only [tookC, rd_zero, Int.toNat_zero, List.take_zero]; simp [cnt, vals]
  | @step f n p h hp hc ih =>
    intro a b ha hb
    have hf := h.fok
    have hlt := can_lt hf hp hc
    have h0 := (hf.rng p hp).1
    have h1 := ih a b ha hb
    have hs : sentC H f a b ≤ sentC H (goOn f p) a b := by
      unfold sentC
      apply cnt_take
      rw [rd_goOn (by rw [hf.len]; exact hp)]
      split
      · rename_i e; subst e; omega
      · exact Nat.le_refl _
    by_cases hbp : b = p
    · subst hbp
      have ht : tookC H (goOn f b) a b = tookC H f a b + (if isEv 3 a (rd (rd H b) (rd f b).toNat) = true then 1 else 0) := by
        unfold tookC
        rw [rd_goOn (by rw [hf.len]; exact hp), if_pos rfl, show (rd f b + 1).toNat = (rd f b).toNat + 1 by omega]
        simp only [cnt]
        rw [vals_snoc _ _ _ (by omega)]
        split <;> simp
      by_cases he : isEv 3 a (rd (rd H b) (rd f b).toNat) = true
      · rw [if_pos he] at ht
        simp only [isEv, Bool.and_eq_true, decide_eq_true_eq] at he
        simp only [canCome, Bool.and_eq_true, Bool.not_eq_true', Bool.and_eq_false_iff, decide_eq_true_eq, decide_eq_false_iff_not] at hc
        rcases hc.2 with h4 | h4
        · exact absurd he.1 h4
        · rw [he.2, Int.toNat_natCast] at h4
          unfold tookC at ht h1
          unfold sentC at hs h1
          unfold tookC sentC
          omega
      · rw [if_neg he] at ht
        omega
    · have ht : tookC H (goOn f p) a b = tookC H f a b := by
        unfold tookC
        rw [rd_goOn (by rw [hf.len]; exact hp), if_neg hbp]
      omega
theorem Reach.between {H : List (List Event)} {g : List Int} {n : Nat} (h : Reach H g n) (p : Nat) : ∀ j : Int, 0 ≤ j → j ≤ rd g p → ∃ f m, Reach H f m ∧ rd f p = j := by
  induction h with
  | zero => intro j h0 h1; rw [rd_zero] at h1; exact ⟨_, _, .zero, by rw [rd_zero]; omega⟩
  | @step f n q h hq hc ih =>
    intro j h0 h1
    by_cases h2 : j ≤ rd f p
    · exact ih j h0 h2
    · have hf := h.fok
      rw [rd_goOn (by rw [hf.len]; exact hq)] at h1
      split at h1
      · rename_i e
        subst e
        exact ⟨_, _, h.step hq hc, by rw [rd_goOn (by rw [hf.len]; exact hq), if_pos rfl]; omega⟩
      · omega
theorem row_all {H : List (List Event)} (hr : inRow H = true) : ∃ g, Reach H g (allEv H) ∧ ∀ q, q < H.length → rd g q = ((rd H q).length : Int) := by
  simp only [inRow, decide_eq_true_eq] at hr
  obtain ⟨g, k, h1, h2, h3⟩ := greedy_reach (H := H) (allEv H) .zero (by omega)
  have e1 : k = allEv H := by unfold rowOf at hr; omega
  subst e1
  exact ⟨g, h1, (sum_le H g h1.fok.len fun q hq => (h1.fok.rng q hq).2).2 h1.sum⟩
theorem back_at {P : List (List Ins)} {S : List State} {W : List (List Item)} {H : List (List Event)} (h : sysOk P S W H = true) {p i : Int} (hc : hasCut H p i = true) : rd (backCutOf H p i) p.toNat = i := by
  have hP := (sysOk_facts h).2.1
  have hr : inRow H = true := by simp only [sysOk, Bool.and_eq_true] at h; exact h.2.2.2.2
  obtain ⟨g, hg, hall⟩ := row_all hr
  have hf := fok_back hc
  have hc' := hc
  simp only [hasCut, Bool.and_eq_true, decide_eq_true_eq] at hc'
  obtain ⟨f, m, h1, h2⟩ := hg.between p.toNat i (by omega) (by rw [hall _ (by omega)]; omega)
  have h3 := closeOf_is hf
  have h4 := h3.1.under hf p.toNat (by omega)
  have h5 := h3.1.above hf h1.fok (h1.whole hP) (fun q hq => by
    rw [rd_set _ (by rw [lensOf_len]; omega)]
    have := (h1.fok.rng q hq).2
    split
    · rename_i e; subst e; omega
    · rw [lensOf_rd hq]; exact this) p.toNat (by omega)
  rw [rd_set _ (by rw [lensOf_len]; omega), if_pos rfl] at h4
  show rd (closeOf H _) p.toNat = i
  omega
theorem cut_whole {H : List (List Event)} {c d : List Int} (hc : FOk H c) (hd : ∀ q, q < H.length → rd d q ≤ rd c q) : wholeB (cutH H c) d = wholeB H d := by
  have e : ∀ q, q < H.length → (rd (cutH H c) q).take (rd d q).toNat = (rd H q).take (rd d q).toNat := fun q hq => by
    have := hd q hq
    rw [rd_cutH hq, List.take_take, Nat.min_eq_left (by omega)]
  rw [Bool.eq_iff_iff, wholeB_eq, wholeB_eq, cutH_len]
  constructor
  · intro h a b ha hb
    have := h a b ha hb
    simp only [tookC, sentC, e a ha, e b hb] at this ⊢
    exact this
  · intro h a b ha hb
    have := h a b ha hb
    simp only [tookC, sentC, e a ha, e b hb] at this ⊢
    exact this
theorem cut_cut {H : List (List Event)} {c d : List Int} (hd : ∀ q, q < H.length → rd d q ≤ rd c q) : cutH (cutH H c) d = cutH H d := by
  refine rdH_ext (by simp only [cutH_len]) fun q hq => ?_
  rw [cutH_len, cutH_len] at hq
  have := hd q hq
  rw [rd_cutH (by rw [cutH_len]; exact hq), rd_cutH hq, rd_cutH hq, List.take_take, Nat.min_eq_left (by omega)]
theorem cut_len {H : List (List Event)} {c : List Int} (hc : FOk H c) {q : Nat} (hq : q < H.length) : ((rd (cutH H c) q).length : Int) = rd c q := by
  have := hc.rng q hq
  rw [rd_cutH hq, List.length_take]
  omega
theorem back_back {H : List (List Event)} {p k j : Int} (hk : hasCut H p k = true) (hj : hasCut H p j = true) (hle : j ≤ k) (hjt : hasCut (cutH H (backCutOf H p k)) p j = true) :
    cutH (cutH H (backCutOf H p k)) (backCutOf (cutH H (backCutOf H p k)) p j) = cutH H (backCutOf H p j) := by
  have fk := fok_back hk
  have fj := fok_back hj
  have ft := fok_back hjt
  obtain ⟨c1, c2⟩ := closeOf_is fk
  obtain ⟨d1, d2⟩ := closeOf_is fj
  have hjt' := hjt
  have hk' := hk
  simp only [hasCut, Bool.and_eq_true, decide_eq_true_eq, cutH_len] at hjt' hk'
  have hp : p.toNat < (lensOf H).length := by rw [lensOf_len]; omega
  have fc := c1.fok fk
  have fd := d1.fok fj
  have hu := c1.under fk
  have hv := d1.under fj
  change FOk H (backCutOf H p k) at fc
  change wholeB H (backCutOf H p k) = true at c2
  change FOk H (backCutOf H p j) at fd
  change wholeB H (backCutOf H p j) = true at d2
  change ∀ q, q < H.length → rd (backCutOf H p k) q ≤ _ at hu
  change ∀ q, q < H.length → rd (backCutOf H p j) q ≤ _ at hv
  have hdc : ∀ q, q < H.length → rd (backCutOf H p j) q ≤ rd (backCutOf H p k) q := c1.above fk fd d2 fun q hq => by
    have h1 := hv q hq
    rw [rd_set _ hp] at h1 ⊢
    split
    · rename_i e; rw [if_pos e] at h1; omega
    · rename_i e; rw [if_neg e] at h1; exact h1
  generalize hd : backCutOf H p j = d at *
  generalize hc : backCutOf H p k = c at *
  have hp' : p.toNat < (lensOf (cutH H c)).length := by rw [lensOf_len, cutH_len]; rw [lensOf_len] at hp; exact hp
  have fd' : FOk (cutH H c) d := ⟨by rw [cutH_len, fd.len], fun q hq => by
    rw [cutH_len] at hq
    rw [cut_len fc hq]
    exact ⟨(fd.rng q hq).1, hdc q hq⟩⟩
  obtain ⟨e1, e2⟩ := closeOf_is ft
  have fe := e1.fok ft
  have hw := e1.under ft
  have h1 := e1.above ft fd' (by rw [cut_whole fc hdc]; exact d2) fun q hq => by
    rw [cutH_len] at hq
    rw [rd_set _ hp']
    have h1 := hv q hq
    rw [rd_set _ hp] at h1
    split
    · rename_i e; rw [if_pos e] at h1; exact h1
    · rw [lensOf_rd (by rw [cutH_len]; exact hq), cut_len fc hq]; exact hdc q hq
  have hec : ∀ q, q < H.length → rd (closeOf (cutH H c) ((lensOf (cutH H c)).set p.toNat j)) q ≤ rd c q := fun q hq => by
    have := (fe.rng q (by rw [cutH_len]; exact hq)).2
    rwa [cut_len fc hq] at this
  have fe' : FOk H (closeOf (cutH H c) ((lensOf (cutH H c)).set p.toNat j)) := ⟨by rw [fe.len, cutH_len], fun q hq => by
    have h2 := (fe.rng q (by rw [cutH_len]; exact hq)).1
    have h3 := hec q hq
    have h4 := (fc.rng q hq).2
    omega⟩
  have h2 := d1.above fj fe' (by rw [← cut_whole fc hec]; exact e2) fun q hq => by
    rw [rd_set _ hp]
    have h3 := hw q (by rw [cutH_len]; exact hq)
    rw [rd_set _ hp'] at h3
    split
    · rename_i e; rw [if_pos e] at h3; exact h3
    · rw [lensOf_rd hq]
      have h4 := hec q hq
      have h5 := (fc.rng q hq).2
      omega
  have e : backCutOf (cutH H c) p j = d := by
    unfold backCutOf
    refine rd_ext (by rw [fe.len, cutH_len, fd.len]) fun q hq => ?_
    rw [fe.len, cutH_len] at hq
    have h3 := h1 q (by rw [cutH_len]; exact hq)
    have h4 := h2 q hq
    change rd (closeOf H ((lensOf H).set p.toNat j)) q ≥ _ at h4
    rw [show closeOf H ((lensOf H).set p.toNat j) = d from hd] at h4
    omega
  rw [e]
  exact cut_cut hdc
theorem back_code {P : List (List Ins)} {S : List State} {W : List (List Item)} {H : List (List Event)} (hs : sysOk P S W H = true) {p i : Int} (hc : hasCut H p i = true) :
    ((backIs P S W H p i).2 = 0 ∧ backIs P S W H p i = (atSys P (cutH H (backCutOf H p i)), 0) ∧ sysOk P (stsOf P (cutH H (backCutOf H p i))) (waysOf (cutH H (backCutOf H p i)) P.length) (cutH H (backCutOf H p i)) = true) ∨ ((backIs P S W H p i).2 = 3 ∧ backIs P S W H p i = (⟨P, S, W, H⟩, 3)) := by
  unfold backIs
  rw [if_pos hs, if_pos hc]
  by_cases c : waysFit (cutH H (backCutOf H p i)) P.length = true
  · left
    rw [if_pos c]
    refine ⟨rfl, rfl, ?_⟩
    rw [cut_sysOk hs (backCut_is hc).1 (backCut_is hc).2]
    exact c
  · right
    rw [if_neg c]
    exact ⟨rfl, rfl⟩
theorem back_none {P : List (List Ins)} {S : List State} {W : List (List Item)} {H : List (List Event)} {p i : Int} (h : (backIs P S W H p i).2 = 0) : sysOk P S W H = true ∧ hasCut H p i = true := by
  unfold backIs at h
  split at h
  · rename_i e
    split at h
    · rename_i e2; exact ⟨e, e2⟩
    · exact absurd h (by show ¬ (2 : Int) = 0; decide)
  · exact absurd h (by show ¬ (1 : Int) = 0; decide)
theorem back_row {P : List (List Ins)} {S : List State} {W : List (List Item)} {H : List (List Event)} (hs : sysOk P S W H = true) {p i : Int} (hc : hasCut H p i = true) : rd (cutH H (backCutOf H p i)) p.toNat = (rd H p.toNat).take i.toNat := by
  have hc' := hc
  simp only [hasCut, Bool.and_eq_true, decide_eq_true_eq] at hc'
  rw [rd_cutH (by omega), back_at hs hc]

theorem lastIs_of {f : Nat → Bool} : ∀ {n : Nat}, 0 ≤ lastIs f n → f (lastIs f n).toNat = true ∧ lastIs f n ≤ (n : Int)
  | 0, h => by
    by_cases c : f 0 = true
    · rw [lastIs_yes c]; exact ⟨c, Int.le_refl _⟩
    · rw [lastIs_none (by simpa using c)] at h; exact absurd h (by decide)
  | n + 1, h => by
    by_cases c : f (n + 1) = true
    · rw [lastIs_yes c, Int.toNat_natCast]; exact ⟨c, Int.le_refl _⟩
    · rw [lastIs_no (by simpa using c)] at h ⊢
      have := lastIs_of h
      exact ⟨this.1, by omega⟩
theorem lastIs_end {f : Nat → Bool} {n : Nat} (h : lastIs f n = (n : Int)) : f n = true := by
  have := (lastIs_of (f := f) (n := n) (by omega)).1
  rwa [h, Int.toNat_natCast] at this
theorem held_end {P : List (List Ins)} {S : List State} {W : List (List Item)} {H : List (List Event)} {p kind v : Int} (h : stopOk P S W H p kind = true) :
    heldAt (rd P p.toNat) (rd H p.toNat) kind v (rd H p.toNat).length = stopHolds P S W H p kind v := by
  obtain ⟨hI, h0, h1⟩ := stopOk_facts h
  have hs : sysOk P S W H = true := by simp only [stopOk, Bool.and_eq_true] at h; exact h.1
  unfold stopHolds
  rw [h, Bool.true_and]
  unfold heldAt
  rw [List.take_length, ← stsOf_rd h1, stsOf_self hs]
theorem last_no {P : List (List Ins)} {S : List State} {W : List (List Item)} {H : List (List Event)} {p kind v : Int} (h : lastMo P S W H p kind v < 0) : stopHolds P S W H p kind v = false := by
  unfold lastMo at h
  cases e : stopOk P S W H p kind with
  | false => unfold stopHolds; rw [e, Bool.false_and]
  | true =>
    rw [if_pos e] at h
    rw [← held_end e]
    apply Bool.eq_false_iff.2
    intro c
    rw [lastIs_yes c] at h
    omega
theorem last_yes {P : List (List Ins)} {S : List State} {W : List (List Item)} {H : List (List Event)} {p kind v : Int} (h : 0 ≤ lastMo P S W H p kind v) :
    (sysOk P S W H = true ∧ hasCut H p (lastMo P S W H p kind v) = true) ∧ stopHolds P S W H p kind v = decide (lastMo P S W H p kind v = ((rd H p.toNat).length : Int)) ∧
    ((backIs P S W H p (lastMo P S W H p kind v)).2 = 0 → stopHolds (backIs P S W H p (lastMo P S W H p kind v)).1.progs (backIs P S W H p (lastMo P S W H p kind v)).1.states (backIs P S W H p (lastMo P S W H p kind v)).1.ways (backIs P S W H p (lastMo P S W H p kind v)).1.hist p kind v = true) := by
  have h' := h
  unfold lastMo at h
  cases e : stopOk P S W H p kind with
  | false => rw [e, if_neg (by simp)] at h; exact absurd h (by decide)
  | true =>
    rw [if_pos e] at h
    have hm : lastMo P S W H p kind v = lastIs (heldAt (rd P p.toNat) (rd H p.toNat) kind v) (rd H p.toNat).length := by unfold lastMo; rw [if_pos e]
    obtain ⟨h1, h2⟩ := lastIs_of h
    obtain ⟨hI, hp0, hp1⟩ := stopOk_facts e
    have hs : sysOk P S W H = true := by
      have := e
      simp only [stopOk, Bool.and_eq_true] at this; exact this.1
    rw [← hm] at h1 h2
    have hc : hasCut H p (lastMo P S W H p kind v) = true := by
      have := hI.h
      simp only [hasCut, Bool.and_eq_true, decide_eq_true_eq]
      omega
    refine ⟨⟨hs, hc⟩, ?_, fun hb => ?_⟩
    · rw [← held_end e]
      rw [Bool.eq_iff_iff, decide_eq_true_eq]
      constructor
      · intro c; rw [hm, lastIs_yes c]
      · intro c; rw [hm] at c; exact lastIs_end c
    · rcases back_code hs hc with ⟨_, hb2, hb3⟩ | ⟨hb2, _⟩
      · rw [hb2]
        generalize lastMo P S W H p kind v = k at *
        show stopHolds P (stsOf P (cutH H (backCutOf H p k))) (waysOf (cutH H (backCutOf H p k)) P.length) (cutH H (backCutOf H p k)) p kind v = true
        unfold stopHolds
        have e2 : stopOk P (stsOf P (cutH H (backCutOf H p k))) (waysOf (cutH H (backCutOf H p k)) P.length) (cutH H (backCutOf H p k)) p kind = true := by
          simp only [stopOk, Bool.and_eq_true] at e ⊢
          exact ⟨hb3, e.2⟩
        rw [e2, Bool.true_and, stsOf_rd hp1, back_row hs hc]
        exact h1
      · omega

structure AtCut (P : List (List Ins)) (H : List (List Event)) (g : List Int) (X : Sys) : Prop where
  ok : sysOk X.progs X.states X.ways X.hist = true
  p : X.progs = P
  h : X.hist = cutH H g
theorem greedy_row {H : List (List Event)} : ∀ (m : Nat) {f : List Int}, f.length = H.length → rowGo H (greedy H m f) f = true
  | 0, f, hf => by simp [greedy, rowGo]
  | m + 1, f, hf => by
    rw [greedy]
    split
    · simp [rowGo]
    · rename_i p hp
      have h1 := List.find?_range_eq_some.1 hp
      have h2 := List.mem_range.1 h1.2.1
      rw [rowGo]
      simp only [whoOk, inB, Int.toNat_natCast, h1.1, Bool.and_true, Bool.and_eq_true, decide_eq_true_eq]
      exact ⟨⟨by omega, trivial⟩, greedy_row m (by simp [goOn, hf])⟩
theorem row_ok {P : List (List Ins)} {S : List State} {W : List (List Item)} {H : List (List Event)} (hs : sysOk P S W H = true) : rowOkB P S W H (rowOf H) = true := by
  have hr : inRow H = true := by
    have h := hs
    simp only [sysOk, Bool.and_eq_true] at h
    exact h.2.2.2.2
  simp only [rowOkB, hs, Bool.true_and, Bool.and_eq_true]
  exact ⟨hr, greedy_row (allEv H) (by simp)⟩
theorem allEv_few : ∀ (H : List (List Event)), (∀ q, q < H.length → (rd H q).length ≤ 200) → allEv H ≤ 200 * H.length
  | [], _ => by simp [allEv]
  | h :: H, hh => by
    have h1 := allEv_few H fun q hq => hh (q + 1) (by simp; omega)
    have h0 := hh 0 (by simp)
    have e0 : rd (h :: H) 0 = h := rfl
    rw [e0] at h0
    simp only [allEv, List.map_cons, List.sum_cons, List.length_cons] at h1 ⊢
    omega

end Go.Proofs.YtldndahfnkbngaaGreat.Abs
namespace Go.Proofs.YtldndahfnkbngaaGreat.Abs
open Go Go.Proofs
set_option linter.unusedVariables false
set_option linter.unusedSimpArgs false
attribute [local irreducible] callE
theorem undone_yes {P : List (List Ins)} {S : List State} {W : List (List Item)} {H : List (List Event)} {p i : Int} (h : (backIs P S W H p i).2 = 0) : (undoneIs P S W H p i).length = H.length ∧ ∀ q, q < H.length → rd (undoneIs P S W H p i) q = ((rd H q).length : Int) - ((rd (backIs P S W H p i).1.hist q).length : Int) := by
  unfold undoneIs
  rw [if_pos h]
  exact ⟨by simp, fun q hq => rd_range _ hq⟩
set_option maxRecDepth 20000 in
set_option maxHeartbeats 8000000 in
theorem ok_laws_FnUndone (k : Nat) (b : List Int) (hl : b.length ≤ 140737488355328) (hv : ∀ v ∈ b, 0 ≤ v ∧ v < 256) :
    callE PR C (k + 30) 5 [.h 1000000 0 0 [] 1 0 b.length] [tB b] = some ⟨bl true, [], [none]⟩ := by
  have q0 := fun k => ok_laws_big k b
  by_cases c0 : 1048576 < (b.length : Int)
  · rw [decide_eq_true c0] at q0
    (refine fnI [ResultVar.tmp 2] Tryz.func5 ?_; conv => whnf)
    repeat' ((with_reducible (first | refine sCall.of (q0 _) ?_|refine st19 ?_|refine fG.split (fun _ => ?_) (fun _ => ?_)|refine fG.bool (fun _ => ?_) (fun _ => ?_)|refine gDn 13 ?_)) <;> (try (conv => whnf)))
  · rw [decide_eq_false c0] at q0
    have hb : Bytes b := ⟨by omega, hv⟩
    (refine fnI [ResultVar.tmp 2] Tryz.func5 ?_; conv => whnf)
    repeat' ((with_reducible (first | refine sCall.of (q0 _) ?_|refine sCall.sys2 (ok_spec_DrawUndone _ _ hb) (fun _ _ _ _ _ _ _ => ?_)|refine st19 ?_|refine fG.split (fun _ => ?_) (fun _ => ?_)|refine fG.bool (fun _ => ?_) (fun _ => ?_)|refine gDn 13 ?_)) <;> (try (conv => whnf)))
    rename_i P S W H p i hB
    have q1 := fun k => ok_impl_Undone k P S W H p i (hB.mono (by decide))
    have q2 := fun k => ok_spec_Undone k P S W H p i (hB.mono (by decide))
    have q3 := fun k => ok_impl_Back k P S W H p i (hB.mono (by decide))
    have hul := undoneIs_len P S W H p i
    have hh := hB.h
    have q4 := fun k => ok_laws_sameInts k (undoneIs P S W H p i) (undoneIs P S W H p i) (by omega) (by omega)
    rw [decide_eq_true rfl] at q4
    by_cases c1 : (backIs P S W H p i).2 = 0
    · obtain ⟨u1, u2⟩ := undone_yes c1
      obtain ⟨u3, u4, u5⟩ := back_hist c1
      generalize undoneIs P S W H p i = U at *
      generalize backIs P S W H p i = X at *
      obtain ⟨⟨P', S', W', H'⟩, n⟩ := X
      simp only [sysRes] at q3
      dsimp only at c1 u2 u3 u4
      subst c1
      repeat' ((with_reducible (first | refine sCall.of (q1 _) ?_|refine sCall.of (q2 _) ?_|refine sCall.of (q3 _) ?_|refine sCall.of (q4 _) ?_|refine st19 ?_|refine fG.split (fun _ => ?_) (fun _ => ?_)|refine fG.bool (fun _ => ?_) (fun _ => ?_)|refine gDn 13 ?_)) <;> (try (conv => whnf)))
      refine loop_rule (ι := Nat) (fun j => [(3, .pt 3 1 0 [] 0 0), (6, .h 10021 1 0 [] 1 0 U.length), (7, .pt 7 1 0 [] 0 0), (9, i64 (j : Nat))])
        (fun _ => [(3, ⟨1, 0, true, .box [.h 10014 1 0 [] 1 0 P.length, .h 20014 1 0 [] 4 0 S.length, .h 30014 1 0 [] 1 0 W.length, .h 40014 1 0 [] 1 0 H.length]⟩), (40014, ⟨1, 0, false, tEventSS9 H⟩), (10021, ⟨1, 0, false, tI9 U⟩),
          (7, ⟨1, 0, true, .box [.h 10033 1 0 [] 1 0 P'.length, .h 20033 1 0 [] 4 0 S'.length, .h 30033 1 0 [] 1 0 W'.length, .h 40033 1 0 [] 1 0 H'.length]⟩), (40033, ⟨1, 0, false, tEventSS9 H'⟩)])
        (fun j => U.length - j) (fun j => j ≤ U.length) 0 fitOk (Nat.zero_le _) (by simp [C]; omega) ?_
      rintro j sl ob hj
      by_cases hjl : j < U.length
      · have v1 := u2 j (by omega)
        have v2 := u4 j (by omega)
        have v3 := u5 j (by omega)
        have e3 : (List.map rEvent (rd H j)).length = (rd H j).length := by simp
        have e4 : (List.map rEvent (rd H' j)).length = (rd H' j).length := by simp
        (try dsimp only [cond_true, cond_false])
        (conv => whnf)
        repeat' ((with_reducible (first | refine st19 ?_|refine fG.split (fun _ => ?_) (fun _ => ?_)|refine fG.bool (fun _ => ?_) (fun _ => ?_)|refine gDn 13 ?_)) <;> (try (conv => whnf)))
        all_goals
          refine ⟨⟨j + 1, fitOk, ?_, ?_⟩⟩
          · show j + 1 ≤ _; omega
          · show U.length - (j + 1) < U.length - j; omega
      · (try dsimp only [cond_true, cond_false])
        (conv => whnf)
        repeat' ((with_reducible (first | refine st19 ?_|refine fG.split (fun _ => ?_) (fun _ => ?_)|refine fG.bool (fun _ => ?_) (fun _ => ?_)|refine gDn 13 ?_)) <;> (try (conv => whnf)))
        rw [decide_eq_true (by omega)]
    · have u1 : undoneIs P S W H p i = [] := by unfold undoneIs; rw [if_neg c1]
      rw [u1] at q1 q2 q4
      generalize backIs P S W H p i = X at *
      obtain ⟨⟨P', S', W', H'⟩, n⟩ := X
      simp only [sysRes] at q3
      dsimp only at c1
      repeat' ((with_reducible (first | refine sCall.of (q1 _) ?_|refine sCall.of (q2 _) ?_|refine sCall.of (q3 _) ?_|refine sCall.of (q4 _) ?_|refine st19 ?_|refine fG.split (fun _ => ?_) (fun _ => ?_)|refine fG.bool (fun _ => ?_) (fun _ => ?_)|refine gDn 13 ?_)) <;> (try (conv => whnf)))
      all_goals rfl

set_option maxRecDepth 20000 in
set_option maxHeartbeats 8000000 in
theorem ok_laws_FnRow (k : Nat) (b : List Int) (hl : b.length ≤ 140737488355328) (hv : ∀ v ∈ b, 0 ≤ v ∧ v < 256) :
    callE PR C (k + 30) 10 [.h 1000000 0 0 [] 1 0 b.length] [tB b] = some ⟨bl true, [], [none]⟩ := by
  have q0 := fun k => ok_laws_big k b
  by_cases c0 : 1048576 < (b.length : Int)
  · rw [decide_eq_true c0] at q0
    (refine fnI [ResultVar.tmp 2] Tryz.func10 ?_; conv => whnf)
    repeat' ((with_reducible (first | refine sCall.of (q0 _) ?_|refine st19 ?_|refine fG.split (fun _ => ?_) (fun _ => ?_)|refine fG.bool (fun _ => ?_) (fun _ => ?_)|refine gDn 18 ?_)) <;> (try (conv => whnf)))
  · rw [decide_eq_false c0] at q0
    have hb : Bytes b := ⟨by omega, hv⟩
    (refine fnI [ResultVar.tmp 2] Tryz.func10 ?_; conv => whnf)
    repeat' ((with_reducible (first | refine sCall.of (q0 _) ?_|refine sCall.sys0 (ok_spec_DrawRow _ _ hb) (fun _ _ _ _ _ => ?_)|refine st19 ?_|refine fG.split (fun _ => ?_) (fun _ => ?_)|refine fG.bool (fun _ => ?_) (fun _ => ?_)|refine gDn 18 ?_)) <;> (try (conv => whnf)))
    rename_i P S W H hB
    have q1 := fun k => ok_impl_Row k P S W H (hB.mono (by decide))
    have q2 := fun k => ok_spec_Row k P S W H (hB.mono (by decide))
    have q3 := fun k => ok_spec_SysOk k P S W H (hB.mono (by decide))
    cases hs : sysOk P S W H with
    | false =>
      have e : rowIs P S W H = [] := by unfold rowIs; rw [hs]; rfl
      simp only [hs] at q3
      simp only [e] at q1 q2
      repeat' ((with_reducible (first | refine sCall.of (q1 _) ?_|refine sCall.of (q2 _) ?_|refine sCall.of (q3 _) ?_|refine st19 ?_|refine fG.split (fun _ => ?_) (fun _ => ?_)|refine fG.bool (fun _ => ?_) (fun _ => ?_)|refine gDn 18 ?_)) <;> (try (conv => whnf)))
      all_goals rfl
    | true =>
      have e : rowIs P S W H = rowOf H := by unfold rowIs; rw [hs]; rfl
      simp only [hs] at q3
      simp only [e] at q1 q2
      obtain ⟨hI, _, _, h200⟩ := sysOk_facts hs
      have hN := hI.n
      have hhl := hI.h
      have hr := row_ok hs
      have hlen : (rowOf H).length = allEv H := by
        simp only [rowOkB, Bool.and_eq_true, decide_eq_true_eq] at hr
        exact hr.2.1
      have hsum : allEv H ≤ 800 := by
        have h1 := allEv_few H (fun q hq => h200 q hq)
        omega
      have q4 := fun k => ok_impl_RowOk k P S W H (rowOf H) (hB.mono (by decide)) (by omega)
      rw [hr] at q4
      generalize rowOf H = R at *
      repeat' ((with_reducible (first | refine sCall.of (q1 _) ?_|refine sCall.of (q2 _) ?_|refine sCall.of (q3 _) ?_|refine st19 ?_|refine fG.split (fun _ => ?_) (fun _ => ?_)|refine fG.bool (fun _ => ?_) (fun _ => ?_)|refine gDn 18 ?_)) <;> (try (conv => whnf)))
      refine loop_rule (ι := TH) (fun y => [(3, .pt 3 1 0 [] 0 0), (4, .h 10014 1 0 [] 2 0 R.length), (5, .h 10016 1 0 [] 2 0 R.length), (6, i64 y.m), (7, i64 (y.j : Nat))])
        (fun _ => [(3, ⟨1, 0, true, .box [.h 10012 1 0 [] 1 0 P.length, .h 20012 1 0 [] 4 0 S.length, .h 30012 1 0 [] 1 0 W.length, .h 40012 1 0 [] 1 0 H.length]⟩), (10012, ⟨1, 0, false, tInsSS9 P⟩), (20012, ⟨1, 0, false, tStateS9 S⟩), (30012, ⟨1, 0, false, tItemSS9 W⟩), (40012, ⟨1, 0, false, tEventSS9 H⟩), (10014, ⟨1, 0, false, tWho9 R⟩), (10016, ⟨1, 0, false, tWho9 R⟩)])
        (fun y => H.length - y.j) (fun y => y.j ≤ H.length ∧ y.m = (allEv (H.take y.j) : Int)) ⟨0, 0⟩ fitOk ⟨Nat.zero_le _, by simp [allEv]⟩ (by simp [C]; omega) ?_
      rintro ⟨j, m⟩ sl ob ⟨hj, hm⟩
      dsimp only at hj hm
      have hle := allEv_le H j
      by_cases hjl : j < H.length
      · have e3 : (List.map rEvent (rd H j)).length = (rd H j).length := by simp
        have h2 := h200 j hjl
        (try dsimp only [cond_true, cond_false])
        (conv => whnf)
        repeat' ((with_reducible (first | refine st19 ?_|refine fG.split (fun _ => ?_) (fun _ => ?_)|refine fG.bool (fun _ => ?_) (fun _ => ?_)|refine gDn 18 ?_)) <;> (try (conv => whnf)))
        refine ⟨⟨⟨j + 1, m + ((List.map rEvent (rd H j)).length : Int)⟩, fitOk, ?_, ?_⟩⟩
        · refine ⟨by show j + 1 ≤ _; omega, ?_⟩
          show m + ((List.map rEvent (rd H j)).length : Int) = (allEv (H.take (j + 1)) : Int)
          rw [allEv_take hjl, e3]; omega
        · show H.length - (j + 1) < H.length - j; omega
      · have hjj : j = H.length := by omega
        rw [hjj, List.take_length] at hm
        (try dsimp only [cond_true, cond_false])
        (conv => whnf)
        repeat' ((with_reducible (first | refine st19 ?_|refine fG.split (fun _ => ?_) (fun _ => ?_)|refine fG.bool (fun _ => ?_) (fun _ => ?_)|refine gDn 18 ?_)) <;> (try (conv => whnf)))
        refine loop_rule (ι := Nat) (fun j => [(3, .pt 3 1 0 [] 0 0), (4, .h 10014 1 0 [] 2 0 R.length), (5, .h 10016 1 0 [] 2 0 R.length), (6, i64 m), (8, i64 (j : Nat))])
          (fun _ => [(3, ⟨1, 0, true, .box [.h 10012 1 0 [] 1 0 P.length, .h 20012 1 0 [] 4 0 S.length, .h 30012 1 0 [] 1 0 W.length, .h 40012 1 0 [] 1 0 H.length]⟩), (10012, ⟨1, 0, false, tInsSS9 P⟩), (20012, ⟨1, 0, false, tStateS9 S⟩), (30012, ⟨1, 0, false, tItemSS9 W⟩), (40012, ⟨1, 0, false, tEventSS9 H⟩), (10014, ⟨1, 0, false, tWho9 R⟩), (10016, ⟨1, 0, false, tWho9 R⟩)])
          (fun j => R.length - j) (fun j => j ≤ R.length) 0 fitOk (Nat.zero_le _) (by simp [C]; omega) ?_
        rintro j sl ob hj2
        by_cases hjl2 : j < R.length
        · (try dsimp only [cond_true, cond_false])
          (conv => whnf)
          repeat' ((with_reducible (first | refine st19 ?_|refine fG.split (fun _ => ?_) (fun _ => ?_)|refine fG.bool (fun _ => ?_) (fun _ => ?_)|refine gDn 18 ?_)) <;> (try (conv => whnf)))
          all_goals first | (rename_i h; simp at h; done) | skip
          refine ⟨⟨j + 1, fitOk, ?_, ?_⟩⟩
          · show j + 1 ≤ _; omega
          · show R.length - (j + 1) < R.length - j; omega
        · (try dsimp only [cond_true, cond_false])
          (conv => whnf)
          repeat' ((with_reducible (first | refine sCall.of (q4 _) ?_|refine st19 ?_|refine fG.split (fun _ => ?_) (fun _ => ?_)|refine fG.bool (fun _ => ?_) (fun _ => ?_)|refine gDn 18 ?_)) <;> (try (conv => whnf)))

set_option maxRecDepth 20000 in
set_option maxHeartbeats 8000000 in
theorem ok_laws_FnLast (k : Nat) (b : List Int) (hl : b.length ≤ 140737488355328) (hv : ∀ v ∈ b, 0 ≤ v ∧ v < 256) :
    callE PR C (k + 30) 8 [.h 1000000 0 0 [] 1 0 b.length] [tB b] = some ⟨bl true, [], [none]⟩ := by
  have q0 := fun k => ok_laws_big k b
  by_cases c0 : 1048576 < (b.length : Int)
  · rw [decide_eq_true c0] at q0
    (refine fnI [ResultVar.tmp 2] Tryz.func8 ?_; conv => whnf)
    repeat' ((with_reducible (first | refine sCall.of (q0 _) ?_|refine st19 ?_|refine fG.split (fun _ => ?_) (fun _ => ?_)|refine fG.bool (fun _ => ?_) (fun _ => ?_)|refine gD 5 [(8, 9), (8, 10), (17, 18), (17, 19)] ?_|refine gD 12 [(2, 5), (2, 7), (2, 9)] ?_)) <;> (try (conv => whnf)))
  · rw [decide_eq_false c0] at q0
    have hb : Bytes b := ⟨by omega, hv⟩
    (refine fnI [ResultVar.tmp 2] Tryz.func8 ?_; conv => whnf)
    repeat' ((with_reducible (first | refine sCall.of (q0 _) ?_|refine sCall.sysStop (ok_spec_DrawLast _ _ hb) (fun _ _ _ _ _ _ _ _ => ?_)|refine st19 ?_|refine fG.split (fun _ => ?_) (fun _ => ?_)|refine fG.bool (fun _ => ?_) (fun _ => ?_)|refine gD 5 [(8, 9), (8, 10), (17, 18), (17, 19)] ?_|refine gD 12 [(2, 5), (2, 7), (2, 9)] ?_)) <;> (try (conv => whnf)))
    rename_i P S W H p kind v hB
    have q1 := fun k => ok_impl_Last k P S W H p kind v (hB.mono (by decide))
    have q2 := fun k => ok_spec_Last k P S W H p kind v (hB.mono (by decide))
    have q3 := fun k => ok_impl_Holds k P S W H p kind v (hB.mono (by decide))
    have q4 := fun k => ok_spec_Holds k P S W H p kind v (hB.mono (by decide))
    have q5 := fun k => ok_impl_StopOk k P S W H p kind v (hB.mono (by decide))
    have q6 := fun k => ok_spec_StopOk k P S W H p kind v (hB.mono (by decide))
    by_cases c1 : lastMo P S W H p kind v < 0
    · have e := last_no c1
      simp only [e] at q3 q4
      generalize lastMo P S W H p kind v = m at *
      generalize stopOk P S W H p kind = t at *
      cases t
      all_goals repeat' ((with_reducible (first | refine sCall.of (q1 _) ?_|refine sCall.of (q2 _) ?_|refine sCall.of (q3 _) ?_|refine sCall.of (q4 _) ?_|refine sCall.of (q5 _) ?_|refine sCall.of (q6 _) ?_|refine st19 ?_|refine fG.split (fun _ => ?_) (fun _ => ?_)|refine fG.bool (fun _ => ?_) (fun _ => ?_)|refine gD 5 [(8, 9), (8, 10), (17, 18), (17, 19)] ?_|refine gD 12 [(2, 5), (2, 7), (2, 9)] ?_)) <;> (try (conv => whnf)))
      all_goals rfl
    · obtain ⟨⟨hs, hc⟩, e1, e2⟩ := last_yes (P := P) (S := S) (W := W) (H := H) (p := p) (kind := kind) (v := v) (by omega)
      have e4 : stopOk P S W H p kind = true := by
        cases h : stopOk P S W H p kind with
        | true => rfl
        | false => exact absurd (show lastMo P S W H p kind v < 0 by unfold lastMo; rw [h, if_neg (by simp)]; omega) c1
      simp only [e4] at q5 q6
      have q7 := fun k => ok_impl_Back k P S W H p (lastMo P S W H p kind v) (hB.mono (by decide))
      have hc' := hc
      simp only [hasCut, Bool.and_eq_true, decide_eq_true_eq] at hc'
      obtain ⟨p, rfl⟩ : ∃ n : Nat, p = (n : Int) := ⟨p.toNat, by omega⟩
      rw [Int.toNat_natCast] at hc' e1
      have hx := hB.hh p (by omega)
      have hxl := hB.h
      rcases back_code hs hc with ⟨b1, b2, b3⟩ | ⟨b1, b2⟩
      · have hr := back_row hs hc
        have e3 := e2 b1
        rw [b2] at e3 q7
        rw [Int.toNat_natCast] at hr
        have hG := (sysOk_G b3).b
        have q8 := fun k => ok_impl_Holds k P (stsOf P (cutH H (backCutOf H p (lastMo P S W H p kind v)))) (waysOf (cutH H (backCutOf H p (lastMo P S W H p kind v))) P.length) (cutH H (backCutOf H p (lastMo P S W H p kind v))) p kind v (hG.mono (by decide))
        simp only [atSys] at e3 q7
        rw [e3] at q8
        have hl2 : (rd (cutH H (backCutOf H p (lastMo P S W H p kind v))) p).length = (lastMo P S W H p kind v).toNat := by rw [hr, List.length_take]; omega
        have hl3 := cutH_len H (backCutOf H p (lastMo P S W H p kind v))
        generalize cutH H (backCutOf H p (lastMo P S W H p kind v)) = H' at *
        generalize stsOf P H' = S' at *
        generalize waysOf H' P.length = W' at *
        generalize hm : lastMo P S W H p kind v = m at *
        by_cases c2 : m = ((rd H p).length : Int)
        · rw [decide_eq_true c2] at e1
          simp only [e1] at q3 q4
          simp only [sysRes] at q7
          clear hs hc b1 b2 b3 e2 hr hG
          repeat' ((with_reducible (first | refine sCall.of (q1 _) ?_|refine sCall.of (q2 _) ?_|refine sCall.of (q3 _) ?_|refine sCall.of (q4 _) ?_|refine sCall.of (q5 _) ?_|refine sCall.of (q6 _) ?_|refine sCall.of (q7 _) ?_|refine sCall.of (q8 _) ?_|refine st19 ?_|refine fG.split (fun _ => ?_) (fun _ => ?_)|refine fG.bool (fun _ => ?_) (fun _ => ?_)|refine gD 5 [(8, 9), (8, 10), (17, 18), (17, 19)] ?_|refine gD 12 [(2, 5), (2, 7), (2, 9)] ?_)) <;> (try (conv => whnf)))
          all_goals first
            | rfl
            | (exfalso; rename_i h; simp [c2] at h; done)
            | (exfalso; simp only [List.length_map] at *; omega)
        · rw [decide_eq_false c2] at e1
          simp only [e1] at q3 q4
          simp only [sysRes] at q7
          clear hs hc b1 b2 b3 e2 hr hG
          repeat' ((with_reducible (first | refine sCall.of (q1 _) ?_|refine sCall.of (q2 _) ?_|refine sCall.of (q3 _) ?_|refine sCall.of (q4 _) ?_|refine sCall.of (q5 _) ?_|refine sCall.of (q6 _) ?_|refine sCall.of (q7 _) ?_|refine sCall.of (q8 _) ?_|refine st19 ?_|refine fG.split (fun _ => ?_) (fun _ => ?_)|refine fG.bool (fun _ => ?_) (fun _ => ?_)|refine gD 5 [(8, 9), (8, 10), (17, 18), (17, 19)] ?_|refine gD 12 [(2, 5), (2, 7), (2, 9)] ?_)) <;> (try (conv => whnf)))
          all_goals first
            | rfl
            | (exfalso; rename_i h; simp [c2] at h; done)
            | (exfalso; simp only [List.length_map] at *; omega)
      · rw [b2] at q7
        generalize hm : lastMo P S W H p kind v = m at *
        clear e2 b1 b2
        by_cases c2 : m = ((rd H p).length : Int)
        · rw [decide_eq_true c2] at e1
          simp only [e1] at q3 q4
          simp only [sysRes] at q7
          repeat' ((with_reducible (first | refine sCall.of (q1 _) ?_|refine sCall.of (q2 _) ?_|refine sCall.of (q3 _) ?_|refine sCall.of (q4 _) ?_|refine sCall.of (q5 _) ?_|refine sCall.of (q6 _) ?_|refine sCall.of (q7 _) ?_|refine st19 ?_|refine fG.split (fun _ => ?_) (fun _ => ?_)|refine fG.bool (fun _ => ?_) (fun _ => ?_)|refine gD 5 [(8, 9), (8, 10), (17, 18), (17, 19)] ?_|refine gD 12 [(2, 5), (2, 7), (2, 9)] ?_)) <;> (try (conv => whnf)))
          all_goals first
            | rfl
            | (exfalso; rename_i h; simp [c2] at h; done)
            | (exfalso; simp only [List.length_map] at *; omega)
        · rw [decide_eq_false c2] at e1
          simp only [e1] at q3 q4
          simp only [sysRes] at q7
          repeat' ((with_reducible (first | refine sCall.of (q1 _) ?_|refine sCall.of (q2 _) ?_|refine sCall.of (q3 _) ?_|refine sCall.of (q4 _) ?_|refine sCall.of (q5 _) ?_|refine sCall.of (q6 _) ?_|refine sCall.of (q7 _) ?_|refine st19 ?_|refine fG.split (fun _ => ?_) (fun _ => ?_)|refine fG.bool (fun _ => ?_) (fun _ => ?_)|refine gD 5 [(8, 9), (8, 10), (17, 18), (17, 19)] ?_|refine gD 12 [(2, 5), (2, 7), (2, 9)] ?_)) <;> (try (conv => whnf)))
          all_goals first
            | rfl
            | (exfalso; rename_i h; simp [c2] at h; done)
            | (exfalso; simp only [List.length_map] at *; omega)

end Go.Proofs.YtldndahfnkbngaaGreat.Abs
namespace Go.Proofs.YtldndahfnkbngaaGreat.Abs
open Go Go.Proofs
set_option linter.unusedVariables false
set_option linter.unusedSimpArgs false
attribute [local irreducible] callE
theorem back_ok {P : List (List Ins)} {S : List State} {W : List (List Item)} {H : List (List Event)} {p i : Int} (h : (backIs P S W H p i).2 = 0) : sysOk (backIs P S W H p i).1.progs (backIs P S W H p i).1.states (backIs P S W H p i).1.ways (backIs P S W H p i).1.hist = true := by
  obtain ⟨hs, hc⟩ := back_none h
  rcases back_code hs hc with ⟨_, b2, b3⟩ | ⟨b1, _⟩
  · rw [b2]; exact b3
  · omega
theorem back_twice {P : List (List Ins)} {S : List State} {W : List (List Item)} {H : List (List Event)} {p k j : Int} (hs : sysOk P S W H = true) (hk : hasCut H p k = true) (h0 : 0 ≤ j) (hj : j ≤ k)
    (hb : sysOk P (stsOf P (cutH H (backCutOf H p k))) (waysOf (cutH H (backCutOf H p k)) P.length) (cutH H (backCutOf H p k)) = true)
    (h1 : (backIs P (stsOf P (cutH H (backCutOf H p k))) (waysOf (cutH H (backCutOf H p k)) P.length) (cutH H (backCutOf H p k)) p j).2 = 0) :
    hasCut H p j = true ∧ ((backIs P S W H p j).2 = 0 → (backIs P (stsOf P (cutH H (backCutOf H p k))) (waysOf (cutH H (backCutOf H p k)) P.length) (cutH H (backCutOf H p k)) p j).1 = (backIs P S W H p j).1) := by
  have hk' := hk
  simp only [hasCut, Bool.and_eq_true, decide_eq_true_eq] at hk'
  have hj' : hasCut H p j = true := by
    simp only [hasCut, Bool.and_eq_true, decide_eq_true_eq]
    omega
  have hjt := (back_none h1).2
  refine ⟨hj', fun h2 => ?_⟩
  have e := back_back hk hj' hj hjt
  rcases back_code hb hjt with ⟨_, b2, _⟩ | ⟨b1, _⟩
  · rcases back_code hs hj' with ⟨_, c2, _⟩ | ⟨c1, _⟩
    · rw [b2, c2]
      show atSys P _ = atSys P _
      rw [e]
    · omega
  · omega
def DAt (r : Res) : Prop := ∃ n : Int, 0 ≤ n ∧ n < 256 ∧ r = ⟨i64 n, [], [none]⟩
theorem sCall.at_ {x : Option Res} {F : Res → Prop} (e : Told x DAt) (h : ∀ n : Int, 0 ≤ n → n < 256 → F ⟨i64 n, [], [none]⟩) : sCall x F :=
  sCall.ex e fun r hr => by obtain ⟨n, h1, h2, rfl⟩ := hr; exact h n h1 h2
theorem ok_laws_at' (k : Nat) (b : List Int) (i : Int) (hl : b.length ≤ 100000000000) (hb : ∀ v ∈ b, 0 ≤ v ∧ v < 256) (h0 : 0 ≤ i) (h1 : i ≤ 1000) :
    Told (callE PR C (k + 1) 48 [.h 1000000 0 0 [] 1 0 b.length, i64 i] [tB b]) DAt := by
  by_cases c : i < b.length
  · have hmem := hb _ (rd_mem (l := b) (n := i.toNat) (by omega))
    (refine callE_w [ResultVar.tmp 4] rfl Tryz.func48 rfl (by decide +kernel) rfl (by simp) ?_; (conv => whnf))
    repeat' ((with_reducible (first | refine st19 ?_|refine fG.split (fun _ => ?_) (fun _ => ?_)|refine fG.bool (fun _ => ?_) (fun _ => ?_))) <;> (try (conv => whnf)))
    all_goals exact ⟨_, by omega, by omega, rfl⟩
  · have e : (i * 7 + b.length).tmod 256 = (i * 7 + b.length) % 256 := Int.tmod_eq_emod_of_nonneg (by omega)
    (refine callE_w [ResultVar.tmp 4] rfl Tryz.func48 rfl (by decide +kernel) rfl (by simp) ?_; (conv => whnf))
    repeat' ((with_reducible (first | refine sZ.eq (e) ?_|refine st19 ?_|refine fG.split (fun _ => ?_) (fun _ => ?_)|refine fG.bool (fun _ => ?_) (fun _ => ?_))) <;> (try (conv => whnf)))
    all_goals exact ⟨_, by omega, by omega, rfl⟩
set_option maxRecDepth 20000 in
set_option maxHeartbeats 8000000 in
theorem ok_laws_FnTwiceBack (k : Nat) (b : List Int) (hl : b.length ≤ 140737488355328) (hv : ∀ v ∈ b, 0 ≤ v ∧ v < 256) :
    callE PR C (k + 30) 7 [.h 1000000 0 0 [] 1 0 b.length] [tB b] = some ⟨bl true, [], [none]⟩ := by
  have q0 := fun k => ok_laws_big k b
  by_cases c0 : 1048576 < (b.length : Int)
  · rw [decide_eq_true c0] at q0
    (refine fnI [ResultVar.tmp 2] Tryz.func7 ?_; conv => whnf)
    repeat' ((with_reducible (first | refine sCall.of (q0 _) ?_|refine st19 ?_|refine fG.split (fun _ => ?_) (fun _ => ?_)|refine fG.bool (fun _ => ?_) (fun _ => ?_))) <;> (try (conv => whnf)))
  · rw [decide_eq_false c0] at q0
    have hb : Bytes b := ⟨by omega, hv⟩
    have q9 := fun k => ok_laws_at' k b 1 (by omega) hv (by omega) (by omega)
    (refine fnI [ResultVar.tmp 2] Tryz.func7 ?_; conv => whnf)
    repeat' ((with_reducible (first | refine sCall.of (q0 _) ?_|refine sCall.sys2 (ok_spec_DrawBack _ _ hb) (fun _ _ _ _ _ _ _ => ?_)|refine st19 ?_|refine fG.split (fun _ => ?_) (fun _ => ?_)|refine fG.bool (fun _ => ?_) (fun _ => ?_))) <;> (try (conv => whnf)))
    rename_i P S W H p i hB
    have q1 := fun k => ok_impl_Back k P S W H p i (hB.mono (by decide))
    have q2 := fun k => ok_spec_Back k P S W H p i (hB.mono (by decide))
    by_cases c1 : (backIs P S W H p i).2 = 0
    · obtain ⟨hs, hc⟩ := back_none c1
      have hc' := hc
      simp only [hasCut, Bool.and_eq_true, decide_eq_true_eq] at hc'
      have hr := back_row hs hc
      rcases back_code hs hc with ⟨_, b2, b3⟩ | ⟨b1, _⟩
      · obtain ⟨p, rfl⟩ : ∃ n : Nat, p = (n : Int) := ⟨p.toNat, by omega⟩
        rw [Int.toNat_natCast] at hc' hr
        have ht := fun j h0 hj => back_twice (j := j) hs hc h0 hj b3
        rw [b2] at q1 q2
        have hl2 : (rd (cutH H (backCutOf H p i)) p).length = i.toNat := by rw [hr, List.length_take]; omega
        have hl3 := cutH_len H (backCutOf H p i)
        have hG := (sysOk_G b3).b
        simp only [atSys, sysRes] at q1 q2
        generalize cutH H (backCutOf H p i) = H' at *
        generalize stsOf P H' = S' at *
        generalize waysOf H' P.length = W' at *
        clear hr b2
        by_cases c2 : i = 0
        · subst c2
          repeat' ((with_reducible (first | refine sCall.of (q1 _) ?_|refine sCall.of (q2 _) ?_|refine st19 ?_|refine fG.split (fun _ => ?_) (fun _ => ?_)|refine fG.bool (fun _ => ?_) (fun _ => ?_))) <;> (try (conv => whnf)))
        · repeat' ((with_reducible (first | refine sCall.of (q1 _) ?_|refine sCall.of (q2 _) ?_|refine sCall.at_ (q9 _) (fun _ _ _ => ?_)|refine st19 ?_|refine fG.split (fun _ => ?_) (fun _ => ?_)|refine fG.bool (fun _ => ?_) (fun _ => ?_))) <;> (try (conv => whnf)))
          rename_i x hx0 hx1
          have m1 : x.tmod i = x % i := Int.tmod_eq_emod_of_nonneg hx0
          have m2 := Int.emod_nonneg x (by omega : i ≠ 0)
          have m3 := Int.emod_lt_of_pos x (by omega : 0 < i)
          generalize x % i = j at *
          have q3 := fun k => ok_impl_Back k P S' W' H' p j (hG.mono (by decide))
          have q4 := fun k => ok_impl_Back k P S W H p j (hB.mono (by decide))
          have ht := ht j m2 (by omega)
          have hok := fun h => back_ok (P := P) (S := S) (W := W) (H := H) (p := (p : Int)) (i := j) h
          clear hl hv q0 q1 q2 q9 hs hc b3
          generalize backIs P S' W' H' p j = Y at *
          generalize backIs P S W H p j = X at *
          obtain ⟨⟨P2, S2, W2, H2⟩, n⟩ := X
          obtain ⟨⟨P3, S3, W3, H3⟩, m⟩ := Y
          simp only [sysRes] at q3 q4
          dsimp only at ht hok
          by_cases d1 : m = 0
          · by_cases d2 : n = 0
            · have e := (ht d1).2 d2
              have hB2 := (sysOk_G (hok d2)).b
              cases e
              have q5 := fun k => ok_laws_sameHist k P2 P2 S2 S2 W2 W2 H2 (by have := hB2.h; dsimp only at this; omega) (fun q hq => by have := hB2.hh q hq; dsimp only at this; omega)
              have q6 := fun k => ok_laws_sameStates k P2 P2 S2 W2 W2 H2 H2 (by have := hB2.s; dsimp only at this; omega) (fun q hq => by have := hB2.ss q hq; dsimp only at this; omega)
              repeat' ((with_reducible (first | refine sZ.eq (m1) ?_|refine sCall.of (q3 _) ?_|refine sCall.of (q4 _) ?_|refine sCall.of (q5 _) ?_|refine sCall.of (q6 _) ?_|refine st19 ?_|refine fG.split (fun _ => ?_) (fun _ => ?_)|refine fG.bool (fun _ => ?_) (fun _ => ?_))) <;> (try (conv => whnf)))
            · repeat' ((with_reducible (first | refine sZ.eq (m1) ?_|refine sCall.of (q3 _) ?_|refine sCall.of (q4 _) ?_|refine st19 ?_|refine fG.split (fun _ => ?_) (fun _ => ?_)|refine fG.bool (fun _ => ?_) (fun _ => ?_))) <;> (try (conv => whnf)))
          · repeat' ((with_reducible (first | refine sZ.eq (m1) ?_|refine sCall.of (q3 _) ?_|refine sCall.of (q4 _) ?_|refine st19 ?_|refine fG.split (fun _ => ?_) (fun _ => ?_)|refine fG.bool (fun _ => ?_) (fun _ => ?_))) <;> (try (conv => whnf)))
      · omega
    · generalize backIs P S W H p i = X at *
      obtain ⟨⟨P', S', W', H'⟩, n⟩ := X
      simp only [sysRes] at q1 q2
      dsimp only at c1
      repeat' ((with_reducible (first | refine sCall.of (q1 _) ?_|refine sCall.of (q2 _) ?_|refine st19 ?_|refine fG.split (fun _ => ?_) (fun _ => ?_)|refine fG.bool (fun _ => ?_) (fun _ => ?_))) <;> (try (conv => whnf)))

theorem backOne_len {P : List (List Ins)} {S : List State} {W : List (List Item)} {H : List (List Event)} {p : Int} (h : (backIs P S W H p (lastOf H p)).2 = 0) :
    (0 ≤ p ∧ p ≤ (H.length : Int) - 1) ∧ (backIs P S W H p (lastOf H p)).1.hist.length = H.length ∧ ((rd (backIs P S W H p (lastOf H p)).1.hist p.toNat).length : Int) = ((rd H p.toNat).length : Int) - 1 := by
  obtain ⟨hs, hc⟩ := back_none h
  have hc' := hc
  simp only [hasCut, Bool.and_eq_true, decide_eq_true_eq] at hc'
  refine ⟨hc'.1, (back_hist h).1, ?_⟩
  have hr := back_row hs hc
  have e : lastOf H p = ((rd H p.toNat).length : Int) - 1 := by unfold lastOf; rw [if_pos hc'.1]
  rcases back_code hs hc with ⟨_, b2, _⟩ | ⟨b1, _⟩
  · rw [b2]
    show ((rd (cutH H _) p.toNat).length : Int) = _
    rw [hr, List.length_take]
    omega
  · omega
structure BOS where
  j : Nat
  o0 : Ob
  o1 : Ob
  o2 : Ob
  o3 : Ob
  o4 : Ob
set_option maxRecDepth 20000 in
set_option maxHeartbeats 8000000 in
theorem ok_laws_FnBackOne (k : Nat) (b : List Int) (hl : b.length ≤ 140737488355328) (hv : ∀ v ∈ b, 0 ≤ v ∧ v < 256) :
    callE PR C (k + 30) 6 [.h 1000000 0 0 [] 1 0 b.length] [tB b] = some ⟨bl true, [], [none]⟩ := by
  have q0 := fun k => ok_laws_big k b
  by_cases c0 : 1048576 < (b.length : Int)
  · rw [decide_eq_true c0] at q0
    (refine fnI [ResultVar.tmp 2] Tryz.func6 ?_; conv => whnf)
    repeat' ((with_reducible (first | refine sCall.of (q0 _) ?_|refine st19 ?_|refine fG.split (fun _ => ?_) (fun _ => ?_)|refine fG.bool (fun _ => ?_) (fun _ => ?_)|refine gDn 8 ?_|refine gD 15 [(0, 12), (3, 12), (6, 12), (8, 12)] ?_)) <;> (try (conv => whnf)))
  · rw [decide_eq_false c0] at q0
    have hb : Bytes b := ⟨by omega, hv⟩
    (refine fnI [ResultVar.tmp 2] Tryz.func6 ?_; conv => whnf)
    repeat' ((with_reducible (first | refine sCall.of (q0 _) ?_|refine sCall.sys1 (ok_spec_DrawBackOne _ _ hb) (fun _ _ _ _ _ _ => ?_)|refine st19 ?_|refine fG.split (fun _ => ?_) (fun _ => ?_)|refine fG.bool (fun _ => ?_) (fun _ => ?_)|refine gDn 8 ?_|refine gD 15 [(0, 12), (3, 12), (6, 12), (8, 12)] ?_)) <;> (try (conv => whnf)))
    rename_i P S W H p hB
    have q1 := fun k => ok_impl_BackOne k P S W H p (hB.mono (by decide))
    have q2 := fun k => ok_spec_BackOne k P S W H p (hB.mono (by decide))
    have q3 := fun k => ok_spec_SysOk k P S W H (hB.mono (by decide))
    have hX := @backOne_len P S W H p
    have hbad : sysOk P S W H = false → (backIs P S W H p (lastOf H p)).2 = 1 := fun h => by unfold backIs; rw [if_neg (by rw [h]; simp)]
    generalize backIs P S W H p (lastOf H p) = X at *
    obtain ⟨⟨P', S', W', H'⟩, n⟩ := X
    simp only [sysRes] at q1 q2
    dsimp only at hX hbad
    cases hs : sysOk P S W H with
    | false =>
      have hn := hbad hs
      subst hn
      simp only [hs] at q3
      repeat' ((with_reducible (first | refine sCall.of (q1 _) ?_|refine sCall.of (q2 _) ?_|refine sCall.of (q3 _) ?_|refine st19 ?_|refine fG.split (fun _ => ?_) (fun _ => ?_)|refine fG.bool (fun _ => ?_) (fun _ => ?_)|refine gDn 8 ?_|refine gD 15 [(0, 12), (3, 12), (6, 12), (8, 12)] ?_)) <;> (try (conv => whnf)))
      all_goals rfl
    | true =>
      simp only [hs] at q3
      have hG := (sysOk_G hs).b
      have hhl : H.length ≤ 1048576 := hG.h
      have hsl : S.length ≤ 1048576 := hG.s
      have q7 := fun j (hj : j < H.length) k => ok_impl_Back k P S W H (j : Nat) ((rd H j).length : Int) (hB.mono (by decide))
      have q4 := fun k W1 => ok_laws_sameHist k P P S S W1 W H (by omega) (fun q hq => by have := hG.hh q hq; dsimp only at this; omega)
      have q5 := fun k W1 => ok_laws_sameStates k P P S W1 W H H (by omega) (fun q hq => by have := hG.ss q hq; dsimp only at this; omega)
      by_cases c1 : n = 0
      case' pos =>
        obtain ⟨x1, x2, x3⟩ := hX c1
        have e3 : (List.map rEvent (rd H p.toNat)).length = (rd H p.toNat).length := by simp
        have e4 : (List.map rEvent (rd H' p.toNat)).length = (rd H' p.toNat).length := by simp
        have e5 := hG.hh p.toNat (by show p.toNat < H.length; omega)
        dsimp only at e5
      all_goals repeat' ((with_reducible (first | refine sCall.of (q1 _) ?_|refine sCall.of (q2 _) ?_|refine sCall.of (q3 _) ?_|refine st19 ?_|refine fG.split (fun _ => ?_) (fun _ => ?_)|refine fG.bool (fun _ => ?_) (fun _ => ?_)|refine gDn 8 ?_|refine gD 15 [(0, 12), (3, 12), (6, 12), (8, 12)] ?_)) <;> (try (conv => whnf)))
      all_goals try (exfalso; omega)
      all_goals
        refine loop_rule (ι := BOS) (fun y => [(3, .pt 3 1 0 [] 0 0), (9, i64 (y.j : Nat))])
          (fun y => [(3, ⟨1, 0, true, .box [.h 10016 1 0 [] 1 0 P.length, .h 20016 1 0 [] 4 0 S.length, .h 30016 1 0 [] 1 0 W.length, .h 40016 1 0 [] 1 0 H.length]⟩), (10016, ⟨1, 0, false, tInsSS9 P⟩), (20016, ⟨1, 0, false, tStateS9 S⟩), (30016, ⟨1, 0, false, tItemSS9 W⟩), (40016, ⟨1, 0, false, tEventSS9 H⟩), (10, y.o0), (10073, y.o1), (20073, y.o2), (30073, y.o3), (40073, y.o4)])
          (fun y => H.length - y.j) (fun y => y.j ≤ H.length) ⟨0, _, _, _, _, _⟩ fitOk (Nat.zero_le _) (by simp [C]; omega) ?_
        clear q1 q2 q3 hX hbad
        rintro ⟨j, o0, o1, o2, o3, o4⟩ sl ob hj
        obtain ⟨b0, g0, d0, k0⟩ := o0
        obtain ⟨b1, g1, d1, k1⟩ := o1
        obtain ⟨b2, g2, d2, k2⟩ := o2
        obtain ⟨b3, g3, d3, k3⟩ := o3
        obtain ⟨b4, g4, d4, k4⟩ := o4
        dsimp only at hj
        by_cases hjl : j < H.length
        · have q7 := q7 j hjl
          rw [back_self hs hjl] at q7
          have e6 : (List.map rEvent (rd H j)).length = (rd H j).length := by simp
          simp only [sysRes, ← e6] at q7
          generalize waysOf H P.length = W9 at q7
          have q4 := fun k => q4 k W9
          obtain ⟨n0, hn0⟩ : ∃ n0 : Int, n0 = 0 := ⟨0, rfl⟩
          rw [← hn0] at q7
          have q5 := fun k => q5 k W9
          (try dsimp only [cond_true, cond_false])
          (conv => whnf)
          repeat' ((with_reducible (first | refine sCall.of (q7 _) ?_|refine sCall.of (q4 _) ?_|refine sCall.of (q5 _) ?_|refine st19 ?_|refine fG.split (fun _ => ?_) (fun _ => ?_)|refine fG.bool (fun _ => ?_) (fun _ => ?_)|refine gDn 8 ?_|refine gD 15 [(0, 12), (3, 12), (6, 12), (8, 12)] ?_)) <;> (try (conv => whnf)))
          refine ⟨⟨⟨j + 1, _, _, _, _, _⟩, fitOk, ?_, ?_⟩⟩
          · show j + 1 ≤ _; omega
          · show H.length - (j + 1) < H.length - j; omega
        · (try dsimp only [cond_true, cond_false])
          (conv => whnf)
          repeat' ((with_reducible (first | refine st19 ?_|refine fG.split (fun _ => ?_) (fun _ => ?_)|refine fG.bool (fun _ => ?_) (fun _ => ?_)|refine gDn 8 ?_|refine gD 15 [(0, 12), (3, 12), (6, 12), (8, 12)] ?_)) <;> (try (conv => whnf)))

end Go.Proofs.YtldndahfnkbngaaGreat.Abs
namespace Go.Proofs.YtldndahfnkbngaaGreat.Abs
open Go
set_option linter.unusedVariables false

def Opens (P : Program) (t : TypeId) (n : Nat) (M : List T → Prop) : Prop :=
  ∀ (H : Type) (enc : TypeId × Value → H) (w : World) (base : Nat) (sp : Nat → Bool) (held : Bool) (fuel : Nat) (cs : List Value) (x : DataW H × List MemPlace),
    DataW.trod enc P w base sp held fuel t cs = some x → (∀ m ∈ x.1.weights P t, m ≤ reachBytes) →
      cs.length = n ∧ ∃ ts : List T, ts.length = n ∧ M ts ∧ ∀ (i : Nat) v t', cs[i]? = some v → ts[i]? = some t' → Ow (fun k => k < w.heap.size) w 0 v t' none_
theorem Opens.mono {P : Program} {t : TypeId} {n : Nat} {M M' : List T → Prop} (h : Opens P t n M) (hm : ∀ ts, M ts → M' ts) : Opens P t n M' := by
  intro H enc w base sp held fuel cs x hx hw
  obtain ⟨h1, ts, h2, h3, h4⟩ := h H enc w base sp held fuel cs x hx hw
  exact ⟨h1, ts, h2, hm _ h3, h4⟩
theorem one_ow {w : World} {v0 : Value} {t0 : T} (h : Ow (fun k => k < w.heap.size) w 0 v0 t0 none_) : ∀ (i : Nat) v t', [v0][i]? = some v → [t0][i]? = some t' → Ow (fun k => k < w.heap.size) w 0 v t' none_ := by
  rintro (_ | i) v t' h1 h2
  · simp at h1 h2; subst h1; subst h2; exact h
  · simp at h1
theorem Opens.int {P : Program} {t : TypeId} {k : IntKind} (ht : P.underlying t = some (.int k)) : Opens P t 1 (fun ts => ∃ n, (Lit.int k n).wf = true ∧ ts = [.v (.int k n)]) := by
  intro H enc w base sp held fuel cs x hx hw
  obtain ⟨n, rfl, rfl, h⟩ := DataW.trod_int ht hx
  exact ⟨rfl, _, rfl, ⟨n, h, rfl⟩, one_ow (.v rfl)⟩
theorem Opens.bool {P : Program} {t : TypeId} (ht : P.underlying t = some .bool) : Opens P t 1 (fun ts => ∃ b, ts = [.v (.bool b)]) := by
  intro H enc w base sp held fuel cs x hx hw
  obtain ⟨b, rfl, rfl⟩ := DataW.trod_bool ht hx
  exact ⟨rfl, _, rfl, ⟨b, rfl⟩, one_ow (.v rfl)⟩
theorem Opens.str {P : Program} {t : TypeId} (ht : P.underlying t = some .string) : Opens P t 1 (fun ts => ∃ s : ByteArray, s.size ≤ reachBytes ∧ ts = [.v (.string s)]) := by
  intro H enc w base sp held fuel cs x hx hw
  obtain ⟨s, rfl, rfl, h⟩ := DataW.trod_string ht hx
  refine ⟨rfl, _, rfl, ⟨s, ?_, rfl⟩, one_ow (.v rfl)⟩
  have := hw s.data.toList.length (by simp [DataW.weights])
  simpa using this
def Parts (P : Program) : List Field → Nat → Nat → (List T → Prop) → Prop
  | [], _, n, M => n = 0 ∧ M []
  | f :: r, off, n, M => f.offset = off ∧ ∃ n1 n2 M1 M2, P.cellsOf f.type = n1 ∧ Opens P f.type n1 M1 ∧ Parts P r (off + n1) n2 M2 ∧ n = n1 + n2 ∧ ∀ a b, M1 a → M2 b → M (a ++ b)
theorem weights_part {P : Program} {H : Type} {ts : List TypeId} : ∀ {ds : List (DataW H)} {R : Nat}, (∀ m ∈ DataW.weightsEach P ts ds, m ≤ R) → ∀ (j : Nat) t d, ts[j]? = some t → ds[j]? = some d → ∀ m ∈ d.weights P t, m ≤ R :=
  fun h j t d ht hd m hm => h m (DataW.weights_mem_each ht hd m hm)
theorem Parts.opens {P : Program} {H : Type} {enc : TypeId × Value → H} {w : World} {base : Nat} {sp : Nat → Bool} {held : Bool} {fuel : Nat} {cs : List Value} : ∀ {fs : List Field} {off n : Nat} {M : List T → Prop}, Parts P fs off n M → off + n = cs.length →
    (∀ f ∈ fs, ∃ x, DataW.trod enc P w base sp held fuel f.type ((cs.drop f.offset).take (P.cellsOf f.type)) = some x ∧ (∀ m ∈ x.1.weights P f.type, m ≤ reachBytes)) →
    ∃ ts : List T, ts.length = n ∧ M ts ∧ ∀ (i : Nat) v t', cs[off + i]? = some v → ts[i]? = some t' → Ow (fun k => k < w.heap.size) w 0 v t' none_ := by
  intro fs
  induction fs with
  | nil =>
    intro off n M h hl _
    exact ⟨[], h.1.symm, h.2, fun i v t' _ h2 => by simp at h2⟩
  | cons f r ih =>
    intro off n M h hl hx
    obtain ⟨rfl, n1, n2, M1, M2, h1, h2, h3, rfl, h4⟩ := h
    obtain ⟨x, hx1, hx2⟩ := hx f (by simp)
    rw [h1] at hx1
    obtain ⟨k1, t1, k2, k3, k4⟩ := h2 H enc w base sp held fuel _ x hx1 hx2
    obtain ⟨t2, q1, q2, q3⟩ := ih h3 (by omega) fun g hg => hx g (by simp [hg])
    refine ⟨t1 ++ t2, by simp [k2, q1], h4 _ _ k3 q2, fun i v t' hv ht' => ?_⟩
    by_cases hi : i < n1
    · rw [List.getElem?_append_left (by omega)] at ht'
      exact k4 i v t' (by rw [List.getElem?_take, if_pos hi, List.getElem?_drop]; exact hv) ht'
    · rw [List.getElem?_append_right (by omega), k2] at ht'
      exact q3 (i - n1) v t' (by rw [show f.offset + n1 + (i - n1) = f.offset + i by omega]; exact hv) ht'
theorem Opens.struct {P : Program} {t : TypeId} {fs : Array Field} {n : Nat} {M : List T → Prop} (ht : P.underlying t = some (.struct fs)) (hc : P.cellsOf t = n) (hp : Parts P fs.toList 0 n M) : Opens P t n M := by
  intro H enc w base sp held fuel cs x hx hw
  obtain ⟨xs, m, _, rfl, hl, hlen, hf⟩ := DataW.trod_struct ht hx
  have hl' : cs.length = n := hl.trans hc
  obtain ⟨ts, h1, h2, h3⟩ := hp.opens (enc := enc) (w := w) (base := base) (sp := sp) (held := held) (fuel := m) (cs := cs) (by omega) (by
    intro f hfm
    obtain ⟨i, hi⟩ := List.getElem?_of_mem hfm
    have hi' : fs[i]? = some f := by simpa using hi
    have hlt : i < xs.length := by rw [hlen]; exact (Array.getElem?_eq_some_iff.1 hi').1
    have hy : xs[i]? = some xs[i] := List.getElem?_eq_getElem hlt
    refine ⟨xs[i], (hf i f hi').trans hy, ?_⟩
    refine weights_part (ts := fs.toList.map (·.type)) (ds := xs.map (·.1)) ?_ i f.type xs[i].1 (by simp [hi']) (by rw [List.getElem?_map, hy]; rfl)
    intro q hq
    refine hw q ?_
    simpa [DataW.weights, ht] using hq)
  exact ⟨hl', ts, h1, h2, fun i v t' hv ht' => h3 i v t' (by simpa using hv) ht'⟩
def IntsM (n : Nat) (ts : List T) : Prop := ∃ zs : List Int, zs.length = n ∧ ts = zs.map fun z => T.v (.int .i64 z)
theorem Parts.nil {P : Program} {off : Nat} : Parts P [] off 0 (IntsM 0) := ⟨rfl, [], rfl, rfl⟩
theorem Parts.int {P : Program} {f : Field} {r : List Field} {off n : Nat} (ho : f.offset = off) (hc : P.cellsOf f.type = 1) (ht : P.underlying f.type = some (.int .i64)) (h : Parts P r (off + 1) n (IntsM n)) :
    Parts P (f :: r) off (1 + n) (IntsM (1 + n)) := by
  refine ⟨ho, 1, n, _, _, hc, Opens.int ht, h, rfl, ?_⟩
  rintro a b ⟨z, _, rfl⟩ ⟨zs, hz, rfl⟩
  exact ⟨z :: zs, by simp [hz]; omega, rfl⟩
def Ms : List (List T → Prop) → List T → Prop
  | [], ts => ts = []
  | M :: r, ts => ∃ a b, ts = a ++ b ∧ M a ∧ Ms r b
theorem Parts.mnil {P : Program} {off : Nat} : Parts P [] off 0 (Ms []) := ⟨rfl, rfl⟩
theorem Parts.mcons {P : Program} {f : Field} {r : List Field} {off n1 n : Nat} {M : List T → Prop} {l : List (List T → Prop)} (ho : f.offset = off) (hc : P.cellsOf f.type = n1) (ht : Opens P f.type n1 M) (h : Parts P r (off + n1) n (Ms l)) :
    Parts P (f :: r) off (n1 + n) (Ms (M :: l)) :=
  ⟨ho, n1, n, _, _, hc, ht, h, rfl, fun a b ha hb => ⟨a, b, rfl, ha, hb⟩⟩

theorem rows_map {α : Type} {f : α → List T} {p : α → Prop} {rows : List (List T)} (h : ∀ r ∈ rows, ∃ x, p x ∧ r = f x) : ∃ l : List α, rows = l.map f ∧ ∀ x ∈ l, p x := by
  induction rows with
  | nil => exact ⟨[], rfl, by simp⟩
  | cons r rows ih =>
    obtain ⟨x, hx, rfl⟩ := h r (by simp)
    obtain ⟨l, rfl, hl⟩ := ih fun q hq => h q (by simp [hq])
    exact ⟨x :: l, rfl, by simpa using ⟨hx, hl⟩⟩
theorem weights_all {P : Program} {H : Type} {e : TypeId} {d : DataW H} : ∀ {l : List (DataW H)}, d ∈ l → ∀ m ∈ d.weights P e, m ∈ DataW.weightsAll P e l
  | a :: r, hd, m, hm => by
    simp only [DataW.weightsAll, List.mem_append]
    rcases List.mem_cons.1 hd with rfl | hd
    · exact .inl hm
    · exact .inr (weights_all hd m hm)
theorem Opens.slice {P : Program} {t e : TypeId} {sz B : Nat} {M : List T → Prop} (ht : P.underlying t = some (.slice e)) (hc : P.cellsOf e = sz) (hB : P.bytesOf e = B) (hsz : 0 < sz) (hE : Opens P e sz M) :
    Opens P t 1 (fun ts => ∃ rows, ts = [.sl sz rows] ∧ (∀ x ∈ rows, M x) ∧ rows.length * B ≤ reachBytes) := by
  intro H enc w base sp held fuel cs0 x hx hw
  rcases DataW.trod_slice ht hx with ⟨rfl, _⟩ | ⟨a, len, cap, elems, rest, n, _, rfl, rfl, _, hl, _, hlen, hel, _⟩
  · exact ⟨rfl, _, rfl, ⟨[], rfl, by simp, by simp⟩, one_ow .nil⟩
  · have hw1 : (elems.length + rest.length) * B ≤ reachBytes := by
      have := hw ((elems.length + rest.length) * P.bytesOf e) (by simp [DataW.weights, ht])
      rwa [hB] at this
    have hcell : ∀ i : Nat, ∃ q : List Value × List T, i < len → q.1.length = sz ∧ q.2.length = sz ∧ M q.2 ∧ (∀ j, j < sz → w.cell? ((a.add (i * sz)).add j) = q.1[j]?) ∧
        ∀ (j : Nat) v t', q.1[j]? = some v → q.2[j]? = some t' → Ow (fun k => k < w.heap.size) w 0 v t' none_ := by
      intro i
      by_cases hi : i < len
      · have hy : elems[i]? = some (elems[i]'(by omega)) := List.getElem?_eq_getElem (by omega)
        have h1 := hel i hi
        rw [hy, hc, Option.bind_eq_some_iff] at h1
        obtain ⟨cs, hcs, htr⟩ := h1
        obtain ⟨k1, ts, k2, k3, k4⟩ := hE H enc w base sp held n cs _ htr (by
          intro m hm
          refine hw m ?_
          have := weights_all (P := P) (e := e) (l := elems.map (·.1)) (List.mem_map_of_mem (List.getElem_mem (by omega : i < elems.length))) m hm
          simp [DataW.weights, ht, this])
        obtain ⟨_, g1, g2⟩ := World.cells?_some hcs
        exact ⟨(cs, ts), fun _ => ⟨k1, k2, k3, g2, k4⟩⟩
      · exact ⟨([], []), fun h => absurd h hi⟩
    obtain ⟨c, hc2⟩ := Classical.axiomOfChoice hcell
    have hblk : 0 < len → a.block < w.heap.size := by
      intro h0
      obtain ⟨k1, k2, k3, k4, k5⟩ := hc2 0 h0
      have h1 := k4 0 hsz
      have h2 : (c 0).1[0]? = some ((c 0).1[0]'(by omega)) := List.getElem?_eq_getElem (by omega)
      rw [h2] at h1
      by_cases hlt : a.block < w.heap.size
      · exact hlt
      · unfold World.cell? at h1
        rw [add_block, add_block, Array.getElem?_eq_none (by omega)] at h1
        simp at h1
    have hat : ∀ i j t', cellT ((List.range len).map fun i => (c i).2) i j = some t' → i < len ∧ (c i).2[j]? = some t' := by
      intro i j t' h'
      unfold cellT at h'
      rw [List.getElem?_map] at h'
      by_cases hi : i < len
      · have hr : (List.range len)[i]? = some i := by simp [hi]
        rw [hr] at h'
        exact ⟨hi, by simpa using h'⟩
      · have hr : (List.range len)[i]? = none := by simp; omega
        rw [hr] at h'
        simp at h'
    refine ⟨rfl, [.sl sz ((List.range len).map fun i => (c i).2)], rfl, ⟨_, rfl, ?_, ?_⟩, one_ow ?_⟩
    · intro x hx
      obtain ⟨i, hi, rfl⟩ := List.mem_map.1 hx
      exact (hc2 i (List.mem_range.1 hi)).2.2.1
    · rw [List.length_map, List.length_range]
      exact Nat.le_trans (Nat.mul_le_mul_right _ (by omega)) hw1
    · have hro := Ow.ro (Z := fun k => k < w.heap.size) (w := w) (a := a) (c := cap) (rows := (List.range len).map fun i => (c i).2) (sz := sz) (fun i j => (c i).1.getD j undef) (by simpa using hl)
        (by
          intro r hr
          obtain ⟨i, hi, rfl⟩ := List.mem_map.1 hr
          exact (hc2 i (List.mem_range.1 hi)).2.1) (fun hne => hblk (by
            rcases Nat.eq_zero_or_pos len with h0 | h0
            · subst h0; exact absurd rfl hne
            · exact h0))
        (by
          intro i j t' h'
          obtain ⟨hi, hj⟩ := hat i j t' h'
          obtain ⟨k1, k2, k3, k4, k5⟩ := hc2 i hi
          have hj' : j < sz := by rw [← k2]; exact (List.getElem?_eq_some_iff.1 hj).1
          rw [← Addr.add_add, k4 j hj', List.getElem?_eq_getElem (by omega)]
          simp [List.getD, show j < (c i).1.length by omega])
        (by
          intro i j t' h'
          obtain ⟨hi, hj⟩ := hat i j t' h'
          obtain ⟨k1, k2, k3, k4, k5⟩ := hc2 i hi
          have hj' : j < sz := by rw [← k2]; exact (List.getElem?_eq_some_iff.1 hj).1
          refine k5 j _ t' ?_ hj
          rw [List.getElem?_eq_getElem (by omega)]
          simp [List.getD, show j < (c i).1.length by omega])
      simpa using hro
theorem Opens.one {P : Program} {t : TypeId} {M : List T → Prop} (h : Opens P t 1 M) {H : Type} {enc : TypeId × Value → H} {w : World} {base : Nat} {sp : Nat → Bool} {held : Bool} {v : Value} {d : DataW H} {ps : List MemPlace}
    (hv : v.cells.toList = [v]) (hd : DataW.Trod enc P w base sp held t v d ps) (hw : ∀ m ∈ d.weights P t, m ≤ reachBytes) : ∃ t', M [t'] ∧ Ow (fun k => k < w.heap.size) w 0 v t' none_ := by
  obtain ⟨fuel, hf⟩ := hd
  rw [hv] at hf
  obtain ⟨_, ts, h1, h2, h3⟩ := h H enc w base sp held fuel _ _ hf hw
  obtain ⟨t', rfl⟩ := List.length_eq_one_iff.1 h1
  exact ⟨t', h2, h3 0 v t' rfl rfl⟩
end Go.Proofs.YtldndahfnkbngaaGreat.Abs
namespace Go.Proofs.YtldndahfnkbngaaGreat.Abs
open Go Go.RowKit
set_option linter.unusedVariables false

theorem Ow.slice_inv {Z : Fp} {w : World} {v : Value} {sz : Nat} {rows : List (List T)} {F : Fp} {l : Nat} (h : Ow Z w l v (.sl sz rows) F) :
    (v = .slice none 0 0 ∧ rows = []) ∨ ∃ a c, v = .slice (some a) rows.length c ∧ rows.length ≤ c := by
  cases h with
  | nil => exact .inl ⟨rfl, rfl⟩
  | ro xs hc hs hz hx ht => exact .inr ⟨_, _, rfl, hc⟩
  | own xs F hb hfr hc hoff hmax hs hx ht hF hnb hd => exact .inr ⟨_, _, rfl, hc⟩
theorem arg_slice {Z : Fp} {w : World} {ob : Objs} {ρ : Nat → Value} {o sz : Nat} {rows : List (List T)} {v : Value} (h1 : ob o = ⟨0, 0, false, .tree 0 (.sl sz rows)⟩) (h2 : ρ o = v) (h3 : Ow Z w 0 v (.sl sz rows) none_) :
    AVR w ob ρ (.h o 0 0 [] sz 0 rows.length) v := by
  have hin := h3.slice_inv
  refine .h ?_ ?_ fun _ => ?_
  · rw [h1]; exact ⟨Nat.le_refl _, fun _ h => absurd rfl h⟩
  · rcases hin with ⟨rfl, rfl⟩ | ⟨a, c, rfl, hc⟩
    · exact ⟨none, 0, rfl, Nat.le_refl _, fun _ => rfl⟩
    · exact ⟨some a, c, rfl, hc, fun h => by cases h⟩
  · rw [h1, h2]
    refine ⟨fun cells h => by (dsimp only at h; cases h), fun lvl t hc => ?_⟩
    dsimp only at hc
    cases hc
    refine ⟨v, rows, .here, by omega, ?_⟩
    rcases hin with ⟨rfl, rfl⟩ | ⟨a, c, rfl, hc⟩
    · exact .inl ⟨rfl, rfl, rfl, rfl⟩
    · refine .inr ⟨a, rows.length, c, 0, c, rfl, ?_, hc, by omega, Nat.le_refl _, fun _ => rfl⟩
      rw [Nat.zero_mul]
      cases a with
      | mk b off s => cases s <;> simp [Addr.add]
theorem FnOk.outside {P : Program} {W : World} {f : FuncId} {args : List AV} {conts : List Cont} {r : Res} (h : FnOk P f args conts r) (vals : List Value)
    (ho : ∀ (i : Nat) c, conts[i]? = some c → ∃ t v, c = .tree 0 t ∧ vals[i]? = some v ∧ Ow (fun k => k < W.heap.size) W 0 v t none_) (vs : Array Value) (hs : vs.size = args.length)
    (hA : ∀ (i : Nat) x, args[i]? = some x → AVR W (obIn conts) (fun o => vals.getD (o - 1000000) undef) x (vs.getD i undef)) :
    Calls P f vs W (fun e w' => ∃ v, e = .returned v ∧ Below W.heap.size W w' ∧ ∃ ob' ρ', AVR w' ob' ρ' r.v v) := by
  have hI : OInv W none_ (obIn conts) W (fun o => vals.getD (o - 1000000) undef) (fun _ => none_) (fun k => k < W.heap.size) := by
    refine ⟨Keep.refl _ _, fun k hk _ => hk, fun k hk => hk, fun o k hk => hk.elim, fun o o' k hk => hk.elim, fun o k hk => hk.elim, fun o => ?_⟩
    unfold ObOk
    by_cases h1 : 1000000 ≤ o
    · simp only [obIn, h1, if_true]
      cases hc : conts[o - 1000000]? with
      | none =>
        have e : conts.getD (o - 1000000) .dead = .dead := by simp [List.getD, hc]
        rw [e]
        exact fun k hk => hk
      | some c =>
        obtain ⟨t, v, rfl, hv, how⟩ := ho _ _ hc
        have e : conts.getD (o - 1000000) .dead = .tree 0 t := by simp [List.getD, hc]
        have e2 : vals.getD (o - 1000000) undef = v := by simp [List.getD, hv]
        rw [e, e2]
        exact how
    · simp only [obIn, h1, if_false]
      exact fun k hk => hk
  have hr := h.run W none_ _ _ _ vs hI (fun k _ hk => hk) hs hA
  intro cs
  obtain ⟨e, w', fr, hR, hC, hfn, hl⟩ := hr cs
  refine ⟨e, w', fr, ?_, hC, hfn, hl⟩
  cases e with
  | returned v =>
    obtain ⟨ρ', φ', Z', hst, hav⟩ := hR
    exact ⟨v, rfl, ⟨hst.inv.keep.os, hst.inv.keep.tape, hst.inv.keep.output, hst.inv.keep.size, fun k hk => hst.inv.keep.block k hk id⟩, _, _, hav⟩
  | _ => exact hR.elim
theorem AVR.bool_inv {w : World} {ob : Objs} {ρ : Nat → Value} {b : Bool} {v : Value} (h : AVR w ob ρ (.s (.bool b)) v) : v = .bool b := by
  cases h; rfl
end Go.Proofs.YtldndahfnkbngaaGreat.Abs
