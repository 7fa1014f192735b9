/- Part 6 of the words by which the law is followed: an interpreter over data trees, proved of the machine, and what functions of this program come to by it. No condition. -/
import Derived.Test.YtipfcgbhaalcdaaGreatPC5
namespace Go.Proofs.YtipfcgbhaalcdaaGreat.Abs
open Go Go.Proofs
set_option linter.unusedVariables false
set_option linter.unusedSimpArgs false
attribute [local irreducible] callE
def stopOk (P : List (List Ins)) (S : List State) (W : List (List Item)) (H : List (List Event)) (p kind : Int) : Bool := sysOk P S W H && (inB p 0 ((P.length : Int) - 1) && inB kind 1 3)
abbrev aStop (p kind v : Int) : AV := .ag [i64 p, i64 kind, i64 v]
def holdsB (kind v a : Int) (o : List Int) (es : List Event) : Bool :=
  if kind = 1 then decide (a = v) else if kind = 2 then decide (0 < (o.length : Int)) && decide (rd o ((o.length : Int) - 1).toNat = v)
  else !decide ((es.length : Int) = 0) && (decide ((rd es ((es.length : Int) - 1).toNat).kind = 3) && decide ((rd es ((es.length : Int) - 1).toNat).v = v))
def stopHolds (P : List (List Ins)) (S : List State) (W : List (List Item)) (H : List (List Event)) (p kind v : Int) : Bool := stopOk P S W H p kind && holdsB kind v (rd S p.toNat).at_ (rd S p.toNat).out (rd H p.toNat)
def lastIs (f : Nat → Bool) : Nat → Int
  | 0 => if f 0 = true then 0 else -1
  | n + 1 => if f (n + 1) = true then ((n + 1 : Nat) : Int) else lastIs f n
def heldAt (l : List Ins) (es : List Event) (kind v : Int) (n : Nat) : Bool := holdsB kind v (stOf (replayAll l (es.take n))).at_ (stOf (replayAll l (es.take n))).out (es.take n)
def lastMo (P : List (List Ins)) (S : List State) (W : List (List Item)) (H : List (List Event)) (p kind v : Int) : Int := if stopOk P S W H p kind = true then lastIs (heldAt (rd P p.toNat) (rd H p.toNat) kind v) (rd H p.toNat).length else -1
structure LA where
  n : Int
  d : Nat
end Go.Proofs.YtipfcgbhaalcdaaGreat.Abs
namespace Go.Proofs.YtipfcgbhaalcdaaGreat.Abs
open Go Go.Proofs
set_option linter.unusedVariables false
set_option linter.unusedSimpArgs false
attribute [local irreducible] callE
set_option maxRecDepth 20000 in
set_option maxHeartbeats 4000000 in
theorem ok_spec_Step (k : Nat) (P : List (List Ins)) (S : List State) (W : List (List Item)) (H : List (List Event)) (p peer : Int) (hb : SysB 10000000000 P S W H) (hs : sysOk P S W H = true) :
    callE PR C (k + 8) 286 [aSys 0 P S W H, i64 p, i64 peer] [tInsSS P, tStateS S, tItemSS W, tEventSS H] = some (sysRes (stepIs P S W H p peer).1 (stepIs P S W H p peer).2 [none, none, none, none]) := by
  have q1 := fun k => ok_spec_SysOk k P S W H hb
  simp only [hs] at q1
  have hI := (sysOk_facts hs).1
  have q2 := fun k => ok_spec_l4Copy k P S W H (hb.mono (by decide)) hI.some
  have q3 := fun k => ok_spec_l5Step k P S W H p peer hb hs
  have hno : ¬ (stepIs P S W H p peer).2 = 0 → (stepIs P S W H p peer).1 = ⟨P, S, W, H⟩ := fun h => by
    unfold stepIs at h ⊢
    split
    · rename_i h2; rw [if_pos h2] at h; exact absurd rfl h
    · rfl
  by_cases c0 : (stepIs P S W H p peer).2 = 0
  · generalize stepIs P S W H p peer = X at *
    obtain ⟨⟨P', S', W', H'⟩, n⟩ := X
    dsimp only at c0
    simp only [sysRes] at q3 ⊢
    (refine fnI [ResultVar.cell 6 29, ResultVar.tmp 7] Tryz.func286 ?_; conv => whnf)
    repeat' ((with_reducible (first | refine sCall.of (q1 _) ?_|refine sCall.of (q2 _) ?_|refine sCall.of (q3 _) ?_|refine st16 ?_|refine fG.split (fun _ => ?_) (fun _ => ?_)|refine fG.bool (fun _ => ?_) (fun _ => ?_))) <;> (try (conv => whnf)))
    all_goals rfl
  · have h1 := hno c0
    generalize stepIs P S W H p peer = X at *
    obtain ⟨X, n⟩ := X
    dsimp only at c0 h1
    subst h1
    simp only [sysRes] at q3 ⊢
    (refine fnI [ResultVar.cell 6 29, ResultVar.tmp 7] Tryz.func286 ?_; conv => whnf)
    repeat' ((with_reducible (first | refine sCall.of (q1 _) ?_|refine sCall.of (q2 _) ?_|refine sCall.of (q3 _) ?_|refine st16 ?_|refine fG.split (fun _ => ?_) (fun _ => ?_)|refine fG.bool (fun _ => ?_) (fun _ => ?_))) <;> (try (conv => whnf)))
    all_goals rfl
def heldIn (X : Sys) (q : Nat) (kind v : Int) : Bool := holdsB kind v (rd X.states q).at_ (rd X.states q).out (rd X.hist q)
def stepX (X : Sys) (w : Who) : Sys × Int := stepIs X.progs X.states X.ways X.hist w.p w.i
def untilGo (q : Nat) (kind v : Int) : Nat → List Who → Sys → Sys × Int
  | i, [], X => (X, (i : Int))
  | i, w :: r, X => if (stepX X w).2 = 0 ∧ heldIn (stepX X w).1 q kind v = true then ((stepX X w).1, ((i + 1 : Nat) : Int)) else untilGo q kind v (i + 1) r (stepX X w).1
def untilIs (P : List (List Ins)) (S : List State) (W : List (List Item)) (H : List (List Event)) (l : List Who) (p kind v : Int) : Sys × Int :=
  if stopOk P S W H p kind = true ∧ (l.length : Int) ≤ 200 then untilGo p.toNat kind v 0 l ⟨P, S, W, H⟩ else (⟨[], [], [], []⟩, -1)
structure Along (n : Nat) (X : Sys) : Prop where
  ok : sysOk X.progs X.states X.ways X.hist = true
  n : X.progs.length = n
structure US where
  j : Nat
  X : Sys
  o : Nat
  b0 : Nat
  b1 : Nat
  b2 : Nat
  b3 : Nat
  dd : Bool
def whoOk (H : List (List Event)) (f : List Int) (w : Who) : Bool := inB w.p 0 ((H.length : Int) - 1) && (decide (w.i = rd f w.p.toNat) && canCome H f w.p.toNat)
def rowGo (H : List (List Event)) : List Who → List Int → Bool
  | [], _ => true
  | w :: r, f => whoOk H f w && rowGo H r (goOn f w.p.toNat)
def rowOkB (P : List (List Ins)) (S : List State) (W : List (List Item)) (H : List (List Event)) (row : List Who) : Bool := sysOk P S W H && (decide (row.length = allEv H) && rowGo H row (List.replicate H.length 0))
structure RO where
  j : Nat
  f : List Int
  g : Nat
  d : Bool
theorem snoc_new (l : List State) : l.map rState ++ [[.v (.int .i64 0), .sl 1 ((List.replicate 4 0).map rI), .sl 1 [], .v (.int .i64 0)]] = (l ++ [newState]).map rState := by simp [rState, newState]
theorem gI17 {p A : Prop} (h : A) (e : p := by first | with_reducible assumption | omega | (simp only [Nat.zero_add, Nat.add_zero, Nat.sub_zero, Int.toNat_natCast, Int.toNat_zero, Int.toNat_one, List.length_map, List.length_nil, Int.reduceToNat, Nat.reduceAdd, Nat.reduceSub, Int.sub_zero, Int.reduceAdd, Int.reduceSub, Nat.sub_self, Int.toNat_natCast_add_one, marks_len, bs_len, List.length_append, List.length_cons, List.length_set, List.length_replicate, List.length_range]; first | done | omega)) : sI p A := sI.mk e h
theorem gNum17 {r r' : Nat} {F : Nat → Prop} (h : F r') (e : r = r' := by first | (simp only [Nat.zero_add, Nat.add_zero, Nat.sub_zero, Int.toNat_natCast, Int.toNat_zero, Int.toNat_one, List.length_map, List.length_nil, Int.reduceToNat, Nat.reduceAdd, Nat.reduceSub, Int.sub_zero, Int.reduceAdd, Int.reduceSub, Nat.sub_self, Int.toNat_natCast_add_one, marks_len, bs_len]; rfl) | rfl) : sN r F := sN.eq e h
theorem gRow17 {r r' : List (List T)} {F : List (List T) → Prop} (h : F r') (e : r = r' := by first | (simp only [Nat.add_zero, Nat.zero_add, Nat.reduceAdd, List.drop_zero, List.take_succ_cons, List.take_nil, List.drop_succ_cons, List.drop_nil, List.take_zero, List.nil_append, List.append_nil, List.map_nil, drop_suf, take_pre, drop_map, List.take_length, take_len_set, take_len_app, List.set_set, List.length_map, snoc_new, snoc_rItem, snoc_rInsL, snoc_rItemL, snoc_rEventL, snoc_rState, set_rWho, rep_rWho, snoc_rWho, set_rState, rep_rState, set_rInsL, rep_rInsL, set_rItemL, rep_rItemL, set_rEventL, rep_rEventL, set_rItem, rep_rItem, rep_rKept, marks_take, set_rKept, set_rIns, rep_rIns, set_rEvent, rep_rEvent, snoc_rKept, snoc_rEvent, snoc_rIns, bytesT_bs, snoc_rI, snoc_rB, snoc_rBool, set_rI, set_rBool, rep_rI, rep_rBool, map_app]; rfl) | rfl) : sR r F := sR.eq e h
theorem st17 {P Q : Prop} (h : Q) (e : Q → P := by with_reducible first | exact fun h => gP h | exact fun h => gN h | exact fun h => fG.not h | exact fun h => gY h | exact fun h => gF h | exact fun h => fG.yes (flat_map (fun _ => rfl) _) h | exact fun h => gS64 h | exact fun h => gU8 h | exact fun h => gI17 h | exact fun h => fE.of rfl h | exact fun h => gNum17 h | exact fun h => gSet h | exact fun h => gRd h | exact fun h => gLk h | exact fun h => gRow17 h | exact fun h => gRf4 h) : P := e h
def newSys (P : List (List Ins)) : Sys := ⟨P, List.replicate P.length newState, List.replicate (P.length * P.length) default, List.replicate P.length default⟩
theorem rd_rep {α : Type} [Inhabited α] {n i : Nat} (x : α) (h : i < n) : rd (List.replicate n x) i = x := by simp [rd, h]
structure NS where
  j : Nat
  lp : List (List Ins)
  ls : List State
  v0 : AV
  v1 : AV
  b0 : Nat
  b1 : Nat
  c0 : Cont
  c1 : Cont
  dd : Bool
def NS.ok (P : List (List Ins)) (n0 n1 : Nat) (z : NS) : Prop :=
  (z.lp = P.take z.j ∧ z.ls = (List.replicate P.length newState).take z.j) ∧
  ((z.j = 0 ∧ (z.v0 = .nl 1 ∧ z.v1 = .nl 4) ∧ (z.b0 = 0 ∧ z.b1 = 0) ∧ (z.c0 = .dead ∧ z.c1 = .dead)) ∨
   (0 < z.j ∧ (z.v0 = .h n0 z.b0 0 [] 1 0 z.lp.length ∧ z.v1 = .h n1 z.b1 0 [] 4 0 z.ls.length) ∧ (z.c0 = tInsSS9 z.lp ∧ z.c1 = tStateS9 z.ls)))
def newRes (P : List (List Ins)) : Res := ⟨.tu [nSys 0 P (List.replicate P.length newState) (List.replicate (P.length * P.length) default) (List.replicate P.length default), bl true], [tInsSS9 P, tStateS9 (List.replicate P.length newState), tItemSS9 (List.replicate (P.length * P.length) default), tEventSS9 (List.replicate P.length default)], [none]⟩
theorem new_B {P : List (List Ins)} (hN : P.length ≤ 4) (hB : ∀ j : Nat, j < P.length → (rd P j).length ≤ 1048576) : SysB 1048576 P (List.replicate P.length newState) (List.replicate (P.length * P.length) default) (List.replicate P.length default) := by
  have hnn : P.length * P.length ≤ 4 * 4 := Nat.mul_le_mul hN hN
  refine ⟨by omega, hB, by simp; omega, fun j hj => ?_, by simp; omega, fun j hj => ?_, by simp; omega, fun j hj => ?_⟩
  · rw [List.length_replicate] at hj; rw [rd_rep _ hj]; simp [newState]
  · rw [List.length_replicate] at hj; rw [rd_rep _ hj]; exact Nat.zero_le _
  · rw [List.length_replicate] at hj; rw [rd_rep _ hj]; exact Nat.zero_le _
set_option maxRecDepth 20000 in
set_option maxHeartbeats 4000000 in
theorem ok_spec_SysNew' (k : Nat) (P : List (List Ins)) (hN : 1 ≤ P.length ∧ P.length ≤ 4) (hBp : ∀ j : Nat, j < P.length → (rd P j).length ≤ 1048576) :
    callE PR C (k + 8) 160 [.h 1000000 0 0 [] 1 0 P.length] [tInsSS P] = some (if sysOk P (List.replicate P.length newState) (List.replicate (P.length * P.length) default) (List.replicate P.length default) = true then newRes P else zeroRes [none]) := by
  have hB := new_B hN.2 hBp
  generalize ht : sysOk P (List.replicate P.length newState) (List.replicate (P.length * P.length) default) (List.replicate P.length default) = t
  have hnn : P.length * P.length ≤ 4 * 4 := Nat.mul_le_mul hN.2 hN.2
  have w1 : IntKind.i64.wrap ((P.length : Int) * (P.length : Int)) = ((P.length * P.length : Nat) : Int) := by
    rw [show (P.length : Int) * (P.length : Int) = ((P.length * P.length : Nat) : Int) by simp]; exact wrap_i64 _ (by omega) (by omega)
  have q0 := fun k => ok_spec_l4Ins k P (by omega) (fun j hj => by have := hBp j hj; omega)
  have q1 : ∀ k, callE PR C (k + 7) 76 [aSys 0 P (List.replicate P.length newState) (List.replicate (P.length * P.length) default) (List.replicate P.length default)] [tInsSS P, tStateS (List.replicate P.length newState), tItemSS (List.replicate (P.length * P.length) default), tEventSS (List.replicate P.length default)] = some ⟨bl t, [], [none, none, none, none]⟩ := fun k => by
    rw [ok_spec_SysOk k P _ _ _ (hB.mono (by decide)), ht]
  have r1 : (List.replicate (P.length * P.length) (default : List Item)).length = P.length * P.length := List.length_replicate
  have r2 : (List.replicate P.length (default : List Event)).length = P.length := List.length_replicate
  have r3 : (List.replicate P.length newState).length = P.length := List.length_replicate
  have et1 : List.take (P.length * P.length) (List.replicate (P.length * P.length) (default : List Item)) = List.replicate (P.length * P.length) default := List.take_of_length_le (by rw [r1]; exact Nat.le_refl _)
  have et2 : List.take P.length (List.replicate P.length (default : List Event)) = List.replicate P.length default := List.take_of_length_le (by rw [r2]; exact Nat.le_refl _)
  simp only [newRes, nSys, r1, r2]
  simp only [aSys, r1, r2] at q1
  generalize hWe : List.replicate (P.length * P.length) (default : List Item) = W0 at *
  generalize hHe : List.replicate P.length (default : List Event) = H0 at *
  (refine fnI [ResultVar.cell 2 29, ResultVar.tmp 3] Tryz.func160 ?_; conv => whnf)
  repeat' ((with_reducible (first | refine sCall.of (q0 _) ?_|refine sW.eq (w1) ?_|refine st17 ?_|refine fG.split (fun _ => ?_) (fun _ => ?_)|refine fG.bool (fun _ => ?_) (fun _ => ?_)|refine gD 4 [(1, 5), (1, 7), (5, 7), (1, 9), (5, 9), (7, 9)] ?_|refine gD 8 [(1, 2), (1, 3)] ?_)) <;> (try (conv => whnf)))
  refine loop_rule (ι := NS) (fun z => [(2, .pt 2 1 0 [] 0 0), (4, i64 P.length), (5, .pt 5 1 0 [] 0 0), (6, i64 (z.j : Nat))])
    (fun z => [(1000000, ⟨0, 0, false, tInsSS P⟩), (2, ⟨1, 0, false, .box [.nl 1, .nl 4, .nl 1, .nl 1]⟩), (5, ⟨1, 0, z.dd, .box [.h 10013 1 0 [] 1 0 P.length, z.v1, .h 17 1 0 [] 1 0 (P.length * P.length), .h 19 1 0 [] 1 0 P.length]⟩), (10013, ⟨1, 0, false, tInsSS9 P⟩), (17, ⟨1, 0, false, tItemSS9 W0⟩), (19, ⟨1, 0, false, tEventSS9 H0⟩), (30, ⟨z.b1, 0, false, z.c1⟩)])
    (fun z => P.length - z.j) (fun z => z.j ≤ P.length ∧ NS.ok P 32 30 z)
    ⟨0, [], [], .nl 1, .nl 4, 0, 0, .dead, .dead, _⟩ (by rw [← hWe, ← hHe]; exact fitOk) ⟨Nat.zero_le _, ⟨rfl, rfl⟩, .inl ⟨rfl, ⟨rfl, rfl⟩, ⟨rfl, rfl⟩, ⟨rfl, rfl⟩⟩⟩ (by simp [C]; omega) ?_
  rintro ⟨j, lp, ls, v0, v1, b0, b1, c0, c1, dd⟩ sl ob ⟨hj, ⟨hlp, hls⟩, hg⟩
  dsimp only at hj hlp hls hg
  by_cases hjl : j < P.length
  · have hnew : rd (List.replicate P.length newState) j = newState := rd_rep _ hjl
    rcases hg with ⟨e1, ⟨f1, f2⟩, ⟨f4, f5⟩, ⟨f7, f8⟩⟩ | ⟨h0, ⟨f1, f2⟩, ⟨f7, f8⟩⟩
    · subst e1 f1 f2 f4 f5 f7 f8 hlp hls
      (try dsimp only [cond_true, cond_false])
      (conv => whnf)
      repeat' ((with_reducible (first | refine sCall.of (ok_spec_StateNew _) ?_|refine st17 ?_|refine fG.split (fun _ => ?_) (fun _ => ?_)|refine fG.bool (fun _ => ?_) (fun _ => ?_)|refine gD 4 [(1, 5), (1, 7), (5, 7), (1, 9), (5, 9), (7, 9)] ?_|refine gD 8 [(1, 2), (1, 3)] ?_)) <;> (try (conv => whnf)))
      refine ⟨⟨⟨0 + 1, [rd P 0], [newState], .h 32 0 0 [] 1 0 1, _, 0, _, tInsSS9 [rd P 0], _, _⟩, fitOk, ?_, ?_⟩⟩
      · exact ⟨by show 0 + 1 ≤ _; omega, ⟨by show _ = P.take (0 + 1); rw [take_rd hjl]; rfl, by show _ = (List.replicate P.length newState).take (0 + 1); rw [take_rd (by omega), hnew]; rfl⟩, .inr ⟨Nat.one_pos, ⟨rfl, rfl⟩, ⟨rfl, rfl⟩⟩⟩
      · show P.length - (0 + 1) < P.length - 0; omega
    · have l1 : ls.length = j := by rw [hls]; simp; omega
      subst f1 f2 f7 f8
      (try dsimp only [cond_true, cond_false])
      (conv => whnf)
      repeat' ((with_reducible (first | refine sCall.of (ok_spec_StateNew _) ?_|refine st17 ?_|refine fG.split (fun _ => ?_) (fun _ => ?_)|refine fG.bool (fun _ => ?_) (fun _ => ?_)|refine gD 4 [(1, 5), (1, 7), (5, 7), (1, 9), (5, 9), (7, 9)] ?_|refine gD 8 [(1, 2), (1, 3)] ?_)) <;> (try (conv => whnf)))
      refine ⟨⟨⟨j + 1, lp ++ [rd P j], ls ++ [newState], .h 32 0 0 [] 1 0 (lp ++ [rd P j]).length, _, 0, _, tInsSS9 (lp ++ [rd P j]), _, _⟩, fitOk, ?_, ?_⟩⟩
      · exact ⟨by show j + 1 ≤ _; omega, ⟨by show _ = P.take (j + 1); rw [take_rd hjl, hlp], by show _ = (List.replicate P.length newState).take (j + 1); rw [take_rd (by omega), hls, hnew]⟩, .inr ⟨Nat.succ_pos j, ⟨rfl, rfl⟩, ⟨rfl, rfl⟩⟩⟩
      · show P.length - (j + 1) < P.length - j; omega
  · rw [List.take_of_length_le (by omega)] at hls
    rcases hg with ⟨e1, ⟨f1, f2⟩, ⟨f4, f5⟩, ⟨f7, f8⟩⟩ | ⟨h0, ⟨f1, f2⟩, ⟨f7, f8⟩⟩
    · exfalso; omega
    · rw [hls] at f2 f8
      subst f1 f2 f7 f8
      have q1' : ∀ k, callE PR C (k + 7) 76 [.ag [.h 1000000 0 0 [] 1 0 P.length, .h 1000001 0 0 [] 4 0 (List.replicate P.length newState).length, .h 1000002 0 0 [] 1 0 (List.take (P.length * P.length) W0).length, .h 1000003 0 0 [] 1 0 (List.take P.length H0).length]] [tInsSS P, tStateS (List.replicate P.length newState), tItemSS (List.take (P.length * P.length) W0), tEventSS (List.take P.length H0)] = some ⟨bl t, [], [none, none, none, none]⟩ := fun k => by rw [et1, et2, r1, r2]; exact q1 k
      cases t
      all_goals (try dsimp only [cond_true, cond_false])
      all_goals (conv => whnf)
      all_goals repeat' ((with_reducible (first | refine sCall.of (q1' _) ?_|refine st17 ?_|refine fG.split (fun _ => ?_) (fun _ => ?_)|refine fG.bool (fun _ => ?_) (fun _ => ?_)|refine gD 4 [(1, 5), (1, 7), (5, 7), (1, 9), (5, 9), (7, 9)] ?_|refine gD 8 [(1, 2), (1, 3)] ?_)) <;> (try (conv => whnf)))
      all_goals first | rfl | (simp only [et1, et2] <;> rfl)
theorem ok_spec_StepBad (k : Nat) (P : List (List Ins)) (S : List State) (W : List (List Item)) (H : List (List Event)) (p peer : Int) (hb : SysB 10000000000 P S W H) (hs : sysOk P S W H = false) :
    callE PR C (k + 8) 286 [aSys 0 P S W H, i64 p, i64 peer] [tInsSS P, tStateS S, tItemSS W, tEventSS H] = some (sysRes ⟨[], [], [], []⟩ 1 [none, none, none, none]) := by
  have q1 := fun k => ok_spec_SysOk k P S W H hb
  simp only [hs] at q1
  (refine fnI [ResultVar.cell 6 29, ResultVar.tmp 7] Tryz.func286 ?_; conv => whnf)
  repeat' ((with_reducible (first | refine sCall.of (q1 _) ?_|refine st17 ?_|refine fG.split (fun _ => ?_) (fun _ => ?_)|refine fG.bool (fun _ => ?_) (fun _ => ?_))) <;> (try (conv => whnf)))
  all_goals rfl
end Go.Proofs.YtipfcgbhaalcdaaGreat.Abs
namespace Go.Proofs.YtipfcgbhaalcdaaGreat.Abs
open Go Go.Proofs
set_option linter.unusedVariables false
set_option linter.unusedSimpArgs false
attribute [local irreducible] callE
theorem i64_and255 (n : Int) : Go.bits .and .i64 n 255 = n % 256 := by
  have h127 : (BitVec.ofInt 64 255).toNat = 2 ^ 8 - 1 := by decide
  have key : (BitVec.ofInt 64 n &&& BitVec.ofInt 64 255).toNat = (n % ((2 ^ 64 : Nat) : Int)).toNat % 2 ^ 8 := by
    rw [BitVec.toNat_and, BitVec.toNat_ofInt, h127, Nat.and_two_pow_sub_one_eq_mod]
  show IntKind.i64.wrap ((BitVec.ofInt 64 n &&& BitVec.ofInt 64 255).toNat : Nat) = n % 256
  rw [key, IntKind.wrap_i64]
  omega
theorem i64_and30 (n : Int) : Go.bits .and .i64 n 1073741823 = n % 1073741824 := by
  have h127 : (BitVec.ofInt 64 1073741823).toNat = 2 ^ 30 - 1 := by decide
  have key : (BitVec.ofInt 64 n &&& BitVec.ofInt 64 1073741823).toNat = (n % ((2 ^ 64 : Nat) : Int)).toNat % 2 ^ 30 := by
    rw [BitVec.toNat_and, BitVec.toNat_ofInt, h127, Nat.and_two_pow_sub_one_eq_mod]
  show IntKind.i64.wrap ((BitVec.ofInt 64 n &&& BitVec.ofInt 64 1073741823).toNat : Nat) = n % 1073741824
  rw [key, IntKind.wrap_i64]
  omega
theorem sZ.all {r : Int} {F : Int → Prop} (h : ∀ n, F n) : sZ r F := ⟨h r⟩
theorem sW.all {k : IntKind} {r : Int} {F : Int → Prop} (h : ∀ n, F n) : sW k r F := ⟨h _⟩

abbrev tB (b : List Int) : Cont := .tree 0 (.sl 1 (b.map rB))
set_option maxRecDepth 20000 in
theorem ok_spec_l1New (k : Nat) (b : List Int) (hl : b.length ≤ 100000000000) (hb : ∀ v ∈ b, 0 ≤ v ∧ v < 256) :
    Told (callE PR C (k + 1) 102 [.h 1000000 0 0 [] 1 0 b.length] [tB b]) (fun r => ∃ h : Int, r = ⟨.pt 2000000 1 0 [] 0 0, [.box [.h 1000000 0 0 [] 1 0 b.length, i64 0, i64 h]], [none]⟩) := by
  (refine callE_w [ResultVar.tmp 2] rfl Tryz.func102 rfl (by decide +kernel) rfl (by simp) ?_; (conv => whnf))
  repeat' ((with_reducible (first | refine st17 ?_|refine fG.split (fun _ => ?_) (fun _ => ?_)|refine fG.bool (fun _ => ?_) (fun _ => ?_))) <;> (try (conv => whnf)))
  refine loop_rule (ι := TH) (fun x => [(0, .h 1000000 0 0 [] 1 0 b.length), (3, i64 x.m), (4, i64 (x.j : Nat))])
    (fun x => [(1000000, ⟨0, 0, false, tB b⟩)])
    (fun x => b.length - x.j) (fun x => x.j ≤ b.length ∧ 0 ≤ x.m ∧ x.m ≤ 2000000000000) ⟨0, 17259 + (b.length : Int)⟩ fitOk ⟨Nat.zero_le _, by show (0 : Int) ≤ 17259 + (b.length : Int); omega, by show 17259 + (b.length : Int) ≤ 2000000000000; omega⟩ (by simp [C]; omega) ?_
  rintro ⟨j, m⟩ sl ob ⟨hj, h0, h1⟩
  dsimp only at hj h0 h1
  (try dsimp only [cond_true, cond_false])
  (conv => whnf)
  by_cases hjl : j < b.length
  · have hmem := hb _ (rd_mem hjl)
    repeat' ((with_reducible (first | refine st17 ?_|refine fG.split (fun _ => ?_) (fun _ => ?_)|refine fG.bool (fun _ => ?_) (fun _ => ?_)|refine sZ.eq (i64_and255 _) ?_|refine sZ.eq (i64_and30 _) ?_)) <;> (try (conv => whnf)))
    case' refine_1 h =>
      refine ⟨⟨⟨j + 1, (m * 131 + rd b j + 7) % 1073741824⟩, fitOk, ?_, ?_⟩⟩
      · exact ⟨by show j + 1 ≤ _; omega, by show (0 : Int) ≤ (m * 131 + rd b j + 7) % 1073741824; omega, by show (m * 131 + rd b j + 7) % 1073741824 ≤ (2000000000000 : Int); omega⟩
      · show b.length - (j + 1) < b.length - j; omega
    all_goals exact ⟨_, rfl⟩
  · repeat' ((with_reducible (first | refine st17 ?_|refine fG.split (fun _ => ?_) (fun _ => ?_)|refine fG.bool (fun _ => ?_) (fun _ => ?_))) <;> (try (conv => whnf)))
    exact ⟨_, rfl⟩
def Cur (b : List Int) (lo hi : Int) (r : Res) : Prop := ∃ (x i h : Int), lo ≤ x ∧ x ≤ hi ∧ 0 ≤ i ∧ i ≤ b.length ∧ r = ⟨i64 x, [], [none, some (.box [.h 1000000 0 0 [] 1 0 b.length, i64 i, i64 h])]⟩
theorem ok_spec_l1Byte (k : Nat) (b : List Int) (i h : Int) (hl : b.length ≤ 100000000000) (hb : ∀ v ∈ b, 0 ≤ v ∧ v < 256) (h0 : 0 ≤ i) (h1 : i ≤ b.length) :
    Told (callE PR C (k + 1) 212 [.pt 1000001 0 0 [] 0 0] [tB b, .box [.h 1000000 0 0 [] 1 0 b.length, i64 i, i64 h]]) (Cur b 0 255) := by
  by_cases hc : i < b.length
  · have hmem := hb _ (rd_mem (l := b) (n := i.toNat) (by omega))
    (refine callE_w [ResultVar.tmp 2] rfl Tryz.func212 rfl (by decide +kernel) rfl (by simp) ?_; (conv => whnf))
    repeat' ((with_reducible (first | refine st17 ?_|refine fG.split (fun _ => ?_) (fun _ => ?_)|refine fG.bool (fun _ => ?_) (fun _ => ?_)|refine sZ.eq (i64_and255 _) ?_|refine sZ.eq (i64_and30 _) ?_|refine sZ.all (fun _ => ?_)|refine sW.all (fun _ => ?_)|refine gDn 2 ?_|refine gDn 3 ?_|refine gDn 4 ?_)) <;> (try (conv => whnf)))
    exact ⟨_, _, _, by omega, by omega, by omega, by omega, rfl⟩
  · (refine callE_w [ResultVar.tmp 2] rfl Tryz.func212 rfl (by decide +kernel) rfl (by simp) ?_; (conv => whnf))
    repeat' ((with_reducible (first | refine st17 ?_|refine fG.split (fun _ => ?_) (fun _ => ?_)|refine fG.bool (fun _ => ?_) (fun _ => ?_)|refine sZ.eq (i64_and255 _) ?_|refine sZ.eq (i64_and30 _) ?_|refine sZ.all (fun _ => ?_)|refine sW.all (fun _ => ?_)|refine gDn 2 ?_|refine gDn 3 ?_|refine gDn 4 ?_)) <;> (try (conv => whnf)))
    exact ⟨_, _, _, by omega, by omega, by omega, by omega, rfl⟩
set_option maxRecDepth 20000 in
theorem ok_spec_l1Below (k : Nat) (b : List Int) (i h n : Int) (hl : b.length ≤ 100000000000) (hb : ∀ v ∈ b, 0 ≤ v ∧ v < 256) (h0 : 0 ≤ i) (h1 : i ≤ b.length) (hn : n ≤ 100000000001) :
    Told (callE PR C (k + 2) 112 [.pt 1000001 0 0 [] 0 0, i64 n] [tB b, .box [.h 1000000 0 0 [] 1 0 b.length, i64 i, i64 h]]) (Cur b 0 (if n ≤ 0 then 0 else n - 1)) := by
  by_cases c0 : n ≤ 0
  · rw [if_pos c0]
    (refine callE_w [ResultVar.tmp 4] rfl Tryz.func112 rfl (by decide +kernel) rfl (by simp) ?_; (conv => whnf))
    repeat' ((with_reducible (first | refine st17 ?_|refine fG.split (fun _ => ?_) (fun _ => ?_)|refine fG.bool (fun _ => ?_) (fun _ => ?_))) <;> (try (conv => whnf)))
    exact ⟨_, _, _, by omega, by omega, by omega, by omega, rfl⟩
  · rw [if_neg c0]
    by_cases c1 : n ≤ 256
    · (refine callE_w [ResultVar.tmp 4] rfl Tryz.func112 rfl (by decide +kernel) rfl (by simp) ?_; (conv => whnf))
      repeat' ((with_reducible (first | (refine sCall.ex (ok_spec_l1Byte k b i h hl hb h0 h1) ?_)|refine st17 ?_|refine fG.split (fun _ => ?_) (fun _ => ?_)|refine fG.bool (fun _ => ?_) (fun _ => ?_))) <;> (try (conv => whnf)))
      rintro _ ⟨x1, i1, h1', ha, hb1, hc, hd, rfl⟩
      have e1 : x1.tmod n = x1 % n := Int.tmod_eq_emod_of_nonneg ha
      have e2 := Int.emod_nonneg x1 (by omega : n ≠ 0)
      have e3 := Int.emod_lt_of_pos x1 (by omega : 0 < n)
      (conv => whnf)
      repeat' ((with_reducible (first | refine st17 ?_|refine fG.split (fun _ => ?_) (fun _ => ?_)|refine fG.bool (fun _ => ?_) (fun _ => ?_))) <;> (try (conv => whnf)))
      refine sZ.eq e1 ?_
      (conv => whnf)
      repeat' ((with_reducible (first | refine st17 ?_|refine fG.split (fun _ => ?_) (fun _ => ?_)|refine fG.bool (fun _ => ?_) (fun _ => ?_))) <;> (try (conv => whnf)))
      exact ⟨_, _, _, e2, Int.le_sub_one_of_lt e3, hc, hd, rfl⟩
    · (refine callE_w [ResultVar.tmp 4] rfl Tryz.func112 rfl (by decide +kernel) rfl (by simp) ?_; (conv => whnf))
      repeat' ((with_reducible (first | (refine sCall.ex (ok_spec_l1Byte k b i h hl hb h0 h1) ?_)|refine st17 ?_|refine fG.split (fun _ => ?_) (fun _ => ?_)|refine fG.bool (fun _ => ?_) (fun _ => ?_))) <;> (try (conv => whnf)))
      rintro _ ⟨x1, i1, h1', ha, hb1, hc, hd, rfl⟩
      (conv => whnf)
      repeat' ((with_reducible (first | (refine sCall.ex (ok_spec_l1Byte k b i1 _ hl hb hc hd) ?_)|refine st17 ?_|refine fG.split (fun _ => ?_) (fun _ => ?_)|refine fG.bool (fun _ => ?_) (fun _ => ?_))) <;> (try (conv => whnf)))
      rintro _ ⟨x2, i2, h2', ha2, hb2, hc2, hd2, rfl⟩
      (conv => whnf)
      repeat' ((with_reducible (first | (refine sCall.ex (ok_spec_l1Byte k b i2 _ hl hb hc2 hd2) ?_)|refine st17 ?_|refine fG.split (fun _ => ?_) (fun _ => ?_)|refine fG.bool (fun _ => ?_) (fun _ => ?_))) <;> (try (conv => whnf)))
      rintro _ ⟨x3, i3, h3', ha3, hb3, hc3, hd3, rfl⟩
      (conv => whnf)
      repeat' ((with_reducible (first | (refine sCall.ex (ok_spec_l1Byte k b i3 _ hl hb hc3 hd3) ?_)|refine st17 ?_|refine fG.split (fun _ => ?_) (fun _ => ?_)|refine fG.bool (fun _ => ?_) (fun _ => ?_))) <;> (try (conv => whnf)))
      rintro _ ⟨x4, i4, h4', ha4, hb4, hc4, hd4, rfl⟩
      have e1 : (x1 * 16777216 + x2 * 65536 + x3 * 256 + x4).tmod n = (x1 * 16777216 + x2 * 65536 + x3 * 256 + x4) % n := Int.tmod_eq_emod_of_nonneg (by omega)
      have e2 := Int.emod_nonneg (x1 * 16777216 + x2 * 65536 + x3 * 256 + x4) (by omega : n ≠ 0)
      have e3 := Int.emod_lt_of_pos (x1 * 16777216 + x2 * 65536 + x3 * 256 + x4) (by omega : 0 < n)
      (conv => whnf)
      repeat' ((with_reducible (first | refine st17 ?_|refine fG.split (fun _ => ?_) (fun _ => ?_)|refine fG.bool (fun _ => ?_) (fun _ => ?_))) <;> (try (conv => whnf)))
      refine sZ.eq e1 ?_
      (conv => whnf)
      repeat' ((with_reducible (first | refine st17 ?_|refine fG.split (fun _ => ?_) (fun _ => ?_)|refine fG.bool (fun _ => ?_) (fun _ => ?_))) <;> (try (conv => whnf)))
      exact ⟨_, _, _, e2, Int.le_sub_one_of_lt e3, hc4, hd4, rfl⟩

abbrev tCur (b : List Int) (i h : Int) : Cont := .box [.h 1000000 0 0 [] 1 0 b.length, i64 i, i64 h]
structure Bytes (b : List Int) : Prop where
  len : b.length ≤ 100000000000
  num : ∀ v ∈ b, 0 ≤ v ∧ v < 256
theorem sCall.cur {x : Option Res} {b : List Int} {lo hi : Int} {F : Res → Prop} (e : Told x (Cur b lo hi)) (h : ∀ x i h : Int, lo ≤ x → x ≤ hi → 0 ≤ i → i ≤ b.length → F ⟨i64 x, [], [none, some (tCur b i h)]⟩) : sCall x F :=
  sCall.ex e fun r hr => by obtain ⟨x, i, h', h1, h2, h3, h4, rfl⟩ := hr; exact h x i h' h1 h2 h3 h4
theorem ok_Below (k : Nat) (b : List Int) (i h n : Int) (hb : Bytes b) (h0 : 0 ≤ i := by assumption) (h1 : i ≤ b.length := by assumption) (hn0 : 0 < n := by omega) (hn : n ≤ 100000000001 := by omega) :
    Told (callE PR C (k + 2) 112 [.pt 1000001 0 0 [] 0 0, i64 n] [tB b, tCur b i h]) (Cur b 0 (n - 1)) := by
  have := ok_spec_l1Below k b i h n hb.len hb.num h0 h1 hn
  rwa [if_neg (by omega)] at this
theorem ok_spec_l1Once (k : Nat) (b : List Int) (i h n : Int) (hb : Bytes b) (h0 : 0 ≤ i := by assumption) (h1 : i ≤ b.length := by assumption) (hn0 : 0 < n := by omega) (hn : n ≤ 100000000001 := by omega) :
    Told (callE PR C (k + 3) 139 [.pt 1000001 0 0 [] 0 0, i64 n] [tB b, tCur b i h]) (fun r => ∃ (x : Bool) (i h : Int), 0 ≤ i ∧ i ≤ b.length ∧ r = ⟨bl x, [], [none, some (tCur b i h)]⟩) := by
  (refine callE_w [ResultVar.tmp 4] rfl Tryz.func139 rfl (by decide +kernel) rfl (by simp) ?_; (conv => whnf))
  repeat' ((with_reducible (first | refine sCall.cur (ok_Below _ _ _ _ _ hb) (fun _ _ _ _ _ _ _ => ?_)|refine st17 ?_|refine fG.split (fun _ => ?_) (fun _ => ?_)|refine fG.bool (fun _ => ?_) (fun _ => ?_))) <;> (try (conv => whnf)))
  exact ⟨_, _, _, by assumption, by assumption, rfl⟩
theorem ok_spec_l1PickInt (k : Nat) (b : List Int) (i h : Int) (l : List Int) (hb : Bytes b) (hl0 : 0 < l.length) (hl : l.length ≤ 100000000000) (h0 : 0 ≤ i := by assumption) (h1 : i ≤ b.length := by assumption) :
    Told (callE PR C (k + 3) 149 [.pt 1000001 0 0 [] 0 0, .h 1000002 0 0 [] 1 0 l.length] [tB b, tCur b i h, tI l]) (fun r => ∃ x i h : Int, x ∈ l ∧ 0 ≤ i ∧ i ≤ b.length ∧ r = ⟨i64 x, [], [none, some (tCur b i h), none]⟩) := by
  have hbl := hb.len
  (refine callE_w [ResultVar.tmp 4] rfl Tryz.func149 rfl (by decide +kernel) rfl (by simp) ?_; (conv => whnf))
  repeat' ((with_reducible (first | refine sCall.cur (ok_Below _ _ _ _ _ hb) (fun _ _ _ _ _ _ _ => ?_)|refine st17 ?_|refine fG.split (fun _ => ?_) (fun _ => ?_)|refine fG.bool (fun _ => ?_) (fun _ => ?_))) <;> (try (conv => whnf)))
  exact ⟨_, _, _, rd_mem (by omega), by assumption, by assumption, rfl⟩
theorem sCall.curB {x : Option Res} {b : List Int} {F : Res → Prop} (e : Told x (fun r => ∃ (x : Bool) (i h : Int), 0 ≤ i ∧ i ≤ b.length ∧ r = ⟨bl x, [], [none, some (tCur b i h)]⟩)) (h : ∀ (x : Bool) (i h : Int), 0 ≤ i → i ≤ b.length → F ⟨bl x, [], [none, some (tCur b i h)]⟩) : sCall x F :=
  sCall.ex e fun r hr => by obtain ⟨x, i, h', h3, h4, rfl⟩ := hr; exact h x i h' h3 h4
theorem sCall.newCur {x : Option Res} {b : List Int} {F : Res → Prop} (e : Told x (fun r => ∃ h : Int, r = ⟨.pt 2000000 1 0 [] 0 0, [.box [.h 1000000 0 0 [] 1 0 b.length, i64 0, i64 h]], [none]⟩)) (h : ∀ h : Int, F ⟨.pt 2000000 1 0 [] 0 0, [tCur b 0 h], [none]⟩) : sCall x F :=
  sCall.ex e fun r hr => by obtain ⟨h', rfl⟩ := hr; exact h h'

end Go.Proofs.YtipfcgbhaalcdaaGreat.Abs
namespace Go.Proofs.YtipfcgbhaalcdaaGreat.Abs
open Go Go.Proofs
set_option linter.unusedVariables false
set_option linter.unusedSimpArgs false
attribute [local irreducible] callE
set_option maxRecDepth 20000 in
set_option maxHeartbeats 8000000 in
theorem ok_spec_l1DrawIns (k : Nat) (b : List Int) (i h m p : Int) (hb : Bytes b) (hm : 0 < m := by omega) (hm2 : m ≤ 100000000001 := by omega) (hp : 0 < p := by omega) (hp2 : p ≤ 100000000001 := by omega) (h0 : 0 ≤ i := by assumption) (h1 : i ≤ b.length := by assumption) :
    Told (callE PR C (k + 4) 304 [.pt 1000001 0 0 [] 0 0, i64 m, i64 p] [tB b, tCur b i h]) (fun r => ∃ o q a c n i h : Int, 0 ≤ i ∧ i ≤ b.length ∧ r = ⟨.ag [i64 o, i64 q, i64 a, i64 c, i64 n], [], [none, some (tCur b i h)]⟩) := by
  have hbl := hb.len
  (refine callE_w [ResultVar.cell 6 116] rfl Tryz.func304 rfl (by decide +kernel) rfl (by simp) ?_; (conv => whnf))
  repeat' ((with_reducible (first | refine sCall.cur (ok_Below _ _ _ _ _ hb) (fun _ _ _ _ _ _ _ => ?_)|refine sCall.curB (ok_spec_l1Once _ _ _ _ _ hb) (fun _ _ _ _ _ => ?_)|refine st17 ?_|refine fG.split (fun _ => ?_) (fun _ => ?_)|refine fG.bool (fun _ => ?_) (fun _ => ?_))) <;> (try (conv => whnf)))
  all_goals exact ⟨_, _, _, _, _, _, _, by assumption, by assumption, rfl⟩

theorem one_rIns (a b c d e : Int) : [[T.v (.int .i64 a), .v (.int .i64 b), .v (.int .i64 c), .v (.int .i64 d), .v (.int .i64 e)]] = [(⟨a, b, c, d, e⟩ : Ins)].map rIns := rfl
theorem cons_rIns (l : List Ins) (a b c d e : Int) : [T.v (.int .i64 a), .v (.int .i64 b), .v (.int .i64 c), .v (.int .i64 d), .v (.int .i64 e)] :: l.map rIns = ((⟨a, b, c, d, e⟩ : Ins) :: l).map rIns := rfl
theorem one_rI (a : Int) : [[T.v (.int .i64 a)]] = [a].map rI := rfl
theorem cons_rI (l : List Int) (a : Int) : [T.v (.int .i64 a)] :: l.map rI = (a :: l).map rI := rfl
theorem gI18 {p A : Prop} (h : A) (e : p := by first | with_reducible assumption | omega | (simp only [Nat.zero_add, Nat.add_zero, Nat.sub_zero, Int.toNat_natCast, Int.toNat_zero, Int.toNat_one, List.length_map, List.length_nil, Int.reduceToNat, Nat.reduceAdd, Nat.reduceSub, Int.sub_zero, Int.reduceAdd, Int.reduceSub, Nat.sub_self, Int.toNat_natCast_add_one, marks_len, bs_len, List.length_append, List.length_cons, List.length_set, List.length_replicate, List.length_range]; first | done | omega)) : sI p A := sI.mk e h
theorem gNum18 {r r' : Nat} {F : Nat → Prop} (h : F r') (e : r = r' := by first | (simp only [Nat.zero_add, Nat.add_zero, Nat.sub_zero, Int.toNat_natCast, Int.toNat_zero, Int.toNat_one, List.length_map, List.length_nil, Int.reduceToNat, Nat.reduceAdd, Nat.reduceSub, Int.sub_zero, Int.reduceAdd, Int.reduceSub, Nat.sub_self, Int.toNat_natCast_add_one, marks_len, bs_len]; rfl) | rfl) : sN r F := sN.eq e h
theorem gRow18 {r r' : List (List T)} {F : List (List T) → Prop} (h : F r') (e : r = r' := by first | (simp only [Nat.add_zero, Nat.zero_add, Nat.reduceAdd, List.drop_zero, List.take_succ_cons, List.take_nil, List.drop_succ_cons, List.drop_nil, List.take_zero, List.nil_append, List.append_nil, List.map_nil, drop_suf, take_pre, drop_map, List.take_length, take_len_set, take_len_app, List.set_set, List.length_map, one_rIns, cons_rIns, one_rI, cons_rI, snoc_new, snoc_rItem, snoc_rInsL, snoc_rItemL, snoc_rEventL, snoc_rState, set_rWho, rep_rWho, snoc_rWho, set_rState, rep_rState, set_rInsL, rep_rInsL, set_rItemL, rep_rItemL, set_rEventL, rep_rEventL, set_rItem, rep_rItem, rep_rKept, marks_take, set_rKept, set_rIns, rep_rIns, set_rEvent, rep_rEvent, snoc_rKept, snoc_rEvent, snoc_rIns, bytesT_bs, snoc_rI, snoc_rB, snoc_rBool, set_rI, set_rBool, rep_rI, rep_rBool, map_app]; rfl) | rfl) : sR r F := sR.eq e h
theorem st18 {P Q : Prop} (h : Q) (e : Q → P := by with_reducible first | exact fun h => gP h | exact fun h => gN h | exact fun h => fG.not h | exact fun h => gY h | exact fun h => gF h | exact fun h => fG.yes (flat_map (fun _ => rfl) _) h | exact fun h => gS64 h | exact fun h => gU8 h | exact fun h => gI18 h | exact fun h => fE.of rfl h | exact fun h => gNum18 h | exact fun h => gSet h | exact fun h => gRd h | exact fun h => gLk h | exact fun h => gRow18 h | exact fun h => gRf4 h) : P := e h
def DrawnIns (b : List Int) (m n : Nat) (r : Res) : Prop := ∃ (l : List Ins) (i h : Int), m ≤ l.length ∧ l.length ≤ n ∧ 0 ≤ i ∧ i ≤ b.length ∧ r = ⟨.h 2000000 1 0 [] 5 0 l.length, [tIns9 l], [none, some (tCur b i h)]⟩
structure DP where
  j : Nat
  l : List Ins
  o : Nat
  bb : Nat
  i : Int
  h : Int
theorem sCall.ins {x : Option Res} {b : List Int} {F : Res → Prop} (e : Told x (fun r => ∃ o q a c n i h : Int, 0 ≤ i ∧ i ≤ b.length ∧ r = ⟨.ag [i64 o, i64 q, i64 a, i64 c, i64 n], [], [none, some (tCur b i h)]⟩)) (h : ∀ o q a c n i h : Int, 0 ≤ i → i ≤ b.length → F ⟨.ag [i64 o, i64 q, i64 a, i64 c, i64 n], [], [none, some (tCur b i h)]⟩) : sCall x F :=
  sCall.ex e fun r hr => by obtain ⟨o, q, a, c, n, i, h', h3, h4, rfl⟩ := hr; exact h o q a c n i h' h3 h4
theorem sCall.pick {x : Option Res} {b l : List Int} {F : Res → Prop} (e : Told x (fun r => ∃ x i h : Int, x ∈ l ∧ 0 ≤ i ∧ i ≤ b.length ∧ r = ⟨i64 x, [], [none, some (tCur b i h), none]⟩)) (h : ∀ x i h : Int, x ∈ l → 0 ≤ i → i ≤ b.length → F ⟨i64 x, [], [none, some (tCur b i h), none]⟩) : sCall x F :=
  sCall.ex e fun r hr => by obtain ⟨x, i, h', h2, h3, h4, rfl⟩ := hr; exact h x i h' h2 h3 h4
theorem ok_PickInt (k : Nat) (b : List Int) (i h : Int) (l : List Int) (hb : Bytes b) (hl0 : 0 < l.length := by simp) (hl : l.length ≤ 100000000000 := by simp) (h0 : 0 ≤ i := by assumption) (h1 : i ≤ b.length := by assumption) :
    Told (callE PR C (k + 3) 149 [.pt 1000001 0 0 [] 0 0, .h 1000002 0 0 [] 1 0 l.length] [tB b, tCur b i h, tI l]) (fun r => ∃ x i h : Int, x ∈ l ∧ 0 ≤ i ∧ i ≤ b.length ∧ r = ⟨i64 x, [], [none, some (tCur b i h), none]⟩) := ok_spec_l1PickInt k b i h l hb hl0 hl h0 h1
theorem drawn_mk {b : List Int} {m n' n : Nat} {l : List Ins} {i h : Int} (e : l.length = n) (h1 : m ≤ n) (h2 : n ≤ n') (h3 : 0 ≤ i) (h4 : i ≤ b.length) : DrawnIns b m n' ⟨.h 2000000 1 0 [] 5 0 n, [tIns9 l], [none, some (tCur b i h)]⟩ := by
  subst e
  exact ⟨l, i, h, h1, h2, h3, h4, rfl⟩

set_option maxRecDepth 20000 in
set_option maxHeartbeats 8000000 in
theorem ok_spec_l1DrawProg (k : Nat) (b : List Int) (i h p q : Int) (hb : Bytes b) (hp : 0 < p := by omega) (hp2 : p ≤ 100000000001 := by omega) (hq : 0 ≤ q := by omega) (hq2 : q ≤ 100000000001 := by omega) (h0 : 0 ≤ i := by assumption) (h1 : i ≤ b.length := by assumption) :
    Told (callE PR C (k + 5) 275 [.pt 1000001 0 0 [] 0 0, i64 p, i64 q] [tB b, tCur b i h]) (DrawnIns b 4 11) := by
  have hbl := hb.len
  (refine callE_w [ResultVar.tmp 6] rfl Tryz.func275 rfl (by decide +kernel) rfl (by simp) ?_; (conv => whnf))
  repeat' ((with_reducible (first | refine sCall.cur (ok_Below _ _ _ _ _ hb) (fun _ _ _ _ _ _ _ => ?_)|refine st18 ?_|refine fG.split (fun _ => ?_) (fun _ => ?_)|refine fG.bool (fun _ => ?_) (fun _ => ?_)|refine sZ.eq (i64_and255 _) ?_|refine sZ.eq (i64_and30 _) ?_|refine sZ.all (fun _ => ?_)|refine sW.all (fun _ => ?_))) <;> (try (conv => whnf)))
  case' refine_1 | refine_2.refine_1 | refine_2.refine_2.refine_1 =>
    exact drawn_mk rfl (by decide) (by decide) (by assumption) (by assumption)
  case refine_2.refine_2.refine_2 =>
    rename_i x i0 h0' ha hb' hc hd
    refine loop_rule (ι := DP) (fun y => [(0, .pt 1000001 0 0 [] 0 0), (1, i64 p), (8, i64 (3 + x)), (9, .h y.o y.bb 0 [] 5 0 y.l.length), (10, i64 (y.j : Nat))])
      (fun y => [(1000000, ⟨0, 0, false, tB b⟩), (1000001, ⟨0, 0, true, tCur b y.i y.h⟩), (y.o, ⟨y.bb, 0, false, tIns9 y.l⟩)])
      (fun y => (3 + x - y.j).toNat) (fun y => (y.j : Int) ≤ 3 + x ∧ y.l.length = y.j ∧ 0 ≤ y.i ∧ y.i ≤ b.length ∧ (y.o = 56 ∨ y.o = 69)) ⟨0, [], 56, _, i0, h0'⟩ fitOk ⟨by show (0 : Int) ≤ 3 + x; omega, rfl, hc, hd, .inl rfl⟩ (by simp [C]; omega) ?_
    rintro ⟨j, out, o, bb, i1, h1'⟩ sl ob ⟨hj, hlen, hi0, hi1, ho⟩
    dsimp only at hj hlen hi0 hi1 ho
    by_cases hjl : (j : Int) < 3 + x
    · rcases ho with rfl | rfl
      all_goals (try dsimp only [cond_true, cond_false])
      all_goals (conv => whnf)
      all_goals repeat' ((with_reducible (first | refine sCall.ins (ok_spec_l1DrawIns _ _ _ _ _ _ hb) (fun _ _ _ _ _ _ _ _ _ => ?_)|refine st18 ?_|refine fG.split (fun _ => ?_) (fun _ => ?_)|refine fG.bool (fun _ => ?_) (fun _ => ?_)|refine sZ.eq (i64_and255 _) ?_|refine sZ.eq (i64_and30 _) ?_|refine sZ.all (fun _ => ?_)|refine sW.all (fun _ => ?_))) <;> (try (conv => whnf)))
      all_goals
        rename_i o1 q1 a1 c1 n1 i2 h2 e1 e2
        refine ⟨⟨⟨j + 1, out ++ [⟨o1, q1, a1, c1, n1⟩], 69, _, i2, h2⟩, fitOk, ?_, ?_⟩⟩
        · exact ⟨by show ((j + 1 : Nat) : Int) ≤ 3 + x; omega, by show (out ++ [_]).length = j + 1; simp [hlen], e1, e2, .inr rfl⟩
        · show (3 + x - ((j + 1 : Nat) : Int)).toNat < (3 + x - j).toNat; omega
    · rcases ho with rfl | rfl
      all_goals (try dsimp only [cond_true, cond_false])
      all_goals (conv => whnf)
      all_goals repeat' ((with_reducible (first | refine sCall.pick (ok_PickInt _ _ _ _ _ hb) (fun _ _ _ _ _ _ => ?_)|refine st18 ?_|refine fG.split (fun _ => ?_) (fun _ => ?_)|refine fG.bool (fun _ => ?_) (fun _ => ?_)|refine sZ.eq (i64_and255 _) ?_|refine sZ.eq (i64_and30 _) ?_|refine sZ.all (fun _ => ?_)|refine sW.all (fun _ => ?_))) <;> (try (conv => whnf)))
      all_goals
        refine drawn_mk rfl ?_ ?_ (by assumption) (by assumption)
        · simp only [List.length_append, List.length_cons, List.length_nil, hlen]; omega
        · simp only [List.length_append, List.length_cons, List.length_nil, hlen]; omega

set_option maxRecDepth 20000 in
set_option maxHeartbeats 8000000 in
theorem ok_spec_l1Spoil (k : Nat) (b : List Int) (i h o q a c n : Int) (hb : Bytes b) (h0 : 0 ≤ i := by assumption) (h1 : i ≤ b.length := by assumption) :
    Told (callE PR C (k + 4) 294 [.pt 1000001 0 0 [] 0 0, .ag [i64 o, i64 q, i64 a, i64 c, i64 n]] [tB b, tCur b i h]) (fun r => ∃ o q a c n i h : Int, 0 ≤ i ∧ i ≤ b.length ∧ r = ⟨.ag [i64 o, i64 q, i64 a, i64 c, i64 n], [], [none, some (tCur b i h)]⟩) := by
  have hbl := hb.len
  (refine callE_w [ResultVar.cell 4 116] rfl Tryz.func294 rfl (by decide +kernel) rfl (by simp) ?_; (conv => whnf))
  repeat' ((with_reducible (first | refine sCall.cur (ok_Below _ _ _ _ _ hb) (fun _ _ _ _ _ _ _ => ?_)|refine sCall.pick (ok_PickInt _ _ _ _ _ hb) (fun _ _ _ _ _ _ => ?_)|refine st18 ?_|refine fG.split (fun _ => ?_) (fun _ => ?_)|refine fG.bool (fun _ => ?_) (fun _ => ?_)|refine sZ.eq (i64_and255 _) ?_|refine sZ.eq (i64_and30 _) ?_|refine sZ.all (fun _ => ?_)|refine sW.all (fun _ => ?_))) <;> (try (conv => whnf)))
  all_goals exact ⟨_, _, _, _, _, _, _, by assumption, by assumption, rfl⟩

theorem sCall.prog {x : Option Res} {b : List Int} {m n : Nat} {F : Res → Prop} (e : Told x (DrawnIns b m n)) (h : ∀ (l : List Ins) (i h : Int), m ≤ l.length → l.length ≤ n → 0 ≤ i → i ≤ b.length → F ⟨.h 2000000 1 0 [] 5 0 l.length, [tIns9 l], [none, some (tCur b i h)]⟩) : sCall x F :=
  sCall.ex e fun r hr => by obtain ⟨l, i, h', h1, h2, h3, h4, rfl⟩ := hr; exact h l i h' h1 h2 h3 h4
structure DA where
  l : List Ins
  n : Nat
  o : Nat
  bb : Nat
  g : Nat
  d : Bool
  i : Int
  h : Int
set_option maxRecDepth 20000 in
set_option maxHeartbeats 8000000 in
theorem ok_spec_l1DrawAny (k : Nat) (b : List Int) (i h : Int) (hb : Bytes b) (h0 : 0 ≤ i := by assumption) (h1 : i ≤ b.length := by assumption) :
    Told (callE PR C (k + 6) 243 [.pt 1000001 0 0 [] 0 0] [tB b, tCur b i h]) (DrawnIns b 1 40) := by
  have hbl := hb.len
  (refine callE_w [ResultVar.tmp 2] rfl Tryz.func243 rfl (by decide +kernel) rfl (by simp) ?_; (conv => whnf))
  repeat' ((with_reducible (first | refine sCall.cur (ok_Below _ _ _ _ _ hb) (fun _ _ _ _ _ _ _ => ?_)|refine sCall.prog (ok_spec_l1DrawProg _ _ _ _ _ _ hb) (fun _ _ _ _ _ _ _ => ?_)|refine sCall.curB (ok_spec_l1Once _ _ _ _ _ hb) (fun _ _ _ _ _ => ?_)|refine sCall.ins (ok_spec_l1Spoil _ _ _ _ _ _ _ _ _ hb) (fun _ _ _ _ _ _ _ _ _ => ?_)|refine st18 ?_|refine fG.split (fun _ => ?_) (fun _ => ?_)|refine fG.bool (fun _ => ?_) (fun _ => ?_)|refine sZ.eq (i64_and255 _) ?_|refine sZ.eq (i64_and30 _) ?_|refine sZ.all (fun _ => ?_)|refine sW.all (fun _ => ?_))) <;> (try (conv => whnf)))
  case' refine_1.refine_2 | refine_2.refine_2 =>
    exact drawn_mk (by simp) (by omega) (by omega) (by assumption) (by assumption)
  all_goals
    refine loop_rule (ι := DA) (fun y => [(0, .pt 1000001 0 0 [] 0 0), (3, .h y.o y.bb 0 [] 5 0 y.n)])
      (fun y => [(1000000, ⟨0, 0, false, tB b⟩), (1000001, ⟨0, 0, true, tCur b y.i y.h⟩), (y.o, ⟨y.bb, y.g, y.d, tIns9 y.l⟩)])
      (fun y => 31 - y.n) (fun y => y.n = y.l.length ∧ 1 ≤ y.n ∧ y.n ≤ 31 ∧ 0 ≤ y.i ∧ y.i ≤ b.length ∧ (y.o = 10008 ∨ y.o = 35)) ⟨_, _, 10008, _, _, _, _, _⟩ fitOk ⟨by simp, by show 1 ≤ List.length _; omega, by show List.length _ ≤ 31; omega, by assumption, by assumption, .inl rfl⟩ (by simp [C]; omega) ?_
    rintro ⟨out, n, o, bb, g, d, i1, h1'⟩ sl ob ⟨hn, hn1, hn2, hi0, hi1, ho⟩
    dsimp only at hn hn1 hn2 hi0 hi1 ho
    subst hn
    rcases ho with rfl | rfl
    all_goals (try dsimp only [cond_true, cond_false])
    all_goals (conv => whnf)
    all_goals repeat' ((with_reducible (first | refine sCall.cur (ok_Below _ _ _ _ _ hb) (fun _ _ _ _ _ _ _ => ?_)|refine st18 ?_|refine fG.split (fun _ => ?_) (fun _ => ?_)|refine fG.bool (fun _ => ?_) (fun _ => ?_)|refine sZ.eq (i64_and255 _) ?_|refine sZ.eq (i64_and30 _) ?_|refine sZ.all (fun _ => ?_)|refine sW.all (fun _ => ?_))) <;> (try (conv => whnf)))
    case' inl.refine_1 | inr.refine_1 =>
      rename_i x i2 h2 e1 e2 e3 e4 e5
      refine ⟨⟨⟨out ++ [⟨11, 0, 0, 0, 0⟩], _, 35, _, _, _, i2, h2⟩, fitOk, ?_, ?_⟩⟩
      · exact ⟨by first | rfl | simp, by show 1 ≤ List.length _; simp, by show List.length _ ≤ 31; simp; omega, e3, e4, .inr rfl⟩
      · show 31 - List.length _ < 31 - out.length; simp; omega
    all_goals exact drawn_mk rfl (by omega) (by omega) (by assumption) (by assumption)

end Go.Proofs.YtipfcgbhaalcdaaGreat.Abs
namespace Go.Proofs.YtipfcgbhaalcdaaGreat.Abs
open Go Go.Proofs
set_option linter.unusedVariables false
set_option linter.unusedSimpArgs false
attribute [local irreducible] callE
theorem ok_spec_l1Max (k : Nat) (a c : Int) : callE PR C (k + 1) 148 [i64 a, i64 c] [] = some ⟨i64 (if c < a then a else c), [], []⟩ := by
  by_cases h : c < a
  · rw [if_pos h]
    (refine fnI [ResultVar.tmp 4] Tryz.func148 ?_; conv => whnf)
    repeat' ((with_reducible (first | refine st18 ?_|refine fG.split (fun _ => ?_) (fun _ => ?_)|refine fG.bool (fun _ => ?_) (fun _ => ?_))) <;> (try (conv => whnf)))
  · rw [if_neg h]
    (refine fnI [ResultVar.tmp 4] Tryz.func148 ?_; conv => whnf)
    repeat' ((with_reducible (first | refine st18 ?_|refine fG.split (fun _ => ?_) (fun _ => ?_)|refine fG.bool (fun _ => ?_) (fun _ => ?_))) <;> (try (conv => whnf)))
theorem ok_spec_l1Long (k : Nat) (b : List Int) (x y : Int) (hl : b.length ≤ 100000000000) (hx : 0 ≤ x ∧ x ≤ 1000) (hy : 0 ≤ y ∧ y ≤ 1000) :
    Told (callE PR C (k + 1) 103 [.h 1000000 0 0 [] 1 0 b.length, i64 x, i64 y] [tB b]) (fun r => ∃ n : Int, 0 ≤ n ∧ n ≤ y ∧ r = ⟨i64 n, [], [none]⟩) := by
  have e : (b.length : Int).tdiv 4 = (b.length : Int) / 4 := Int.tdiv_eq_ediv_of_nonneg (by omega)
  (refine callE_w [ResultVar.tmp 6] rfl Tryz.func103 rfl (by decide +kernel) rfl (by simp) ?_; (conv => whnf))
  repeat' ((with_reducible (first | refine sZ.eq (e) ?_|refine st18 ?_|refine fG.split (fun _ => ?_) (fun _ => ?_)|refine fG.bool (fun _ => ?_) (fun _ => ?_))) <;> (try (conv => whnf)))
  all_goals exact ⟨_, by omega, by omega, rfl⟩
def Rt (P : List (List Ins)) (S : List State) (W : List (List Item)) (H : List (List Event)) : Prop := sysOk P S W H = true ∨ (P = [] ∧ S = []) ∧ W = [] ∧ H = []
theorem none_B : SysB 1048576 [] [] [] [] := by
  refine ⟨by simp, fun j hj => ?_, by simp, fun j hj => ?_, by simp, fun j hj => ?_, by simp, fun j hj => ?_⟩ <;> simp at hj
theorem none_bad : sysOk [] [] [] [] = false := by decide
theorem Rt.B {P : List (List Ins)} {S : List State} {W : List (List Item)} {H : List (List Event)} (h : Rt P S W H) : SysB 1048576 P S W H := by
  rcases h with h | ⟨⟨rfl, rfl⟩, rfl, rfl⟩
  · exact (sysOk_G h).b
  · exact none_B
def DSys (b : List Int) (R : List (List Ins) → List State → List (List Item) → List (List Event) → Prop) (m : List (Option Cont)) (r : Res) : Prop :=
  ∃ (P : List (List Ins)) (S : List State) (W : List (List Item)) (H : List (List Event)) (i h : Int), R P S W H ∧ 0 ≤ i ∧ i ≤ b.length ∧ r = ⟨nSys 0 P S W H, [tInsSS9 P, tStateS9 S, tItemSS9 W, tEventSS9 H], none :: some (tCur b i h) :: m⟩
theorem sCall.dsys {x : Option Res} {b : List Int} {R : List (List Ins) → List State → List (List Item) → List (List Event) → Prop} {m : List (Option Cont)} {F : Res → Prop} (e : Told x (DSys b R m))
    (h : ∀ (P : List (List Ins)) (S : List State) (W : List (List Item)) (H : List (List Event)) (i h : Int), R P S W H → 0 ≤ i → i ≤ b.length → F ⟨nSys 0 P S W H, [tInsSS9 P, tStateS9 S, tItemSS9 W, tEventSS9 H], none :: some (tCur b i h) :: m⟩) : sCall x F :=
  sCall.ex e fun r hr => by obtain ⟨P, S, W, H, i, h', h1, h2, h3, rfl⟩ := hr; exact h P S W H i h' h1 h2 h3
structure DN where
  j : Nat
  l : List (List Ins)
  o : Nat
  bb : Nat
  i : Int
  h : Int
set_option maxRecDepth 20000 in
set_option maxHeartbeats 8000000 in
theorem ok_spec_l6DrawNew (k : Nat) (b : List Int) (i h : Int) (hb : Bytes b) (h0 : 0 ≤ i := by assumption) (h1 : i ≤ b.length := by assumption) :
    Told (callE PR C (k + 9) 203 [.pt 1000001 0 0 [] 0 0] [tB b, tCur b i h]) (DSys b Rt []) := by
  have hbl := hb.len
  (refine callE_w [ResultVar.cell 2 29] rfl Tryz.func203 rfl (by decide +kernel) rfl (by simp) ?_; (conv => whnf))
  repeat' ((with_reducible (first | refine sCall.cur (ok_Below _ _ _ _ _ hb) (fun _ _ _ _ _ _ _ => ?_)|refine st18 ?_|refine fG.split (fun _ => ?_) (fun _ => ?_)|refine fG.bool (fun _ => ?_) (fun _ => ?_))) <;> (try (conv => whnf)))
  rename_i x i0 h0' ha hb' hc hd
  refine loop_rule (ι := DN) (fun y => [(0, .pt 1000001 0 0 [] 0 0), (2, .pt 2 1 0 [] 0 0), (3, i64 (1 + x)), (4, .h y.o y.bb 0 [] 1 0 y.l.length), (5, i64 (y.j : Nat))])
    (fun y => [(1000000, ⟨0, 0, false, tB b⟩), (1000001, ⟨0, 0, true, tCur b y.i y.h⟩), (2, ⟨1, 0, false, .box [.nl 1, .nl 4, .nl 1, .nl 1]⟩), (y.o, ⟨y.bb, 0, false, tInsSS9 y.l⟩)])
    (fun y => (1 + x - y.j).toNat) (fun y => (y.j : Int) ≤ 1 + x ∧ (y.l.length = y.j ∧ ∀ q : Nat, q < y.l.length → (rd y.l q).length ≤ 1048576) ∧ 0 ≤ y.i ∧ y.i ≤ b.length ∧ (y.o = 11 ∨ y.o = 23)) ⟨0, [], 11, _, i0, h0'⟩ fitOk ⟨by show (0 : Int) ≤ 1 + x; omega, ⟨rfl, fun q hq => by simp at hq⟩, hc, hd, .inl rfl⟩ (by simp [C]; omega) ?_
  rintro ⟨j, out, o, bb, i1, h1'⟩ sl ob ⟨hj, ⟨hlen, hin⟩, hi0, hi1, ho⟩
  dsimp only at hj hlen hin hi0 hi1 ho
  by_cases hjl : (j : Int) < 1 + x
  · rcases ho with rfl | rfl
    all_goals (try dsimp only [cond_true, cond_false])
    all_goals (conv => whnf)
    all_goals repeat' ((with_reducible (first | refine sCall.prog (ok_spec_l1DrawProg _ _ _ _ _ _ hb) (fun _ _ _ _ _ _ _ => ?_)|refine st18 ?_|refine fG.split (fun _ => ?_) (fun _ => ?_)|refine fG.bool (fun _ => ?_) (fun _ => ?_))) <;> (try (conv => whnf)))
    all_goals
      rename_i l i2 h2 e1 e2 e3 e4
      refine ⟨⟨⟨j + 1, out ++ [l], 23, _, i2, h2⟩, fitOk, ?_, ?_⟩⟩
      · refine ⟨by show ((j + 1 : Nat) : Int) ≤ 1 + x; omega, ⟨by show (out ++ [l]).length = j + 1; simp [hlen], fun q hq => ?_⟩, e3, e4, .inr rfl⟩
        have hq : q < (out ++ [l]).length := hq
        show (rd (out ++ [l]) q).length ≤ 1048576
        by_cases hq2 : q < out.length
        · have := hin q hq2
          simp only [rd, List.getD_eq_getElem?_getD] at this ⊢
          rwa [List.getElem?_append_left hq2]
        · have e : q = out.length := by simp at hq; omega
          subst e
          have : rd (out ++ [l]) out.length = l := by simp [rd]
          rw [this]; omega
      · show (1 + x - ((j + 1 : Nat) : Int)).toNat < (1 + x - j).toNat; omega
  · have hlen2 : 1 ≤ out.length ∧ out.length ≤ 4 := by omega
    have q1 := fun k => ok_spec_SysNew' k out hlen2 hin
    cases hs : sysOk out (List.replicate out.length newState) (List.replicate (out.length * out.length) default) (List.replicate out.length default) with
    | true =>
      simp only [hs, if_true, newRes] at q1
      rcases ho with rfl | rfl
      all_goals (try dsimp only [cond_true, cond_false])
      all_goals (conv => whnf)
      all_goals repeat' ((with_reducible (first | refine sCall.of (q1 _) ?_|refine st18 ?_|refine fG.split (fun _ => ?_) (fun _ => ?_)|refine fG.bool (fun _ => ?_) (fun _ => ?_))) <;> (try (conv => whnf)))
      all_goals exact ⟨_, _, _, _, _, _, .inl hs, hi0, hi1, rfl⟩
    | false =>
      simp only [hs, Bool.false_eq_true, if_false, zeroRes] at q1
      rcases ho with rfl | rfl
      all_goals (try dsimp only [cond_true, cond_false])
      all_goals (conv => whnf)
      all_goals repeat' ((with_reducible (first | refine sCall.of (q1 _) ?_|refine st18 ?_|refine fG.split (fun _ => ?_) (fun _ => ?_)|refine fG.bool (fun _ => ?_) (fun _ => ?_))) <;> (try (conv => whnf)))
      all_goals exact ⟨[], [], [], [], _, _, .inr ⟨⟨rfl, rfl⟩, rfl, rfl⟩, hi0, hi1, rfl⟩
def Peers (r : Res) : Prop := ∃ l : List Int, l.length ≤ 4 ∧ r = ⟨.h 2000000 1 0 [] 1 0 l.length, [tI9 l], [none, none, none, none]⟩
theorem sCall.peers {x : Option Res} {F : Res → Prop} (e : Told x Peers) (h : ∀ l : List Int, l.length ≤ 4 → F ⟨.h 2000000 1 0 [] 1 0 l.length, [tI9 l], [none, none, none, none]⟩) : sCall x F :=
  sCall.ex e fun r hr => by obtain ⟨l, h1, rfl⟩ := hr; exact h l h1
structure PE where
  j : Nat
  m : Int
  l : List Int
  o : Nat
  bb : Nat
set_option maxRecDepth 20000 in
set_option maxHeartbeats 8000000 in
theorem ok_spec_l5Ready (k : Nat) (P : List (List Ins)) (S : List State) (W : List (List Item)) (H : List (List Event)) (p : Int) (hs : sysOk P S W H = true) :
    Told (callE PR C (k + 7) 287 [aSys 0 P S W H, i64 p] [tInsSS P, tStateS S, tItemSS W, tEventSS H]) Peers := by
  have hB := (sysOk_G hs).b
  obtain ⟨hI, hP, hS', h200⟩ := sysOk_facts hs
  have hN := hI.n
  have hsl := hI.s
  have q1 := fun k => ok_spec_l1In k p 0 ((P.length : Int) - 1)
  by_cases c1 : 0 ≤ p ∧ p ≤ (P.length : Int) - 1
  · rw [decide_eq_true c1] at q1
    obtain ⟨p, rfl⟩ : ∃ n : Nat, p = (n : Int) := ⟨p.toNat, by omega⟩
    have hpP : p < P.length := by omega
    have hF := procF_of hs hpP
    by_cases c2 : (rd S p).code = 0
    · have q2 := fun k => ok_spec_l4Copy k P S W H (hB.mono (by decide)) hI.some
      have q3 := fun (j : Nat) k => ok_spec_l5Step k P S W H p j (hB.mono (by decide)) hs
      have hpl := hF.pl
      have hok := hF.ok
      have hat0 := hok.at0
      have hat1 := hok.at1
      have hio := hF.io
      have q4 := fun k => ok_spec_l2Next k (rd P p) (rd S p).at_ (rd S p).regs (rd S p).out (rd S p).code (by omega) hok hio
      generalize next (rd P p) ⟨(rd S p).at_, (rd S p).regs, (rd S p).out, (rd S p).code⟩ = e at q4
      obtain ⟨ek, ep, ev⟩ := e
      (refine callE_w [ResultVar.tmp 4] rfl Tryz.func287 rfl (by decide +kernel) rfl (by simp) ?_; (conv => whnf))
      repeat' ((with_reducible (first | refine sCall.of (q1 _) ?_|refine sCall.of (q4 _) ?_|refine st18 ?_|refine fG.split (fun _ => ?_) (fun _ => ?_)|refine fG.bool (fun _ => ?_) (fun _ => ?_)|refine gD 5 [(1, 11), (4, 11), (6, 11), (9, 11), (10, 11)] ?_)) <;> (try (conv => whnf)))
      all_goals
        refine loop_rule (ι := PE) (fun y => [(1, i64 (p : Nat)), (2, .pt 2 1 0 [] 0 0), (5, .h y.o y.bb 0 [] 1 0 y.l.length), (8, i64 y.m), (9, i64 (y.j : Nat))])
          (fun y => [(1000000, ⟨0, 0, false, tInsSS P⟩), (1000001, ⟨0, 0, false, tStateS S⟩), (1000002, ⟨0, 0, false, tItemSS W⟩), (1000003, ⟨0, 0, false, tEventSS H⟩), (2, ⟨1, 0, false, bSys P S W H⟩), (y.o, ⟨y.bb, 0, false, tI9 y.l⟩)])
          (fun y => 4 - y.j) (fun y => (y.j ≤ 4 ∧ y.m ≤ 4) ∧ y.l.length ≤ y.j ∧ (y.o = 12 ∨ y.o = 69)) ⟨0, _, [], 12, _⟩ fitOk ⟨⟨Nat.zero_le _, by dsimp only; omega⟩, Nat.zero_le _, .inl rfl⟩ (by simp [C]) ?_
        rintro ⟨j, m, out, o, bb⟩ sl ob ⟨⟨hj, hm⟩, hlen, ho⟩
        dsimp only at hj hm hlen ho
        by_cases hjl : (j : Int) < m
        · have q3 := q3 j
          by_cases c0 : (stepIs P S W H p j).2 = 0
          · generalize stepIs P S W H p j = X at *
            obtain ⟨⟨P', S', W', H'⟩, n⟩ := X
            dsimp only at c0
            simp only [sysRes] at q3
            rcases ho with rfl | rfl
            all_goals (try dsimp only [cond_true, cond_false])
            all_goals (conv => whnf)
            all_goals repeat' ((with_reducible (first | refine sCall.of (q2 _) ?_|refine sCall.of (q3 _) ?_|refine st18 ?_|refine fG.split (fun _ => ?_) (fun _ => ?_)|refine fG.bool (fun _ => ?_) (fun _ => ?_)|refine gD 5 [(1, 11), (4, 11), (6, 11), (9, 11), (10, 11)] ?_)) <;> (try (conv => whnf)))
            all_goals
              refine ⟨⟨⟨j + 1, m, out ++ [(j : Int)], 69, _⟩, fitOk, ?_, ?_⟩⟩
              · exact ⟨⟨by show j + 1 ≤ 4; omega, hm⟩, by show (out ++ [_]).length ≤ j + 1; simp; omega, .inr rfl⟩
              · show 4 - (j + 1) < 4 - j; omega
          · generalize stepIs P S W H p j = X at *
            obtain ⟨⟨P', S', W', H'⟩, n⟩ := X
            dsimp only at c0
            simp only [sysRes] at q3
            rcases ho with rfl | rfl
            all_goals (try dsimp only [cond_true, cond_false])
            all_goals (conv => whnf)
            all_goals repeat' ((with_reducible (first | refine sCall.of (q2 _) ?_|refine sCall.of (q3 _) ?_|refine st18 ?_|refine fG.split (fun _ => ?_) (fun _ => ?_)|refine fG.bool (fun _ => ?_) (fun _ => ?_)|refine gD 5 [(1, 11), (4, 11), (6, 11), (9, 11), (10, 11)] ?_)) <;> (try (conv => whnf)))
            case' inl =>
              refine ⟨⟨⟨j + 1, m, out, 12, _⟩, fitOk, ?_, ?_⟩⟩
              · exact ⟨⟨by show j + 1 ≤ 4; omega, hm⟩, by show out.length ≤ j + 1; omega, .inl rfl⟩
              · show 4 - (j + 1) < 4 - j; omega
            case' inr =>
              refine ⟨⟨⟨j + 1, m, out, 69, _⟩, fitOk, ?_, ?_⟩⟩
              · exact ⟨⟨by show j + 1 ≤ 4; omega, hm⟩, by show out.length ≤ j + 1; omega, .inr rfl⟩
              · show 4 - (j + 1) < 4 - j; omega
        · rcases ho with rfl | rfl
          all_goals (try dsimp only [cond_true, cond_false])
          all_goals (conv => whnf)
          all_goals repeat' ((with_reducible (first | refine st18 ?_|refine fG.split (fun _ => ?_) (fun _ => ?_)|refine fG.bool (fun _ => ?_) (fun _ => ?_)|refine gD 5 [(1, 11), (4, 11), (6, 11), (9, 11), (10, 11)] ?_)) <;> (try (conv => whnf)))
          all_goals exact ⟨_, by omega, rfl⟩
    · (refine callE_w [ResultVar.tmp 4] rfl Tryz.func287 rfl (by decide +kernel) rfl (by simp) ?_; (conv => whnf))
      repeat' ((with_reducible (first | refine sCall.of (q1 _) ?_|refine st18 ?_|refine fG.split (fun _ => ?_) (fun _ => ?_)|refine fG.bool (fun _ => ?_) (fun _ => ?_)|refine gD 5 [(1, 11), (4, 11), (6, 11), (9, 11), (10, 11)] ?_)) <;> (try (conv => whnf)))
      all_goals exact ⟨[], by simp, rfl⟩
  · rw [decide_eq_false c1] at q1
    (refine callE_w [ResultVar.tmp 4] rfl Tryz.func287 rfl (by decide +kernel) rfl (by simp) ?_; (conv => whnf))
    repeat' ((with_reducible (first | refine sCall.of (q1 _) ?_|refine st18 ?_|refine fG.split (fun _ => ?_) (fun _ => ?_)|refine fG.bool (fun _ => ?_) (fun _ => ?_)|refine gD 5 [(1, 11), (4, 11), (6, 11), (9, 11), (10, 11)] ?_)) <;> (try (conv => whnf)))
    all_goals exact ⟨[], by simp, rfl⟩
theorem ok_spec_Ready (k : Nat) (P : List (List Ins)) (S : List State) (W : List (List Item)) (H : List (List Event)) (p : Int) (hR : Rt P S W H) :
    Told (callE PR C (k + 8) 237 [aSys 0 P S W H, i64 p] [tInsSS P, tStateS S, tItemSS W, tEventSS H]) Peers := by
  have q1 := fun k => ok_spec_SysOk k P S W H (hR.B.mono (by decide))
  rcases hR with hs | ⟨⟨rfl, rfl⟩, rfl, rfl⟩
  · simp only [hs] at q1
    (refine callE_w [ResultVar.tmp 4] rfl Tryz.func237 rfl (by decide +kernel) rfl (by simp) ?_; (conv => whnf))
    repeat' ((with_reducible (first | refine sCall.of (q1 _) ?_|refine sCall.peers (ok_spec_l5Ready _ _ _ _ _ _ hs) (fun _ _ => ?_)|refine st18 ?_|refine fG.split (fun _ => ?_) (fun _ => ?_)|refine fG.bool (fun _ => ?_) (fun _ => ?_))) <;> (try (conv => whnf)))
    exact ⟨_, by assumption, rfl⟩
  · simp only [none_bad] at q1
    (refine callE_w [ResultVar.tmp 4] rfl Tryz.func237 rfl (by decide +kernel) rfl (by simp) ?_; (conv => whnf))
    repeat' ((with_reducible (first | refine sCall.of (q1 _) ?_|refine st18 ?_|refine fG.split (fun _ => ?_) (fun _ => ?_)|refine fG.bool (fun _ => ?_) (fun _ => ?_))) <;> (try (conv => whnf)))
    exact ⟨[], by simp, rfl⟩
def DPick (b : List Int) (r : Res) : Prop := ∃ p q i h : Int, 0 ≤ i ∧ i ≤ b.length ∧ r = ⟨.ag [i64 p, i64 q], [], [none, some (tCur b i h), none, none, none, none]⟩
theorem sCall.dpick {x : Option Res} {b : List Int} {F : Res → Prop} (e : Told x (DPick b)) (h : ∀ p q i h : Int, 0 ≤ i → i ≤ b.length → F ⟨.ag [i64 p, i64 q], [], [none, some (tCur b i h), none, none, none, none]⟩) : sCall x F :=
  sCall.ex e fun r hr => by obtain ⟨p, q, i, h', h1, h2, rfl⟩ := hr; exact h p q i h' h1 h2
set_option maxRecDepth 20000 in
set_option maxHeartbeats 8000000 in
theorem ok_spec_l6DrawPick (k : Nat) (b : List Int) (i h : Int) (P : List (List Ins)) (S : List State) (W : List (List Item)) (H : List (List Event)) (hb : Bytes b) (hR : Rt P S W H) (h0 : 0 ≤ i := by assumption) (h1 : i ≤ b.length := by assumption) :
    Told (callE PR C (k + 9) 150 [.pt 1000001 0 0 [] 0 0, aSys 2 P S W H] [tB b, tCur b i h, tInsSS P, tStateS S, tItemSS W, tEventSS H]) (DPick b) := by
  have hbl := hb.len
  have hB := hR.B.p
  have q1 := fun k => ok_spec_l1Max k (P.length : Int) 1
  have hn : 1 ≤ (if (1 : Int) < (P.length : Int) then (P.length : Int) else 1) ∧ (if (1 : Int) < (P.length : Int) then (P.length : Int) else 1) ≤ 1048576 := by split <;> omega
  generalize (if (1 : Int) < (P.length : Int) then (P.length : Int) else 1) = n at *
  (refine callE_w [ResultVar.cell 4 163] rfl Tryz.func150 rfl (by decide +kernel) rfl (by simp) ?_; (conv => whnf))
  repeat' ((with_reducible (first | refine sCall.of (q1 _) ?_|refine sCall.cur (ok_Below _ _ _ _ _ hb) (fun _ _ _ _ _ _ _ => ?_)|refine sCall.peers (ok_spec_Ready _ _ _ _ _ _ hR) (fun _ _ => ?_)|refine sCall.curB (ok_spec_l1Once _ _ _ _ _ hb) (fun _ _ _ _ _ => ?_)|refine st18 ?_|refine fG.split (fun _ => ?_) (fun _ => ?_)|refine fG.bool (fun _ => ?_) (fun _ => ?_))) <;> (try (conv => whnf)))
  all_goals exact ⟨_, _, _, _, by assumption, by assumption, rfl⟩

def stepRt (P : List (List Ins)) (S : List State) (W : List (List Item)) (H : List (List Event)) (p peer : Int) : Sys × Int := if sysOk P S W H = true then stepIs P S W H p peer else (⟨[], [], [], []⟩, 1)
theorem stepRt_rt {P : List (List Ins)} {S : List State} {W : List (List Item)} {H : List (List Event)} (p peer : Int) : Rt (stepRt P S W H p peer).1.progs (stepRt P S W H p peer).1.states (stepRt P S W H p peer).1.ways (stepRt P S W H p peer).1.hist := by
  unfold stepRt
  split
  · rename_i h; exact .inl (stepIs_sysOk h)
  · exact .inr ⟨⟨rfl, rfl⟩, rfl, rfl⟩
theorem ok_spec_StepRt (k : Nat) (P : List (List Ins)) (S : List State) (W : List (List Item)) (H : List (List Event)) (p peer : Int) (hb : SysB 10000000000 P S W H) :
    callE PR C (k + 8) 286 [aSys 0 P S W H, i64 p, i64 peer] [tInsSS P, tStateS S, tItemSS W, tEventSS H] = some (sysRes (stepRt P S W H p peer).1 (stepRt P S W H p peer).2 [none, none, none, none]) := by
  unfold stepRt
  cases hs : sysOk P S W H with
  | true => exact ok_spec_Step k P S W H p peer hb hs
  | false => exact ok_spec_StepBad k P S W H p peer hb hs
def DRun (b : List Int) (m : Int) (r : Res) : Prop :=
  ∃ (P : List (List Ins)) (S : List State) (W : List (List Item)) (H : List (List Event)) (l : List Who) (i h : Int), Rt P S W H ∧ (l.length : Int) ≤ m ∧ (0 ≤ i ∧ i ≤ b.length) ∧
  (r = ⟨.tu [nSys 0 P S W H, .h 2000004 1 0 [] 2 0 l.length, nSys 0 P S W H], [tInsSS9 P, tStateS9 S, tItemSS9 W, tEventSS9 H, tWho9 l], [none, some (tCur b i h)]⟩ ∨
   ∃ (P' : List (List Ins)) (S' : List State) (W' : List (List Item)) (H' : List (List Event)), Rt P' S' W' H' ∧ r = ⟨.tu [nSys 0 P S W H, .h 2000004 1 0 [] 2 0 l.length, nSys 5 P' S' W' H'], [tInsSS9 P, tStateS9 S, tItemSS9 W, tEventSS9 H, tWho9 l, tInsSS9 P', tStateS9 S', tItemSS9 W', tEventSS9 H'], [none, some (tCur b i h)]⟩)
structure DR where
  j : Nat
  l : List Who
  lo : Nat
  lb : Nat
  P : List (List Ins)
  S : List State
  W : List (List Item)
  H : List (List Event)
  o : Nat
  b0 : Nat
  b1 : Nat
  b2 : Nat
  b3 : Nat
  d7 : Bool
  dd : Bool
  i : Int
  h : Int
set_option maxRecDepth 20000 in
set_option maxHeartbeats 16000000 in
theorem ok_spec_l6DrawRun (k : Nat) (b : List Int) (i h m : Int) (hb : Bytes b) (hm : 0 ≤ m ∧ m ≤ 1000) (h0 : 0 ≤ i := by assumption) (h1 : i ≤ b.length := by assumption) :
    Told (callE PR C (k + 10) 234 [.pt 1000001 0 0 [] 0 0, i64 m] [tB b, tCur b i h]) (DRun b m) := by
  have hbl := hb.len
  (refine callE_w [ResultVar.cell 4 29, ResultVar.tmp 5, ResultVar.cell 6 29] rfl Tryz.func234 rfl (by decide +kernel) rfl (by simp) ?_; (conv => whnf))
  repeat' ((with_reducible (first | refine sCall.dsys (ok_spec_l6DrawNew _ _ _ _ hb) (fun _ _ _ _ _ _ _ _ _ => ?_)|refine sCall.cur (ok_Below _ _ _ _ _ hb) (fun _ _ _ _ _ _ _ => ?_)|refine st18 ?_|refine fG.split (fun _ => ?_) (fun _ => ?_)|refine fG.bool (fun _ => ?_) (fun _ => ?_)|refine gD 13 [(2, 3)] ?_)) <;> (try (conv => whnf)))
  rename_i P S W H i1 h1' hR0 a1 a2 x i0 h0' ha hb' hc hd
  refine loop_rule (ι := DR) (fun y => [(0, .pt 1000001 0 0 [] 0 0), (4, .pt 4 1 0 [] 0 0), (6, .pt 6 1 0 [] 0 0), (7, .pt 7 1 0 [] 0 0), (8, .pt 8 1 0 [] 0 0), (9, .h y.lo y.lb 0 [] 2 0 y.l.length), (10, i64 x), (11, i64 (y.j : Nat))])
    (fun y => [(1000000, ⟨0, 0, false, tB b⟩), (1000001, ⟨0, 0, true, tCur b y.i y.h⟩), (4, ⟨1, 0, false, .box [.nl 1, .nl 4, .nl 1, .nl 1]⟩), (6, ⟨1, 0, false, .box [.nl 1, .nl 4, .nl 1, .nl 1]⟩),
      (7, ⟨1, 0, y.d7, .box [.h 10016 1 0 [] 1 0 P.length, .h 20016 1 0 [] 4 0 S.length, .h 30016 1 0 [] 1 0 W.length, .h 40016 1 0 [] 1 0 H.length]⟩),
      (8, ⟨1, 0, y.dd, .box [.h (y.o + 10000) y.b0 0 [] 1 0 y.P.length, .h (y.o + 20000) y.b1 0 [] 4 0 y.S.length, .h (y.o + 30000) y.b2 0 [] 1 0 y.W.length, .h (y.o + 40000) y.b3 0 [] 1 0 y.H.length]⟩),
      (10016, ⟨1, 0, false, tInsSS9 P⟩), (20016, ⟨1, 0, false, tStateS9 S⟩), (30016, ⟨1, 0, false, tItemSS9 W⟩), (40016, ⟨1, 0, false, tEventSS9 H⟩), (y.lo, ⟨y.lb, 0, false, tWho9 y.l⟩),
      (y.o + 10000, ⟨y.b0, 0, false, tInsSS9 y.P⟩), (y.o + 20000, ⟨y.b1, 0, false, tStateS9 y.S⟩), (y.o + 30000, ⟨y.b2, 0, false, tItemSS9 y.W⟩), (y.o + 40000, ⟨y.b3, 0, false, tEventSS9 y.H⟩)])
    (fun y => (x - y.j).toNat) (fun y => (y.j : Int) ≤ x ∧ (y.l.length = y.j ∧ (y.lo = 18 ∨ y.lo = 34)) ∧ Rt y.P y.S y.W y.H ∧ (0 ≤ y.i ∧ y.i ≤ b.length) ∧
      ((y.o = 16 ∧ (y.P = P ∧ y.S = S ∧ y.W = W ∧ y.H = H) ∧ y.b0 = 1 ∧ y.b1 = 1 ∧ y.b2 = 1 ∧ y.b3 = 1) ∨ y.o = 41 ∨ y.o = 5041))
    ⟨0, [], 18, _, P, S, W, H, 16, 1, 1, 1, 1, _, _, i0, h0'⟩ fitOk ⟨by show (0 : Int) ≤ x; omega, ⟨rfl, .inl rfl⟩, hR0, ⟨hc, hd⟩, .inl ⟨rfl, ⟨rfl, rfl, rfl, rfl⟩, rfl, rfl, rfl, rfl⟩⟩ (by simp [C]; omega) ?_
  clear a1 a2 hc hd
  rintro ⟨j, out, lo, lb, P1, S1, W1, H1, o, b0, b1, b2, b3, d7, dd, i2, h2⟩ sl ob ⟨hj, ⟨hlen, hlo⟩, hR, ⟨hi0, hi1⟩, ho⟩
  dsimp only at hj hlen hlo hR hi0 hi1 ho
  by_cases hjl : (j : Int) < x
  · have hB := hR.B
    rcases hlo with rfl | rfl
    all_goals rcases ho with ⟨rfl, ⟨rfl, rfl, rfl, rfl⟩, rfl, rfl, rfl, rfl⟩ | rfl | rfl
    all_goals (try dsimp only [cond_true, cond_false])
    all_goals (conv => whnf)
    all_goals repeat' ((with_reducible (first | refine sCall.dpick (ok_spec_l6DrawPick _ _ _ _ _ _ _ _ hb hR) (fun _ _ _ _ _ _ => ?_)|refine st18 ?_|refine fG.split (fun _ => ?_) (fun _ => ?_)|refine fG.bool (fun _ => ?_) (fun _ => ?_)|refine gD 13 [(2, 3)] ?_)) <;> (try (conv => whnf)))
    all_goals
      rename_i p q i3 h3 e1 e2
      have hR2 := @stepRt_rt P1 S1 W1 H1 p q
      have q3 := fun k => ok_spec_StepRt k P1 S1 W1 H1 p q (hB.mono (by decide))
      generalize stepRt P1 S1 W1 H1 p q = X at hR2 q3
      obtain ⟨⟨P2, S2, W2, H2⟩, n⟩ := X
      dsimp only at hR2
      simp only [sysRes] at q3
      by_cases c0 : n = 0
    all_goals repeat' ((with_reducible (first | refine sCall.of (q3 _) ?_|refine st18 ?_|refine fG.split (fun _ => ?_) (fun _ => ?_)|refine fG.bool (fun _ => ?_) (fun _ => ?_)|refine gD 13 [(2, 3)] ?_)) <;> (try (conv => whnf)))
    all_goals first
      | refine ⟨⟨⟨j + 1, out ++ [⟨p, q⟩], 34, _, P2, S2, W2, H2, 41, _, _, _, _, _, _, i3, h3⟩, fitOk, ?_, ?_⟩⟩
      | refine ⟨⟨⟨j + 1, out ++ [⟨p, q⟩], 34, _, P2, S2, W2, H2, 5041, _, _, _, _, _, _, i3, h3⟩, fitOk, ?_, ?_⟩⟩
      | refine ⟨⟨⟨j + 1, out ++ [⟨p, q⟩], 34, _, P1, S1, W1, H1, 16, _, _, _, _, _, _, i3, h3⟩, fitOk, ?_, ?_⟩⟩
      | refine ⟨⟨⟨j + 1, out ++ [⟨p, q⟩], 34, _, P1, S1, W1, H1, 41, _, _, _, _, _, _, i3, h3⟩, fitOk, ?_, ?_⟩⟩
      | refine ⟨⟨⟨j + 1, out ++ [⟨p, q⟩], 34, _, P1, S1, W1, H1, 5041, _, _, _, _, _, _, i3, h3⟩, fitOk, ?_, ?_⟩⟩
    all_goals first
      | (show (x - ((j + 1 : Nat) : Int)).toNat < (x - j).toNat; omega)
      | exact ⟨by show ((j + 1 : Nat) : Int) ≤ x; omega, ⟨by show (out ++ [_]).length = j + 1; simp [hlen], .inr rfl⟩, hR2, ⟨e1, e2⟩, .inr (.inl rfl)⟩
      | exact ⟨by show ((j + 1 : Nat) : Int) ≤ x; omega, ⟨by show (out ++ [_]).length = j + 1; simp [hlen], .inr rfl⟩, hR2, ⟨e1, e2⟩, .inr (.inr rfl)⟩
      | exact ⟨by show ((j + 1 : Nat) : Int) ≤ x; omega, ⟨by show (out ++ [_]).length = j + 1; simp [hlen], .inr rfl⟩, hR, ⟨e1, e2⟩, .inl ⟨rfl, ⟨rfl, rfl, rfl, rfl⟩, rfl, rfl, rfl, rfl⟩⟩
      | exact ⟨by show ((j + 1 : Nat) : Int) ≤ x; omega, ⟨by show (out ++ [_]).length = j + 1; simp [hlen], .inr rfl⟩, hR, ⟨e1, e2⟩, .inr (.inl rfl)⟩
      | exact ⟨by show ((j + 1 : Nat) : Int) ≤ x; omega, ⟨by show (out ++ [_]).length = j + 1; simp [hlen], .inr rfl⟩, hR, ⟨e1, e2⟩, .inr (.inr rfl)⟩
  · rcases hlo with rfl | rfl
    all_goals rcases ho with ⟨rfl, ⟨rfl, rfl, rfl, rfl⟩, rfl, rfl, rfl, rfl⟩ | rfl | rfl
    all_goals (try dsimp only [cond_true, cond_false])
    all_goals (conv => whnf)
    all_goals repeat' ((with_reducible (first | refine st18 ?_|refine fG.split (fun _ => ?_) (fun _ => ?_)|refine fG.bool (fun _ => ?_) (fun _ => ?_)|refine gD 13 [(2, 3)] ?_)) <;> (try (conv => whnf)))
    all_goals first
      | exact ⟨_, _, _, _, _, _, _, hR0, by omega, ⟨hi0, hi1⟩, .inl rfl⟩
      | exact ⟨_, _, _, _, _, _, _, hR0, by omega, ⟨hi0, hi1⟩, .inr ⟨_, _, _, _, hR, rfl⟩⟩

end Go.Proofs.YtipfcgbhaalcdaaGreat.Abs
namespace Go.Proofs.YtipfcgbhaalcdaaGreat.Abs
open Go Go.Proofs
set_option linter.unusedVariables false
set_option linter.unusedSimpArgs false
attribute [local irreducible] callE
theorem sCall.long {x : Option Res} {y : Int} {F : Res → Prop} (e : Told x (fun r => ∃ n : Int, 0 ≤ n ∧ n ≤ y ∧ r = ⟨i64 n, [], [none]⟩)) (h : ∀ n : Int, 0 ≤ n → n ≤ y → F ⟨i64 n, [], [none]⟩) : sCall x F :=
  sCall.ex e fun r hr => by obtain ⟨n, h1, h2, rfl⟩ := hr; exact h n h1 h2
set_option maxRecDepth 20000 in
set_option maxHeartbeats 4000000 in
theorem ok_spec_l6DrawRight (k : Nat) (b : List Int) (i h : Int) (hb : Bytes b) (h0 : 0 ≤ i := by assumption) (h1 : i ≤ b.length := by assumption) :
    Told (callE PR C (k + 11) 140 [.pt 1000001 0 0 [] 0 0, .h 1000002 0 0 [] 1 0 b.length] [tB b, tCur b i h, tB b]) (DSys b Rt [none]) := by
  have hbl := hb.len
  (refine callE_w [ResultVar.cell 4 29] rfl Tryz.func140 rfl (by decide +kernel) rfl (by simp) ?_; (conv => whnf))
  repeat' ((with_reducible (first | refine sCall.long (ok_spec_l1Long _ b 25 70 hbl ⟨by decide, by decide⟩ ⟨by decide, by decide⟩) (fun _ _ _ => ?_)|refine st18 ?_|refine fG.split (fun _ => ?_) (fun _ => ?_)|refine fG.bool (fun _ => ?_) (fun _ => ?_))) <;> (try (conv => whnf)))
  rename_i n hn0 hn1
  repeat' ((with_reducible (first | (refine sCall.ex (ok_spec_l6DrawRun _ b i h n hb ⟨hn0, by omega⟩) ?_)|refine st18 ?_|refine fG.split (fun _ => ?_) (fun _ => ?_)|refine fG.bool (fun _ => ?_) (fun _ => ?_))) <;> (try (conv => whnf)))
  rintro _ ⟨P, S, W, H, l, i', h', hR, hl, ⟨e1, e2⟩, rfl | ⟨P', S', W', H', hR', rfl⟩⟩
  · (conv => whnf)
    repeat' ((with_reducible (first | refine st18 ?_|refine fG.split (fun _ => ?_) (fun _ => ?_)|refine fG.bool (fun _ => ?_) (fun _ => ?_))) <;> (try (conv => whnf)))
    exact ⟨_, _, _, _, _, _, hR, e1, e2, rfl⟩
  · (conv => whnf)
    repeat' ((with_reducible (first | refine st18 ?_|refine fG.split (fun _ => ?_) (fun _ => ?_)|refine fG.bool (fun _ => ?_) (fun _ => ?_))) <;> (try (conv => whnf)))
    exact ⟨_, _, _, _, _, _, hR', e1, e2, rfl⟩
theorem cons_rItem (l : List Item) (a : Bool) (v : Int) : [[T.v (.bool a), .v (.int .i64 v)]] ++ l.map rItem = ((⟨a, v⟩ : Item) :: l).map rItem := rfl
theorem gI19 {p A : Prop} (h : A) (e : p := by first | with_reducible assumption | omega | (simp only [Nat.zero_add, Nat.add_zero, Nat.sub_zero, Int.toNat_natCast, Int.toNat_zero, Int.toNat_one, List.length_map, List.length_nil, Int.reduceToNat, Nat.reduceAdd, Nat.reduceSub, Int.sub_zero, Int.reduceAdd, Int.reduceSub, Nat.sub_self, Int.toNat_natCast_add_one, marks_len, bs_len, List.length_append, List.length_cons, List.length_set, List.length_replicate, List.length_range]; first | done | omega)) : sI p A := sI.mk e h
theorem gNum19 {r r' : Nat} {F : Nat → Prop} (h : F r') (e : r = r' := by first | (simp only [Nat.zero_add, Nat.add_zero, Nat.sub_zero, Int.toNat_natCast, Int.toNat_zero, Int.toNat_one, List.length_map, List.length_nil, Int.reduceToNat, Nat.reduceAdd, Nat.reduceSub, Int.sub_zero, Int.reduceAdd, Int.reduceSub, Nat.sub_self, Int.toNat_natCast_add_one, marks_len, bs_len]; rfl) | rfl) : sN r F := sN.eq e h
theorem gRow19 {r r' : List (List T)} {F : List (List T) → Prop} (h : F r') (e : r = r' := by first | (simp only [Nat.add_zero, Nat.zero_add, Nat.reduceAdd, List.drop_zero, List.take_succ_cons, List.take_nil, List.drop_succ_cons, List.drop_nil, List.take_zero, List.nil_append, List.append_nil, List.map_nil, drop_suf, take_pre, drop_map, List.take_length, take_len_set, take_len_app, List.set_set, List.length_map, cons_rItem, one_rIns, cons_rIns, one_rI, cons_rI, snoc_new, snoc_rItem, snoc_rInsL, snoc_rItemL, snoc_rEventL, snoc_rState, set_rWho, rep_rWho, snoc_rWho, set_rState, rep_rState, set_rInsL, rep_rInsL, set_rItemL, rep_rItemL, set_rEventL, rep_rEventL, set_rItem, rep_rItem, rep_rKept, marks_take, set_rKept, set_rIns, rep_rIns, set_rEvent, rep_rEvent, snoc_rKept, snoc_rEvent, snoc_rIns, bytesT_bs, snoc_rI, snoc_rB, snoc_rBool, set_rI, set_rBool, rep_rI, rep_rBool, map_app]; rfl) | rfl) : sR r F := sR.eq e h
theorem st19 {P Q : Prop} (h : Q) (e : Q → P := by with_reducible first | exact fun h => gP h | exact fun h => gN h | exact fun h => fG.not h | exact fun h => gY h | exact fun h => gF h | exact fun h => fG.yes (flat_map (fun _ => rfl) _) h | exact fun h => gS64 h | exact fun h => gU8 h | exact fun h => gI19 h | exact fun h => fE.of rfl h | exact fun h => gNum19 h | exact fun h => gSet h | exact fun h => gRd h | exact fun h => gLk h | exact fun h => gRow19 h | exact fun h => gRf4 h) : P := e h
theorem mem_rd {α : Type} [Inhabited α] {l : List α} {x : α} (h : x ∈ l) : ∃ j, j < l.length ∧ rd l j = x := by
  obtain ⟨i, hi, rfl⟩ := List.mem_iff_getElem.1 h
  exact ⟨i, hi, by simp [rd, hi]⟩
theorem SysB.all {B : Nat} {P : List (List Ins)} {S : List State} {W : List (List Item)} {H : List (List Event)} (h : SysB B P S W H) : (∀ x ∈ P, x.length ≤ B) ∧ (∀ x ∈ S, x.regs.length ≤ B ∧ x.out.length ≤ B) ∧ (∀ x ∈ W, x.length ≤ B) ∧ ∀ x ∈ H, x.length ≤ B := by
  refine ⟨fun x hx => ?_, fun x hx => ?_, fun x hx => ?_, fun x hx => ?_⟩
  · obtain ⟨j, hj, rfl⟩ := mem_rd hx; exact h.pp j hj
  · obtain ⟨j, hj, rfl⟩ := mem_rd hx; exact h.ss j hj
  · obtain ⟨j, hj, rfl⟩ := mem_rd hx; exact h.ww j hj
  · obtain ⟨j, hj, rfl⟩ := mem_rd hx; exact h.hh j hj
theorem SysB.mk' {B : Nat} {P : List (List Ins)} {S : List State} {W : List (List Item)} {H : List (List Event)} (h1 : (P.length ≤ B ∧ S.length ≤ B) ∧ W.length ≤ B ∧ H.length ≤ B) (h2 : (∀ x ∈ P, x.length ≤ B) ∧ (∀ x ∈ S, x.regs.length ≤ B ∧ x.out.length ≤ B) ∧ (∀ x ∈ W, x.length ≤ B) ∧ ∀ x ∈ H, x.length ≤ B) : SysB B P S W H :=
  ⟨h1.1.1, fun _ hj => h2.1 _ (rd_mem hj), h1.1.2, fun _ hj => h2.2.1 _ (rd_mem hj), h1.2.1, fun _ hj => h2.2.2.1 _ (rd_mem hj), h1.2.2, fun _ hj => h2.2.2.2 _ (rd_mem hj)⟩
theorem all_set {α : Type} {l : List α} {i : Nat} {y : α} {p : α → Prop} (h : ∀ x ∈ l, p x) (hy : p y) : ∀ x ∈ l.set i y, p x := by
  intro x hx
  rcases List.mem_or_eq_of_mem_set hx with h1 | h1
  · exact h x h1
  · rw [h1]; exact hy
theorem dsys_mk {b : List Int} {P : List (List Ins)} {S : List State} {W : List (List Item)} {H : List (List Event)} {i h : Int} {n0 n1 n2 n3 : Nat} (hB : SysB 2000000 P S W H) (e0 : P.length = n0) (e1 : S.length = n1) (e2 : W.length = n2) (e3 : H.length = n3) (h0 : 0 ≤ i) (h1 : i ≤ b.length) :
    DSys b (SysB 2000000) [none] ⟨.ag [.h 2000000 1 0 [] 1 0 n0, .h 2000001 1 0 [] 4 0 n1, .h 2000002 1 0 [] 1 0 n2, .h 2000003 1 0 [] 1 0 n3], [tInsSS9 P, tStateS9 S, tItemSS9 W, tEventSS9 H], [none, some (tCur b i h), none]⟩ := by
  subst e0 e1 e2 e3
  exact ⟨P, S, W, H, i, h, hB, h0, h1, rfl⟩
set_option maxRecDepth 20000 in
set_option maxHeartbeats 8000000 in
theorem ok_spec_l6Draw (k : Nat) (b : List Int) (i h : Int) (hb : Bytes b) (h0 : 0 ≤ i := by assumption) (h1 : i ≤ b.length := by assumption) :
    Told (callE PR C (k + 12) 154 [.pt 1000001 0 0 [] 0 0, .h 1000002 0 0 [] 1 0 b.length] [tB b, tCur b i h, tB b]) (DSys b (SysB 2000000) [none]) := by
  have hbl := hb.len
  (refine callE_w [ResultVar.cell 4 29] rfl Tryz.func154 rfl (by decide +kernel) rfl (by simp) ?_; (conv => whnf))
  repeat' ((with_reducible (first | refine sCall.dsys (ok_spec_l6DrawRight _ _ _ _ hb) (fun _ _ _ _ _ _ _ _ _ => ?_)|refine st19 ?_|refine fG.split (fun _ => ?_) (fun _ => ?_)|refine fG.bool (fun _ => ?_) (fun _ => ?_)|refine gD 9 [(1, 9), (4, 9), (7, 9), (1, 11), (4, 11), (7, 11), (1, 13), (4, 13), (7, 13), (1, 15), (4, 15), (7, 15), (1, 16)] ?_|refine gD 12 [(1, 9), (4, 9), (7, 9), (1, 11), (4, 11), (7, 11), (1, 13), (4, 13), (7, 13), (1, 14)] ?_|refine gD 16 [(1, 4)] ?_|refine gD 19 [(1, 4), (4, 6), (4, 9), (1, 10)] ?_)) <;> (try (conv => whnf)))
  rename_i P S W H i1 h1' hR a1 a2
  have hB := hR.B
  have q1 := fun k => ok_spec_l1Max k (P.length : Int) 1
  by_cases c0 : P.length = 0
  · rw [if_neg (by omega)] at q1
    repeat' ((with_reducible (first | refine sCall.of (q1 _) ?_|refine sCall.cur (ok_Below _ _ _ _ _ hb) (fun _ _ _ _ _ _ _ => ?_)|refine st19 ?_|refine fG.split (fun _ => ?_) (fun _ => ?_)|refine fG.bool (fun _ => ?_) (fun _ => ?_)|refine gD 9 [(1, 9), (4, 9), (7, 9), (1, 11), (4, 11), (7, 11), (1, 13), (4, 13), (7, 13), (1, 15), (4, 15), (7, 15), (1, 16)] ?_|refine gD 12 [(1, 9), (4, 9), (7, 9), (1, 11), (4, 11), (7, 11), (1, 13), (4, 13), (7, 13), (1, 14)] ?_|refine gD 16 [(1, 4)] ?_|refine gD 19 [(1, 4), (4, 6), (4, 9), (1, 10)] ?_)) <;> (try (conv => whnf)))
    exact ⟨_, _, _, _, _, _, hB.mono (by decide), by assumption, by assumption, rfl⟩
  · have hs : sysOk P S W H = true := by
      rcases hR with h | ⟨⟨rfl, rfl⟩, rfl, rfl⟩
      · exact h
      · exact absurd rfl c0
    obtain ⟨hI, _, _, _⟩ := sysOk_facts hs
    have hN := hI.n
    have hsl := hI.s
    have hhl := hI.h
    have hwl : 1 ≤ W.length ∧ W.length ≤ 16 := by
      rw [hI.w]
      have := Nat.mul_le_mul hN.2 hN.2
      have := Nat.mul_le_mul hN.1 hN.1
      omega
    have hn : (if (1 : Int) < (P.length : Int) then (P.length : Int) else 1) = (P.length : Int) := by split <;> omega
    rw [hn] at q1
    have qb := fun k => ok_Below k b i1 h1' (P.length : Int) hb
    repeat' ((with_reducible (first | refine sCall.of (q1 _) ?_|refine sCall.cur (qb _) (fun _ _ _ _ _ _ _ => ?_)|refine st19 ?_|refine fG.split (fun _ => ?_) (fun _ => ?_)|refine fG.bool (fun _ => ?_) (fun _ => ?_)|refine gD 9 [(1, 9), (4, 9), (7, 9), (1, 11), (4, 11), (7, 11), (1, 13), (4, 13), (7, 13), (1, 15), (4, 15), (7, 15), (1, 16)] ?_|refine gD 12 [(1, 9), (4, 9), (7, 9), (1, 11), (4, 11), (7, 11), (1, 13), (4, 13), (7, 13), (1, 14)] ?_|refine gD 16 [(1, 4)] ?_|refine gD 19 [(1, 4), (4, 6), (4, 9), (1, 10)] ?_)) <;> (try (conv => whnf)))
    rename_i x i2 h2 x0 x1 e1 e2
    obtain ⟨p, rfl⟩ : ∃ n : Nat, x = (n : Int) := ⟨x.toNat, by omega⟩
    have hpP : p < P.length := by omega
    have f1 := (procF_of hs hpP).ok.regs
    have f2 := hB.hh p (by omega)
    have f3 : ∀ w : Int, 0 ≤ w → w ≤ (W.length : Int) - 1 → (rd W w.toNat).length ≤ 1048576 := fun w h0 h1 => hB.ww w.toNat (by omega)
    have qc := fun k => ok_Below k b i2 h2 25 hb
    have hM := hB.mono (show 1048576 ≤ 2000000 by decide)
    obtain ⟨m1, m2, m3, m4⟩ := hM.all
    repeat' ((with_reducible (first | refine sCall.cur (qc _) (fun _ _ _ _ _ _ _ => ?_)|refine st19 ?_|refine fG.split (fun _ => ?_) (fun _ => ?_)|refine fG.bool (fun _ => ?_) (fun _ => ?_)|refine gD 9 [(1, 9), (4, 9), (7, 9), (1, 11), (4, 11), (7, 11), (1, 13), (4, 13), (7, 13), (1, 15), (4, 15), (7, 15), (1, 16)] ?_|refine gD 12 [(1, 9), (4, 9), (7, 9), (1, 11), (4, 11), (7, 11), (1, 13), (4, 13), (7, 13), (1, 14)] ?_|refine gD 16 [(1, 4)] ?_|refine gD 19 [(1, 4), (4, 6), (4, 9), (1, 10)] ?_)) <;> (try (conv => whnf)))
    · exact dsys_mk (S := S.set p ⟨(rd S p).at_, (rd S p).regs.set 1 5, (rd S p).out, (rd S p).code⟩) (SysB.mk' ⟨⟨hM.p, by simp; exact hM.s⟩, hM.w, hM.h⟩ ⟨m1, all_set m2 (by have := m2 _ (rd_mem (l := S) (n := p) (by omega)); simpa using this), m3, m4⟩) rfl (by simp) rfl rfl (by assumption) (by assumption)
    · repeat' ((with_reducible (first | refine sCall.cur (ok_Below _ _ _ _ _ hb) (fun _ _ _ _ _ _ _ => ?_)|refine gHole ?_|refine st19 ?_|refine fG.split (fun _ => ?_) (fun _ => ?_)|refine fG.bool (fun _ => ?_) (fun _ => ?_)|refine gD 9 [(1, 9), (4, 9), (7, 9), (1, 11), (4, 11), (7, 11), (1, 13), (4, 13), (7, 13), (1, 15), (4, 15), (7, 15), (1, 16)] ?_|refine gD 12 [(1, 9), (4, 9), (7, 9), (1, 11), (4, 11), (7, 11), (1, 13), (4, 13), (7, 13), (1, 14)] ?_|refine gD 16 [(1, 4)] ?_|refine gD 19 [(1, 4), (4, 6), (4, 9), (1, 10)] ?_)) <;> (try (conv => whnf)))
      exact dsys_mk (SysB.mk' ⟨⟨hM.p, hM.s⟩, hM.w, by simp; exact hM.h⟩ ⟨m1, m2, m3, all_set m4 (by simp; omega)⟩) rfl rfl rfl (by simp) (by assumption) (by assumption)
    · repeat' ((with_reducible (first | refine sCall.cur (ok_Below _ _ _ _ _ hb) (fun _ _ _ _ _ _ _ => ?_)|refine st19 ?_|refine fG.split (fun _ => ?_) (fun _ => ?_)|refine fG.bool (fun _ => ?_) (fun _ => ?_)|refine gD 9 [(1, 9), (4, 9), (7, 9), (1, 11), (4, 11), (7, 11), (1, 13), (4, 13), (7, 13), (1, 15), (4, 15), (7, 15), (1, 16)] ?_|refine gD 12 [(1, 9), (4, 9), (7, 9), (1, 11), (4, 11), (7, 11), (1, 13), (4, 13), (7, 13), (1, 14)] ?_|refine gD 16 [(1, 4)] ?_|refine gD 19 [(1, 4), (4, 6), (4, 9), (1, 10)] ?_)) <;> (try (conv => whnf)))
      rename_i w i4 h4 w0 w1 e3 e4
      have f4 := f3 w w0 w1
      repeat' ((with_reducible (first | refine sCall.cur (ok_Below _ _ _ _ _ hb) (fun _ _ _ _ _ _ _ => ?_)|refine sCall.curB (ok_spec_l1Once _ _ _ _ _ hb) (fun _ _ _ _ _ => ?_)|refine gHole ?_|refine st19 ?_|refine fG.split (fun _ => ?_) (fun _ => ?_)|refine fG.bool (fun _ => ?_) (fun _ => ?_)|refine gD 9 [(1, 9), (4, 9), (7, 9), (1, 11), (4, 11), (7, 11), (1, 13), (4, 13), (7, 13), (1, 15), (4, 15), (7, 15), (1, 16)] ?_|refine gD 12 [(1, 9), (4, 9), (7, 9), (1, 11), (4, 11), (7, 11), (1, 13), (4, 13), (7, 13), (1, 14)] ?_|refine gD 16 [(1, 4)] ?_|refine gD 19 [(1, 4), (4, 6), (4, 9), (1, 10)] ?_)) <;> (try (conv => whnf)))
      exact dsys_mk (SysB.mk' ⟨⟨hM.p, hM.s⟩, by simp; omega, hM.h⟩ ⟨m1, m2, all_set m3 (by simp; omega), m4⟩) rfl rfl (by simp) rfl (by assumption) (by assumption)
    · exact dsys_mk (SysB.mk' ⟨⟨hM.p, hM.s⟩, by simp; omega, hM.h⟩ ⟨m1, m2, fun x hx => m3 x (List.mem_of_mem_drop (List.mem_of_mem_take hx)), m4⟩) rfl rfl (by simp) rfl (by assumption) (by assumption)
    · repeat' ((with_reducible (first | refine sCall.prog (ok_spec_l1DrawAny _ _ _ _ hb) (fun _ _ _ _ _ _ _ => ?_)|refine st19 ?_|refine fG.split (fun _ => ?_) (fun _ => ?_)|refine fG.bool (fun _ => ?_) (fun _ => ?_)|refine gD 9 [(1, 9), (4, 9), (7, 9), (1, 11), (4, 11), (7, 11), (1, 13), (4, 13), (7, 13), (1, 15), (4, 15), (7, 15), (1, 16)] ?_|refine gD 12 [(1, 9), (4, 9), (7, 9), (1, 11), (4, 11), (7, 11), (1, 13), (4, 13), (7, 13), (1, 14)] ?_|refine gD 16 [(1, 4)] ?_|refine gD 19 [(1, 4), (4, 6), (4, 9), (1, 10)] ?_)) <;> (try (conv => whnf)))
      exact dsys_mk (SysB.mk' ⟨⟨by simp; omega, hM.s⟩, hM.w, hM.h⟩ ⟨all_set m1 (by omega), m2, m3, m4⟩) (by simp) rfl rfl rfl (by assumption) (by assumption)
    · repeat' ((with_reducible (first | refine sCall.cur (ok_Below _ _ _ _ _ hb) (fun _ _ _ _ _ _ _ => ?_)|refine st19 ?_|refine fG.split (fun _ => ?_) (fun _ => ?_)|refine fG.bool (fun _ => ?_) (fun _ => ?_)|refine gD 9 [(1, 9), (4, 9), (7, 9), (1, 11), (4, 11), (7, 11), (1, 13), (4, 13), (7, 13), (1, 15), (4, 15), (7, 15), (1, 16)] ?_|refine gD 12 [(1, 9), (4, 9), (7, 9), (1, 11), (4, 11), (7, 11), (1, 13), (4, 13), (7, 13), (1, 14)] ?_|refine gD 16 [(1, 4)] ?_|refine gD 19 [(1, 4), (4, 6), (4, 9), (1, 10)] ?_)) <;> (try (conv => whnf)))
      rename_i w i4 h4 w0 w1 e3 e4
      have f4 := f3 w w0 w1
      repeat' ((with_reducible (first | refine gHole ?_|refine st19 ?_|refine fG.split (fun _ => ?_) (fun _ => ?_)|refine fG.bool (fun _ => ?_) (fun _ => ?_)|refine gD 9 [(1, 9), (4, 9), (7, 9), (1, 11), (4, 11), (7, 11), (1, 13), (4, 13), (7, 13), (1, 15), (4, 15), (7, 15), (1, 16)] ?_|refine gD 12 [(1, 9), (4, 9), (7, 9), (1, 11), (4, 11), (7, 11), (1, 13), (4, 13), (7, 13), (1, 14)] ?_|refine gD 16 [(1, 4)] ?_|refine gD 19 [(1, 4), (4, 6), (4, 9), (1, 10)] ?_)) <;> (try (conv => whnf)))
      exact dsys_mk (SysB.mk' ⟨⟨hM.p, hM.s⟩, by simp; omega, hM.h⟩ ⟨m1, m2, all_set m3 (by simp; omega), m4⟩) rfl rfl (by simp) rfl (by assumption) (by assumption)
    · exact dsys_mk hM rfl rfl rfl rfl (by assumption) (by assumption)

def DSys2 (r : Res) : Prop := ∃ (P : List (List Ins)) (S : List State) (W : List (List Item)) (H : List (List Event)) (p k : Int), SysB 2000000 P S W H ∧ r = ⟨.tu [nSys 0 P S W H, i64 p, i64 k], [tInsSS9 P, tStateS9 S, tItemSS9 W, tEventSS9 H], [none]⟩
def DSys1 (r : Res) : Prop := ∃ (P : List (List Ins)) (S : List State) (W : List (List Item)) (H : List (List Event)) (p : Int), SysB 2000000 P S W H ∧ r = ⟨.tu [nSys 0 P S W H, i64 p], [tInsSS9 P, tStateS9 S, tItemSS9 W, tEventSS9 H], [none]⟩
def DSys0 (r : Res) : Prop := ∃ (P : List (List Ins)) (S : List State) (W : List (List Item)) (H : List (List Event)), SysB 2000000 P S W H ∧ r = ⟨nSys 0 P S W H, [tInsSS9 P, tStateS9 S, tItemSS9 W, tEventSS9 H], [none]⟩
def DSysStop (r : Res) : Prop := ∃ (P : List (List Ins)) (S : List State) (W : List (List Item)) (H : List (List Event)) (p kind v : Int), SysB 2000000 P S W H ∧ r = ⟨.tu [nSys 0 P S W H, aStop p kind v], [tInsSS9 P, tStateS9 S, tItemSS9 W, tEventSS9 H], [none]⟩
def DStop (b : List Int) (r : Res) : Prop := ∃ p kind v i h : Int, 0 ≤ i ∧ i ≤ b.length ∧ r = ⟨aStop p kind v, [], [none, some (tCur b i h), none, none, none, none]⟩
theorem sCall.stop {x : Option Res} {b : List Int} {F : Res → Prop} (e : Told x (DStop b)) (h : ∀ p kind v i h : Int, 0 ≤ i → i ≤ b.length → F ⟨aStop p kind v, [], [none, some (tCur b i h), none, none, none, none]⟩) : sCall x F :=
  sCall.ex e fun r hr => by obtain ⟨p, kind, v, i, h', h1, h2, rfl⟩ := hr; exact h p kind v i h' h1 h2
end Go.Proofs.YtipfcgbhaalcdaaGreat.Abs
namespace Go.Proofs.YtipfcgbhaalcdaaGreat.Abs
open Go Go.Proofs
set_option linter.unusedVariables false
set_option linter.unusedSimpArgs false
attribute [local irreducible] callE
theorem ok_laws_big (k : Nat) (b : List Int) : callE PR C (k + 1) 15 [.h 1000000 0 0 [] 1 0 b.length] [tB b] = some ⟨bl (decide (1048576 < (b.length : Int))), [], [none]⟩ := by
  (refine fnI [ResultVar.tmp 2] Tryz.func15 ?_; conv => whnf)
  repeat' ((with_reducible (first | refine st19 ?_|refine fG.split (fun _ => ?_) (fun _ => ?_)|refine fG.bool (fun _ => ?_) (fun _ => ?_))) <;> (try (conv => whnf)))
  all_goals (try simp [*]; done)

theorem ok_laws_sameEvents (k : Nat) (l : List Event) (hl : l.length ≤ 100000000000) : callE PR C (k + 1) 87 [.h 1000000 0 0 [] 3 0 l.length, .h 1000001 0 0 [] 3 0 l.length] [tEvent l, tEvent l] = some ⟨bl true, [], [none, none]⟩ := by
  (refine fnI [ResultVar.tmp 4] Tryz.func87 ?_; conv => whnf)
  repeat' ((with_reducible (first | refine st19 ?_|refine fG.split (fun _ => ?_) (fun _ => ?_)|refine fG.bool (fun _ => ?_) (fun _ => ?_)|refine gDn 6 ?_)) <;> (try (conv => whnf)))
  refine loop_rule (ι := Nat) (fun j => [(0, .h 1000000 0 0 [] 3 0 l.length), (1, .h 1000001 0 0 [] 3 0 l.length), (5, i64 (j : Nat))])
    (fun x => [(1000000, ⟨0, 0, false, tEvent l⟩), (1000001, ⟨0, 0, false, tEvent l⟩)])
    (fun j => l.length - j) (fun j => j ≤ l.length) 0 fitOk (Nat.zero_le _) (by simp [C]; omega) ?_
  rintro j sl ob hj
  (try dsimp only [cond_true, cond_false])
  (conv => whnf)
  repeat' ((with_reducible (first | refine st19 ?_|refine fG.split (fun _ => ?_) (fun _ => ?_)|refine fG.bool (fun _ => ?_) (fun _ => ?_)|refine gDn 6 ?_)) <;> (try (conv => whnf)))
  case refine_1.refine_2 =>
    rename_i h
    exact absurd h (by simp)
  case' refine_1.refine_1 =>
    refine ⟨⟨j + 1, fitOk, ?_, ?_⟩⟩
    · show j + 1 ≤ _; omega
    · show l.length - (j + 1) < l.length - j; omega
set_option maxRecDepth 20000 in
theorem ok_laws_sameHist (k : Nat) (P P' : List (List Ins)) (S S' : List State) (W W' : List (List Item)) (H : List (List Event)) (hl : H.length ≤ 100000000000) (hh : ∀ j : Nat, j < H.length → (rd H j).length ≤ 100000000000) :
    callE PR C (k + 2) 19 [aSys 0 P S W H, aSys 4 P' S' W' H] [tInsSS P, tStateS S, tItemSS W, tEventSS H, tInsSS P', tStateS S', tItemSS W', tEventSS H] = some ⟨bl true, [], [none, none, none, none, none, none, none, none]⟩ := by
  (refine fnI [ResultVar.tmp 4] Tryz.func19 ?_; conv => whnf)
  repeat' ((with_reducible (first | refine st19 ?_|refine fG.split (fun _ => ?_) (fun _ => ?_)|refine fG.bool (fun _ => ?_) (fun _ => ?_)|refine gDn 6 ?_)) <;> (try (conv => whnf)))
  refine loop_rule (ι := Nat) (fun j => [(2, .pt 2 1 0 [] 0 0), (3, .pt 3 1 0 [] 0 0), (5, i64 (j : Nat))])
    (fun x => [(1000003, ⟨0, 0, false, tEventSS H⟩), (1000007, ⟨0, 0, false, tEventSS H⟩), (2, ⟨1, 0, false, bSys P S W H⟩), (3, ⟨1, 0, false, .box [.h 1000004 0 0 [] 1 0 P'.length, .h 1000005 0 0 [] 4 0 S'.length, .h 1000006 0 0 [] 1 0 W'.length, .h 1000007 0 0 [] 1 0 H.length]⟩)])
    (fun j => H.length - j) (fun j => j ≤ H.length) 0 fitOk (Nat.zero_le _) (by simp [C]; omega) ?_
  rintro j sl ob hj
  by_cases hjl : j < H.length
  · have q1 := fun k => ok_laws_sameEvents k (rd H j) (hh j hjl)
    (try dsimp only [cond_true, cond_false])
    (conv => whnf)
    repeat' ((with_reducible (first | refine sCall.of (q1 _) ?_|refine st19 ?_|refine fG.split (fun _ => ?_) (fun _ => ?_)|refine fG.bool (fun _ => ?_) (fun _ => ?_)|refine gDn 6 ?_)) <;> (try (conv => whnf)))
    refine ⟨⟨j + 1, fitOk, ?_, ?_⟩⟩
    · show j + 1 ≤ _; omega
    · show H.length - (j + 1) < H.length - j; omega
  · (try dsimp only [cond_true, cond_false])
    (conv => whnf)
    repeat' ((with_reducible (first | refine st19 ?_|refine fG.split (fun _ => ?_) (fun _ => ?_)|refine fG.bool (fun _ => ?_) (fun _ => ?_)|refine gDn 6 ?_)) <;> (try (conv => whnf)))
theorem Reach.whole {H : List (List Event)} {f : List Int} {n : Nat} (h : Reach H f n) (hP : PeersIn H) : wholeB H f = true := by
  rw [wholeB_eq]
  induction h with
  | zero => intro a b ha hb; simp only [tookC, rd_zero, Int.toNat_zero, List.take_zero]; simp [cnt, vals]
  | @step f n p h hp hc ih =>
    intro a b ha hb
    have hf := h.fok
    have hlt := can_lt hf hp hc
    have h0 := (hf.rng p hp).1
    have h1 := ih a b ha hb
    have hs : sentC H f a b ≤ sentC H (goOn f p) a b := by
      unfold sentC
      apply cnt_take
      rw [rd_goOn (by rw [hf.len]; exact hp)]
      split
      · rename_i e; subst e; omega
      · exact Nat.le_refl _
    by_cases hbp : b = p
    · subst hbp
      have ht : tookC H (goOn f b) a b = tookC H f a b + (if isEv 3 a (rd (rd H b) (rd f b).toNat) = true then 1 else 0) := by
        unfold tookC
        rw [rd_goOn (by rw [hf.len]; exact hp), if_pos rfl, show (rd f b + 1).toNat = (rd f b).toNat + 1 by omega]
        simp only [cnt]
        rw [vals_snoc _ _ _ (by omega)]
        split <;> simp
      by_cases he : isEv 3 a (rd (rd H b) (rd f b).toNat) = true
      · rw [if_pos he] at ht
        simp only [isEv, Bool.and_eq_true, decide_eq_true_eq] at he
        simp only [canCome, Bool.and_eq_true, Bool.not_eq_true', Bool.and_eq_false_iff, decide_eq_true_eq, decide_eq_false_iff_not] at hc
        rcases hc.2 with h4 | h4
        · exact absurd he.1 h4
        · rw [he.2, Int.toNat_natCast] at h4
          unfold tookC at ht h1
          unfold sentC at hs h1
          unfold tookC sentC
          omega
      · rw [if_neg he] at ht
        omega
    · have ht : tookC H (goOn f p) a b = tookC H f a b := by
        unfold tookC
        rw [rd_goOn (by rw [hf.len]; exact hp), if_neg hbp]
      omega
end Go.Proofs.YtipfcgbhaalcdaaGreat.Abs
namespace Go.Proofs.YtipfcgbhaalcdaaGreat.Abs
open Go Go.Proofs
set_option linter.unusedVariables false
set_option linter.unusedSimpArgs false
attribute [local irreducible] callE
def DAt (r : Res) : Prop := ∃ n : Int, 0 ≤ n ∧ n < 256 ∧ r = ⟨i64 n, [], [none]⟩
theorem sCall.at_ {x : Option Res} {F : Res → Prop} (e : Told x DAt) (h : ∀ n : Int, 0 ≤ n → n < 256 → F ⟨i64 n, [], [none]⟩) : sCall x F :=
  sCall.ex e fun r hr => by obtain ⟨n, h1, h2, rfl⟩ := hr; exact h n h1 h2
end Go.Proofs.YtipfcgbhaalcdaaGreat.Abs
namespace Go.Proofs.YtipfcgbhaalcdaaGreat.Abs
open Go Go.Proofs
set_option linter.unusedVariables false
set_option linter.unusedSimpArgs false
attribute [local irreducible] callE
def DRow (b : List Int) (r : Res) : Prop := ∃ (l : List Who) (i h : Int), l.length ≤ 1000 ∧ (0 ≤ i ∧ i ≤ b.length) ∧ r = ⟨.h 2000000 1 0 [] 2 0 l.length, [tWho9 l], [none, some (tCur b i h), none, none, none, none]⟩
structure DW where
  j : Nat
  l : List Who
  o : Nat
  bb : Nat
  f : List Int
  g : Nat
  e : Bool
  d : Bool
  i : Int
  h : Int
end Go.Proofs.YtipfcgbhaalcdaaGreat.Abs
namespace Go.Proofs.YtipfcgbhaalcdaaGreat.Abs
open Go Go.Proofs
set_option linter.unusedVariables false
set_option linter.unusedSimpArgs false
attribute [local irreducible] callE
abbrev tBool (l : List Bool) : Cont := .tree 0 (.sl 1 (l.map rBool))
abbrev tBool9 (l : List Bool) : Cont := .tree 9 (.sl 1 (l.map rBool))
abbrev tIntSS (l : List (List Int)) : Cont := .tree 0 (.sl 1 (l.map rIntL))
abbrev tIntSS9 (l : List (List Int)) : Cont := .tree 9 (.sl 1 (l.map rIntL))
theorem set_rIntL (l : List (List Int)) (n : Nat) (x : List Int) : (l.map rIntL).set n [.sl 1 (x.map rI)] = (l.set n x).map rIntL := by simp [rIntL, List.map_set]
theorem rep_rIntL (n : Nat) : List.replicate n [T.sl 1 []] = (List.replicate n (default : List Int)).map rIntL := by simp [rIntL, default, instInhabitedList]
theorem gI20 {p A : Prop} (h : A) (e : p := by first | with_reducible assumption | omega | (simp only [Nat.zero_add, Nat.add_zero, Nat.sub_zero, Int.toNat_natCast, Int.toNat_zero, Int.toNat_one, List.length_map, List.length_nil, Int.reduceToNat, Nat.reduceAdd, Nat.reduceSub, Int.sub_zero, Int.reduceAdd, Int.reduceSub, Nat.sub_self, Int.toNat_natCast_add_one, marks_len, bs_len, List.length_append, List.length_cons, List.length_set, List.length_replicate, List.length_range]; first | done | omega)) : sI p A := sI.mk e h
theorem gNum20 {r r' : Nat} {F : Nat → Prop} (h : F r') (e : r = r' := by first | (simp only [Nat.zero_add, Nat.add_zero, Nat.sub_zero, Int.toNat_natCast, Int.toNat_zero, Int.toNat_one, List.length_map, List.length_nil, Int.reduceToNat, Nat.reduceAdd, Nat.reduceSub, Int.sub_zero, Int.reduceAdd, Int.reduceSub, Nat.sub_self, Int.toNat_natCast_add_one, marks_len, bs_len]; rfl) | rfl) : sN r F := sN.eq e h
theorem gRow20 {r r' : List (List T)} {F : List (List T) → Prop} (h : F r') (e : r = r' := by first | (simp only [Nat.add_zero, Nat.zero_add, Nat.reduceAdd, List.drop_zero, List.take_succ_cons, List.take_nil, List.drop_succ_cons, List.drop_nil, List.take_zero, List.nil_append, List.append_nil, List.map_nil, drop_suf, take_pre, drop_map, List.take_length, take_len_set, take_len_app, List.set_set, List.length_map, set_rIntL, rep_rIntL, cons_rItem, one_rIns, cons_rIns, one_rI, cons_rI, snoc_new, snoc_rItem, snoc_rInsL, snoc_rItemL, snoc_rEventL, snoc_rState, set_rWho, rep_rWho, snoc_rWho, set_rState, rep_rState, set_rInsL, rep_rInsL, set_rItemL, rep_rItemL, set_rEventL, rep_rEventL, set_rItem, rep_rItem, rep_rKept, marks_take, set_rKept, set_rIns, rep_rIns, set_rEvent, rep_rEvent, snoc_rKept, snoc_rEvent, snoc_rIns, bytesT_bs, snoc_rI, snoc_rB, snoc_rBool, set_rI, set_rBool, rep_rI, rep_rBool, map_app]; rfl) | rfl) : sR r F := sR.eq e h
theorem gRf5 {b : Bool} {A : Prop} (h : A) (e : b = true := by first | exact Nat.beq_refl _ | exact wide_map (fun _ => rfl) _ | exact full_map (fun _ => rfl) _ | exact full_map (fun x => full_rKept x) _ | exact full_map (fun x => full_rInsL x) _ | exact full_map (fun x => full_rItemL x) _ | exact full_map (fun x => full_rEventL x) _ | exact full_map (fun x => full_rState x) _ | exact full_map (fun x => full_rIntL x) _ | exact full_map (fun x => full_rIntL x) _ | rfl | (simp only [full_map, wide_map]; done)) : fB b A := fB.of e h
theorem st20 {P Q : Prop} (h : Q) (e : Q → P := by with_reducible first | exact fun h => gP h | exact fun h => gN h | exact fun h => fG.not h | exact fun h => gY h | exact fun h => gF h | exact fun h => fG.yes (flat_map (fun _ => rfl) _) h | exact fun h => gS64 h | exact fun h => gU8 h | exact fun h => gI20 h | exact fun h => fE.of rfl h | exact fun h => gNum20 h | exact fun h => gSet h | exact fun h => gRd h | exact fun h => gLk h | exact fun h => gRow20 h | exact fun h => gRf5 h) : P := e h
abbrev aLive (j : Nat) (P : List (List Ins)) (S : List State) (W : List (List Item)) (H : List (List Event)) (on : Bool) (cut : List Int) (opn : List Bool) (kept : List (List Int)) : AV :=
  .ag [.h (1000000 + j) 0 0 [] 1 0 P.length, .h (1000001 + j) 0 0 [] 4 0 S.length, .h (1000002 + j) 0 0 [] 1 0 W.length, .h (1000003 + j) 0 0 [] 1 0 H.length, bl on, .h (1000004 + j) 0 0 [] 1 0 cut.length, .h (1000005 + j) 0 0 [] 1 0 opn.length, .h (1000006 + j) 0 0 [] 1 0 kept.length]
abbrev nLive (j : Nat) (P : List (List Ins)) (S : List State) (W : List (List Item)) (H : List (List Event)) (on : Bool) (cut : List Int) (opn : List Bool) (kept : List (List Int)) : AV :=
  .ag [.h (2000000 + j) 1 0 [] 1 0 P.length, .h (2000001 + j) 1 0 [] 4 0 S.length, .h (2000002 + j) 1 0 [] 1 0 W.length, .h (2000003 + j) 1 0 [] 1 0 H.length, bl on, .h (2000004 + j) 1 0 [] 1 0 cut.length, .h (2000005 + j) 1 0 [] 1 0 opn.length, .h (2000006 + j) 1 0 [] 1 0 kept.length]
abbrev aShot (j : Nat) (on : Bool) (cut : List Int) (opn : List Bool) (kept : List (List Int)) : AV :=
  .ag [bl on, .h (1000000 + j) 0 0 [] 1 0 cut.length, .h (1000001 + j) 0 0 [] 1 0 opn.length, .h (1000002 + j) 0 0 [] 1 0 kept.length]
abbrev nShot (j : Nat) (on : Bool) (cut : List Int) (opn : List Bool) (kept : List (List Int)) : AV :=
  .ag [bl on, .h (2000000 + j) 1 0 [] 1 0 cut.length, .h (2000001 + j) 1 0 [] 1 0 opn.length, .h (2000002 + j) 1 0 [] 1 0 kept.length]
structure ShotB (B : Nat) (cut : List Int) (opn : List Bool) (kept : List (List Int)) : Prop where
  c : cut.length ≤ B
  o : opn.length ≤ B
  k : kept.length ≤ B
  kk : ∀ j : Nat, j < kept.length → (rd kept j).length ≤ B
def shotSz (cut : List Int) (opn : List Bool) (kept : List (List Int)) : Nat := cut.length + (opn.length + (kept.length + wts List.length kept))
theorem ShotB.mono {B B' : Nat} {cut : List Int} {opn : List Bool} {kept : List (List Int)} (h : ShotB B cut opn kept) (hb : B ≤ B') : ShotB B' cut opn kept :=
  ⟨by have := h.c; omega, by have := h.o; omega, by have := h.k; omega, fun j hj => by have := h.kk j hj; omega⟩
def markedB (w : List Item) : Bool := w.any (·.mark)
def marksB (W : List (List Item)) : Bool := W.any markedB
theorem ok_impl_marked11 (k : Nat) (x : Item) : callE PR C (k + 1) 210 [.ag [bl x.mark, i64 x.v]] [] = some ⟨bl x.mark, [], []⟩ := by
  (refine fnI [ResultVar.tmp 2] Tryz.func210 ?_; conv => whnf)
  repeat' ((with_reducible (first | refine st20 ?_|refine fG.split (fun _ => ?_) (fun _ => ?_)|refine fG.bool (fun _ => ?_) (fun _ => ?_))) <;> (try (conv => whnf)))
theorem ok_IndexFunc_Mark (k : Nat) (w : List Item) (hw : w.length ≤ 100000000000) :
    callE PR C (k + 2) 265 [.h 1000000 0 0 [] 2 0 w.length, .fn 210 []] [tItem w] = some ⟨i64 (idxP (·.mark) w), [], [none]⟩ := by
  (refine fnI [ResultVar.tmp 4] Tryz.func265 ?_; conv => whnf)
  refine loop_rule (ι := Nat) (fun i => [(0, .h 1000000 0 0 [] 2 0 w.length), (1, .fn 210 []), (7, i64 w.length), (8, i64 (i : Nat))]) (fun i => [(1000000, ⟨0, 0, false, tItem w⟩)])
    (fun i => w.length - i) (fun i => i ≤ w.length ∧ w.findIdx? (·.mark) = ((w.drop i).findIdx? (·.mark)).map (· + i)) 0 fitOk (by simp) (by simp [C]; omega) ?_
  rintro i sl ob ⟨hi, hall⟩
  (conv => whnf)
  repeat' ((with_reducible (first | refine sCall.of (ok_impl_marked11 _ _) ?_|refine st20 ?_|refine fG.split (fun _ => ?_) (fun _ => ?_)|refine fG.bool (fun _ => ?_) (fun _ => ?_))) <;> (try (conv => whnf)))
  case refine_1.refine_2 h hx =>
    refine ⟨⟨i + 1, fitOk, ?_, ?_⟩⟩
    · exact ⟨by show i + 1 ≤ _; omega, findIdx_step (by omega) hall hx⟩
    · show w.length - (i + 1) < w.length - i; omega
  case refine_1.refine_1 h hx => rw [findIdx_here (by omega) hall hx]
  case refine_2 h => rw [findIdx_none (by omega) hall]
theorem ok_ContainsFunc_Mark (k : Nat) (w : List Item) (hw : w.length ≤ 100000000000) :
    callE PR C (k + 3) 192 [.h 1000000 0 0 [] 2 0 w.length, .fn 210 []] [tItem w] = some ⟨bl (markedB w), [], [none]⟩ := by
  unfold markedB
  rw [← idxP_any]
  (refine fnI [ResultVar.tmp 4] Tryz.func192 ?_; conv => whnf)
  repeat' ((with_reducible (first | refine sCall.of (ok_IndexFunc_Mark _ _ hw) ?_|refine st20 ?_|refine fG.split (fun _ => ?_) (fun _ => ?_)|refine fG.bool (fun _ => ?_) (fun _ => ?_))) <;> (try (conv => whnf)))
theorem ok_impl_marked1 (k : Nat) (w : List Item) (hw : w.length ≤ 100000000000) : callE PR C (k + 4) 209 [.h 1000000 0 0 [] 2 0 w.length] [tItem w] = some ⟨bl (markedB w), [], [none]⟩ := by
  (refine fnI [ResultVar.tmp 2] Tryz.func209 ?_; conv => whnf)
  repeat' ((with_reducible (first | refine sCall.of (ok_ContainsFunc_Mark _ _ hw) ?_|refine st20 ?_|refine fG.split (fun _ => ?_) (fun _ => ?_)|refine fG.bool (fun _ => ?_) (fun _ => ?_))) <;> (try (conv => whnf)))
theorem ok_IndexFunc_Marks (k : Nat) (W : List (List Item)) (hW : W.length ≤ 100000000000) (hx : ∀ j : Nat, j < W.length → (rd W j).length ≤ 100000000000) :
    callE PR C (k + 5) 191 [.h 1000000 0 0 [] 1 0 W.length, .fn 209 []] [tItemSS W] = some ⟨i64 (idxP markedB W), [], [none]⟩ := by
  (refine fnI [ResultVar.tmp 4] Tryz.func191 ?_; conv => whnf)
  refine loop_rule (ι := Nat) (fun i => [(0, .h 1000000 0 0 [] 1 0 W.length), (1, .fn 209 []), (7, i64 W.length), (8, i64 (i : Nat))]) (fun i => [(1000000, ⟨0, 0, false, tItemSS W⟩)])
    (fun i => W.length - i) (fun i => i ≤ W.length ∧ W.findIdx? markedB = ((W.drop i).findIdx? markedB).map (· + i)) 0 fitOk (by simp) (by simp [C]; omega) ?_
  rintro i sl ob ⟨hi, hall⟩
  (conv => whnf)
  by_cases hil : i < W.length
  · have hxi := hx i hil
    have q1 := fun k => ok_impl_marked1 k (rd W i) hxi
    cases e : markedB (rd W i)
    all_goals simp only [e] at q1
    · repeat' ((with_reducible (first | refine sCall.of (q1 _) ?_|refine st20 ?_|refine fG.split (fun _ => ?_) (fun _ => ?_)|refine fG.bool (fun _ => ?_) (fun _ => ?_))) <;> (try (conv => whnf)))
      all_goals first
        | (exfalso; simp_all; done)
        | (refine ⟨⟨i + 1, fitOk, ?_, ?_⟩⟩
           · exact ⟨by show i + 1 ≤ _; omega, findIdx_step (by omega) hall e⟩
           · show W.length - (i + 1) < W.length - i; omega)
    · rw [findIdx_here (by omega) hall e]
      repeat' ((with_reducible (first | refine sCall.of (q1 _) ?_|refine st20 ?_|refine fG.split (fun _ => ?_) (fun _ => ?_)|refine fG.bool (fun _ => ?_) (fun _ => ?_))) <;> (try (conv => whnf)))
  · rw [findIdx_none (by omega) hall]
    repeat' ((with_reducible (first | refine st20 ?_|refine fG.split (fun _ => ?_) (fun _ => ?_)|refine fG.bool (fun _ => ?_) (fun _ => ?_))) <;> (try (conv => whnf)))
theorem ok_ContainsFunc_Marks (k : Nat) (W : List (List Item)) (hW : W.length ≤ 100000000000) (hx : ∀ j : Nat, j < W.length → (rd W j).length ≤ 100000000000) :
    callE PR C (k + 6) 88 [.h 1000000 0 0 [] 1 0 W.length, .fn 209 []] [tItemSS W] = some ⟨bl (marksB W), [], [none]⟩ := by
  unfold marksB
  rw [← idxP_any]
  (refine fnI [ResultVar.tmp 4] Tryz.func88 ?_; conv => whnf)
  repeat' ((with_reducible (first | refine sCall.of (ok_IndexFunc_Marks _ _ hW hx) ?_|refine st20 ?_|refine fG.split (fun _ => ?_) (fun _ => ?_)|refine fG.bool (fun _ => ?_) (fun _ => ?_))) <;> (try (conv => whnf)))
theorem ok_impl_marked (k : Nat) (P : List (List Ins)) (S : List State) (W : List (List Item)) (H : List (List Event)) (hb : SysB 10000000000 P S W H) :
    callE PR C (k + 7) 110 [aSys 0 P S W H] [tInsSS P, tStateS S, tItemSS W, tEventSS H] = some ⟨bl (marksB W), [], [none, none, none, none]⟩ := by
  have hw := hb.w
  have hx := hb.ww
  (refine fnI [ResultVar.tmp 2] Tryz.func110 ?_; conv => whnf)
  have q1 := fun k => ok_ContainsFunc_Marks k W (by omega) (fun j hj => by have := hx j hj; omega)
  repeat' ((with_reducible (first | refine sCall.of (q1 _) ?_|refine st20 ?_|refine fG.split (fun _ => ?_) (fun _ => ?_)|refine fG.bool (fun _ => ?_) (fun _ => ?_))) <;> (try (conv => whnf)))
theorem any_no {α : Type} [Inhabited α] {f : α → Bool} {l : List α} (h : ∀ i, i < l.length → f (rd l i) = false) : l.any f = false := by
  rw [List.any_eq_false]
  intro x hx
  obtain ⟨i, hi, rfl⟩ := List.mem_iff_getElem.1 hx
  have := h i hi
  rw [rd_at hi] at this
  simp [this]
theorem any_yes {α : Type} [Inhabited α] {f : α → Bool} {l : List α} {i : Nat} (h : i < l.length) (e : f (rd l i) = true) : l.any f = true := by
  rw [List.any_eq_true]
  exact ⟨_, rd_mem h, e⟩
theorem ok_spec_l11Marks (k : Nat) (P : List (List Ins)) (S : List State) (W : List (List Item)) (H : List (List Event)) (hb : SysB 10000000000 P S W H) :
    callE PR C (k + 1) 122 [aSys 0 P S W H] [tInsSS P, tStateS S, tItemSS W, tEventSS H] = some ⟨bl (marksB W), [], [none, none, none, none]⟩ := by
  have hw := hb.w
  have hx := hb.ww
  (refine fnI [ResultVar.tmp 2] Tryz.func122 ?_; conv => whnf)
  repeat' ((with_reducible (first | refine st20 ?_|refine fG.split (fun _ => ?_) (fun _ => ?_)|refine fG.bool (fun _ => ?_) (fun _ => ?_))) <;> (try (conv => whnf)))
  refine loop_rule (ι := Nat) (fun j => [(1, .pt 1 1 0 [] 0 0), (3, i64 (j : Nat))])
    (fun _ => [(1000000, ⟨0, 0, false, tInsSS P⟩), (1000001, ⟨0, 0, false, tStateS S⟩), (1000002, ⟨0, 0, false, tItemSS W⟩), (1000003, ⟨0, 0, false, tEventSS H⟩), (1, ⟨1, 0, false, bSys P S W H⟩)])
    (fun j => W.length - j) (fun j => j ≤ W.length ∧ ∀ q, q < j → markedB (rd W q) = false) 0 fitOk ⟨Nat.zero_le _, fun q h => absurd h (Nat.not_lt_zero q)⟩ (by simp [C]; omega) ?_
  rintro j sl ob ⟨hj, hno⟩
  (try dsimp only [cond_true, cond_false])
  (conv => whnf)
  by_cases hjl : j < W.length
  · have hxj := hx j hjl
    have e4 : (List.map rItem (rd W j)).length = (rd W j).length := by simp
    repeat' ((with_reducible (first | refine st20 ?_|refine fG.split (fun _ => ?_) (fun _ => ?_)|refine fG.bool (fun _ => ?_) (fun _ => ?_))) <;> (try (conv => whnf)))
    refine loop_rule (ι := Nat) (fun i => [(1, .pt 1 1 0 [] 0 0), (3, i64 (j : Nat)), (4, i64 (i : Nat))])
      (fun _ => [(1000000, ⟨0, 0, false, tInsSS P⟩), (1000001, ⟨0, 0, false, tStateS S⟩), (1000002, ⟨0, 0, false, tItemSS W⟩), (1000003, ⟨0, 0, false, tEventSS H⟩), (1, ⟨1, 0, false, bSys P S W H⟩)])
      (fun i => (rd W j).length - i) (fun i => i ≤ (rd W j).length ∧ ∀ q, q < i → (rd (rd W j) q).mark = false) 0 fitOk ⟨Nat.zero_le _, fun q h => absurd h (Nat.not_lt_zero q)⟩ (by simp [C]; omega) ?_
    clear sl ob
    rintro i sl ob ⟨hi, hni⟩
    (try dsimp only [cond_true, cond_false])
    (conv => whnf)
    by_cases hil : i < (rd W j).length
    · cases e : (rd (rd W j) i).mark
      · repeat' ((with_reducible (first | refine st20 ?_|refine fG.split (fun _ => ?_) (fun _ => ?_)|refine fG.bool (fun _ => ?_) (fun _ => ?_))) <;> (try (conv => whnf)))
        all_goals first
          | (exfalso; simp_all; done)
          | (refine ⟨⟨i + 1, fitOk, ?_, ?_⟩⟩
             · exact ⟨by show i + 1 ≤ _; omega, fun q hq => by rcases Nat.lt_succ_iff_lt_or_eq.1 hq with h | h; exact hni q h; rw [h]; exact e⟩
             · show (rd W j).length - (i + 1) < (rd W j).length - i; omega)
      · rw [show marksB W = true from any_yes hjl (by unfold markedB; exact any_yes hil e)]
        repeat' ((with_reducible (first | refine st20 ?_|refine fG.split (fun _ => ?_) (fun _ => ?_)|refine fG.bool (fun _ => ?_) (fun _ => ?_))) <;> (try (conv => whnf)))
        all_goals (exfalso; simp_all; done)
    · repeat' ((with_reducible (first | refine st20 ?_|refine fG.split (fun _ => ?_) (fun _ => ?_)|refine fG.bool (fun _ => ?_) (fun _ => ?_))) <;> (try (conv => whnf)))
      refine ⟨⟨j + 1, fitOk, ?_, ?_⟩⟩
      · exact ⟨by show j + 1 ≤ _; omega, fun q hq => by rcases Nat.lt_succ_iff_lt_or_eq.1 hq with h | h; exact hno q h; rw [h]; exact any_no fun i hi => hni i (by omega)⟩
      · show W.length - (j + 1) < W.length - j; omega
  · rw [show marksB W = false from any_no fun q hq => hno q (by omega)]
    repeat' ((with_reducible (first | refine st20 ?_|refine fG.split (fun _ => ?_) (fun _ => ?_)|refine fG.bool (fun _ => ?_) (fun _ => ?_))) <;> (try (conv => whnf)))

end Go.Proofs.YtipfcgbhaalcdaaGreat.Abs
namespace Go.Proofs.YtipfcgbhaalcdaaGreat.Abs
open Go Go.Proofs
set_option linter.unusedVariables false
set_option linter.unusedSimpArgs false
attribute [local irreducible] callE
def cutOk (H : List (List Event)) (cut : List Int) (opn : List Bool) (kept : List (List Int)) (n p : Nat) : Bool :=
  inB (rd cut p) (-1) (rd H p).length && (decide (0 ≤ rd cut p) || allBelow n fun a => !(rd opn (a * n + p)) && decide ((rd kept (a * n + p)).length = 0))
def shotLens (n : Nat) (cut : List Int) (opn : List Bool) (kept : List (List Int)) : Bool := decide (cut.length = n) && (decide (opn.length = n * n) && decide (kept.length = n * n))
def drawnB (cut : List Int) : Bool := cut.any fun c => decide (0 ≤ c)
def liveOk (P : List (List Ins)) (S : List State) (W : List (List Item)) (H : List (List Event)) (on : Bool) (cut : List Int) (opn : List Bool) (kept : List (List Int)) : Bool :=
  sysOk P S W H && (shotLens P.length cut opn kept && (allBelow P.length (cutOk H cut opn kept P.length) && (decide (on = drawnB cut) && (on || !marksB W))))
theorem liveOk_lens {P : List (List Ins)} {S : List State} {W : List (List Item)} {H : List (List Event)} {on : Bool} {cut : List Int} {opn : List Bool} {kept : List (List Int)} (h : shotLens P.length cut opn kept = false) : liveOk P S W H on cut opn kept = false := by simp [liveOk, h]
theorem liveOk_cut {P : List (List Ins)} {S : List State} {W : List (List Item)} {H : List (List Event)} {on : Bool} {cut : List Int} {opn : List Bool} {kept : List (List Int)} {p : Nat} (hp : p < P.length) (h : cutOk H cut opn kept P.length p = false) : liveOk P S W H on cut opn kept = false := by simp [liveOk, allBelow_no hp h]
theorem drawn_take {cut : List Int} {j : Nat} (h : j < cut.length) : drawnB (cut.take (j + 1)) = (drawnB (cut.take j) || decide (0 ≤ rd cut j)) := by
  rw [show cut.take (j + 1) = cut.take j ++ [rd cut j] by rw [List.take_add_one]; simp [rd, h]]
  simp [drawnB]
abbrev bLive (P : List (List Ins)) (S : List State) (W : List (List Item)) (H : List (List Event)) (on : Bool) (cut : List Int) (opn : List Bool) (kept : List (List Int)) : Cont :=
  .box [.h 1000000 0 0 [] 1 0 P.length, .h 1000001 0 0 [] 4 0 S.length, .h 1000002 0 0 [] 1 0 W.length, .h 1000003 0 0 [] 1 0 H.length, bl on, .h 1000004 0 0 [] 1 0 cut.length, .h 1000005 0 0 [] 1 0 opn.length, .h 1000006 0 0 [] 1 0 kept.length]
structure LV where
  j : Nat
  s : Bool
set_option maxHeartbeats 8000000 in
set_option maxRecDepth 10000 in
theorem ok_impl_LiveOk (k : Nat) (P : List (List Ins)) (S : List State) (W : List (List Item)) (H : List (List Event)) (on : Bool) (cut : List Int) (opn : List Bool) (kept : List (List Int)) (hb : SysB 10000000000 P S W H) (hs : ShotB 10000000000 cut opn kept) :
    callE PR C (k + 12) 29 [aLive 0 P S W H on cut opn kept] [tInsSS P, tStateS S, tItemSS W, tEventSS H, tI cut, tBool opn, tIntSS kept] = some ⟨bl (liveOk P S W H on cut opn kept), [], [none, none, none, none, none, none, none]⟩ := by
  have b1 := hb.p
  have s1 := hs.c
  have s2 := hs.o
  have s3 := hs.k
  have q1 := fun k => ok_impl_SysOk k P S W H hb
  cases e : sysOk P S W H with
  | false =>
    simp only [e] at q1
    rw [show liveOk P S W H on cut opn kept = false by simp [liveOk, e]]
    (refine fnI [ResultVar.tmp 2] Tryz.func29 ?_; conv => whnf)
    repeat' ((with_reducible (first | refine sCall.of (q1 _) ?_|refine st20 ?_|refine fG.split (fun _ => ?_) (fun _ => ?_)|refine fG.bool (fun _ => ?_) (fun _ => ?_))) <;> (try (conv => whnf)))
  | true =>
    simp only [e] at q1
    obtain ⟨hI, hP, hS, h200⟩ := sysOk_facts e
    have hN := hI.n
    have hHl := hI.h
    have hnn : P.length * P.length ≤ 4 * 4 := Nat.mul_le_mul (by omega) (by omega)
    have w1 : IntKind.i64.wrap ((P.length : Int) * (P.length : Int)) = ((P.length * P.length : Nat) : Int) := by
      rw [show (P.length : Int) * (P.length : Int) = ((P.length * P.length : Nat) : Int) by simp]; exact wrap_i64 _ (by omega) (by omega)
    by_cases d1 : cut.length = P.length
    · by_cases d2 : opn.length = P.length * P.length
      · by_cases d3 : kept.length = P.length * P.length
        · have hL : shotLens P.length cut opn kept = true := by simp [shotLens, d1, d2, d3]
          (refine fnI [ResultVar.tmp 2] Tryz.func29 ?_; conv => whnf)
          repeat' ((with_reducible (first | refine sCall.of (q1 _) ?_|refine sW.eq (w1) ?_|refine st20 ?_|refine fG.split (fun _ => ?_) (fun _ => ?_)|refine fG.bool (fun _ => ?_) (fun _ => ?_))) <;> (try (conv => whnf)))
          refine loop_rule (ι := LV) (fun z => [(1, .pt 1 1 0 [] 0 0), (3, i64 P.length), (4, bl z.s), (46, .h 1000004 0 0 [] 1 0 cut.length), (47, i64 cut.length), (48, i64 (z.j : Nat))])
            (fun _ => [(1000000, ⟨0, 0, false, tInsSS P⟩), (1000001, ⟨0, 0, false, tStateS S⟩), (1000002, ⟨0, 0, false, tItemSS W⟩), (1000003, ⟨0, 0, false, tEventSS H⟩), (1000004, ⟨0, 0, false, tI cut⟩), (1000005, ⟨0, 0, false, tBool opn⟩), (1000006, ⟨0, 0, false, tIntSS kept⟩), (1, ⟨1, 0, false, bLive P S W H on cut opn kept⟩)])
            (fun z => cut.length - z.j) (fun z => z.j ≤ cut.length ∧ z.s = drawnB (cut.take z.j) ∧ ∀ q, q < z.j → cutOk H cut opn kept P.length q = true) ⟨0, false⟩ fitOk ⟨Nat.zero_le _, by simp [drawnB], fun q h => absurd h (Nat.not_lt_zero q)⟩ (by simp [C]; omega) ?_
          rintro ⟨p, s⟩ sl ob ⟨hj, hs', hpr⟩
          dsimp only at hj hs' hpr
          (try dsimp only [cond_true, cond_false])
          (conv => whnf)
          by_cases hpl : p < cut.length
          · have e4 : (List.map rEvent (rd H p)).length = (rd H p).length := by simp
            have h2 := h200 p (by omega)
            have q2 := fun k => ok_impl_in k (rd cut p) (-1) ((List.map rEvent (rd H p)).length : Int)
            have hdt := drawn_take hpl
            rw [← hs'] at hdt
            by_cases c1 : -1 ≤ rd cut p ∧ rd cut p ≤ ((List.map rEvent (rd H p)).length : Int)
            · rw [decide_eq_true c1] at q2
              rw [e4] at c1
              by_cases c2 : 0 ≤ rd cut p
              · have hc : cutOk H cut opn kept P.length p = true := by simp [cutOk, inB, c1, c2]
                have hpr2 : ∀ q, q < p + 1 → cutOk H cut opn kept P.length q = true := fun q hq => by rcases Nat.lt_succ_iff_lt_or_eq.1 hq with h | h; exact hpr q h; rw [h]; exact hc
                cases s
                all_goals
                  repeat' ((with_reducible (first | refine sCall.of (q2 _) ?_|refine st20 ?_|refine fG.split (fun _ => ?_) (fun _ => ?_)|refine fG.bool (fun _ => ?_) (fun _ => ?_))) <;> (try (conv => whnf)))
                  refine loop_rule (ι := Nat) (fun a => [(1, .pt 1 1 0 [] 0 0), (3, i64 P.length), (4, bl (drawnB (List.take (p + 1) cut))), (5, i64 (p : Nat)), (6, i64 (rd cut p)), (46, .h 1000004 0 0 [] 1 0 cut.length), (47, i64 cut.length), (48, i64 (p : Nat)), (68, i64 P.length), (69, i64 (a : Nat))])
                    (fun _ => [(1000000, ⟨0, 0, false, tInsSS P⟩), (1000001, ⟨0, 0, false, tStateS S⟩), (1000002, ⟨0, 0, false, tItemSS W⟩), (1000003, ⟨0, 0, false, tEventSS H⟩), (1000004, ⟨0, 0, false, tI cut⟩), (1000005, ⟨0, 0, false, tBool opn⟩), (1000006, ⟨0, 0, false, tIntSS kept⟩), (1, ⟨1, 0, false, bLive P S W H on cut opn kept⟩)])
                    (fun a => P.length - a) (fun a => a ≤ P.length) 0 (by rw [hdt]; exact fitOk) (Nat.zero_le _) (by simp [C]; omega) ?_
                  clear sl ob
                  rintro a sl ob ha
                  (try dsimp only [cond_true, cond_false])
                  (conv => whnf)
                  by_cases hal : a < P.length
                  · repeat' ((with_reducible (first | refine st20 ?_|refine fG.split (fun _ => ?_) (fun _ => ?_)|refine fG.bool (fun _ => ?_) (fun _ => ?_))) <;> (try (conv => whnf)))
                    refine ⟨⟨a + 1, fitOk, ?_, ?_⟩⟩
                    · show a + 1 ≤ _; omega
                    · show P.length - (a + 1) < P.length - a; omega
                  · repeat' ((with_reducible (first | refine st20 ?_|refine fG.split (fun _ => ?_) (fun _ => ?_)|refine fG.bool (fun _ => ?_) (fun _ => ?_))) <;> (try (conv => whnf)))
                    refine ⟨⟨⟨p + 1, drawnB (List.take (p + 1) cut)⟩, fitOk, ?_, ?_⟩⟩
                    · exact ⟨by show p + 1 ≤ _; omega, rfl, hpr2⟩
                    · show cut.length - (p + 1) < cut.length - p; omega
              · cases s
                all_goals
                  repeat' ((with_reducible (first | refine sCall.of (q2 _) ?_|refine st20 ?_|refine fG.split (fun _ => ?_) (fun _ => ?_)|refine fG.bool (fun _ => ?_) (fun _ => ?_))) <;> (try (conv => whnf)))
                  refine loop_rule (ι := Nat) (fun a => [(1, .pt 1 1 0 [] 0 0), (3, i64 P.length), (4, bl (drawnB (List.take (p + 1) cut))), (5, i64 (p : Nat)), (6, i64 (rd cut p)), (46, .h 1000004 0 0 [] 1 0 cut.length), (47, i64 cut.length), (48, i64 (p : Nat)), (68, i64 P.length), (69, i64 (a : Nat))])
                    (fun _ => [(1000000, ⟨0, 0, false, tInsSS P⟩), (1000001, ⟨0, 0, false, tStateS S⟩), (1000002, ⟨0, 0, false, tItemSS W⟩), (1000003, ⟨0, 0, false, tEventSS H⟩), (1000004, ⟨0, 0, false, tI cut⟩), (1000005, ⟨0, 0, false, tBool opn⟩), (1000006, ⟨0, 0, false, tIntSS kept⟩), (1, ⟨1, 0, false, bLive P S W H on cut opn kept⟩)])
                    (fun a => P.length - a) (fun a => a ≤ P.length ∧ ∀ b, b < a → (!(rd opn (b * P.length + p)) && decide ((rd kept (b * P.length + p)).length = 0)) = true) 0 (by rw [hdt]; exact fitOk) ⟨Nat.zero_le _, fun q h => absurd h (Nat.not_lt_zero q)⟩ (by simp [C]; omega) ?_
                  clear sl ob
                  rintro a sl ob ⟨ha, hbe⟩
                  (try dsimp only [cond_true, cond_false])
                  (conv => whnf)
                  by_cases hal : a < P.length
                  · have hpl4 := place_lt hal (show p < P.length by omega)
                    have w2 : IntKind.i64.wrap ((a : Int) * (P.length : Int)) = ((a * P.length : Nat) : Int) := by
                      rw [show (a : Int) * (P.length : Int) = ((a * P.length : Nat) : Int) by simp]; exact wrap_i64 _ (by omega) (by omega)
                    have w3 : IntKind.i64.wrap (((a * P.length : Nat) : Int) + (p : Int)) = ((a * P.length + p : Nat) : Int) := by rw [wrap_i64 _ (by omega) (by omega)]; simp
                    have hkk := hs.kk (a * P.length + p) (by omega)
                    have e5 : (List.map rI (rd kept (a * P.length + p))).length = (rd kept (a * P.length + p)).length := by simp
                    generalize hpp : a * P.length + p = pp at hpl4 w3 hkk e5
                    cases e6 : rd opn pp with
                    | true =>
                      rw [liveOk_cut (p := p) (by omega) (by simp only [cutOk, decide_eq_false c2, Bool.false_or, allBelow_no (f := fun a => !(rd opn (a * P.length + p)) && decide ((rd kept (a * P.length + p)).length = 0)) hal (by simp [hpp, e6]), Bool.and_false])]
                      repeat' ((with_reducible (first | refine sW.eq (w2) ?_|refine sW.eq (w3) ?_|refine st20 ?_|refine fG.split (fun _ => ?_) (fun _ => ?_)|refine fG.bool (fun _ => ?_) (fun _ => ?_))) <;> (try (conv => whnf)))
                    | false =>
                      by_cases c5 : (rd kept pp).length = 0
                      · repeat' ((with_reducible (first | refine sW.eq (w2) ?_|refine sW.eq (w3) ?_|refine st20 ?_|refine fG.split (fun _ => ?_) (fun _ => ?_)|refine fG.bool (fun _ => ?_) (fun _ => ?_))) <;> (try (conv => whnf)))
                        refine ⟨⟨a + 1, fitOk, ?_, ?_⟩⟩
                        · exact ⟨by show a + 1 ≤ _; omega, fun q hq => by rcases Nat.lt_succ_iff_lt_or_eq.1 hq with h | h; exact hbe q h; rw [h, hpp]; simp [e6, c5]⟩
                        · show P.length - (a + 1) < P.length - a; omega
                      · rw [liveOk_cut (p := p) (by omega) (by simp only [cutOk, decide_eq_false c2, Bool.false_or, allBelow_no (f := fun a => !(rd opn (a * P.length + p)) && decide ((rd kept (a * P.length + p)).length = 0)) hal (by simp [hpp, c5]), Bool.and_false])]
                        repeat' ((with_reducible (first | refine sW.eq (w2) ?_|refine sW.eq (w3) ?_|refine st20 ?_|refine fG.split (fun _ => ?_) (fun _ => ?_)|refine fG.bool (fun _ => ?_) (fun _ => ?_))) <;> (try (conv => whnf)))
                  · repeat' ((with_reducible (first | refine st20 ?_|refine fG.split (fun _ => ?_) (fun _ => ?_)|refine fG.bool (fun _ => ?_) (fun _ => ?_))) <;> (try (conv => whnf)))
                    refine ⟨⟨⟨p + 1, drawnB (List.take (p + 1) cut)⟩, fitOk, ?_, ?_⟩⟩
                    · refine ⟨by show p + 1 ≤ _; omega, rfl, fun q hq => ?_⟩
                      rcases Nat.lt_succ_iff_lt_or_eq.1 hq with h | h
                      · exact hpr q h
                      · rw [h]
                        simp only [cutOk, inB, decide_eq_true c1, decide_eq_false c2, Bool.false_or, Bool.true_and]
                        exact allBelow_yes fun b hb => hbe b (by omega)
                    · show cut.length - (p + 1) < cut.length - p; omega
            · rw [decide_eq_false c1] at q2
              rw [e4] at c1
              rw [liveOk_cut (p := p) (by omega) (by simp [cutOk, inB, c1])]
              repeat' ((with_reducible (first | refine sCall.of (q2 _) ?_|refine st20 ?_|refine fG.split (fun _ => ?_) (fun _ => ?_)|refine fG.bool (fun _ => ?_) (fun _ => ?_))) <;> (try (conv => whnf)))
          · have ePr := allBelow_yes (f := cutOk H cut opn kept P.length) (n := P.length) fun q hq => hpr q (by omega)
            rw [List.take_of_length_le (by omega)] at hs'
            have q3 := fun k => ok_impl_marked k P S W H hb
            rw [show liveOk P S W H on cut opn kept = (decide (on = s) && (on || !marksB W)) by simp only [liveOk, e, hL, ePr, hs', Bool.true_and]]
            cases on
            all_goals cases s
            all_goals cases em : marksB W
            all_goals
              simp only [em] at q3
              repeat' ((with_reducible (first | refine sCall.of (q3 _) ?_|refine st20 ?_|refine fG.split (fun _ => ?_) (fun _ => ?_)|refine fG.bool (fun _ => ?_) (fun _ => ?_))) <;> (try (conv => whnf)))
            all_goals rfl
        · rw [liveOk_lens (by simp [shotLens, d3])]
          (refine fnI [ResultVar.tmp 2] Tryz.func29 ?_; conv => whnf)
          repeat' ((with_reducible (first | refine sCall.of (q1 _) ?_|refine sW.eq (w1) ?_|refine st20 ?_|refine fG.split (fun _ => ?_) (fun _ => ?_)|refine fG.bool (fun _ => ?_) (fun _ => ?_))) <;> (try (conv => whnf)))
          all_goals first
            | rfl
            | (exfalso; omega)
      · rw [liveOk_lens (by simp [shotLens, d2])]
        (refine fnI [ResultVar.tmp 2] Tryz.func29 ?_; conv => whnf)
        repeat' ((with_reducible (first | refine sCall.of (q1 _) ?_|refine sW.eq (w1) ?_|refine st20 ?_|refine fG.split (fun _ => ?_) (fun _ => ?_)|refine fG.bool (fun _ => ?_) (fun _ => ?_))) <;> (try (conv => whnf)))
        all_goals first
          | rfl
          | (exfalso; omega)
    · rw [liveOk_lens (by simp [shotLens, d1])]
      (refine fnI [ResultVar.tmp 2] Tryz.func29 ?_; conv => whnf)
      repeat' ((with_reducible (first | refine sCall.of (q1 _) ?_|refine sW.eq (w1) ?_|refine st20 ?_|refine fG.split (fun _ => ?_) (fun _ => ?_)|refine fG.bool (fun _ => ?_) (fun _ => ?_))) <;> (try (conv => whnf)))
      all_goals first
        | rfl
        | (exfalso; omega)

set_option maxHeartbeats 8000000 in
set_option maxRecDepth 10000 in
theorem ok_spec_LiveOk (k : Nat) (P : List (List Ins)) (S : List State) (W : List (List Item)) (H : List (List Event)) (on : Bool) (cut : List Int) (opn : List Bool) (kept : List (List Int)) (hb : SysB 10000000000 P S W H) (hs : ShotB 10000000000 cut opn kept) :
    callE PR C (k + 8) 46 [aLive 0 P S W H on cut opn kept] [tInsSS P, tStateS S, tItemSS W, tEventSS H, tI cut, tBool opn, tIntSS kept] = some ⟨bl (liveOk P S W H on cut opn kept), [], [none, none, none, none, none, none, none]⟩ := by
  have b1 := hb.p
  have s1 := hs.c
  have s2 := hs.o
  have s3 := hs.k
  have q1 := fun k => ok_spec_SysOk k P S W H hb
  cases e : sysOk P S W H with
  | false =>
    simp only [e] at q1
    rw [show liveOk P S W H on cut opn kept = false by simp [liveOk, e]]
    (refine fnI [ResultVar.tmp 2] Tryz.func46 ?_; conv => whnf)
    repeat' ((with_reducible (first | refine sCall.of (q1 _) ?_|refine st20 ?_|refine fG.split (fun _ => ?_) (fun _ => ?_)|refine fG.bool (fun _ => ?_) (fun _ => ?_)|refine gDn 8 ?_)) <;> (try (conv => whnf)))
  | true =>
    simp only [e] at q1
    obtain ⟨hI, hP, hS, h200⟩ := sysOk_facts e
    have hN := hI.n
    have hHl := hI.h
    have hnn : P.length * P.length ≤ 4 * 4 := Nat.mul_le_mul (by omega) (by omega)
    have w1 : IntKind.i64.wrap ((P.length : Int) * (P.length : Int)) = ((P.length * P.length : Nat) : Int) := by
      rw [show (P.length : Int) * (P.length : Int) = ((P.length * P.length : Nat) : Int) by simp]; exact wrap_i64 _ (by omega) (by omega)
    by_cases d1 : cut.length = P.length
    · by_cases d2 : opn.length = P.length * P.length
      · by_cases d3 : kept.length = P.length * P.length
        · have hL : shotLens P.length cut opn kept = true := by simp [shotLens, d1, d2, d3]
          (refine fnI [ResultVar.tmp 2] Tryz.func46 ?_; conv => whnf)
          repeat' ((with_reducible (first | refine sCall.of (q1 _) ?_|refine sW.eq (w1) ?_|refine st20 ?_|refine fG.split (fun _ => ?_) (fun _ => ?_)|refine fG.bool (fun _ => ?_) (fun _ => ?_)|refine gDn 8 ?_)) <;> (try (conv => whnf)))
          refine loop_rule (ι := LV) (fun z => [(1, .pt 1 1 0 [] 0 0), (3, i64 P.length), (4, bl z.s), (5, i64 (z.j : Nat))])
            (fun _ => [(1000000, ⟨0, 0, false, tInsSS P⟩), (1000001, ⟨0, 0, false, tStateS S⟩), (1000002, ⟨0, 0, false, tItemSS W⟩), (1000003, ⟨0, 0, false, tEventSS H⟩), (1000004, ⟨0, 0, false, tI cut⟩), (1000005, ⟨0, 0, false, tBool opn⟩), (1000006, ⟨0, 0, false, tIntSS kept⟩), (1, ⟨1, 0, false, bLive P S W H on cut opn kept⟩)])
            (fun z => cut.length - z.j) (fun z => z.j ≤ cut.length ∧ z.s = drawnB (cut.take z.j) ∧ ∀ q, q < z.j → cutOk H cut opn kept P.length q = true) ⟨0, false⟩ fitOk ⟨Nat.zero_le _, by simp [drawnB], fun q h => absurd h (Nat.not_lt_zero q)⟩ (by simp [C]; omega) ?_
          rintro ⟨p, s⟩ sl ob ⟨hj, hs', hpr⟩
          dsimp only at hj hs' hpr
          (try dsimp only [cond_true, cond_false])
          (conv => whnf)
          by_cases hpl : p < cut.length
          · have e4 : (List.map rEvent (rd H p)).length = (rd H p).length := by simp
            have h2 := h200 p (by omega)
            have q2 := fun k => ok_spec_l1In k (rd cut p) (-1) ((List.map rEvent (rd H p)).length : Int)
            have hdt := drawn_take hpl
            rw [← hs'] at hdt
            by_cases c1 : -1 ≤ rd cut p ∧ rd cut p ≤ ((List.map rEvent (rd H p)).length : Int)
            · rw [decide_eq_true c1] at q2
              rw [e4] at c1
              by_cases c2 : 0 ≤ rd cut p
              · have hc : cutOk H cut opn kept P.length p = true := by simp [cutOk, inB, c1, c2]
                have hpr2 : ∀ q, q < p + 1 → cutOk H cut opn kept P.length q = true := fun q hq => by rcases Nat.lt_succ_iff_lt_or_eq.1 hq with h | h; exact hpr q h; rw [h]; exact hc
                cases s
                all_goals
                  repeat' ((with_reducible (first | refine sCall.of (q2 _) ?_|refine st20 ?_|refine fG.split (fun _ => ?_) (fun _ => ?_)|refine fG.bool (fun _ => ?_) (fun _ => ?_)|refine gDn 8 ?_)) <;> (try (conv => whnf)))
                  refine loop_rule (ι := Nat) (fun a => [(1, .pt 1 1 0 [] 0 0), (3, i64 P.length), (4, bl (drawnB (List.take (p + 1) cut))), (5, i64 (p : Nat)), (6, i64 (a : Nat))])
                    (fun _ => [(1000000, ⟨0, 0, false, tInsSS P⟩), (1000001, ⟨0, 0, false, tStateS S⟩), (1000002, ⟨0, 0, false, tItemSS W⟩), (1000003, ⟨0, 0, false, tEventSS H⟩), (1000004, ⟨0, 0, false, tI cut⟩), (1000005, ⟨0, 0, false, tBool opn⟩), (1000006, ⟨0, 0, false, tIntSS kept⟩), (1, ⟨1, 0, false, bLive P S W H on cut opn kept⟩)])
                    (fun a => P.length - a) (fun a => a ≤ P.length) 0 (by rw [hdt]; exact fitOk) (Nat.zero_le _) (by simp [C]; omega) ?_
                  clear sl ob
                  rintro a sl ob ha
                  (try dsimp only [cond_true, cond_false])
                  (conv => whnf)
                  by_cases hal : a < P.length
                  all_goals
                    repeat' ((with_reducible (first | refine st20 ?_|refine fG.split (fun _ => ?_) (fun _ => ?_)|refine fG.bool (fun _ => ?_) (fun _ => ?_)|refine gDn 8 ?_)) <;> (try (conv => whnf)))
                    refine ⟨⟨⟨p + 1, drawnB (List.take (p + 1) cut)⟩, fitOk, ?_, ?_⟩⟩
                    · exact ⟨by show p + 1 ≤ _; omega, rfl, hpr2⟩
                    · show cut.length - (p + 1) < cut.length - p; omega
              · cases s
                all_goals
                  repeat' ((with_reducible (first | refine sCall.of (q2 _) ?_|refine st20 ?_|refine fG.split (fun _ => ?_) (fun _ => ?_)|refine fG.bool (fun _ => ?_) (fun _ => ?_)|refine gDn 8 ?_)) <;> (try (conv => whnf)))
                  refine loop_rule (ι := Nat) (fun a => [(1, .pt 1 1 0 [] 0 0), (3, i64 P.length), (4, bl (drawnB (List.take (p + 1) cut))), (5, i64 (p : Nat)), (6, i64 (a : Nat))])
                    (fun _ => [(1000000, ⟨0, 0, false, tInsSS P⟩), (1000001, ⟨0, 0, false, tStateS S⟩), (1000002, ⟨0, 0, false, tItemSS W⟩), (1000003, ⟨0, 0, false, tEventSS H⟩), (1000004, ⟨0, 0, false, tI cut⟩), (1000005, ⟨0, 0, false, tBool opn⟩), (1000006, ⟨0, 0, false, tIntSS kept⟩), (1, ⟨1, 0, false, bLive P S W H on cut opn kept⟩)])
                    (fun a => P.length - a) (fun a => a ≤ P.length ∧ ∀ b, b < a → (!(rd opn (b * P.length + p)) && decide ((rd kept (b * P.length + p)).length = 0)) = true) 0 (by rw [hdt]; exact fitOk) ⟨Nat.zero_le _, fun q h => absurd h (Nat.not_lt_zero q)⟩ (by simp [C]; omega) ?_
                  clear sl ob
                  rintro a sl ob ⟨ha, hbe⟩
                  (try dsimp only [cond_true, cond_false])
                  (conv => whnf)
                  by_cases hal : a < P.length
                  · have hpl4 := place_lt hal (show p < P.length by omega)
                    have w2 : IntKind.i64.wrap ((a : Int) * (P.length : Int)) = ((a * P.length : Nat) : Int) := by
                      rw [show (a : Int) * (P.length : Int) = ((a * P.length : Nat) : Int) by simp]; exact wrap_i64 _ (by omega) (by omega)
                    have w3 : IntKind.i64.wrap (((a * P.length : Nat) : Int) + (p : Int)) = ((a * P.length + p : Nat) : Int) := by rw [wrap_i64 _ (by omega) (by omega)]; simp
                    have hkk := hs.kk (a * P.length + p) (by omega)
                    have e5 : (List.map rI (rd kept (a * P.length + p))).length = (rd kept (a * P.length + p)).length := by simp
                    generalize hpp : a * P.length + p = pp at hpl4 w3 hkk e5
                    cases e6 : rd opn pp with
                    | true =>
                      rw [liveOk_cut (p := p) (by omega) (by simp only [cutOk, decide_eq_false c2, Bool.false_or, allBelow_no (f := fun a => !(rd opn (a * P.length + p)) && decide ((rd kept (a * P.length + p)).length = 0)) hal (by simp [hpp, e6]), Bool.and_false])]
                      repeat' ((with_reducible (first | refine sW.eq (w2) ?_|refine sW.eq (w3) ?_|refine st20 ?_|refine fG.split (fun _ => ?_) (fun _ => ?_)|refine fG.bool (fun _ => ?_) (fun _ => ?_)|refine gDn 8 ?_)) <;> (try (conv => whnf)))
                    | false =>
                      by_cases c5 : (rd kept pp).length = 0
                      · repeat' ((with_reducible (first | refine sW.eq (w2) ?_|refine sW.eq (w3) ?_|refine st20 ?_|refine fG.split (fun _ => ?_) (fun _ => ?_)|refine fG.bool (fun _ => ?_) (fun _ => ?_)|refine gDn 8 ?_)) <;> (try (conv => whnf)))
                        refine ⟨⟨a + 1, fitOk, ?_, ?_⟩⟩
                        · exact ⟨by show a + 1 ≤ _; omega, fun q hq => by rcases Nat.lt_succ_iff_lt_or_eq.1 hq with h | h; exact hbe q h; rw [h, hpp]; simp [e6, c5]⟩
                        · show P.length - (a + 1) < P.length - a; omega
                      · rw [liveOk_cut (p := p) (by omega) (by simp only [cutOk, decide_eq_false c2, Bool.false_or, allBelow_no (f := fun a => !(rd opn (a * P.length + p)) && decide ((rd kept (a * P.length + p)).length = 0)) hal (by simp [hpp, c5]), Bool.and_false])]
                        repeat' ((with_reducible (first | refine sW.eq (w2) ?_|refine sW.eq (w3) ?_|refine st20 ?_|refine fG.split (fun _ => ?_) (fun _ => ?_)|refine fG.bool (fun _ => ?_) (fun _ => ?_)|refine gDn 8 ?_)) <;> (try (conv => whnf)))
                  · repeat' ((with_reducible (first | refine st20 ?_|refine fG.split (fun _ => ?_) (fun _ => ?_)|refine fG.bool (fun _ => ?_) (fun _ => ?_)|refine gDn 8 ?_)) <;> (try (conv => whnf)))
                    refine ⟨⟨⟨p + 1, drawnB (List.take (p + 1) cut)⟩, fitOk, ?_, ?_⟩⟩
                    · refine ⟨by show p + 1 ≤ _; omega, rfl, fun q hq => ?_⟩
                      rcases Nat.lt_succ_iff_lt_or_eq.1 hq with h | h
                      · exact hpr q h
                      · rw [h]
                        simp only [cutOk, inB, decide_eq_true c1, decide_eq_false c2, Bool.false_or, Bool.true_and]
                        exact allBelow_yes fun b hb => hbe b (by omega)
                    · show cut.length - (p + 1) < cut.length - p; omega
            · rw [decide_eq_false c1] at q2
              rw [e4] at c1
              rw [liveOk_cut (p := p) (by omega) (by simp [cutOk, inB, c1])]
              repeat' ((with_reducible (first | refine sCall.of (q2 _) ?_|refine st20 ?_|refine fG.split (fun _ => ?_) (fun _ => ?_)|refine fG.bool (fun _ => ?_) (fun _ => ?_)|refine gDn 8 ?_)) <;> (try (conv => whnf)))
          · have ePr := allBelow_yes (f := cutOk H cut opn kept P.length) (n := P.length) fun q hq => hpr q (by omega)
            rw [List.take_of_length_le (by omega)] at hs'
            have q3 := fun k => ok_spec_l11Marks k P S W H hb
            rw [show liveOk P S W H on cut opn kept = (decide (on = s) && (on || !marksB W)) by simp only [liveOk, e, hL, ePr, hs', Bool.true_and]]
            cases on
            all_goals cases s
            all_goals cases em : marksB W
            all_goals
              simp only [em] at q3
              repeat' ((with_reducible (first | refine sCall.of (q3 _) ?_|refine st20 ?_|refine fG.split (fun _ => ?_) (fun _ => ?_)|refine fG.bool (fun _ => ?_) (fun _ => ?_)|refine gDn 8 ?_)) <;> (try (conv => whnf)))
            all_goals rfl
        · rw [liveOk_lens (by simp [shotLens, d3])]
          (refine fnI [ResultVar.tmp 2] Tryz.func46 ?_; conv => whnf)
          repeat' ((with_reducible (first | refine sCall.of (q1 _) ?_|refine sW.eq (w1) ?_|refine st20 ?_|refine fG.split (fun _ => ?_) (fun _ => ?_)|refine fG.bool (fun _ => ?_) (fun _ => ?_)|refine gDn 8 ?_)) <;> (try (conv => whnf)))
          all_goals first
            | rfl
            | (exfalso; omega)
      · rw [liveOk_lens (by simp [shotLens, d2])]
        (refine fnI [ResultVar.tmp 2] Tryz.func46 ?_; conv => whnf)
        repeat' ((with_reducible (first | refine sCall.of (q1 _) ?_|refine sW.eq (w1) ?_|refine st20 ?_|refine fG.split (fun _ => ?_) (fun _ => ?_)|refine fG.bool (fun _ => ?_) (fun _ => ?_)|refine gDn 8 ?_)) <;> (try (conv => whnf)))
        all_goals first
          | rfl
          | (exfalso; omega)
    · rw [liveOk_lens (by simp [shotLens, d1])]
      (refine fnI [ResultVar.tmp 2] Tryz.func46 ?_; conv => whnf)
      repeat' ((with_reducible (first | refine sCall.of (q1 _) ?_|refine sW.eq (w1) ?_|refine st20 ?_|refine fG.split (fun _ => ?_) (fun _ => ?_)|refine fG.bool (fun _ => ?_) (fun _ => ?_)|refine gDn 8 ?_)) <;> (try (conv => whnf)))
      all_goals first
        | rfl
        | (exfalso; omega)

end Go.Proofs.YtipfcgbhaalcdaaGreat.Abs
namespace Go.Proofs.YtipfcgbhaalcdaaGreat.Abs
open Go Go.Proofs
set_option linter.unusedVariables false
set_option linter.unusedSimpArgs false
attribute [local irreducible] callE
def shotDone (P : List (List Ins)) (S : List State) (W : List (List Item)) (H : List (List Event)) (on : Bool) (cut : List Int) (opn : List Bool) (kept : List (List Int)) : Bool :=
  liveOk P S W H on cut opn kept && (on && (!(cut.any fun x => decide (-1 = x)) && !(opn.any fun x => x)))
theorem liveOk_facts {P : List (List Ins)} {S : List State} {W : List (List Item)} {H : List (List Event)} {on : Bool} {cut : List Int} {opn : List Bool} {kept : List (List Int)} (h : liveOk P S W H on cut opn kept = true) :
    sysOk P S W H = true ∧ cut.length = P.length ∧ opn.length = P.length * P.length ∧ kept.length = P.length * P.length ∧ (∀ p, p < cut.length → -1 ≤ rd cut p ∧ rd cut p ≤ ((rd H p).length : Int)) ∧
      (∀ p, p < P.length → ∀ a, a < P.length → rd cut p < 0 → rd opn (a * P.length + p) = false ∧ (rd kept (a * P.length + p)).length = 0) ∧ on = drawnB cut ∧ (on = false → marksB W = false) := by
  simp only [liveOk, shotLens, Bool.and_eq_true, decide_eq_true_eq, allBelow_eq] at h
  obtain ⟨h1, ⟨h2, h3, h4⟩, h5, h6, h7⟩ := h
  refine ⟨h1, h2, h3, h4, fun p hp => ?_, fun p hp a ha hc => ?_, h6, fun h => ?_⟩
  · have h8 := h5 p (by omega)
    simp only [cutOk, inB, Bool.and_eq_true, decide_eq_true_eq] at h8
    exact h8.1
  · have h8 := h5 p hp
    simp only [cutOk, Bool.and_eq_true, Bool.or_eq_true, decide_eq_true_eq, allBelow_eq] at h8
    rcases h8.2 with h9 | h9
    · omega
    · have h10 := h9 a ha
      exact ⟨by simpa using h10.1, h10.2⟩
  · rw [h] at h7
    simpa using h7
end Go.Proofs.YtipfcgbhaalcdaaGreat.Abs
namespace Go.Proofs.YtipfcgbhaalcdaaGreat.Abs
open Go Go.Proofs
set_option linter.unusedVariables false
set_option linter.unusedSimpArgs false
attribute [local irreducible] callE
theorem snoc_rIntL (l : List (List Int)) (x : List Int) : l.map rIntL ++ [[.sl 1 (x.map rI)]] = (l ++ [x]).map rIntL := by simp [rIntL]
theorem gI21 {p A : Prop} (h : A) (e : p := by first | with_reducible assumption | omega | (simp only [Nat.zero_add, Nat.add_zero, Nat.sub_zero, Int.toNat_natCast, Int.toNat_zero, Int.toNat_one, List.length_map, List.length_nil, Int.reduceToNat, Nat.reduceAdd, Nat.reduceSub, Int.sub_zero, Int.reduceAdd, Int.reduceSub, Nat.sub_self, Int.toNat_natCast_add_one, marks_len, bs_len, List.length_append, List.length_cons, List.length_set, List.length_replicate, List.length_range]; first | done | omega)) : sI p A := sI.mk e h
theorem gNum21 {r r' : Nat} {F : Nat → Prop} (h : F r') (e : r = r' := by first | (simp only [Nat.zero_add, Nat.add_zero, Nat.sub_zero, Int.toNat_natCast, Int.toNat_zero, Int.toNat_one, List.length_map, List.length_nil, Int.reduceToNat, Nat.reduceAdd, Nat.reduceSub, Int.sub_zero, Int.reduceAdd, Int.reduceSub, Nat.sub_self, Int.toNat_natCast_add_one, marks_len, bs_len]; rfl) | rfl) : sN r F := sN.eq e h
theorem gRow21 {r r' : List (List T)} {F : List (List T) → Prop} (h : F r') (e : r = r' := by first | (simp only [Nat.add_zero, Nat.zero_add, Nat.reduceAdd, List.drop_zero, List.take_succ_cons, List.take_nil, List.drop_succ_cons, List.drop_nil, List.take_zero, List.nil_append, List.append_nil, List.map_nil, drop_suf, take_pre, drop_map, List.take_length, take_len_set, take_len_app, List.set_set, List.length_map, snoc_rIntL, set_rIntL, rep_rIntL, cons_rItem, one_rIns, cons_rIns, one_rI, cons_rI, snoc_new, snoc_rItem, snoc_rInsL, snoc_rItemL, snoc_rEventL, snoc_rState, set_rWho, rep_rWho, snoc_rWho, set_rState, rep_rState, set_rInsL, rep_rInsL, set_rItemL, rep_rItemL, set_rEventL, rep_rEventL, set_rItem, rep_rItem, rep_rKept, marks_take, set_rKept, set_rIns, rep_rIns, set_rEvent, rep_rEvent, snoc_rKept, snoc_rEvent, snoc_rIns, bytesT_bs, snoc_rI, snoc_rB, snoc_rBool, set_rI, set_rBool, rep_rI, rep_rBool, map_app]; rfl) | rfl) : sR r F := sR.eq e h
theorem st21 {P Q : Prop} (h : Q) (e : Q → P := by with_reducible first | exact fun h => gP h | exact fun h => gN h | exact fun h => fG.not h | exact fun h => gY h | exact fun h => gF h | exact fun h => fG.yes (flat_map (fun _ => rfl) _) h | exact fun h => gS64 h | exact fun h => gU8 h | exact fun h => gI21 h | exact fun h => fE.of rfl h | exact fun h => gNum21 h | exact fun h => gSet h | exact fun h => gRd h | exact fun h => gLk h | exact fun h => gRow21 h | exact fun h => gRf5 h) : P := e h
theorem ok_Clone_bool (k : Nat) (l : List Bool) (hl : l.length ≤ 100000000000) : callE PR C (k + 1) 236 [.h 1000000 0 0 [] 1 0 l.length] [tBool l] = some ⟨.h 2000000 1 0 [] 1 0 l.length, [tBool9 l], [none]⟩ := by
  have := callE_prim (k := k) (f := 236) rfl (cloneP_run (sz := 1) (bytes := 1) (wide_map (f := rBool) (fun _ => rfl) l) (flat_map (fun _ => rfl) l) (full_map (fun _ => rfl) l) (by simp; omega))
  simpa using this
abbrev zLive : Cont := .box [.nl 1, .nl 4, .nl 1, .nl 1, .s (.bool false), .nl 1, .nl 1, .nl 1]
set_option maxRecDepth 20000 in
set_option maxHeartbeats 4000000 in
theorem ok_impl_cloneLive (k : Nat) (P : List (List Ins)) (S : List State) (W : List (List Item)) (H : List (List Event)) (on : Bool) (cut : List Int) (opn : List Bool) (kept : List (List Int)) (hb : SysB 100000000000 P S W H) (hn : SysN P S W H) (hs : ShotB 1000000000 cut opn kept) (hk : 0 < kept.length) :
    callE PR C (k + 4) 141 [aLive 0 P S W H on cut opn kept] [tInsSS P, tStateS S, tItemSS W, tEventSS H, tI cut, tBool opn, tIntSS kept] = some ⟨nLive 0 P S W H on cut opn kept, [tInsSS9 P, tStateS9 S, tItemSS9 W, tEventSS9 H, tI9 cut, tBool9 opn, tIntSS9 kept], [none, none, none, none, none, none, none]⟩ := by
  have s1 := hs.c
  have s2 := hs.o
  have s3 := hs.k
  have q1 := fun k => ok_impl_cloneSys k P S W H hb hn
  have q2 := fun k => ok_Clone_int k cut (by omega)
  have q3 := fun k => ok_Clone_bool k opn (by omega)
  (refine fnI [ResultVar.cell 2 44] Tryz.func141 ?_; conv => whnf)
  repeat' ((with_reducible (first | refine sCall.of (q1 _) ?_|refine sCall.of (q2 _) ?_|refine sCall.of (q3 _) ?_|refine st21 ?_|refine fG.split (fun _ => ?_) (fun _ => ?_)|refine fG.bool (fun _ => ?_) (fun _ => ?_)|refine gD 1 [(2, 5), (2, 8), (5, 9), (2, 12), (9, 12), (5, 13), (1, 16), (2, 16), (5, 16), (8, 16), (9, 16), (12, 16), (13, 16)] ?_|refine gD 5 [(2, 4), (2, 5)] ?_)) <;> (try (conv => whnf)))
  refine loop_rule (ι := CS (List Int)) (fun z => [(2, .pt 2 1 0 [] 0 0), (3, .pt 3 1 0 [] 0 0), (24, .h 1000006 0 0 [] 1 0 kept.length), (25, i64 kept.length), (26, i64 (z.j : Nat))])
    (fun z => [(1000000, ⟨0, 0, false, tInsSS P⟩), (1000001, ⟨0, 0, false, tStateS S⟩), (1000002, ⟨0, 0, false, tItemSS W⟩), (1000003, ⟨0, 0, false, tEventSS H⟩), (1000004, ⟨0, 0, false, tI cut⟩), (1000005, ⟨0, 0, false, tBool opn⟩), (1000006, ⟨0, 0, false, tIntSS kept⟩), (2, ⟨1, 0, false, zLive⟩), (3, ⟨1, 0, z.dd, .box [.h 10008 1 0 [] 1 0 P.length, .h 20008 1 0 [] 4 0 S.length, .h 30008 1 0 [] 1 0 W.length, .h 40008 1 0 [] 1 0 H.length, bl on, .h 10015 1 0 [] 1 0 cut.length, .h 10019 1 0 [] 1 0 opn.length, z.v]⟩), (10008, ⟨1, 0, false, tInsSS9 P⟩), (20008, ⟨1, 0, false, tStateS9 S⟩), (30008, ⟨1, 0, false, tItemSS9 W⟩), (40008, ⟨1, 0, false, tEventSS9 H⟩), (10015, ⟨1, 0, false, tI9 cut⟩), (10019, ⟨1, 0, false, tBool9 opn⟩), (36, ⟨z.b, z.g, z.d, z.c⟩)])
    (fun z => kept.length - z.j) (fun z => z.j ≤ kept.length ∧ Grown 36 1 tIntSS9 kept z) ⟨0, [], .nl 1, 0, 0, false, .dead, _⟩ fitOk ⟨Nat.zero_le _, grown_nil⟩ (by simp [C]; omega) ?_
  clear q1 q2 q3
  rintro ⟨j, l, v, b0, g0, d0, c, dd⟩ sl ob ⟨hj, hl, hg⟩
  dsimp only at hj hl hg
  by_cases hjl : j < kept.length
  · have hx := hs.kk j hjl
    have q := fun k => ok_Clone_int k (rd kept j) (by omega)
    rcases hg with ⟨e1, e2, e3, e4, e5, e6⟩ | ⟨h0, e2, e3⟩
    all_goals dsimp only at *
    · subst e1 e2 e3 e4 e5 e6 hl
      (try dsimp only [cond_true, cond_false])
      (conv => whnf)
      repeat' ((with_reducible (first | refine sCall.of (q _) ?_|refine st21 ?_|refine fG.split (fun _ => ?_) (fun _ => ?_)|refine fG.bool (fun _ => ?_) (fun _ => ?_)|refine gD 1 [(2, 5), (2, 8), (5, 9), (2, 12), (9, 12), (5, 13), (1, 16), (2, 16), (5, 16), (8, 16), (9, 16), (12, 16), (13, 16)] ?_|refine gD 5 [(2, 4), (2, 5)] ?_)) <;> (try (conv => whnf)))
      refine ⟨⟨⟨0 + 1, [rd kept 0], _, _, _, _, _, _⟩, fitOk, ?_, ?_⟩⟩
      · exact ⟨by show 0 + 1 ≤ _; omega, grown_one hjl⟩
      · show kept.length - (0 + 1) < kept.length - 0; omega
    · subst e2 e3
      have hle : l.length = j := by rw [hl]; simp; omega
      (try dsimp only [cond_true, cond_false])
      (conv => whnf)
      repeat' ((with_reducible (first | refine sCall.of (q _) ?_|refine st21 ?_|refine fG.split (fun _ => ?_) (fun _ => ?_)|refine fG.bool (fun _ => ?_) (fun _ => ?_)|refine gD 1 [(2, 5), (2, 8), (5, 9), (2, 12), (9, 12), (5, 13), (1, 16), (2, 16), (5, 16), (8, 16), (9, 16), (12, 16), (13, 16)] ?_|refine gD 5 [(2, 4), (2, 5)] ?_)) <;> (try (conv => whnf)))
      refine ⟨⟨⟨j + 1, l ++ [rd kept j], _, _, _, _, _, _⟩, fitOk, ?_, ?_⟩⟩
      · exact ⟨by show j + 1 ≤ _; omega, grown_more hjl hl⟩
      · show kept.length - (j + 1) < kept.length - j; omega
  rcases hg with ⟨e1, e2, e3, e4, e5, e6⟩ | ⟨h0, e2, e3⟩
  all_goals dsimp only at *
  · exfalso; omega
  rw [List.take_of_length_le (by omega)] at hl
  rw [hl] at e2 e3
  subst e2 e3
  (try dsimp only [cond_true, cond_false])
  (conv => whnf)
  repeat' ((with_reducible (first | refine st21 ?_|refine fG.split (fun _ => ?_) (fun _ => ?_)|refine fG.bool (fun _ => ?_) (fun _ => ?_)|refine gD 1 [(2, 5), (2, 8), (5, 9), (2, 12), (9, 12), (5, 13), (1, 16), (2, 16), (5, 16), (8, 16), (9, 16), (12, 16), (13, 16)] ?_|refine gD 5 [(2, 4), (2, 5)] ?_)) <;> (try (conv => whnf)))
set_option maxRecDepth 20000 in
set_option maxHeartbeats 4000000 in
theorem ok_spec_l11Copy (k : Nat) (P : List (List Ins)) (S : List State) (W : List (List Item)) (H : List (List Event)) (on : Bool) (cut : List Int) (opn : List Bool) (kept : List (List Int)) (hb : SysB 100000000000 P S W H) (hn : SysN P S W H) (hs : ShotB 1000000000 cut opn kept) (hk : 0 < kept.length) :
    callE PR C (k + 3) 144 [aLive 0 P S W H on cut opn kept] [tInsSS P, tStateS S, tItemSS W, tEventSS H, tI cut, tBool opn, tIntSS kept] = some ⟨nLive 0 P S W H on cut opn kept, [tInsSS9 P, tStateS9 S, tItemSS9 W, tEventSS9 H, tI9 cut, tBool9 opn, tIntSS9 kept], [none, none, none, none, none, none, none]⟩ := by
  have s1 := hs.c
  have s2 := hs.o
  have s3 := hs.k
  have q1 := fun k => ok_spec_l4Copy k P S W H hb hn
  (refine fnI [ResultVar.cell 2 44] Tryz.func144 ?_; conv => whnf)
  repeat' ((with_reducible (first | refine sCall.of (q1 _) ?_|refine st21 ?_|refine fG.split (fun _ => ?_) (fun _ => ?_)|refine fG.bool (fun _ => ?_) (fun _ => ?_)|refine gD 1 [(2, 5), (1, 6), (2, 6), (5, 6), (2, 9), (6, 9), (5, 10), (1, 11), (2, 11), (5, 11), (6, 11), (9, 11), (10, 11), (2, 14), (6, 14), (10, 14), (11, 14), (5, 15), (1, 18), (2, 18), (5, 18), (6, 18), (9, 18), (10, 18), (11, 18), (14, 18), (15, 18)] ?_|refine gD 5 [(2, 3), (3, 6), (3, 9), (2, 10), (2, 11)] ?_)) <;> (try (conv => whnf)))
  refine loop_rule (ι := CS (List Int)) (fun z => [(1, .pt 1 1 0 [] 0 0), (2, .pt 2 1 0 [] 0 0), (3, .pt 3 1 0 [] 0 0), (4, i64 (z.j : Nat))])
    (fun z => [(1000000, ⟨0, 0, false, tInsSS P⟩), (1000001, ⟨0, 0, false, tStateS S⟩), (1000002, ⟨0, 0, false, tItemSS W⟩), (1000003, ⟨0, 0, false, tEventSS H⟩), (1000004, ⟨0, 0, false, tI cut⟩), (1000005, ⟨0, 0, false, tBool opn⟩), (1000006, ⟨0, 0, false, tIntSS kept⟩), (1, ⟨1, 0, false, bLive P S W H on cut opn kept⟩), (2, ⟨1, 0, false, zLive⟩), (3, ⟨1, 0, z.dd, .box [.h 10007 1 0 [] 1 0 P.length, .h 20007 1 0 [] 4 0 S.length, .h 30007 1 0 [] 1 0 W.length, .h 40007 1 0 [] 1 0 H.length, bl on, .h 15 1 0 [] 1 0 cut.length, .h 20 1 0 [] 1 0 opn.length, z.v]⟩), (10007, ⟨1, 0, false, tInsSS9 P⟩), (20007, ⟨1, 0, false, tStateS9 S⟩), (30007, ⟨1, 0, false, tItemSS9 W⟩), (40007, ⟨1, 0, false, tEventSS9 H⟩), (15, ⟨1, 0, false, tI9 cut⟩), (20, ⟨1, 0, false, tBool9 opn⟩), (43, ⟨z.b, z.g, z.d, z.c⟩)])
    (fun z => kept.length - z.j) (fun z => z.j ≤ kept.length ∧ Grown 43 1 tIntSS9 kept z) ⟨0, [], .nl 1, 0, 0, false, .dead, _⟩ fitOk ⟨Nat.zero_le _, grown_nil⟩ (by simp [C]; omega) ?_
  clear q1
  rintro ⟨j, l, v, b0, g0, d0, c, dd⟩ sl ob ⟨hj, hl, hg⟩
  dsimp only at hj hl hg
  by_cases hjl : j < kept.length
  · have hx := hs.kk j hjl
    rcases hg with ⟨e1, e2, e3, e4, e5, e6⟩ | ⟨h0, e2, e3⟩
    all_goals dsimp only at *
    · subst e1 e2 e3 e4 e5 e6 hl
      (try dsimp only [cond_true, cond_false])
      (conv => whnf)
      repeat' ((with_reducible (first | refine st21 ?_|refine fG.split (fun _ => ?_) (fun _ => ?_)|refine fG.bool (fun _ => ?_) (fun _ => ?_)|refine gD 1 [(2, 5), (1, 6), (2, 6), (5, 6), (2, 9), (6, 9), (5, 10), (1, 11), (2, 11), (5, 11), (6, 11), (9, 11), (10, 11), (2, 14), (6, 14), (10, 14), (11, 14), (5, 15), (1, 18), (2, 18), (5, 18), (6, 18), (9, 18), (10, 18), (11, 18), (14, 18), (15, 18)] ?_|refine gD 5 [(2, 3), (3, 6), (3, 9), (2, 10), (2, 11)] ?_)) <;> (try (conv => whnf)))
      refine ⟨⟨⟨0 + 1, [rd kept 0], _, _, _, _, _, _⟩, fitOk, ?_, ?_⟩⟩
      · exact ⟨by show 0 + 1 ≤ _; omega, grown_one hjl⟩
      · show kept.length - (0 + 1) < kept.length - 0; omega
    · subst e2 e3
      have hle : l.length = j := by rw [hl]; simp; omega
      (try dsimp only [cond_true, cond_false])
      (conv => whnf)
      repeat' ((with_reducible (first | refine st21 ?_|refine fG.split (fun _ => ?_) (fun _ => ?_)|refine fG.bool (fun _ => ?_) (fun _ => ?_)|refine gD 1 [(2, 5), (1, 6), (2, 6), (5, 6), (2, 9), (6, 9), (5, 10), (1, 11), (2, 11), (5, 11), (6, 11), (9, 11), (10, 11), (2, 14), (6, 14), (10, 14), (11, 14), (5, 15), (1, 18), (2, 18), (5, 18), (6, 18), (9, 18), (10, 18), (11, 18), (14, 18), (15, 18)] ?_|refine gD 5 [(2, 3), (3, 6), (3, 9), (2, 10), (2, 11)] ?_)) <;> (try (conv => whnf)))
      refine ⟨⟨⟨j + 1, l ++ [rd kept j], _, _, _, _, _, _⟩, fitOk, ?_, ?_⟩⟩
      · exact ⟨by show j + 1 ≤ _; omega, grown_more hjl hl⟩
      · show kept.length - (j + 1) < kept.length - j; omega
  rcases hg with ⟨e1, e2, e3, e4, e5, e6⟩ | ⟨h0, e2, e3⟩
  all_goals dsimp only at *
  · exfalso; omega
  rw [List.take_of_length_le (by omega)] at hl
  rw [hl] at e2 e3
  subst e2 e3
  (try dsimp only [cond_true, cond_false])
  (conv => whnf)
  repeat' ((with_reducible (first | refine st21 ?_|refine fG.split (fun _ => ?_) (fun _ => ?_)|refine fG.bool (fun _ => ?_) (fun _ => ?_)|refine gD 1 [(2, 5), (1, 6), (2, 6), (5, 6), (2, 9), (6, 9), (5, 10), (1, 11), (2, 11), (5, 11), (6, 11), (9, 11), (10, 11), (2, 14), (6, 14), (10, 14), (11, 14), (5, 15), (1, 18), (2, 18), (5, 18), (6, 18), (9, 18), (10, 18), (11, 18), (14, 18), (15, 18)] ?_|refine gD 5 [(2, 3), (3, 6), (3, 9), (2, 10), (2, 11)] ?_)) <;> (try (conv => whnf)))

end Go.Proofs.YtipfcgbhaalcdaaGreat.Abs
namespace Go.Proofs.YtipfcgbhaalcdaaGreat.Abs
open Go Go.Proofs
set_option linter.unusedVariables false
set_option linter.unusedSimpArgs false
attribute [local irreducible] callE
structure LiveV where
  s : Sys
  on : Bool
  cut : List Int
  opn : List Bool
  kept : List (List Int)
def liveRes (X : LiveV) (n : Int) (b : List (Option Cont)) : Res :=
  ⟨.tu [nLive 0 X.s.progs X.s.states X.s.ways X.s.hist X.on X.cut X.opn X.kept, i64 n], [tInsSS9 X.s.progs, tStateS9 X.s.states, tItemSS9 X.s.ways, tEventSS9 X.s.hist, tI9 X.cut, tBool9 X.opn, tIntSS9 X.kept], b⟩
def zeroV : LiveV := ⟨⟨[], [], [], []⟩, false, [], [], []⟩
def keptBy (n : Nat) (opn : List Bool) (kept : List (List Int)) (p : Nat) (e : Event) : List (List Int) :=
  if e.kind = 3 ∧ rd opn (e.peer.toNat * n + p) = true then kept.set (e.peer.toNat * n + p) (rd kept (e.peer.toNat * n + p) ++ [e.v]) else kept
def liveStepIs (P : List (List Ins)) (S : List State) (W : List (List Item)) (H : List (List Event)) (on : Bool) (cut : List Int) (opn : List Bool) (kept : List (List Int)) (p peer : Int) : LiveV × Int :=
  if liveOk P S W H on cut opn kept = true then
    (if (comingIs P S W H p peer).2 = 0 then (⟨stepS P S W H p.toNat (comingIs P S W H p peer).1, on, cut, opn, keptBy P.length opn kept p.toNat (comingIs P S W H p peer).1⟩, 0)
     else (⟨⟨P, S, W, H⟩, on, cut, opn, kept⟩, (comingIs P S W H p peer).2))
  else (zeroV, 1)
theorem ShotB.mono9 {cut : List Int} {opn : List Bool} {kept : List (List Int)} (h : ShotB 1000000000 cut opn kept) : ShotB 10000000000 cut opn kept :=
  ⟨by have := h.c; omega, by have := h.o; omega, by have := h.k; omega, fun j hj => by have := h.kk j hj; omega⟩
set_option maxRecDepth 20000 in
set_option maxHeartbeats 8000000 in
theorem ok_spec_LiveStep (k : Nat) (P : List (List Ins)) (S : List State) (W : List (List Item)) (H : List (List Event)) (on : Bool) (cut : List Int) (opn : List Bool) (kept : List (List Int)) (p peer : Int) (hb : SysB 1000000000 P S W H) (hs : ShotB 1000000000 cut opn kept) :
    callE PR C (k + 9) 53 [aLive 0 P S W H on cut opn kept, i64 p, i64 peer] [tInsSS P, tStateS S, tItemSS W, tEventSS H, tI cut, tBool opn, tIntSS kept] = some (liveRes (liveStepIs P S W H on cut opn kept p peer).1 (liveStepIs P S W H on cut opn kept p peer).2 [none, none, none, none, none, none, none]) := by
  have q1 := fun k => ok_spec_LiveOk k P S W H on cut opn kept (hb.mono (by decide)) hs.mono9
  unfold liveStepIs
  cases e : liveOk P S W H on cut opn kept with
  | false =>
    simp only [e] at q1
    rw [if_neg (by decide)]
    (refine fnI [ResultVar.cell 6 44, ResultVar.tmp 7] Tryz.func53 ?_; conv => whnf)
    repeat' ((with_reducible (first | refine sCall.of (q1 _) ?_|refine st21 ?_|refine fG.split (fun _ => ?_) (fun _ => ?_)|refine fG.bool (fun _ => ?_) (fun _ => ?_)|refine gD 8 [(1, 14), (4, 14), (6, 14), (9, 14), (13, 14)] ?_|refine gD 11 [(2, 12), (6, 12), (9, 12), (2, 13)] ?_)) <;> (try (conv => whnf)))
    all_goals rfl
  | true =>
    simp only [e] at q1
    rw [if_pos rfl]
    obtain ⟨f1, l1, l2, l3, f5, _⟩ := liveOk_facts e
    obtain ⟨hI, hP, hS', h200⟩ := sysOk_facts f1
    have hN := hI.n
    have hwl := hI.w
    have hHl := hI.h
    have hnn : P.length * P.length ≤ 4 * 4 := Nat.mul_le_mul hN.2 hN.2
    have hn0 : 0 < P.length * P.length := Nat.mul_pos (by omega) (by omega)
    have q2 := fun k => ok_spec_l11Copy k P S W H on cut opn kept (hb.mono (by decide)) hI.some hs (by omega)
    have q3 := fun k => ok_spec_l4Copy k P S W H (hb.mono (by decide)) hI.some
    have q4 := fun k => ok_spec_l5Step k P S W H p peer (hb.mono (by decide)) f1
    by_cases c0 : (comingIs P S W H p peer).2 = 0
    · rw [if_pos c0]
      obtain ⟨hp0, hc⟩ := coming_comes f1 c0
      have hst : stepIs P S W H p peer = (stepS P S W H p.toNat (comingIs P S W H p peer).1, 0) := by unfold stepIs; rw [if_pos c0]
      rw [hst] at q4
      generalize comingIs P S W H p peer = ec at *
      obtain ⟨ev, n⟩ := ec
      dsimp only at c0 hc q4 ⊢
      subst c0
      obtain ⟨p, rfl⟩ : ∃ n : Nat, p = (n : Int) := ⟨p.toNat, by omega⟩
      rw [Int.toNat_natCast] at hc q4 ⊢
      have hp := hc.lt
      obtain ⟨g1, g2, g3, g4⟩ := procF_of f1 hp
      have hev := (comes_evOk g1 g2 hc.comes).peer
      obtain ⟨b, hbq⟩ : ∃ b : Nat, ev.peer = (b : Int) := ⟨_, (Int.toNat_of_nonneg hev.1).symm⟩
      have hk3 : ev.kind = 3 → b < P.length := fun h => by have := (hc.take h).1.2; omega
      simp only [sysRes, stepS] at q4
      unfold liveRes keptBy stepS
      rw [show ev.peer.toNat = b by omega]
      have hH2 : rd (H.set p (rd H p ++ [ev])) p = rd H p ++ [ev] := by rw [rd_put _ (by omega), if_pos rfl]
      have hlen : (rd (H.set p (rd H p ++ [ev])) p).length = (rd H p).length + 1 := by rw [hH2]; simp
      have hlast : rd (rd (H.set p (rd H p ++ [ev])) p) ((((rd (H.set p (rd H p ++ [ev])) p).length : Nat) : Int) - 1).toNat = ev := by rw [hlen, hH2]; simp [rd]
      have hH2l : (H.set p (rd H p ++ [ev])).length = H.length := List.length_set
      have h2p := h200 p (by omega)
      clear hst hH2 g1 g2 g4 hc e
      generalize S.set p (did (rd P p) (rd S p) ev) = S2 at *
      generalize stepW P.length W p ev = W2 at *
      generalize H.set p (rd H p ++ [ev]) = H2 at *
      have e6 : (List.map rEvent (rd H2 p)).length = (rd H2 p).length := by simp
      subst hlast
      have wm : IntKind.i64.wrap ((rd (rd H2 p) ((((rd H2 p).length : Nat) : Int) - 1).toNat).peer * (P.length : Int)) = ((b * P.length : Nat) : Int) := by
        have := Nat.mul_le_mul (show b ≤ 4 by omega) hN.2
        rw [hbq, show (b : Int) * (P.length : Int) = ((b * P.length : Nat) : Int) by simp]; exact wrap_i64 _ (by omega) (by omega)
      have wa : IntKind.i64.wrap (((b * P.length : Nat) : Int) + (p : Int)) = ((b * P.length + p : Nat) : Int) := by
        have := Nat.mul_le_mul (show b ≤ 4 by omega) hN.2
        rw [wrap_i64 _ (by omega) (by omega)]; simp
      by_cases k3 : (rd (rd H2 p) ((((rd H2 p).length : Nat) : Int) - 1).toNat).kind = 3
      · have hbl := hk3 k3
        have hpl := place_lt hbl hp
        have hkx := hs.kk (b * P.length + p) (by omega)
        obtain ⟨ix, hix⟩ : ∃ ix, ix = b * P.length + p := ⟨_, rfl⟩
        rw [← hix] at hpl hkx wa ⊢
        clear hix hk3
        generalize b * P.length = pm at *
        have e5 : (List.map rI (rd kept ix)).length = (rd kept ix).length := by simp
        cases ho : rd opn ix with
        | true =>
          simp only [k3, true_and, if_true, nLive, List.length_set]
          (refine fnI [ResultVar.cell 6 44, ResultVar.tmp 7] Tryz.func53 ?_; conv => whnf)
          repeat' ((with_reducible (first | refine sCall.of (q1 _) ?_|refine sCall.of (q2 _) ?_|refine sCall.of (q3 _) ?_|refine sCall.of (q4 _) ?_|refine sW.eq (wm) ?_|refine sW.eq (wa) ?_|refine gHole ?_|refine st21 ?_|refine fG.split (fun _ => ?_) (fun _ => ?_)|refine fG.bool (fun _ => ?_) (fun _ => ?_)|refine gD 8 [(1, 14), (4, 14), (6, 14), (9, 14), (13, 14)] ?_|refine gD 11 [(2, 12), (6, 12), (9, 12), (2, 13)] ?_)) <;> (try (conv => whnf)))
          all_goals rfl
        | false =>
          simp only [k3, true_and, Bool.false_eq_true, if_false]
          (refine fnI [ResultVar.cell 6 44, ResultVar.tmp 7] Tryz.func53 ?_; conv => whnf)
          repeat' ((with_reducible (first | refine sCall.of (q1 _) ?_|refine sCall.of (q2 _) ?_|refine sCall.of (q3 _) ?_|refine sCall.of (q4 _) ?_|refine sW.eq (wm) ?_|refine sW.eq (wa) ?_|refine st21 ?_|refine fG.split (fun _ => ?_) (fun _ => ?_)|refine fG.bool (fun _ => ?_) (fun _ => ?_)|refine gD 8 [(1, 14), (4, 14), (6, 14), (9, 14), (13, 14)] ?_|refine gD 11 [(2, 12), (6, 12), (9, 12), (2, 13)] ?_)) <;> (try (conv => whnf)))
          all_goals rfl
      · simp only [k3, false_and, if_false]
        clear hk3
        generalize b * P.length + p = ix at *
        generalize b * P.length = pm at *
        (refine fnI [ResultVar.cell 6 44, ResultVar.tmp 7] Tryz.func53 ?_; conv => whnf)
        repeat' ((with_reducible (first | refine sCall.of (q1 _) ?_|refine sCall.of (q2 _) ?_|refine sCall.of (q3 _) ?_|refine sCall.of (q4 _) ?_|refine sW.eq (wm) ?_|refine sW.eq (wa) ?_|refine st21 ?_|refine fG.split (fun _ => ?_) (fun _ => ?_)|refine fG.bool (fun _ => ?_) (fun _ => ?_)|refine gD 8 [(1, 14), (4, 14), (6, 14), (9, 14), (13, 14)] ?_|refine gD 11 [(2, 12), (6, 12), (9, 12), (2, 13)] ?_)) <;> (try (conv => whnf)))
        all_goals rfl
    · rw [if_neg c0]
      have hst : stepIs P S W H p peer = (⟨P, S, W, H⟩, (comingIs P S W H p peer).2) := by unfold stepIs; rw [if_neg c0]
      rw [hst] at q4
      generalize comingIs P S W H p peer = ec at *
      obtain ⟨ev, n⟩ := ec
      dsimp only at c0 q4 ⊢
      simp only [sysRes] at q4
      unfold liveRes
      (refine fnI [ResultVar.cell 6 44, ResultVar.tmp 7] Tryz.func53 ?_; conv => whnf)
      repeat' ((with_reducible (first | refine sCall.of (q1 _) ?_|refine sCall.of (q2 _) ?_|refine sCall.of (q3 _) ?_|refine sCall.of (q4 _) ?_|refine st21 ?_|refine fG.split (fun _ => ?_) (fun _ => ?_)|refine fG.bool (fun _ => ?_) (fun _ => ?_)|refine gD 8 [(1, 14), (4, 14), (6, 14), (9, 14), (13, 14)] ?_|refine gD 11 [(2, 12), (6, 12), (9, 12), (2, 13)] ?_)) <;> (try (conv => whnf)))
      all_goals rfl

end Go.Proofs.YtipfcgbhaalcdaaGreat.Abs
namespace Go.Proofs.YtipfcgbhaalcdaaGreat.Abs
open Go Go.Proofs
set_option linter.unusedVariables false
set_option linter.unusedSimpArgs false
attribute [local irreducible] callE
def drawW (n p : Nat) (W : List (List Item)) : Nat → List (List Item)
  | 0 => W
  | k + 1 => (drawW n p W k).set (p * n + k) (rd W (p * n + k) ++ [⟨true, 0⟩])
def drawO (n p : Nat) (opn : List Bool) : Nat → List Bool
  | 0 => opn
  | k + 1 => (drawO n p opn k).set (k * n + p) true
theorem drawW_len (n p : Nat) (W : List (List Item)) : ∀ k, (drawW n p W k).length = W.length
  | 0 => rfl
  | k + 1 => by rw [drawW, List.length_set, drawW_len n p W k]
theorem drawO_len (n p : Nat) (opn : List Bool) : ∀ k, (drawO n p opn k).length = opn.length
  | 0 => rfl
  | k + 1 => by rw [drawO, List.length_set, drawO_len n p opn k]
theorem drawW_rd {n p : Nat} {W : List (List Item)} : ∀ {k : Nat} {i : Nat}, (∀ j, j < k → p * n + j < W.length) → rd (drawW n p W k) (p * n + i) = if i < k then rd W (p * n + i) ++ [⟨true, 0⟩] else rd W (p * n + i)
  | 0, i, _ => by rw [drawW, if_neg (Nat.not_lt_zero i)]
  | k + 1, i, h => by
    rw [drawW, rd_put _ (by rw [drawW_len]; exact h k (Nat.lt_succ_self k)), drawW_rd fun j hj => h j (Nat.lt_succ_of_lt hj)]
    by_cases e : i = k
    · subst e; rw [if_pos rfl, if_pos (Nat.lt_succ_self i)]
    · rw [if_neg (by omega)]
      by_cases e2 : i < k
      · rw [if_pos e2, if_pos (by omega)]
      · rw [if_neg e2, if_neg (by omega)]
structure DWl where
  k : Nat
  w : List (List Item)
  o : List Bool
  gw : Nat
  dw : Bool
  go : Nat
  do_ : Bool
  gc : Nat
  dc : Bool
set_option maxRecDepth 20000 in
set_option maxHeartbeats 4000000 in
theorem ok_impl_draw (k : Nat) (P : List (List Ins)) (S : List State) (W : List (List Item)) (H : List (List Event)) (on : Bool) (cut : List Int) (opn : List Bool) (kept : List (List Int)) (p : Nat) (hp : p < P.length) (hn : P.length ≤ 4) (hw : W.length = P.length * P.length) (ho : opn.length = P.length * P.length) (hc : cut.length = P.length) (hh : H.length = P.length) (h200 : (rd H p).length ≤ 200) (hww : ∀ j : Nat, j < W.length → (rd W j).length ≤ 1000000000) :
    callE PR C (k + 1) 143 [.pt 1000007 0 0 [] 0 0, i64 (p : Nat)] [tInsSS P, tStateS S, tItemSS9 W, tEventSS H, tI9 cut, tBool9 opn, tIntSS kept, bLive P S W H on cut opn kept] =
      some ⟨.tu [], [tItemSS9 (drawW P.length p W P.length), tI9 (cut.set p ((rd H p).length : Int)), tBool9 (drawO P.length p opn P.length)], [none, none, some .dead, none, some .dead, some .dead, none,
        some (.box [.h 1000000 0 0 [] 1 0 P.length, .h 1000001 0 0 [] 4 0 S.length, .h 2000000 1 0 [] 1 0 W.length, .h 1000003 0 0 [] 1 0 H.length, bl true, .h 2000001 1 0 [] 1 0 cut.length, .h 2000002 1 0 [] 1 0 opn.length, .h 1000006 0 0 [] 1 0 kept.length])]⟩ := by
  have e4 : (List.map rEvent (rd H p)).length = (rd H p).length := by simp
  (refine fnI [] Tryz.func143 ?_; conv => whnf)
  repeat' ((with_reducible (first | refine st21 ?_|refine fG.split (fun _ => ?_) (fun _ => ?_)|refine fG.bool (fun _ => ?_) (fun _ => ?_)|refine gDn 2 ?_|refine gD 7 [(4, 23), (14, 23), (21, 23), (4, 24)] ?_)) <;> (try (conv => whnf)))
  refine loop_rule (ι := DWl) (fun z => [(0, .pt 1000007 0 0 [] 0 0), (1, i64 (p : Nat)), (4, i64 P.length), (32, i64 P.length), (33, i64 (z.k : Nat))])
    (fun z => [(1000000, ⟨0, 0, false, tInsSS P⟩), (1000001, ⟨0, 0, false, tStateS S⟩), (1000002, ⟨0, z.gw, z.dw, tItemSS9 z.w⟩), (1000003, ⟨0, 0, false, tEventSS H⟩), (1000004, ⟨0, z.gc, z.dc, tI9 (cut.set p ((rd H p).length : Int))⟩), (1000005, ⟨0, z.go, z.do_, tBool9 z.o⟩), (1000006, ⟨0, 0, false, tIntSS kept⟩), (1000007, ⟨0, 0, true, bLive P S W H true cut opn kept⟩)])
    (fun z => P.length - z.k) (fun z => z.k ≤ P.length ∧ z.w = drawW P.length p W z.k ∧ z.o = drawO P.length p opn z.k) ⟨0, W, opn, _, _, _, _, _, _⟩ fitOk ⟨Nat.zero_le _, rfl, rfl⟩ (by simp [C]; omega) ?_
  rintro ⟨j, w, o, gw, dw, go, dd, gc, dc⟩ sl ob ⟨hj, hw', ho'⟩
  dsimp only at hj hw' ho'
  have hwl : w.length = W.length := by rw [hw', drawW_len]
  have hol : o.length = opn.length := by rw [ho', drawO_len]
  by_cases hjl : j < P.length
  · have hpl := place_lt hp hjl
    have hpl2 := place_lt hjl hp
    have hrd : rd w (p * P.length + j) = rd W (p * P.length + j) := by rw [hw', drawW_rd fun i hi => by have := place_lt hp (show i < P.length by omega); omega, if_neg (Nat.lt_irrefl j)]
    have hx := hww (p * P.length + j) (by omega)
    have hW1 : drawW P.length p W (j + 1) = w.set (p * P.length + j) (rd w (p * P.length + j) ++ [⟨true, 0⟩]) := by rw [drawW, hw', hrd.symm.trans (by rw [hw'])]
    have hO1 : drawO P.length p opn (j + 1) = o.set (j * P.length + p) true := by rw [drawO, ho']
    have wm : IntKind.i64.wrap ((j : Int) * (P.length : Int)) = ((j * P.length : Nat) : Int) := by
      have := Nat.mul_le_mul (show j ≤ 4 by omega) hn
      rw [show (j : Int) * (P.length : Int) = ((j * P.length : Nat) : Int) by simp]; exact wrap_i64 _ (by omega) (by omega)
    have wa : IntKind.i64.wrap (((j * P.length : Nat) : Int) + (p : Int)) = ((j * P.length + p : Nat) : Int) := by
      have := Nat.mul_le_mul (show j ≤ 4 by omega) hn
      rw [wrap_i64 _ (by omega) (by omega)]; simp
    have wm2 : IntKind.i64.wrap ((p : Int) * (P.length : Int)) = ((p * P.length : Nat) : Int) := by
      have := Nat.mul_le_mul (show p ≤ 4 by omega) hn
      rw [show (p : Int) * (P.length : Int) = ((p * P.length : Nat) : Int) by simp]; exact wrap_i64 _ (by omega) (by omega)
    have wa2 : IntKind.i64.wrap (((p * P.length : Nat) : Int) + (j : Int)) = ((p * P.length + j : Nat) : Int) := by
      have := Nat.mul_le_mul (show p ≤ 4 by omega) hn
      rw [wrap_i64 _ (by omega) (by omega)]; simp
    have hwx : (rd w (p * P.length + j)).length ≤ 1000000000 := by rw [hrd]; exact hx
    generalize p * P.length + j = ix at *
    generalize j * P.length + p = iy at *
    generalize p * P.length = pm at *
    generalize j * P.length = jm at *
    (try dsimp only [cond_true, cond_false])
    (conv => whnf)
    repeat' ((with_reducible (first | refine sW.eq (wm) ?_|refine sW.eq (wa) ?_|refine sW.eq (wm2) ?_|refine sW.eq (wa2) ?_|refine gHole ?_|refine st21 ?_|refine fG.split (fun _ => ?_) (fun _ => ?_)|refine fG.bool (fun _ => ?_) (fun _ => ?_)|refine gDn 2 ?_|refine gD 7 [(4, 23), (14, 23), (21, 23), (4, 24)] ?_)) <;> (try (conv => whnf)))
    refine ⟨⟨⟨j + 1, w.set ix (rd w ix ++ [⟨true, 0⟩]), o.set iy true, _, _, _, _, _, _⟩, fitOk, ?_, ?_⟩⟩
    · exact ⟨by show j + 1 ≤ _; omega, hW1.symm, hO1.symm⟩
    · show P.length - (j + 1) < P.length - j; omega
  · rw [show j = P.length by omega] at hw' ho'
    subst hw' ho'
    have et1 : List.take W.length (drawW P.length p W P.length) = drawW P.length p W P.length := List.take_of_length_le (by omega)
    have et2 : List.take opn.length (drawO P.length p opn P.length) = drawO P.length p opn P.length := List.take_of_length_le (by omega)
    (try dsimp only [cond_true, cond_false])
    (conv => whnf)
    repeat' ((with_reducible (first | refine st21 ?_|refine fG.split (fun _ => ?_) (fun _ => ?_)|refine fG.bool (fun _ => ?_) (fun _ => ?_)|refine gDn 2 ?_|refine gD 7 [(4, 23), (14, 23), (21, 23), (4, 24)] ?_)) <;> (try (conv => whnf)))
    simp only [et1, et2] <;> rfl

def crowdB (n p : Nat) (W : List (List Item)) : Bool := !(allBelow n fun b => decide ((rd W (p * n + b)).length < 12))
theorem least {q : Nat → Prop} {n : Nat} (h : ∃ b, b < n ∧ q b) : ∃ b, b < n ∧ q b ∧ ∀ c, c < b → ¬ q c := by
  obtain ⟨b, hb, hq⟩ := h
  induction b using Nat.strongRecOn with
  | _ b ih =>
    by_cases hc : ∃ c, c < b ∧ q c
    · obtain ⟨c, h1, h2⟩ := hc
      exact ih c h1 (by omega) h2
    · exact ⟨b, hb, hq, fun c h1 h2 => hc ⟨c, h1, h2⟩⟩
theorem crowd_no {n p : Nat} {W : List (List Item)} (h : crowdB n p W = false) : ∀ b, b < n → (rd W (p * n + b)).length < 12 := by
  simp only [crowdB, Bool.not_eq_false', allBelow_eq, decide_eq_true_eq] at h
  exact h
theorem crowd_yes {n p : Nat} {W : List (List Item)} (h : crowdB n p W = true) : ∃ b, b < n ∧ ¬ (rd W (p * n + b)).length < 12 ∧ ∀ c, c < b → ¬ ¬ (rd W (p * n + c)).length < 12 := by
  apply least
  apply Classical.byContradiction
  intro hn
  have : crowdB n p W = false := by
    simp only [crowdB, Bool.not_eq_false', allBelow_eq, decide_eq_true_eq]
    intro b hb
    apply Decidable.byContradiction
    intro h2
    exact hn ⟨b, hb, h2⟩
  rw [this] at h; cases h
set_option maxRecDepth 20000 in
theorem ok_impl_crowded (k : Nat) (P : List (List Ins)) (S : List State) (W : List (List Item)) (H : List (List Event)) (p : Nat) (hb : SysB 100000000000 P S W H) (hp : p < P.length) (hn : P.length ≤ 4) (hw : W.length = P.length * P.length) :
    callE PR C (k + 3) 142 [aSys 0 P S W H, i64 (p : Nat)] [tInsSS P, tStateS S, tItemSS W, tEventSS H] = some ⟨bl (crowdB P.length p W), [], [none, none, none, none]⟩ := by
  (refine fnI [ResultVar.tmp 4] Tryz.func142 ?_; conv => whnf)
  repeat' ((with_reducible (first | refine st21 ?_|refine fG.split (fun _ => ?_) (fun _ => ?_)|refine fG.bool (fun _ => ?_) (fun _ => ?_)|refine gD 4 [(1, 5)] ?_)) <;> (try (conv => whnf)))
  refine loop_rule (ι := Nat) (fun b => [(1, i64 (p : Nat)), (2, .pt 2 1 0 [] 0 0), (8, i64 P.length), (9, i64 (b : Nat))])
    (fun _ => [(1000000, ⟨0, 0, false, tInsSS P⟩), (1000001, ⟨0, 0, false, tStateS S⟩), (1000002, ⟨0, 0, false, tItemSS W⟩), (1000003, ⟨0, 0, false, tEventSS H⟩), (2, ⟨1, 0, false, bSys P S W H⟩)])
    (fun b => P.length - b) (fun b => b ≤ P.length ∧ ∀ c, c < b → (rd W (p * P.length + c)).length < 12) 0 fitOk ⟨Nat.zero_le _, fun c h => absurd h (Nat.not_lt_zero c)⟩ (by simp [C]; omega) ?_
  rintro b sl ob ⟨hbn, hall⟩
  (try dsimp only [cond_true, cond_false])
  (conv => whnf)
  by_cases hbl : b < P.length
  · have q1 := fun k => ok_impl_wayAt k P S W H p b hb hp hbl hn hw
    have hpl := place_lt hp hbl
    have hno : ¬ (rd W (p * P.length + b)).length < 12 → crowdB P.length p W = true := fun h => by
      simp only [crowdB, Bool.not_eq_true', allBelow_no (f := fun b => decide ((rd W (p * P.length + b)).length < 12)) hbl (decide_eq_false h)]
    have hst : (rd W (p * P.length + b)).length < 12 → ∀ c, c < b + 1 → (rd W (p * P.length + c)).length < 12 := fun h c hc => by rcases Nat.lt_succ_iff_lt_or_eq.1 hc with h2 | h2; exact hall c h2; rw [h2]; exact h
    generalize p * P.length + b = ix at q1 hpl hno hst
    have e5 : (List.map rItem (rd W ix)).length = (rd W ix).length := by simp
    by_cases cl : (rd W ix).length < 12
    · repeat' ((with_reducible (first | refine sCall.of (q1 _) ?_|refine st21 ?_|refine fG.split (fun _ => ?_) (fun _ => ?_)|refine fG.bool (fun _ => ?_) (fun _ => ?_)|refine gD 4 [(1, 5)] ?_)) <;> (try (conv => whnf)))
      refine ⟨⟨b + 1, fitOk, ?_, ?_⟩⟩
      · exact ⟨by show b + 1 ≤ _; omega, hst cl⟩
      · show P.length - (b + 1) < P.length - b; omega
    · rw [hno cl]
      repeat' ((with_reducible (first | refine sCall.of (q1 _) ?_|refine st21 ?_|refine fG.split (fun _ => ?_) (fun _ => ?_)|refine fG.bool (fun _ => ?_) (fun _ => ?_)|refine gD 4 [(1, 5)] ?_)) <;> (try (conv => whnf)))
  · have hy : (allBelow P.length fun b => decide ((rd W (p * P.length + b)).length < 12)) = true := allBelow_yes fun c hc => decide_eq_true (hall c (by omega))
    rw [show crowdB P.length p W = false by unfold crowdB; rw [hy]; rfl]
    repeat' ((with_reducible (first | refine st21 ?_|refine fG.split (fun _ => ?_) (fun _ => ?_)|refine fG.bool (fun _ => ?_) (fun _ => ?_)|refine gD 4 [(1, 5)] ?_)) <;> (try (conv => whnf)))
def dead7 : List (Option Cont) := [some .dead, some .dead, some .dead, some .dead, some .dead, some .dead, some .dead]
def drawRes (P : List (List Ins)) (S : List State) (W : List (List Item)) (H : List (List Event)) (on : Bool) (cut : List Int) (opn : List Bool) (kept : List (List Int)) (t : Bool) : Res :=
  ⟨.tu [nLive 0 P S W H on cut opn kept, bl t], [tInsSS9 P, tStateS9 S, tItemSS9 W, tEventSS9 H, tI9 cut, tBool9 opn, tIntSS9 kept], dead7⟩
structure DrawTo (n p : Nat) (W : List (List Item)) (m : Nat) (t : Bool) : Prop where
  le : m ≤ n
  few : ∀ b, b < m → ¬ (rd W (p * n + b)).length = 12
  stop : t = false → m < n ∧ (rd W (p * n + m)).length = 12
  all : t = true → m = n
set_option maxRecDepth 20000 in
set_option maxHeartbeats 8000000 in
theorem ok_spec_l11DrawIt (k : Nat) (P : List (List Ins)) (S : List State) (W : List (List Item)) (H : List (List Event)) (on : Bool) (cut : List Int) (opn : List Bool) (kept : List (List Int)) (p m : Nat) (t : Bool) (hp : p < P.length) (hn : P.length ≤ 4) (hw : W.length = P.length * P.length) (ho : opn.length = P.length * P.length) (hc : cut.length = P.length) (hh : H.length = P.length) (h200 : (rd H p).length ≤ 200) (hww : ∀ j : Nat, j < W.length → (rd W j).length ≤ 1000000000) (hd : DrawTo P.length p W m t) :
    callE PR C (k + 1) 145 [aLive 0 P S W H on cut opn kept, i64 (p : Nat)] [tInsSS9 P, tStateS9 S, tItemSS9 W, tEventSS9 H, tI9 cut, tBool9 opn, tIntSS9 kept] =
      some (drawRes P S (drawW P.length p W m) H (on || t) (if t = true then cut.set p ((rd H p).length : Int) else cut) (drawO P.length p opn m) kept t) := by
  have e4 : (List.map rEvent (rd H p)).length = (rd H p).length := by simp
  have hm := hd.le
  (refine fnI [ResultVar.cell 4 44, ResultVar.tmp 5] Tryz.func145 ?_; conv => whnf)
  repeat' ((with_reducible (first | refine st21 ?_|refine fG.split (fun _ => ?_) (fun _ => ?_)|refine fG.bool (fun _ => ?_) (fun _ => ?_)|refine gD 7 [(2, 19), (10, 19), (17, 19), (2, 20)] ?_|refine gDn 9 ?_)) <;> (try (conv => whnf)))
  refine loop_rule (ι := DWl) (fun z => [(1, i64 (p : Nat)), (2, .pt 2 1 0 [] 0 0), (4, .pt 4 1 0 [] 0 0), (6, i64 P.length), (7, i64 (z.k : Nat))])
    (fun z => [(1000000, ⟨0, 0, false, tInsSS9 P⟩), (1000001, ⟨0, 0, false, tStateS9 S⟩), (1000002, ⟨0, z.gw, z.dw, tItemSS9 z.w⟩), (1000003, ⟨0, 0, false, tEventSS9 H⟩), (1000004, ⟨0, 0, false, tI9 cut⟩), (1000005, ⟨0, z.go, z.do_, tBool9 z.o⟩), (1000006, ⟨0, 0, false, tIntSS9 kept⟩), (2, ⟨1, 0, false, bLive P S W H on cut opn kept⟩), (4, ⟨1, 0, false, zLive⟩)])
    (fun z => P.length - z.k) (fun z => z.k ≤ m ∧ z.w = drawW P.length p W z.k ∧ z.o = drawO P.length p opn z.k) ⟨0, W, opn, _, _, _, _, 0, false⟩ fitOk ⟨Nat.zero_le _, rfl, rfl⟩ (by simp [C]; omega) ?_
  rintro ⟨j, w, o, gw, dw, go, dd, _, _⟩ sl ob ⟨hj, hw', ho'⟩
  dsimp only at hj hw' ho'
  have hwl : w.length = W.length := by rw [hw', drawW_len]
  have hol : o.length = opn.length := by rw [ho', drawO_len]
  have et1 : List.take W.length w = w := List.take_of_length_le (by omega)
  have et2 : List.take opn.length o = o := List.take_of_length_le (by omega)
  by_cases hjl : j < P.length
  · have hpl := place_lt hp hjl
    have hpl2 := place_lt hjl hp
    have hrd : rd w (p * P.length + j) = rd W (p * P.length + j) := by rw [hw', drawW_rd fun i hi => by have := place_lt hp (show i < P.length by omega); omega, if_neg (Nat.lt_irrefl j)]
    have hx := hww (p * P.length + j) (by omega)
    have hW1 : drawW P.length p W (j + 1) = w.set (p * P.length + j) (rd w (p * P.length + j) ++ [⟨true, 0⟩]) := by rw [drawW, hw', hrd.symm.trans (by rw [hw'])]
    have hO1 : drawO P.length p opn (j + 1) = o.set (j * P.length + p) true := by rw [drawO, ho']
    have wm : IntKind.i64.wrap ((j : Int) * (P.length : Int)) = ((j * P.length : Nat) : Int) := by
      have := Nat.mul_le_mul (show j ≤ 4 by omega) hn
      rw [show (j : Int) * (P.length : Int) = ((j * P.length : Nat) : Int) by simp]; exact wrap_i64 _ (by omega) (by omega)
    have wa : IntKind.i64.wrap (((j * P.length : Nat) : Int) + (p : Int)) = ((j * P.length + p : Nat) : Int) := by
      have := Nat.mul_le_mul (show j ≤ 4 by omega) hn
      rw [wrap_i64 _ (by omega) (by omega)]; simp
    have wm2 : IntKind.i64.wrap ((p : Int) * (P.length : Int)) = ((p * P.length : Nat) : Int) := by
      have := Nat.mul_le_mul (show p ≤ 4 by omega) hn
      rw [show (p : Int) * (P.length : Int) = ((p * P.length : Nat) : Int) by simp]; exact wrap_i64 _ (by omega) (by omega)
    have wa2 : IntKind.i64.wrap (((p * P.length : Nat) : Int) + (j : Int)) = ((p * P.length + j : Nat) : Int) := by
      have := Nat.mul_le_mul (show p ≤ 4 by omega) hn
      rw [wrap_i64 _ (by omega) (by omega)]; simp
    have hwx : (rd w (p * P.length + j)).length ≤ 1000000000 := by rw [hrd]; exact hx
    by_cases hjm : j < m
    · have hf : ¬ (rd w (p * P.length + j)).length = 12 := by rw [hrd]; exact hd.few j hjm
      generalize p * P.length + j = ix at *
      generalize j * P.length + p = iy at *
      generalize p * P.length = pm at *
      generalize j * P.length = jm at *
      have e5 : (List.map rItem (rd w ix)).length = (rd w ix).length := by simp
      clear hd
      (try dsimp only [cond_true, cond_false])
      (conv => whnf)
      repeat' ((with_reducible (first | refine sW.eq (wm) ?_|refine sW.eq (wa) ?_|refine sW.eq (wm2) ?_|refine sW.eq (wa2) ?_|refine gHole ?_|refine st21 ?_|refine fG.split (fun _ => ?_) (fun _ => ?_)|refine fG.bool (fun _ => ?_) (fun _ => ?_)|refine gD 7 [(2, 19), (10, 19), (17, 19), (2, 20)] ?_|refine gDn 9 ?_)) <;> (try (conv => whnf)))
      refine ⟨⟨⟨j + 1, w.set ix (rd w ix ++ [⟨true, 0⟩]), o.set iy true, _, _, _, _, 0, false⟩, fitOk, ?_, ?_⟩⟩
      · exact ⟨by show j + 1 ≤ _; omega, hW1.symm, hO1.symm⟩
      · show P.length - (j + 1) < P.length - j; omega
    · have ejm : j = m := by omega
      cases t with
      | true => have := hd.all rfl; omega
      | false =>
        have hf : (rd w (p * P.length + j)).length = 12 := by rw [hrd, ejm]; exact (hd.stop rfl).2
        subst ejm
        rw [← hw', ← ho', Bool.or_false]
        generalize p * P.length + j = ix at *
        generalize j * P.length + p = iy at *
        generalize p * P.length = pm at *
        generalize j * P.length = jm at *
        have e5 : (List.map rItem (rd w ix)).length = (rd w ix).length := by simp
        clear hd
        simp only [Bool.false_eq_true, if_false, drawRes, nLive, hwl, hol]
        (try dsimp only [cond_true, cond_false])
        (conv => whnf)
        repeat' ((with_reducible (first | refine sW.eq (wm) ?_|refine sW.eq (wa) ?_|refine sW.eq (wm2) ?_|refine sW.eq (wa2) ?_|refine st21 ?_|refine fG.split (fun _ => ?_) (fun _ => ?_)|refine fG.bool (fun _ => ?_) (fun _ => ?_)|refine gD 7 [(2, 19), (10, 19), (17, 19), (2, 20)] ?_|refine gDn 9 ?_)) <;> (try (conv => whnf)))
        all_goals (try simp only [et1, et2])
        all_goals rfl
  · have ejm : j = m := by omega
    cases t with
    | false => have := (hd.stop rfl).1; omega
    | true =>
      subst ejm
      rw [← hw', ← ho', Bool.or_true, if_pos rfl]
      clear hd
      simp only [drawRes, nLive, hwl, hol, List.length_set]
      (try dsimp only [cond_true, cond_false])
      (conv => whnf)
      repeat' ((with_reducible (first | refine st21 ?_|refine fG.split (fun _ => ?_) (fun _ => ?_)|refine fG.bool (fun _ => ?_) (fun _ => ?_)|refine gD 7 [(2, 19), (10, 19), (17, 19), (2, 20)] ?_|refine gDn 9 ?_)) <;> (try (conv => whnf)))
      all_goals (try simp only [et1, et2])
      all_goals rfl

def drawnV (P : List (List Ins)) (S : List State) (W : List (List Item)) (H : List (List Event)) (cut : List Int) (opn : List Bool) (kept : List (List Int)) (p : Nat) : LiveV :=
  ⟨⟨P, S, drawW P.length p W P.length, H⟩, true, cut.set p ((rd H p).length : Int), drawO P.length p opn P.length, kept⟩
def beginIs (P : List (List Ins)) (S : List State) (W : List (List Item)) (H : List (List Event)) (on : Bool) (cut : List Int) (opn : List Bool) (kept : List (List Int)) (p : Int) : LiveV × Int :=
  if liveOk P S W H on cut opn kept = true then
    (if 0 ≤ p ∧ p ≤ (P.length : Int) - 1 then (if on = true then (⟨⟨P, S, W, H⟩, on, cut, opn, kept⟩, 3) else if crowdB P.length p.toNat W = true then (⟨⟨P, S, W, H⟩, on, cut, opn, kept⟩, 5) else (drawnV P S W H cut opn kept p.toNat, 0)) else (⟨⟨P, S, W, H⟩, on, cut, opn, kept⟩, 2))
  else (zeroV, 1)
theorem drawTo_yes {n p : Nat} {W : List (List Item)} (h : crowdB n p W = false) : DrawTo n p W n true :=
  ⟨Nat.le_refl _, fun b hb h2 => by have := crowd_no h b hb; omega, (fun h => by cases h), fun _ => rfl⟩
theorem drawTo_no {n p : Nat} {W : List (List Item)} (h : crowdB n p W = true) (hw : ∀ b, b < n → (rd W (p * n + b)).length ≤ 12) : ∃ m, DrawTo n p W m false := by
  obtain ⟨m, h1, h2, h3⟩ := crowd_yes h
  refine ⟨m, Nat.le_of_lt h1, fun b hb h4 => ?_, fun _ => ⟨h1, by have := hw m h1; omega⟩, (fun h => by cases h)⟩
  have := h3 b hb
  omega
set_option maxRecDepth 20000 in
set_option maxHeartbeats 8000000 in
theorem ok_spec_Begin (k : Nat) (P : List (List Ins)) (S : List State) (W : List (List Item)) (H : List (List Event)) (on : Bool) (cut : List Int) (opn : List Bool) (kept : List (List Int)) (p : Int) (hb : SysB 1000000000 P S W H) (hs : ShotB 1000000000 cut opn kept) :
    callE PR C (k + 9) 45 [aLive 0 P S W H on cut opn kept, i64 p] [tInsSS P, tStateS S, tItemSS W, tEventSS H, tI cut, tBool opn, tIntSS kept] = some (liveRes (beginIs P S W H on cut opn kept p).1 (beginIs P S W H on cut opn kept p).2 [none, none, none, none, none, none, none]) := by
  have q1 := fun k => ok_spec_LiveOk k P S W H on cut opn kept (hb.mono (by decide)) hs.mono9
  unfold beginIs
  cases e : liveOk P S W H on cut opn kept with
  | false =>
    simp only [e] at q1
    rw [if_neg (by decide)]
    (refine fnI [ResultVar.cell 4 44, ResultVar.tmp 5] Tryz.func45 ?_; conv => whnf)
    repeat' ((with_reducible (first | refine sCall.of (q1 _) ?_|refine st21 ?_|refine fG.split (fun _ => ?_) (fun _ => ?_)|refine fG.bool (fun _ => ?_) (fun _ => ?_))) <;> (try (conv => whnf)))
    all_goals rfl
  | true =>
    simp only [e] at q1
    rw [if_pos rfl]
    obtain ⟨f1, l1, l2, l3, f5, _⟩ := liveOk_facts e
    obtain ⟨hI, hP, hS', h200⟩ := sysOk_facts f1
    have hN := hI.n
    have hwl := hI.w
    have hHl := hI.h
    have hn0 : 0 < P.length * P.length := Nat.mul_pos (by omega) (by omega)
    have q2 := fun k => ok_spec_l11Copy k P S W H on cut opn kept (hb.mono (by decide)) hI.some hs (by omega)
    have q3 := fun k => ok_spec_l1In k p 0 ((P.length : Int) - 1)
    by_cases c1 : 0 ≤ p ∧ p ≤ (P.length : Int) - 1
    · rw [if_pos c1]
      rw [decide_eq_true c1] at q3
      cases on with
      | true =>
        rw [if_pos rfl]
        (refine fnI [ResultVar.cell 4 44, ResultVar.tmp 5] Tryz.func45 ?_; conv => whnf)
        repeat' ((with_reducible (first | refine sCall.of (q1 _) ?_|refine sCall.of (q2 _) ?_|refine sCall.of (q3 _) ?_|refine st21 ?_|refine fG.split (fun _ => ?_) (fun _ => ?_)|refine fG.bool (fun _ => ?_) (fun _ => ?_))) <;> (try (conv => whnf)))
        all_goals rfl
      | false =>
        rw [if_neg (by decide)]
        obtain ⟨p, rfl⟩ : ∃ n : Nat, p = (n : Int) := ⟨p.toNat, by omega⟩
        rw [Int.toNat_natCast]
        have hp : p < P.length := by omega
        cases cr : crowdB P.length p W with
        | true =>
          rw [if_pos rfl]
          obtain ⟨m, hd⟩ := drawTo_no cr fun b hb' => by
            have hpl := place_lt hp hb'
            simp only [sysOk, Bool.and_eq_true, List.all_eq_true] at f1
            have h1 := f1.2.1 _ (rd_mem (l := W) (n := p * P.length + b) (by omega))
            simp only [wayOk, Bool.and_eq_true, decide_eq_true_eq] at h1
            exact h1.1
          have q5 := fun k => ok_spec_l11DrawIt k P S W H false cut opn kept p m false hp hN.2 hwl (by omega) (by omega) hHl (h200 p (by omega)) hb.ww hd
          simp only [drawRes, dead7] at q5
          clear e cr hd
          generalize drawW P.length p W m = W2 at *
          generalize drawO P.length p opn m = o2 at *
          (refine fnI [ResultVar.cell 4 44, ResultVar.tmp 5] Tryz.func45 ?_; conv => whnf)
          repeat' ((with_reducible (first | refine sCall.of (q1 _) ?_|refine sCall.of (q2 _) ?_|refine sCall.of (q3 _) ?_|refine sCall.of (q5 _) ?_|refine st21 ?_|refine fG.split (fun _ => ?_) (fun _ => ?_)|refine fG.bool (fun _ => ?_) (fun _ => ?_))) <;> (try (conv => whnf)))
          all_goals rfl
        | false =>
          rw [if_neg (by decide)]
          have q5 := fun k => ok_spec_l11DrawIt k P S W H false cut opn kept p P.length true hp hN.2 hwl (by omega) (by omega) hHl (h200 p (by omega)) hb.ww (drawTo_yes cr)
          simp only [drawRes, dead7, if_true] at q5
          unfold drawnV
          clear e cr
          generalize drawW P.length p W P.length = W2 at *
          generalize drawO P.length p opn P.length = o2 at *
          (refine fnI [ResultVar.cell 4 44, ResultVar.tmp 5] Tryz.func45 ?_; conv => whnf)
          repeat' ((with_reducible (first | refine sCall.of (q1 _) ?_|refine sCall.of (q2 _) ?_|refine sCall.of (q3 _) ?_|refine sCall.of (q5 _) ?_|refine st21 ?_|refine fG.split (fun _ => ?_) (fun _ => ?_)|refine fG.bool (fun _ => ?_) (fun _ => ?_))) <;> (try (conv => whnf)))
          all_goals rfl
    · rw [if_neg c1]
      rw [decide_eq_false c1] at q3
      (refine fnI [ResultVar.cell 4 44, ResultVar.tmp 5] Tryz.func45 ?_; conv => whnf)
      repeat' ((with_reducible (first | refine sCall.of (q1 _) ?_|refine sCall.of (q2 _) ?_|refine sCall.of (q3 _) ?_|refine st21 ?_|refine fG.split (fun _ => ?_) (fun _ => ?_)|refine fG.bool (fun _ => ?_) (fun _ => ?_))) <;> (try (conv => whnf)))
      all_goals rfl

end Go.Proofs.YtipfcgbhaalcdaaGreat.Abs
namespace Go.Proofs.YtipfcgbhaalcdaaGreat.Abs
open Go Go.Proofs
set_option linter.unusedVariables false
set_option linter.unusedSimpArgs false
attribute [local irreducible] callE
def takenW (W : List (List Item)) (i : Nat) : List (List Item) := W.set i ((rd W i).drop 1)
def markIs (P : List (List Ins)) (S : List State) (W : List (List Item)) (H : List (List Event)) (on : Bool) (cut : List Int) (opn : List Bool) (kept : List (List Int)) (a b : Int) : LiveV × Int :=
  if liveOk P S W H on cut opn kept = true then
    (if (0 ≤ a ∧ a ≤ (P.length : Int) - 1) ∧ (0 ≤ b ∧ b ≤ (P.length : Int) - 1) then
      (if on = true ∧ 0 < (rd W (a.toNat * P.length + b.toNat)).length ∧ (rd (rd W (a.toNat * P.length + b.toNat)) 0).mark = true then
        (if rd cut b.toNat < 0 then
          (if crowdB P.length b.toNat (takenW W (a.toNat * P.length + b.toNat)) = true then (⟨⟨P, S, W, H⟩, on, cut, opn, kept⟩, 5)
           else (⟨⟨P, S, drawW P.length b.toNat (takenW W (a.toNat * P.length + b.toNat)) P.length, H⟩, true, cut.set b.toNat ((rd H b.toNat).length : Int), (drawO P.length b.toNat opn P.length).set (a.toNat * P.length + b.toNat) false, kept⟩, 0))
         else (⟨⟨P, S, takenW W (a.toNat * P.length + b.toNat), H⟩, on, cut, opn.set (a.toNat * P.length + b.toNat) false, kept⟩, 0))
       else (⟨⟨P, S, W, H⟩, on, cut, opn, kept⟩, 4))
     else (⟨⟨P, S, W, H⟩, on, cut, opn, kept⟩, 2))
  else (zeroV, 1)
theorem ok_impl_wayAt_nob (k : Nat) (P : List (List Ins)) (S : List State) (W : List (List Item)) (H : List (List Event)) (a b : Int) (hp : P.length ≤ 100000000000) (ha : 0 ≤ a ∧ a ≤ (P.length : Int) - 1) (h : ¬ (0 ≤ b ∧ b ≤ (P.length : Int) - 1)) :
    callE PR C (k + 2) 146 [aSys 0 P S W H, i64 a, i64 b] [tInsSS P, tStateS S, tItemSS W, tEventSS H] = some ⟨i64 (-1), [], [none, none, none, none]⟩ := by
  have q1 := fun k => ok_impl_in k a 0 ((P.length : Int) - 1)
  have q2 := fun k => ok_impl_in k b 0 ((P.length : Int) - 1)
  rw [decide_eq_true ha] at q1
  rw [decide_eq_false h] at q2
  (refine fnI [ResultVar.tmp 6] Tryz.func146 ?_; conv => whnf)
  repeat' ((with_reducible (first | refine sCall.of (q1 _) ?_|refine sCall.of (q2 _) ?_|refine st21 ?_|refine fG.split (fun _ => ?_) (fun _ => ?_)|refine fG.bool (fun _ => ?_) (fun _ => ?_))) <;> (try (conv => whnf)))
  all_goals rfl
theorem take_drop_one (l : List Item) : List.take (l.length - 1) (List.drop 1 l) = List.drop 1 l := List.take_of_length_le (by simp)
theorem markIs_eq {P : List (List Ins)} {S : List State} {W : List (List Item)} {H : List (List Event)} {on : Bool} {cut : List Int} {opn : List Bool} {kept : List (List Int)} {a b ix : Nat} (e : liveOk P S W H on cut opn kept = true) (ha : a < P.length) (hb : b < P.length) (hix : ix = a * P.length + b) :
    markIs P S W H on cut opn kept a b =
      (if on = true ∧ 0 < (rd W ix).length ∧ (rd (rd W ix) 0).mark = true then
        (if rd cut b < 0 then (if crowdB P.length b (W.set ix (List.take ((rd W ix).length - 1) (List.drop 1 (rd W ix)))) = true then (⟨⟨P, S, W, H⟩, on, cut, opn, kept⟩, 5) else (⟨⟨P, S, drawW P.length b (W.set ix (List.take ((rd W ix).length - 1) (List.drop 1 (rd W ix)))) P.length, H⟩, true, cut.set b ((rd H b).length : Int), (drawO P.length b opn P.length).set ix false, kept⟩, 0))
         else (⟨⟨P, S, W.set ix (List.take ((rd W ix).length - 1) (List.drop 1 (rd W ix))), H⟩, on, cut, opn.set ix false, kept⟩, 0)) else (⟨⟨P, S, W, H⟩, on, cut, opn, kept⟩, 4)) := by
  rw [take_drop_one]
  unfold markIs takenW
  rw [if_pos e, if_pos ⟨⟨by omega, by omega⟩, by omega, by omega⟩, hix]
  rfl
set_option maxRecDepth 20000 in
set_option maxHeartbeats 8000000 in
theorem ok_impl_Mark (k : Nat) (P : List (List Ins)) (S : List State) (W : List (List Item)) (H : List (List Event)) (on : Bool) (cut : List Int) (opn : List Bool) (kept : List (List Int)) (a b : Int) (hb : SysB 1000000000 P S W H) (hs : ShotB 1000000000 cut opn kept) :
    callE PR C (k + 13) 49 [aLive 0 P S W H on cut opn kept, i64 a, i64 b] [tInsSS P, tStateS S, tItemSS W, tEventSS H, tI cut, tBool opn, tIntSS kept] = some (liveRes (markIs P S W H on cut opn kept a b).1 (markIs P S W H on cut opn kept a b).2 [none, none, none, none, none, none, none]) := by
  have q1 := fun k => ok_impl_LiveOk k P S W H on cut opn kept (hb.mono (by decide)) hs.mono9
  cases e : liveOk P S W H on cut opn kept with
  | false =>
    simp only [e] at q1
    rw [show markIs P S W H on cut opn kept a b = (zeroV, 1) by unfold markIs; rw [e]; rfl]
    (refine fnI [ResultVar.cell 6 44, ResultVar.tmp 7] Tryz.func49 ?_; conv => whnf)
    repeat' ((with_reducible (first | refine sCall.of (q1 _) ?_|refine st21 ?_|refine fG.split (fun _ => ?_) (fun _ => ?_)|refine fG.bool (fun _ => ?_) (fun _ => ?_)|refine gDn 9 ?_)) <;> (try (conv => whnf)))
    all_goals rfl
  | true =>
    simp only [e] at q1
    obtain ⟨f1, l1, l2, l3, f5, _⟩ := liveOk_facts e
    obtain ⟨hI, hP, hS', h200⟩ := sysOk_facts f1
    have hN := hI.n
    have hwl := hI.w
    have hHl := hI.h
    have hn0 : 0 < P.length * P.length := Nat.mul_pos (by omega) (by omega)
    have q2 := fun k => ok_impl_cloneLive k P S W H on cut opn kept (hb.mono (by decide)) hI.some hs (by omega)
    by_cases c1 : 0 ≤ a ∧ a ≤ (P.length : Int) - 1
    · by_cases c2 : 0 ≤ b ∧ b ≤ (P.length : Int) - 1
      · obtain ⟨a, rfl⟩ : ∃ n : Nat, a = (n : Int) := ⟨a.toNat, by omega⟩
        obtain ⟨b, rfl⟩ : ∃ n : Nat, b = (n : Int) := ⟨b.toNat, by omega⟩
        have ha : a < P.length := by omega
        have hbl : b < P.length := by omega
        have hpl := place_lt ha hbl
        have q3 := fun k => ok_impl_wayAt k P S W H a b (hb.mono (by decide)) ha hbl hN.2 hwl
        obtain ⟨ix, hix⟩ : ∃ ix, ix = a * P.length + b := ⟨_, rfl⟩
        rw [markIs_eq e ha hbl hix]
        rw [← hix] at q3 hpl
        have hwx := hb.ww ix (by omega)
        have e5 : (List.map rItem (rd W ix)).length = (rd W ix).length := by simp
        have hk3 := f5 b (by omega)
        cases on with
        | false =>
          rw [if_neg (by simp)]
          clear e
          (refine fnI [ResultVar.cell 6 44, ResultVar.tmp 7] Tryz.func49 ?_; conv => whnf)
          repeat' ((with_reducible (first | refine sCall.of (q1 _) ?_|refine sCall.of (q2 _) ?_|refine sCall.of (q3 _) ?_|refine st21 ?_|refine fG.split (fun _ => ?_) (fun _ => ?_)|refine fG.bool (fun _ => ?_) (fun _ => ?_)|refine gDn 9 ?_)) <;> (try (conv => whnf)))
          all_goals rfl
        | true =>
          by_cases d1 : 0 < (rd W ix).length
          · cases d2 : (rd (rd W ix) 0).mark with
            | false =>
              rw [if_neg (by simp)]
              clear e
              (refine fnI [ResultVar.cell 6 44, ResultVar.tmp 7] Tryz.func49 ?_; conv => whnf)
              repeat' ((with_reducible (first | refine sCall.of (q1 _) ?_|refine sCall.of (q2 _) ?_|refine sCall.of (q3 _) ?_|refine st21 ?_|refine fG.split (fun _ => ?_) (fun _ => ?_)|refine fG.bool (fun _ => ?_) (fun _ => ?_)|refine gDn 9 ?_)) <;> (try (conv => whnf)))
              all_goals rfl
            | true =>
              rw [if_pos ⟨rfl, d1, rfl⟩]
              have hB1 : SysB 100000000000 P S (W.set ix (List.take ((rd W ix).length - 1) (List.drop 1 (rd W ix)))) H := by
                have h := hb.mono (B' := 100000000000) (by decide)
                refine ⟨h.p, h.pp, h.s, h.ss, by rw [List.length_set]; exact h.w, fun j hj => ?_, h.h, h.hh⟩
                rw [List.length_set] at hj
                rw [rd_put _ (by omega)]
                split
                · simp; omega
                · exact h.ww j hj
              have hww1 : ∀ j : Nat, j < (W.set ix (List.take ((rd W ix).length - 1) (List.drop 1 (rd W ix)))).length → (rd (W.set ix (List.take ((rd W ix).length - 1) (List.drop 1 (rd W ix)))) j).length ≤ 1000000000 := fun j hj => by
                rw [List.length_set] at hj
                rw [rd_put _ (by omega)]
                split
                · simp; omega
                · exact hb.ww j hj
              have hwl1 : (W.set ix (List.take ((rd W ix).length - 1) (List.drop 1 (rd W ix)))).length = P.length * P.length := by rw [List.length_set]; exact hwl
              by_cases c3 : rd cut b < 0
              · rw [if_pos c3]
                have q4 := fun k => ok_impl_crowded k P S (W.set ix (List.take ((rd W ix).length - 1) (List.drop 1 (rd W ix)))) H b hB1 hbl hN.2 hwl1
                cases cr : crowdB P.length b (W.set ix (List.take ((rd W ix).length - 1) (List.drop 1 (rd W ix)))) with
                | true =>
                  simp only [cr] at q4
                  rw [if_pos rfl]
                  clear e cr hB1 hww1
                  (refine fnI [ResultVar.cell 6 44, ResultVar.tmp 7] Tryz.func49 ?_; conv => whnf)
                  repeat' ((with_reducible (first | refine sCall.of (q1 _) ?_|refine sCall.of (q2 _) ?_|refine sCall.of (q3 _) ?_|refine sCall.of (q4 _) ?_|refine gRec ?_|refine st21 ?_|refine fG.split (fun _ => ?_) (fun _ => ?_)|refine fG.bool (fun _ => ?_) (fun _ => ?_)|refine gDn 9 ?_)) <;> (try (conv => whnf)))
                  all_goals rfl
                | false =>
                  simp only [cr] at q4
                  rw [if_neg (by decide)]
                  have q5 := fun k => ok_impl_draw k P S (W.set ix (List.take ((rd W ix).length - 1) (List.drop 1 (rd W ix)))) H true cut opn kept b hbl hN.2 hwl1 (by omega) (by omega) hHl (h200 b (by omega)) hww1
                  have d1 := drawW_len P.length b (W.set ix (List.take ((rd W ix).length - 1) (List.drop 1 (rd W ix)))) P.length
                  have d2 := drawO_len P.length b opn P.length
                  rw [List.length_set] at d1
                  simp only [liveRes, nLive, List.length_set, d1, d2]
                  generalize drawW P.length b (W.set ix (List.take ((rd W ix).length - 1) (List.drop 1 (rd W ix)))) P.length = W2 at *
                  generalize drawO P.length b opn P.length = o2 at *
                  simp only [bLive, List.length_set] at q5
                  have et1 : List.take W.length W2 = W2 := List.take_of_length_le (by omega)
                  have et2 : List.take opn.length (o2.set ix false) = o2.set ix false := List.take_of_length_le (by rw [List.length_set]; omega)
                  clear e cr hB1 hww1
                  (refine fnI [ResultVar.cell 6 44, ResultVar.tmp 7] Tryz.func49 ?_; conv => whnf)
                  repeat' ((with_reducible (first | refine sCall.of (q1 _) ?_|refine sCall.of (q2 _) ?_|refine sCall.of (q3 _) ?_|refine sCall.of (q4 _) ?_|refine sCall.of (q5 _) ?_|refine gRec ?_|refine st21 ?_|refine fG.split (fun _ => ?_) (fun _ => ?_)|refine fG.bool (fun _ => ?_) (fun _ => ?_)|refine gDn 9 ?_)) <;> (try (conv => whnf)))
                  all_goals (try simp only [et1, et2])
                  all_goals rfl
              · rw [if_neg c3]
                simp only [liveRes, nLive, List.length_set]
                clear e hB1 hww1
                (refine fnI [ResultVar.cell 6 44, ResultVar.tmp 7] Tryz.func49 ?_; conv => whnf)
                repeat' ((with_reducible (first | refine sCall.of (q1 _) ?_|refine sCall.of (q2 _) ?_|refine sCall.of (q3 _) ?_|refine gRec ?_|refine st21 ?_|refine fG.split (fun _ => ?_) (fun _ => ?_)|refine fG.bool (fun _ => ?_) (fun _ => ?_)|refine gDn 9 ?_)) <;> (try (conv => whnf)))
                all_goals rfl
          · rw [if_neg (by simp [d1])]
            clear e
            (refine fnI [ResultVar.cell 6 44, ResultVar.tmp 7] Tryz.func49 ?_; conv => whnf)
            repeat' ((with_reducible (first | refine sCall.of (q1 _) ?_|refine sCall.of (q2 _) ?_|refine sCall.of (q3 _) ?_|refine st21 ?_|refine fG.split (fun _ => ?_) (fun _ => ?_)|refine fG.bool (fun _ => ?_) (fun _ => ?_)|refine gDn 9 ?_)) <;> (try (conv => whnf)))
            all_goals rfl
      · have q3 := fun k => ok_impl_wayAt_nob k P S W H a b (by omega) c1 c2
        rw [show markIs P S W H on cut opn kept a b = (⟨⟨P, S, W, H⟩, on, cut, opn, kept⟩, 2) by unfold markIs; rw [if_pos e, if_neg (fun h => c2 h.2)]]
        (refine fnI [ResultVar.cell 6 44, ResultVar.tmp 7] Tryz.func49 ?_; conv => whnf)
        repeat' ((with_reducible (first | refine sCall.of (q1 _) ?_|refine sCall.of (q2 _) ?_|refine sCall.of (q3 _) ?_|refine st21 ?_|refine fG.split (fun _ => ?_) (fun _ => ?_)|refine fG.bool (fun _ => ?_) (fun _ => ?_)|refine gDn 9 ?_)) <;> (try (conv => whnf)))
        all_goals rfl
    · have q3 := fun k => ok_impl_wayAt_no k P S W H a b (by omega) c1
      rw [show markIs P S W H on cut opn kept a b = (⟨⟨P, S, W, H⟩, on, cut, opn, kept⟩, 2) by unfold markIs; rw [if_pos e, if_neg (fun h => c1 h.1)]]
      (refine fnI [ResultVar.cell 6 44, ResultVar.tmp 7] Tryz.func49 ?_; conv => whnf)
      repeat' ((with_reducible (first | refine sCall.of (q1 _) ?_|refine sCall.of (q2 _) ?_|refine sCall.of (q3 _) ?_|refine st21 ?_|refine fG.split (fun _ => ?_) (fun _ => ?_)|refine fG.bool (fun _ => ?_) (fun _ => ?_)|refine gDn 9 ?_)) <;> (try (conv => whnf)))
      all_goals rfl

set_option maxRecDepth 20000 in
set_option maxHeartbeats 8000000 in
theorem ok_spec_Mark (k : Nat) (P : List (List Ins)) (S : List State) (W : List (List Item)) (H : List (List Event)) (on : Bool) (cut : List Int) (opn : List Bool) (kept : List (List Int)) (a b : Int) (hb : SysB 1000000000 P S W H) (hs : ShotB 1000000000 cut opn kept) :
    callE PR C (k + 9) 50 [aLive 0 P S W H on cut opn kept, i64 a, i64 b] [tInsSS P, tStateS S, tItemSS W, tEventSS H, tI cut, tBool opn, tIntSS kept] = some (liveRes (markIs P S W H on cut opn kept a b).1 (markIs P S W H on cut opn kept a b).2 [none, none, none, none, none, none, none]) := by
  have q1 := fun k => ok_spec_LiveOk k P S W H on cut opn kept (hb.mono (by decide)) hs.mono9
  have hPl := hb.p
  cases e : liveOk P S W H on cut opn kept with
  | false =>
    simp only [e] at q1
    rw [show markIs P S W H on cut opn kept a b = (zeroV, 1) by unfold markIs; rw [e]; rfl]
    (refine fnI [ResultVar.cell 6 44, ResultVar.tmp 7] Tryz.func50 ?_; conv => whnf)
    repeat' ((with_reducible (first | refine sCall.of (q1 _) ?_|refine st21 ?_|refine fG.split (fun _ => ?_) (fun _ => ?_)|refine fG.bool (fun _ => ?_) (fun _ => ?_)|refine gD 9 [(2, 8), (8, 11), (8, 18), (2, 20)] ?_)) <;> (try (conv => whnf)))
    all_goals rfl
  | true =>
    simp only [e] at q1
    obtain ⟨f1, l1, l2, l3, f5, _⟩ := liveOk_facts e
    obtain ⟨hI, hP, hS', h200⟩ := sysOk_facts f1
    have hN := hI.n
    have hwl := hI.w
    have hHl := hI.h
    have hn0 : 0 < P.length * P.length := Nat.mul_pos (by omega) (by omega)
    have q2 := fun k => ok_spec_l11Copy k P S W H on cut opn kept (hb.mono (by decide)) hI.some hs (by omega)
    have qa := fun k => ok_spec_l1In k a 0 ((P.length : Int) - 1)
    have qb := fun k => ok_spec_l1In k b 0 ((P.length : Int) - 1)
    by_cases c1 : 0 ≤ a ∧ a ≤ (P.length : Int) - 1
    · rw [decide_eq_true c1] at qa
      by_cases c2 : 0 ≤ b ∧ b ≤ (P.length : Int) - 1
      · rw [decide_eq_true c2] at qb
        obtain ⟨a, rfl⟩ : ∃ n : Nat, a = (n : Int) := ⟨a.toNat, by omega⟩
        obtain ⟨b, rfl⟩ : ∃ n : Nat, b = (n : Int) := ⟨b.toNat, by omega⟩
        have ha : a < P.length := by omega
        have hbl : b < P.length := by omega
        have hpl := place_lt ha hbl
        obtain ⟨ix, hix⟩ : ∃ ix, ix = a * P.length + b := ⟨_, rfl⟩
        rw [markIs_eq e ha hbl hix]
        rw [← hix] at hpl
        have wm : IntKind.i64.wrap ((a : Int) * (P.length : Int)) = ((a * P.length : Nat) : Int) := by
          have := Nat.mul_le_mul (show a ≤ 4 by omega) hN.2
          rw [show (a : Int) * (P.length : Int) = ((a * P.length : Nat) : Int) by simp]; exact wrap_i64 _ (by omega) (by omega)
        have wa : IntKind.i64.wrap (((a * P.length : Nat) : Int) + (b : Int)) = (ix : Int) := by
          have := Nat.mul_le_mul (show a ≤ 4 by omega) hN.2
          rw [hix, wrap_i64 _ (by omega) (by omega)]; simp
        clear hix
        generalize a * P.length = pm at *
        have hwx := hb.ww ix (by omega)
        have hdl := dropLim (t := (rd W ix).length - 1) (n := 1) (m := 15 + 1) (l := rd W ix) (by omega) (by decide)
        have e5 : (List.map rItem (rd W ix)).length = (rd W ix).length := by simp
        cases on with
        | false =>
          rw [if_neg (by simp)]
          clear e
          (refine fnI [ResultVar.cell 6 44, ResultVar.tmp 7] Tryz.func50 ?_; conv => whnf)
          repeat' ((with_reducible (first | refine sCall.of (q1 _) ?_|refine sCall.of (q2 _) ?_|refine sCall.of (qa _) ?_|refine sCall.of (qb _) ?_|refine sW.eq (wm) ?_|refine sW.eq (wa) ?_|refine st21 ?_|refine fG.split (fun _ => ?_) (fun _ => ?_)|refine fG.bool (fun _ => ?_) (fun _ => ?_)|refine gD 9 [(2, 8), (8, 11), (8, 18), (2, 20)] ?_)) <;> (try (conv => whnf)))
          all_goals rfl
        | true =>
          by_cases d1 : 0 < (rd W ix).length
          · cases d2 : (rd (rd W ix) 0).mark with
            | false =>
              rw [if_neg (by simp)]
              clear e
              (refine fnI [ResultVar.cell 6 44, ResultVar.tmp 7] Tryz.func50 ?_; conv => whnf)
              repeat' ((with_reducible (first | refine sCall.of (q1 _) ?_|refine sCall.of (q2 _) ?_|refine sCall.of (qa _) ?_|refine sCall.of (qb _) ?_|refine sW.eq (wm) ?_|refine sW.eq (wa) ?_|refine st21 ?_|refine fG.split (fun _ => ?_) (fun _ => ?_)|refine fG.bool (fun _ => ?_) (fun _ => ?_)|refine gD 9 [(2, 8), (8, 11), (8, 18), (2, 20)] ?_)) <;> (try (conv => whnf)))
              all_goals rfl
            | true =>
              rw [if_pos ⟨rfl, d1, rfl⟩]
              have hwx12 : ∀ j, j < W.length → (rd W j).length ≤ 12 := fun j hj => by
                simp only [sysOk, Bool.and_eq_true, List.all_eq_true] at f1
                have h1 := f1.2.1 _ (rd_mem (l := W) (n := j) hj)
                simp only [wayOk, Bool.and_eq_true, decide_eq_true_eq] at h1
                exact h1.1
              have hww1 : ∀ j : Nat, j < (W.set ix (List.take ((rd W ix).length - 1) (List.drop 1 (rd W ix)))).length → (rd (W.set ix (List.take ((rd W ix).length - 1) (List.drop 1 (rd W ix)))) j).length ≤ 12 := fun j hj => by
                rw [List.length_set] at hj
                rw [rd_put _ (by omega)]
                have h1 := hwx12 ix (by omega)
                split
                · simp; omega
                · exact hwx12 j hj
              have hwl1 : (W.set ix (List.take ((rd W ix).length - 1) (List.drop 1 (rd W ix)))).length = P.length * P.length := by rw [List.length_set]; exact hwl
              have hww2 : ∀ j : Nat, j < (W.set ix (List.take ((rd W ix).length - 1) (List.drop 1 (rd W ix)))).length → (rd (W.set ix (List.take ((rd W ix).length - 1) (List.drop 1 (rd W ix)))) j).length ≤ 1000000000 := fun j hj => by have := hww1 j hj; omega
              by_cases c3 : rd cut b < 0
              · rw [if_pos c3]
                cases cr : crowdB P.length b (W.set ix (List.take ((rd W ix).length - 1) (List.drop 1 (rd W ix)))) with
                | true =>
                  rw [if_pos rfl]
                  obtain ⟨m, hd⟩ := drawTo_no cr fun c hc => hww1 _ (by have := place_lt hbl hc; omega)
                  have q5 := fun k => ok_spec_l11DrawIt k P S (W.set ix (List.take ((rd W ix).length - 1) (List.drop 1 (rd W ix)))) H true cut opn kept b m false hbl hN.2 hwl1 (by omega) (by omega) hHl (h200 b (by omega)) hww2 hd
                  simp only [drawRes, dead7, aLive, List.length_set] at q5
                  clear e cr hd hww1 hww2 hwx12
                  generalize drawW P.length b (W.set ix (List.take ((rd W ix).length - 1) (List.drop 1 (rd W ix)))) m = W2 at *
                  generalize drawO P.length b opn m = o2 at *
                  (refine fnI [ResultVar.cell 6 44, ResultVar.tmp 7] Tryz.func50 ?_; conv => whnf)
                  repeat' ((with_reducible (first | refine sCall.of (q1 _) ?_|refine sCall.of (q2 _) ?_|refine sCall.of (qa _) ?_|refine sCall.of (qb _) ?_|refine sCall.of (q5 _) ?_|refine sW.eq (wm) ?_|refine sW.eq (wa) ?_|refine gHole ?_|refine sI.mk hdl ?_|refine st21 ?_|refine fG.split (fun _ => ?_) (fun _ => ?_)|refine fG.bool (fun _ => ?_) (fun _ => ?_)|refine gD 9 [(2, 8), (8, 11), (8, 18), (2, 20)] ?_)) <;> (try (conv => whnf)))
                  all_goals rfl
                | false =>
                  rw [if_neg (by decide)]
                  have q5 := fun k => ok_spec_l11DrawIt k P S (W.set ix (List.take ((rd W ix).length - 1) (List.drop 1 (rd W ix)))) H true cut opn kept b P.length true hbl hN.2 hwl1 (by omega) (by omega) hHl (h200 b (by omega)) hww2 (drawTo_yes cr)
                  have d1 := drawW_len P.length b (W.set ix (List.take ((rd W ix).length - 1) (List.drop 1 (rd W ix)))) P.length
                  have d2 := drawO_len P.length b opn P.length
                  rw [List.length_set] at d1
                  simp only [drawRes, dead7, aLive, nLive, List.length_set, if_true, Bool.true_or, d1, d2] at q5
                  simp only [liveRes, nLive, List.length_set, d1, d2]
                  generalize drawW P.length b (W.set ix (List.take ((rd W ix).length - 1) (List.drop 1 (rd W ix)))) P.length = W2 at *
                  generalize drawO P.length b opn P.length = o2 at *
                  have et1 : List.take W.length W2 = W2 := List.take_of_length_le (by omega)
                  have et2 : List.take opn.length (o2.set ix false) = o2.set ix false := List.take_of_length_le (by rw [List.length_set]; omega)
                  clear e cr hww1 hww2 hwx12
                  (refine fnI [ResultVar.cell 6 44, ResultVar.tmp 7] Tryz.func50 ?_; conv => whnf)
                  repeat' ((with_reducible (first | refine sCall.of (q1 _) ?_|refine sCall.of (q2 _) ?_|refine sCall.of (qa _) ?_|refine sCall.of (qb _) ?_|refine sCall.of (q5 _) ?_|refine sW.eq (wm) ?_|refine sW.eq (wa) ?_|refine gHole ?_|refine sI.mk hdl ?_|refine st21 ?_|refine fG.split (fun _ => ?_) (fun _ => ?_)|refine fG.bool (fun _ => ?_) (fun _ => ?_)|refine gD 9 [(2, 8), (8, 11), (8, 18), (2, 20)] ?_)) <;> (try (conv => whnf)))
                  all_goals (try simp only [et1, et2])
                  all_goals rfl
              · rw [if_neg c3]
                simp only [liveRes, nLive, List.length_set]
                clear e hww1 hww2 hwx12
                (refine fnI [ResultVar.cell 6 44, ResultVar.tmp 7] Tryz.func50 ?_; conv => whnf)
                repeat' ((with_reducible (first | refine sCall.of (q1 _) ?_|refine sCall.of (q2 _) ?_|refine sCall.of (qa _) ?_|refine sCall.of (qb _) ?_|refine sW.eq (wm) ?_|refine sW.eq (wa) ?_|refine gHole ?_|refine sI.mk hdl ?_|refine st21 ?_|refine fG.split (fun _ => ?_) (fun _ => ?_)|refine fG.bool (fun _ => ?_) (fun _ => ?_)|refine gD 9 [(2, 8), (8, 11), (8, 18), (2, 20)] ?_)) <;> (try (conv => whnf)))
                all_goals rfl
          · rw [if_neg (by simp [d1])]
            clear e
            (refine fnI [ResultVar.cell 6 44, ResultVar.tmp 7] Tryz.func50 ?_; conv => whnf)
            repeat' ((with_reducible (first | refine sCall.of (q1 _) ?_|refine sCall.of (q2 _) ?_|refine sCall.of (qa _) ?_|refine sCall.of (qb _) ?_|refine sW.eq (wm) ?_|refine sW.eq (wa) ?_|refine st21 ?_|refine fG.split (fun _ => ?_) (fun _ => ?_)|refine fG.bool (fun _ => ?_) (fun _ => ?_)|refine gD 9 [(2, 8), (8, 11), (8, 18), (2, 20)] ?_)) <;> (try (conv => whnf)))
            all_goals rfl
      · rw [decide_eq_false c2] at qb
        rw [show markIs P S W H on cut opn kept a b = (⟨⟨P, S, W, H⟩, on, cut, opn, kept⟩, 2) by unfold markIs; rw [if_pos e, if_neg (fun h => c2 h.2)]]
        (refine fnI [ResultVar.cell 6 44, ResultVar.tmp 7] Tryz.func50 ?_; conv => whnf)
        repeat' ((with_reducible (first | refine sCall.of (q1 _) ?_|refine sCall.of (q2 _) ?_|refine sCall.of (qa _) ?_|refine sCall.of (qb _) ?_|refine st21 ?_|refine fG.split (fun _ => ?_) (fun _ => ?_)|refine fG.bool (fun _ => ?_) (fun _ => ?_)|refine gD 9 [(2, 8), (8, 11), (8, 18), (2, 20)] ?_)) <;> (try (conv => whnf)))
        all_goals rfl
    · rw [decide_eq_false c1] at qa
      rw [show markIs P S W H on cut opn kept a b = (⟨⟨P, S, W, H⟩, on, cut, opn, kept⟩, 2) by unfold markIs; rw [if_pos e, if_neg (fun h => c1 h.1)]]
      (refine fnI [ResultVar.cell 6 44, ResultVar.tmp 7] Tryz.func50 ?_; conv => whnf)
      repeat' ((with_reducible (first | refine sCall.of (q1 _) ?_|refine sCall.of (q2 _) ?_|refine sCall.of (qa _) ?_|refine st21 ?_|refine fG.split (fun _ => ?_) (fun _ => ?_)|refine fG.bool (fun _ => ?_) (fun _ => ?_)|refine gD 9 [(2, 8), (8, 11), (8, 18), (2, 20)] ?_)) <;> (try (conv => whnf)))
      all_goals rfl

end Go.Proofs.YtipfcgbhaalcdaaGreat.Abs
