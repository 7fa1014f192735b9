/- Part 7 of the words by which the law is followed: an interpreter over data trees, proved of the machine, and what functions of this program come to by it. No condition. -/
import Derived.ChangeSame
import Derived.SizedLaws
import Derived.DataReads
import Derived.Carry
import Derived.WideShapes
import Derived.Test.YtldndahfnkbngaaGreatJB6
namespace Go.Proofs.YtldndahfnkbngaaGreat.Abs
open Go Go.Proofs
set_option linter.unusedVariables false
set_option linter.unusedSimpArgs false
attribute [local irreducible] callE
def DRow (b : List Int) (r : Res) : Prop := ∃ (l : List Who) (i h : Int), l.length ≤ 1000 ∧ (0 ≤ i ∧ i ≤ b.length) ∧ r = ⟨.h 2000000 1 0 [] 2 0 l.length, [tWho9 l], [none, some (tCur b i h), none, none, none, none]⟩
theorem sCall.drow {x : Option Res} {b : List Int} {F : Res → Prop} (e : Told x (DRow b)) (h : ∀ (l : List Who) (i h : Int), l.length ≤ 1000 → 0 ≤ i → i ≤ b.length → F ⟨.h 2000000 1 0 [] 2 0 l.length, [tWho9 l], [none, some (tCur b i h), none, none, none, none]⟩) : sCall x F :=
  sCall.ex e fun r hr => by obtain ⟨l, i, h', h1, ⟨h2, h3⟩, rfl⟩ := hr; exact h l i h' h1 h2 h3
structure DW where
  j : Nat
  l : List Who
  o : Nat
  bb : Nat
  f : List Int
  g : Nat
  e : Bool
  d : Bool
  i : Int
  h : Int
theorem drow_mk {b : List Int} {l : List Who} {n : Nat} {i h : Int} (e : l.length = n) (h1 : n ≤ 1000) (h2 : 0 ≤ i) (h3 : i ≤ b.length) : DRow b ⟨.h 2000000 1 0 [] 2 0 n, [tWho9 l], [none, some (tCur b i h), none, none, none, none]⟩ := by
  subst e
  exact ⟨l, i, h, h1, ⟨h2, h3⟩, rfl⟩
theorem gRdS {α β : Type} [Inhabited α] {f : α → β} {l : List α} {i n : Nat} {x : α} {F : β → Prop} (h : F (f (rd (l.set i x) n))) (e : n < l.length := by omega) : fO ((l.set i x).map f)[n]? F := fO.of (map_rd (by rw [List.length_set]; exact e)) h
set_option maxRecDepth 20000 in
set_option maxHeartbeats 16000000 in
theorem ok_spec_l13DrawRow (k : Nat) (b : List Int) (i h : Int) (P : List (List Ins)) (S : List State) (W : List (List Item)) (H : List (List Event)) (hb : Bytes b) (hB : SysB 2000000 P S W H) (h0 : 0 ≤ i := by assumption) (h1 : i ≤ b.length := by assumption) :
    Told (callE PR C (k + 8) 222 [.pt 1000001 0 0 [] 0 0, aSys 2 P S W H] [tB b, tCur b i h, tInsSS P, tStateS S, tItemSS W, tEventSS H]) (DRow b) := by
  have hbl := hb.len
  have q1 := fun k => ok_spec_SysOk k P S W H (hB.mono (by decide))
  cases hs : sysOk P S W H with
  | false =>
    simp only [hs] at q1
    (refine callE_w [ResultVar.tmp 4] rfl Tryz.func222 rfl (by decide +kernel) rfl (by simp) ?_; (conv => whnf))
    repeat' ((with_reducible (first | refine sCall.of (q1 _) ?_|refine st19 ?_|refine fG.split (fun _ => ?_) (fun _ => ?_)|refine fG.bool (fun _ => ?_) (fun _ => ?_))) <;> (try (conv => whnf)))
    exact ⟨[], _, _, by simp, ⟨h0, h1⟩, rfl⟩
  | true =>
    simp only [hs] at q1
    obtain ⟨hI, hP, hS, h200⟩ := sysOk_facts hs
    have hN := hI.n
    have hhl := hI.h
    have hsum : allEv H ≤ 800 := by
      have h1 := allEv_few H (fun q hq => h200 q hq)
      omega
    have q2 := fun (f : List Int) (hf : FOk H f) (p : Nat) (hp : p < H.length) k => ok_spec_l13Can k P S W H f p hP hS hf hp (fun j hj => by have := h200 j hj; omega) (by omega)
    have hj600 : ∀ {f : List Int} {n : Nat}, Reach H f n → n ≤ 800 := fun h => by have := h.le_all; omega
    clear hI
    (refine callE_w [ResultVar.tmp 4] rfl Tryz.func222 rfl (by decide +kernel) rfl (by simp) ?_; (conv => whnf))
    repeat' ((with_reducible (first | refine sCall.of (q1 _) ?_|refine st19 ?_|refine fG.split (fun _ => ?_) (fun _ => ?_)|refine fG.bool (fun _ => ?_) (fun _ => ?_))) <;> (try (conv => whnf)))
    clear q1
    refine loop_rule (ι := DW) (fun y => [(0, .pt 1000001 0 0 [] 0 0), (3, .pt 3 1 0 [] 0 0), (5, .h y.o y.bb 0 [] 2 0 y.l.length), (6, .h 20 1 0 [] 1 0 H.length), (7, i64 (y.j : Nat))])
      (fun y => [(1000000, ⟨0, 0, false, tB b⟩), (1000001, ⟨0, 0, y.d, tCur b y.i y.h⟩), (1000002, ⟨0, 0, false, tInsSS P⟩), (1000003, ⟨0, 0, false, tStateS S⟩), (1000004, ⟨0, 0, false, tItemSS W⟩), (1000005, ⟨0, 0, false, tEventSS H⟩),
        (3, ⟨1, 0, false, .box [.h 1000002 0 0 [] 1 0 P.length, .h 1000003 0 0 [] 4 0 S.length, .h 1000004 0 0 [] 1 0 W.length, .h 1000005 0 0 [] 1 0 H.length]⟩), (20, ⟨1, y.g, y.e, tI9 y.f⟩), (y.o, ⟨y.bb, 0, false, tWho9 y.l⟩)])
      (fun y => 600 - y.j) (fun y => y.j ≤ 600 ∧ Reach H y.f y.l.length ∧ (0 ≤ y.i ∧ y.i ≤ b.length) ∧ (y.o = 12 ∨ y.o = 41)) ⟨0, [], 12, _, List.replicate H.length 0, _, _, _, i, h⟩ fitOk ⟨Nat.zero_le _, .zero, ⟨h0, h1⟩, .inl rfl⟩ (by simp [C]) ?_
    rintro ⟨j, out, o, bb, f, g, e, d, i1, h1'⟩ sl ob ⟨hj, hre, ⟨hi0, hi1⟩, ho⟩
    dsimp only at hj hre hi0 hi1 ho
    have hf := hre.fok
    have hfl := hf.len
    have hol := hj600 hre
    by_cases hjl : j < 600
    · have qb := fun k => ok_Below k b i1 h1' (H.length : Int) hb
      rcases ho with rfl | rfl
      all_goals (try dsimp only [cond_true, cond_false])
      all_goals (conv => whnf)
      all_goals repeat' ((with_reducible (first | refine sCall.cur (qb _) (fun _ _ _ _ _ _ _ => ?_)|refine st19 ?_|refine fG.split (fun _ => ?_) (fun _ => ?_)|refine fG.bool (fun _ => ?_) (fun _ => ?_))) <;> (try (conv => whnf)))
      all_goals
        rename_i x i2 h2 x0 x1 e1 e2
        obtain ⟨p, rfl⟩ : ∃ n : Nat, x = (n : Int) := ⟨x.toNat, by omega⟩
        have hp : p < H.length := by omega
        have hr := hf.rng p hp
        have hlp := h200 p hp
        have et : List.take H.length f = f := List.take_of_length_le (by omega)
        have q3 : ∀ k, callE PR C (k + 4) 141 [aSys 0 P S W H, .h 1000004 0 0 [] 1 0 (List.take H.length f).length, i64 (p : Nat)] [tInsSS P, tStateS S, tItemSS W, tEventSS H, tI (List.take H.length f)] = some ⟨bl (canCome H f p), [], [none, none, none, none, none]⟩ := fun k => by rw [et]; exact q2 f hf p hp k
        cases hc : canCome H f p
      case' inl.false =>
        simp only [hc] at q3
        repeat' ((with_reducible (first | refine sCall.of (q3 _) ?_|refine st19 ?_|refine fG.split (fun _ => ?_) (fun _ => ?_)|refine fG.bool (fun _ => ?_) (fun _ => ?_))) <;> (try (conv => whnf)))
        refine ⟨⟨⟨j + 1, out, 12, _, f, _, _, _, i2, h2⟩, fitOk, ?_, ?_⟩⟩
        · exact ⟨by show j + 1 ≤ 600; omega, hre, ⟨e1, e2⟩, .inl rfl⟩
        · show 600 - (j + 1) < 600 - j; omega
      case' inr.false =>
        simp only [hc] at q3
        repeat' ((with_reducible (first | refine sCall.of (q3 _) ?_|refine st19 ?_|refine fG.split (fun _ => ?_) (fun _ => ?_)|refine fG.bool (fun _ => ?_) (fun _ => ?_))) <;> (try (conv => whnf)))
        refine ⟨⟨⟨j + 1, out, 41, _, f, _, _, _, i2, h2⟩, fitOk, ?_, ?_⟩⟩
        · exact ⟨by show j + 1 ≤ 600; omega, hre, ⟨e1, e2⟩, .inr rfl⟩
        · show 600 - (j + 1) < 600 - j; omega
      case' inl.true | inr.true =>
        simp only [hc] at q3
        repeat' ((with_reducible (first | refine sCall.of (q3 _) ?_|refine st19 ?_|refine fG.split (fun _ => ?_) (fun _ => ?_)|refine fG.bool (fun _ => ?_) (fun _ => ?_))) <;> (try (conv => whnf)))
        refine ⟨⟨⟨j + 1, out ++ [⟨(p : Int), rd f p⟩], 41, _, goOn f p, _, _, _, i2, h2⟩, fitOk, ?_, ?_⟩⟩
        · exact ⟨by show j + 1 ≤ 600; omega, by show Reach H (goOn f p) (out ++ [_]).length; rw [List.length_append]; exact hre.step hp hc, ⟨e1, e2⟩, .inr rfl⟩
        · show 600 - (j + 1) < 600 - j; omega
    · rcases ho with rfl | rfl
      all_goals (try dsimp only [cond_true, cond_false])
      all_goals (conv => whnf)
      all_goals repeat' ((with_reducible (first | refine st19 ?_|refine fG.split (fun _ => ?_) (fun _ => ?_)|refine fG.bool (fun _ => ?_) (fun _ => ?_))) <;> (try (conv => whnf)))
      all_goals
        refine loop_rule (ι := DW) (fun y => [(0, .pt 1000001 0 0 [] 0 0), (3, .pt 3 1 0 [] 0 0), (5, .h y.o y.bb 0 [] 2 0 y.l.length), (6, .h 20 1 0 [] 1 0 H.length), (9, i64 (y.j : Nat))])
          (fun y => [(1000000, ⟨0, 0, false, tB b⟩), (1000001, ⟨0, 0, y.d, tCur b i1 h1'⟩), (1000002, ⟨0, 0, false, tInsSS P⟩), (1000003, ⟨0, 0, false, tStateS S⟩), (1000004, ⟨0, 0, false, tItemSS W⟩), (1000005, ⟨0, 0, false, tEventSS H⟩),
            (3, ⟨1, 0, false, .box [.h 1000002 0 0 [] 1 0 P.length, .h 1000003 0 0 [] 4 0 S.length, .h 1000004 0 0 [] 1 0 W.length, .h 1000005 0 0 [] 1 0 H.length]⟩), (20, ⟨1, y.g, y.e, tI9 y.f⟩), (y.o, ⟨y.bb, 0, false, tWho9 y.l⟩)])
          (fun y => (800 - y.l.length) * 10 + (H.length - y.j)) (fun y => y.j ≤ H.length ∧ Reach H y.f y.l.length ∧ (y.o = 12 ∨ y.o = 41 ∨ y.o = 64)) ⟨0, out, _, _, f, _, _, _, i1, h1'⟩ fitOk ⟨Nat.zero_le _, hre, by first | exact .inl rfl | exact .inr (.inl rfl)⟩ (by simp [C]; omega) ?_
        clear hre hf hfl hol hjl hj
        rintro ⟨j, out, o, bb, f, g, e, d, i2, h2⟩ sl ob ⟨hj, hre, ho⟩
        dsimp only at hj hre ho
        have hf := hre.fok
        have hfl := hf.len
        have hol := hj600 hre
        by_cases hjl : j < H.length
        · have hr := hf.rng j hjl
          have hlp := h200 j hjl
          have et : List.take H.length f = f := List.take_of_length_le (by omega)
          have q3 : ∀ k, callE PR C (k + 4) 141 [aSys 0 P S W H, .h 1000004 0 0 [] 1 0 (List.take H.length f).length, i64 (j : Nat)] [tInsSS P, tStateS S, tItemSS W, tEventSS H, tI (List.take H.length f)] = some ⟨bl (canCome H f j), [], [none, none, none, none, none]⟩ := fun k => by rw [et]; exact q2 f hf j hjl k
          cases hc : canCome H f j with
          | false =>
            simp only [hc] at q3
            rcases ho with rfl | rfl | rfl
            all_goals (try dsimp only [cond_true, cond_false])
            all_goals (conv => whnf)
            all_goals repeat' ((with_reducible (first | refine sCall.of (q3 _) ?_|refine st19 ?_|refine fG.split (fun _ => ?_) (fun _ => ?_)|refine fG.bool (fun _ => ?_) (fun _ => ?_))) <;> (try (conv => whnf)))
            case' inl =>
              refine ⟨⟨⟨j + 1, out, 12, _, f, _, _, _, i2, h2⟩, fitOk, ?_, ?_⟩⟩
            case' inr.inl =>
              refine ⟨⟨⟨j + 1, out, 41, _, f, _, _, _, i2, h2⟩, fitOk, ?_, ?_⟩⟩
            case' inr.inr =>
              refine ⟨⟨⟨j + 1, out, 64, _, f, _, _, _, i2, h2⟩, fitOk, ?_, ?_⟩⟩
            all_goals first
              | (show (800 - out.length) * 10 + (H.length - (j + 1)) < (800 - out.length) * 10 + (H.length - j); omega)
              | exact ⟨by show j + 1 ≤ H.length; omega, hre, .inl rfl⟩
              | exact ⟨by show j + 1 ≤ H.length; omega, hre, .inr (.inl rfl)⟩
              | exact ⟨by show j + 1 ≤ H.length; omega, hre, .inr (.inr rfl)⟩
          | true =>
            simp only [hc] at q3
            have hre2 : Reach H (goOn f j) (out ++ [(⟨(j : Int), rd f j⟩ : Who)]).length := by rw [List.length_append]; exact hre.step hjl hc
            have hol2 := hj600 hre2
            rw [List.length_append, List.length_singleton] at hol2
            rcases ho with rfl | rfl | rfl
            all_goals (try dsimp only [cond_true, cond_false])
            all_goals (conv => whnf)
            all_goals repeat' ((with_reducible (first | refine sCall.of (q3 _) ?_|refine st19 ?_|refine fG.split (fun _ => ?_) (fun _ => ?_)|refine fG.bool (fun _ => ?_) (fun _ => ?_))) <;> (try (conv => whnf)))
            all_goals
              refine ⟨⟨⟨0, out ++ [⟨(j : Int), rd f j⟩], 64, _, goOn f j, _, _, _, i2, h2⟩, fitOk, ?_, ?_⟩⟩
              · exact ⟨Nat.zero_le _, hre2, .inr (.inr rfl)⟩
              · show (800 - (out ++ [_]).length) * 10 + (H.length - 0) < (800 - out.length) * 10 + (H.length - j)
                rw [List.length_append, List.length_singleton]
                omega
        · rcases ho with rfl | rfl | rfl
          all_goals (try dsimp only [cond_true, cond_false])
          all_goals (conv => whnf)
          all_goals repeat' ((with_reducible (first | refine sCall.cur (ok_Below _ _ _ _ _ hb) (fun _ _ _ _ _ _ _ => ?_)|refine sCall.curB (ok_spec_l1Once _ _ _ _ _ hb) (fun _ _ _ _ _ => ?_)|refine gRdS ?_|refine st19 ?_|refine fG.split (fun _ => ?_) (fun _ => ?_)|refine fG.bool (fun _ => ?_) (fun _ => ?_))) <;> (try (conv => whnf)))
          all_goals exact drow_mk (by simp) (by omega) (by assumption) (by assumption)

def DSysRow (r : Res) : Prop := ∃ (P : List (List Ins)) (S : List State) (W : List (List Item)) (H : List (List Event)) (l : List Who), SysB 2000000 P S W H ∧ l.length ≤ 1000 ∧ r = ⟨.tu [nSys 0 P S W H, .h 2000004 1 0 [] 2 0 l.length], [tInsSS9 P, tStateS9 S, tItemSS9 W, tEventSS9 H, tWho9 l], [none]⟩
theorem sCall.sysRow {x : Option Res} {F : Res → Prop} (e : Told x DSysRow) (h : ∀ (P : List (List Ins)) (S : List State) (W : List (List Item)) (H : List (List Event)) (l : List Who), SysB 2000000 P S W H → l.length ≤ 1000 → F ⟨.tu [nSys 0 P S W H, .h 2000004 1 0 [] 2 0 l.length], [tInsSS9 P, tStateS9 S, tItemSS9 W, tEventSS9 H, tWho9 l], [none]⟩) : sCall x F :=
  sCall.ex e fun r hr => by obtain ⟨P, S, W, H, l, h1, h2, rfl⟩ := hr; exact h P S W H l h1 h2
set_option maxRecDepth 20000 in
theorem ok_spec_l13Draw (k : Nat) (b : List Int) (hb : Bytes b) : Told (callE PR C (k + 13) 144 [.h 1000000 0 0 [] 1 0 b.length] [tB b]) DSysRow := by
  have hbl := hb.len
  have z0 : (0 : Int) ≤ 0 := Int.le_refl 0
  have z1 : (0 : Int) ≤ b.length := by omega
  (refine callE_w [ResultVar.cell 2 36, ResultVar.tmp 3] rfl Tryz.func144 rfl (by decide +kernel) rfl (by simp) ?_; (conv => whnf))
  repeat' ((with_reducible (first | refine sCall.newCur (ok_spec_l1New _ b hb.len hb.num) (fun _ => ?_)|refine st19 ?_|refine fG.split (fun _ => ?_) (fun _ => ?_)|refine fG.bool (fun _ => ?_) (fun _ => ?_)|refine gD 3 [(0, 3)] ?_)) <;> (try (conv => whnf)))
  rename_i h
  repeat' ((with_reducible (first | refine sCall.dsys (ok_spec_l6Draw _ b 0 h hb z0 z1) (fun _ _ _ _ _ _ _ _ _ => ?_)|refine st19 ?_|refine fG.split (fun _ => ?_) (fun _ => ?_)|refine fG.bool (fun _ => ?_) (fun _ => ?_)|refine gD 3 [(0, 3)] ?_)) <;> (try (conv => whnf)))
  rename_i P S W H i1 h1 hB a1 a2
  repeat' ((with_reducible (first | refine sCall.drow (ok_spec_l13DrawRow _ _ _ _ _ _ _ _ hb hB) (fun _ _ _ _ _ _ => ?_)|refine st19 ?_|refine fG.split (fun _ => ?_) (fun _ => ?_)|refine fG.bool (fun _ => ?_) (fun _ => ?_)|refine gD 3 [(0, 3)] ?_)) <;> (try (conv => whnf)))
  exact ⟨_, _, _, _, _, hB, by assumption, rfl⟩
theorem ok_spec_DrawRedo (k : Nat) (b : List Int) (hb : Bytes b) : Told (callE PR C (k + 14) 62 [.h 1000000 0 0 [] 1 0 b.length] [tB b]) DSysRow := by
  (refine callE_w [ResultVar.cell 2 36, ResultVar.tmp 3] rfl Tryz.func62 rfl (by decide +kernel) rfl (by simp) ?_; (conv => whnf))
  repeat' ((with_reducible (first | refine sCall.sysRow (ok_spec_l13Draw _ _ hb) (fun _ _ _ _ _ _ _ => ?_)|refine st19 ?_|refine fG.split (fun _ => ?_) (fun _ => ?_)|refine fG.bool (fun _ => ?_) (fun _ => ?_))) <;> (try (conv => whnf)))
  exact ⟨_, _, _, _, _, by assumption, by assumption, rfl⟩
theorem redo_no {P : List (List Ins)} {S : List State} {W : List (List Item)} {H : List (List Event)} {l : List Who} (h : (redoIs P S W H l).2 = false) : (redoIs P S W H l).1 = ⟨[], [], [], []⟩ := by
  have go : ∀ (l : List Who) (X : Sys), (redoGo H l X).2 = false → (redoGo H l X).1 = ⟨[], [], [], []⟩ := by
    intro l
    induction l with
    | nil => intro X h; simp [redoGo] at h
    | cons w r ih =>
      intro X h
      rw [redoGo] at h ⊢
      split
      · rename_i c; rw [if_pos c] at h; exact ih _ h
      · rfl
  unfold redoIs at h ⊢
  split
  · rename_i c; rw [if_pos c] at h; exact go _ _ h
  · rfl
set_option maxRecDepth 20000 in
set_option maxHeartbeats 8000000 in
theorem ok_laws_FnAnyOrder (k : Nat) (b : List Int) (hl : b.length ≤ 140737488355328) (hv : ∀ v ∈ b, 0 ≤ v ∧ v < 256) :
    callE PR C (k + 30) 11 [.h 1000000 0 0 [] 1 0 b.length] [tB b] = some ⟨bl true, [], [none]⟩ := by
  have q0 := fun k => ok_laws_big k b
  by_cases c0 : 1048576 < (b.length : Int)
  · rw [decide_eq_true c0] at q0
    (refine fnI [ResultVar.tmp 2] Tryz.func11 ?_; conv => whnf)
    repeat' ((with_reducible (first | refine sCall.of (q0 _) ?_|refine st19 ?_|refine fG.split (fun _ => ?_) (fun _ => ?_)|refine fG.bool (fun _ => ?_) (fun _ => ?_)|refine gD 6 [(6, 7)] ?_|refine gD 15 [(5, 7), (5, 10)] ?_)) <;> (try (conv => whnf)))
  · rw [decide_eq_false c0] at q0
    have hb : Bytes b := ⟨by omega, hv⟩
    (refine fnI [ResultVar.tmp 2] Tryz.func11 ?_; conv => whnf)
    repeat' ((with_reducible (first | refine sCall.of (q0 _) ?_|refine sCall.sysRow (ok_spec_DrawRedo _ _ hb) (fun _ _ _ _ _ _ _ => ?_)|refine st19 ?_|refine fG.split (fun _ => ?_) (fun _ => ?_)|refine fG.bool (fun _ => ?_) (fun _ => ?_)|refine gD 6 [(6, 7)] ?_|refine gD 15 [(5, 7), (5, 10)] ?_)) <;> (try (conv => whnf)))
    rename_i P S W H l hB hl2
    have q1 := fun k => ok_impl_Redo k P S W H l (hB.mono (by decide)) (by omega)
    have q2 := fun k => ok_spec_Redo k P S W H l (hB.mono (by decide)) (by omega)
    have q3 := fun k => ok_impl_RowOk k P S W H l (hB.mono (by decide)) (by omega)
    have q4 := fun k => ok_spec_RowOk k P S W H l (hB.mono (by decide)) (by omega)
    have hno := @redo_no P S W H l
    have hyes := @redo_same P S W H l
    have hro : (redoIs P S W H l).2 = true → rowOkB P S W H l = true := fun h => by
      unfold redoIs at h
      split at h
      · assumption
      · cases h
    generalize redoIs P S W H l = X at *
    obtain ⟨⟨P', S', W', H'⟩, t⟩ := X
    simp only [redoRes] at q1 q2
    dsimp only at hno hyes hro
    generalize rowOkB P S W H l = ro at *
    cases t with
    | false =>
      cases hno rfl
      cases ro
      all_goals repeat' ((with_reducible (first | refine sCall.of (q1 _) ?_|refine sCall.of (q2 _) ?_|refine sCall.of (q3 _) ?_|refine sCall.of (q4 _) ?_|refine st19 ?_|refine fG.split (fun _ => ?_) (fun _ => ?_)|refine fG.bool (fun _ => ?_) (fun _ => ?_)|refine gD 6 [(6, 7)] ?_|refine gD 15 [(5, 7), (5, 10)] ?_)) <;> (try (conv => whnf)))
      all_goals rfl
    | true =>
      obtain ⟨hs, hs', rfl, rfl, hw⟩ := hyes rfl
      have hG := (sysOk_G hs').b
      have hhl : H'.length ≤ 1048576 := hG.h
      have hsl : S'.length ≤ 1048576 := hG.s
      have hwl : W'.length ≤ 1048576 := hG.w
      have hww : ∀ j : Nat, j < W'.length → (rd W' j).length ≤ 1048576 := hG.ww
      have hwB := hB.w
      have hww2 := hB.ww
      have hI := (sysOk_facts hs).1
      have hI' := (sysOk_facts hs').1
      have ewl : W.length = W'.length := by rw [hI.w, hI'.w, ← hI.h, hI'.h]
      have q5 := fun k => ok_laws_sameHist k P' P S' S' W' W H' (by omega) (fun q hq => by have := hG.hh q hq; dsimp only at this; omega)
      have q6 := fun k => ok_laws_sameStates k P' P S' W' W H' H' (by omega) (fun q hq => by have := hG.ss q hq; dsimp only at this; omega)
      have q7 := fun k => ok_impl_SysOk k P' S' W' H' (hG.mono (by decide))
      rw [hs'] at q7
      have hr := hro rfl
      subst hr
      clear hno hyes hro
      repeat' ((with_reducible (first | refine sCall.of (q1 _) ?_|refine sCall.of (q2 _) ?_|refine sCall.of (q3 _) ?_|refine sCall.of (q4 _) ?_|refine sCall.of (q5 _) ?_|refine sCall.of (q6 _) ?_|refine st19 ?_|refine fG.split (fun _ => ?_) (fun _ => ?_)|refine fG.bool (fun _ => ?_) (fun _ => ?_)|refine gD 6 [(6, 7)] ?_|refine gD 15 [(5, 7), (5, 10)] ?_)) <;> (try (conv => whnf)))
      refine loop_rule (ι := Nat) (fun j => [(3, .pt 3 1 0 [] 0 0), (5, .pt 5 1 0 [] 0 0), (9, i64 (j : Nat))])
        (fun _ => [(3, ⟨1, 0, true, .box [.h 10014 1 0 [] 1 0 P.length, .h 20014 1 0 [] 4 0 S'.length, .h 30014 1 0 [] 1 0 W.length, .h 40014 1 0 [] 1 0 H'.length]⟩), (30014, ⟨1, 0, false, tItemSS9 W⟩),
          (5, ⟨1, 0, true, .box [.h 10020 1 0 [] 1 0 P'.length, .h 20020 1 0 [] 4 0 S'.length, .h 30020 1 0 [] 1 0 W'.length, .h 40020 1 0 [] 1 0 H'.length]⟩), (10020, ⟨1, 0, false, tInsSS9 P'⟩), (20020, ⟨1, 0, false, tStateS9 S'⟩), (30020, ⟨1, 0, false, tItemSS9 W'⟩), (40020, ⟨1, 0, false, tEventSS9 H'⟩)])
        (fun j => W.length - j) (fun j => j ≤ W.length) 0 fitOk (Nat.zero_le _) (by simp [C]; omega) ?_
      clear q1 q2 q3 q4 q5 q6
      rintro j sl ob hj
      by_cases hjl : j < W.length
      · have e := hw j hjl
        have b1 := hww j (by omega)
        have b2 := hww2 j hjl
        have e1 : (List.map rItem (rd W' j)).length = (rd W' j).length := by simp
        have e2 : (List.map rItem (rd W j)).length = (rd W j).length := by simp
        have q8 := fun k => ok_impl_Numbers k (rd W' j) (by omega)
        have q9 := fun k => ok_impl_Numbers k (rd W j) (by omega)
        have n1 : (numbersOf (rd W j)).length ≤ (rd W j).length := by
          unfold numbersOf
          rw [List.length_map]
          exact List.length_filter_le _ _
        rw [e] at q8
        have q10 := fun k => ok_laws_sameInts k (numbersOf (rd W j)) (numbersOf (rd W j)) (by omega) (by omega)
        rw [decide_eq_true rfl] at q10
        generalize numbersOf (rd W j) = N at *
        (try dsimp only [cond_true, cond_false])
        (conv => whnf)
        repeat' ((with_reducible (first | refine sCall.of (q8 _) ?_|refine sCall.of (q9 _) ?_|refine sCall.of (q10 _) ?_|refine st19 ?_|refine fG.split (fun _ => ?_) (fun _ => ?_)|refine fG.bool (fun _ => ?_) (fun _ => ?_)|refine gD 6 [(6, 7)] ?_|refine gD 15 [(5, 7), (5, 10)] ?_)) <;> (try (conv => whnf)))
        refine ⟨⟨j + 1, fitOk, ?_, ?_⟩⟩
        · show j + 1 ≤ _; omega
        · show W.length - (j + 1) < W.length - j; omega
      · (try dsimp only [cond_true, cond_false])
        (conv => whnf)
        repeat' ((with_reducible (first | refine sCall.of (q7 _) ?_|refine st19 ?_|refine fG.split (fun _ => ?_) (fun _ => ?_)|refine fG.bool (fun _ => ?_) (fun _ => ?_)|refine gD 6 [(6, 7)] ?_|refine gD 15 [(5, 7), (5, 10)] ?_)) <;> (try (conv => whnf)))

end Go.Proofs.YtldndahfnkbngaaGreat.Abs
namespace Go.Proofs.YtldndahfnkbngaaGreat.Abs
open Go Go.Proofs
set_option linter.unusedVariables false
set_option linter.unusedSimpArgs false
attribute [local irreducible] callE
def DUntil (r : Res) : Prop := ∃ (P : List (List Ins)) (S : List State) (W : List (List Item)) (H : List (List Event)) (l : List Who) (p kind v : Int), SysB 2000000 P S W H ∧ l.length ≤ 40 ∧ r = ⟨.tu [nSys 0 P S W H, .h 2000004 1 0 [] 2 0 l.length, aStop p kind v], [tInsSS9 P, tStateS9 S, tItemSS9 W, tEventSS9 H, tWho9 l], [none]⟩
structure UL where
  j : Nat
  X : Sys
  o : Nat
  b0 : Nat
  b1 : Nat
  b2 : Nat
  b3 : Nat
  dd : Bool
end Go.Proofs.YtldndahfnkbngaaGreat.Abs
namespace Go.Proofs.YtldndahfnkbngaaGreat.Abs
open Go Go.Proofs
set_option linter.unusedVariables false
set_option linter.unusedSimpArgs false
attribute [local irreducible] callE
def cutB (H : List (List Event)) (c : List Int) : Bool := decide (c.length = H.length) && allBelow H.length fun q => decide (0 ≤ rd c q ∧ rd c q ≤ ((rd H q).length : Int))
def okCut (P : List (List Ins)) (S : List State) (W : List (List Item)) (H : List (List Event)) (c : List Int) : Bool := sysOk P S W H && cutB H c
def okWhole (P : List (List Ins)) (S : List State) (W : List (List Item)) (H : List (List Event)) (c : List Int) : Bool := okCut P S W H c && wholeB H c
def atIs (P : List (List Ins)) (S : List State) (W : List (List Item)) (H : List (List Event)) (c : List Int) : Bool := okWhole P S W H c && waysFit (cutH H c) P.length
def atR (P : List (List Ins)) (S : List State) (W : List (List Item)) (H : List (List Event)) (c : List Int) (b : List (Option Cont)) : Res := if atIs P S W H c = true then atRes P (cutH H c) b else zeroRes b
def DCut (b : List Int) (r : Res) : Prop := ∃ (c : List Int) (i h : Int), c.length ≤ 2000001 ∧ (0 ≤ i ∧ i ≤ b.length) ∧ r = ⟨.h 2000000 1 0 [] 1 0 c.length, [tI9 c], [none, some (tCur b i h), none, none, none, none]⟩
structure DC where
  j : Nat
  l : List Int
  o : Nat
  bb : Nat
  d : Bool
  i : Int
  h : Int
def DSysCut (r : Res) : Prop := ∃ (P : List (List Ins)) (S : List State) (W : List (List Item)) (H : List (List Event)) (c : List Int), SysB 2000000 P S W H ∧ c.length ≤ 2000001 ∧ r = ⟨.tu [nSys 0 P S W H, .h 2000004 1 0 [] 1 0 c.length], [tInsSS9 P, tStateS9 S, tItemSS9 W, tEventSS9 H, tI9 c], [none]⟩
def mx (f c : List Int) : List Int := (List.range f.length).map fun q => if rd f q < rd c q then rd c q else rd f q
structure MO where
  j : Nat
  f : List Int
  X : Sys
  o : Nat
  b0 : Nat
  b1 : Nat
  b2 : Nat
  b3 : Nat
  dd : Bool
  o1 : Ob
  o2 : Ob
end Go.Proofs.YtldndahfnkbngaaGreat.Abs
namespace Go.Proofs.YtldndahfnkbngaaGreat.Abs
open Go
set_option linter.unusedVariables false

def Opens (P : Program) (t : TypeId) (n : Nat) (M : List T → Prop) : Prop :=
  ∀ (H : Type) (enc : TypeId × Value → H) (w : World) (base : Nat) (sp : Nat → Bool) (held : Bool) (fuel : Nat) (cs : List Value) (x : DataW H × List MemPlace),
    DataW.trod enc P w base sp held fuel t cs = some x → (∀ m ∈ x.1.weights P t, m ≤ reachBytes) →
      cs.length = n ∧ ∃ ts : List T, ts.length = n ∧ M ts ∧ ∀ (i : Nat) v t', cs[i]? = some v → ts[i]? = some t' → Ow (fun k => k < w.heap.size) w 0 v t' none_
theorem Opens.mono {P : Program} {t : TypeId} {n : Nat} {M M' : List T → Prop} (h : Opens P t n M) (hm : ∀ ts, M ts → M' ts) : Opens P t n M' := by
  intro H enc w base sp held fuel cs x hx hw
  obtain ⟨h1, ts, h2, h3, h4⟩ := h H enc w base sp held fuel cs x hx hw
  exact ⟨h1, ts, h2, hm _ h3, h4⟩
theorem one_ow {w : World} {v0 : Value} {t0 : T} (h : Ow (fun k => k < w.heap.size) w 0 v0 t0 none_) : ∀ (i : Nat) v t', [v0][i]? = some v → [t0][i]? = some t' → Ow (fun k => k < w.heap.size) w 0 v t' none_ := by
  rintro (_ | i) v t' h1 h2
  · simp at h1 h2; subst h1; subst h2; exact h
  · simp at h1
theorem Opens.int {P : Program} {t : TypeId} {k : IntKind} (ht : P.underlying t = some (.int k)) : Opens P t 1 (fun ts => ∃ n, (Lit.int k n).wf = true ∧ ts = [.v (.int k n)]) := by
  intro H enc w base sp held fuel cs x hx hw
  obtain ⟨n, rfl, rfl, h⟩ := DataW.trod_int ht hx
  exact ⟨rfl, _, rfl, ⟨n, h, rfl⟩, one_ow (.v rfl)⟩
theorem Opens.bool {P : Program} {t : TypeId} (ht : P.underlying t = some .bool) : Opens P t 1 (fun ts => ∃ b, ts = [.v (.bool b)]) := by
  intro H enc w base sp held fuel cs x hx hw
  obtain ⟨b, rfl, rfl⟩ := DataW.trod_bool ht hx
  exact ⟨rfl, _, rfl, ⟨b, rfl⟩, one_ow (.v rfl)⟩
theorem Opens.str {P : Program} {t : TypeId} (ht : P.underlying t = some .string) : Opens P t 1 (fun ts => ∃ s : ByteArray, s.size ≤ reachBytes ∧ ts = [.v (.string s)]) := by
  intro H enc w base sp held fuel cs x hx hw
  obtain ⟨s, rfl, rfl, h⟩ := DataW.trod_string ht hx
  refine ⟨rfl, _, rfl, ⟨s, ?_, rfl⟩, one_ow (.v rfl)⟩
  have := hw s.data.toList.length (by simp [DataW.weights])
  simpa using this
def Parts (P : Program) : List Field → Nat → Nat → (List T → Prop) → Prop
  | [], _, n, M => n = 0 ∧ M []
  | f :: r, off, n, M => f.offset = off ∧ ∃ n1 n2 M1 M2, P.cellsOf f.type = n1 ∧ Opens P f.type n1 M1 ∧ Parts P r (off + n1) n2 M2 ∧ n = n1 + n2 ∧ ∀ a b, M1 a → M2 b → M (a ++ b)
theorem weights_part {P : Program} {H : Type} {ts : List TypeId} : ∀ {ds : List (DataW H)} {R : Nat}, (∀ m ∈ DataW.weightsEach P ts ds, m ≤ R) → ∀ (j : Nat) t d, ts[j]? = some t → ds[j]? = some d → ∀ m ∈ d.weights P t, m ≤ R :=
  fun h j t d ht hd m hm => h m (DataW.weights_mem_each ht hd m hm)
theorem Parts.opens {P : Program} {H : Type} {enc : TypeId × Value → H} {w : World} {base : Nat} {sp : Nat → Bool} {held : Bool} {fuel : Nat} {cs : List Value} : ∀ {fs : List Field} {off n : Nat} {M : List T → Prop}, Parts P fs off n M → off + n = cs.length →
    (∀ f ∈ fs, ∃ x, DataW.trod enc P w base sp held fuel f.type ((cs.drop f.offset).take (P.cellsOf f.type)) = some x ∧ (∀ m ∈ x.1.weights P f.type, m ≤ reachBytes)) →
    ∃ ts : List T, ts.length = n ∧ M ts ∧ ∀ (i : Nat) v t', cs[off + i]? = some v → ts[i]? = some t' → Ow (fun k => k < w.heap.size) w 0 v t' none_ := by
  intro fs
  induction fs with
  | nil =>
    intro off n M h hl _
    exact ⟨[], h.1.symm, h.2, fun i v t' _ h2 => by simp at h2⟩
  | cons f r ih =>
    intro off n M h hl hx
    obtain ⟨rfl, n1, n2, M1, M2, h1, h2, h3, rfl, h4⟩ := h
    obtain ⟨x, hx1, hx2⟩ := hx f (by simp)
    rw [h1] at hx1
    obtain ⟨k1, t1, k2, k3, k4⟩ := h2 H enc w base sp held fuel _ x hx1 hx2
    obtain ⟨t2, q1, q2, q3⟩ := ih h3 (by omega) fun g hg => hx g (by simp [hg])
    refine ⟨t1 ++ t2, by simp [k2, q1], h4 _ _ k3 q2, fun i v t' hv ht' => ?_⟩
    by_cases hi : i < n1
    · rw [List.getElem?_append_left (by omega)] at ht'
      exact k4 i v t' (by rw [List.getElem?_take, if_pos hi, List.getElem?_drop]; exact hv) ht'
    · rw [List.getElem?_append_right (by omega), k2] at ht'
      exact q3 (i - n1) v t' (by rw [show f.offset + n1 + (i - n1) = f.offset + i by omega]; exact hv) ht'
theorem Opens.struct {P : Program} {t : TypeId} {fs : Array Field} {n : Nat} {M : List T → Prop} (ht : P.underlying t = some (.struct fs)) (hc : P.cellsOf t = n) (hp : Parts P fs.toList 0 n M) : Opens P t n M := by
  intro H enc w base sp held fuel cs x hx hw
  obtain ⟨xs, m, _, rfl, hl, hlen, hf⟩ := DataW.trod_struct ht hx
  have hl' : cs.length = n := hl.trans hc
  obtain ⟨ts, h1, h2, h3⟩ := hp.opens (enc := enc) (w := w) (base := base) (sp := sp) (held := held) (fuel := m) (cs := cs) (by omega) (by
    intro f hfm
    obtain ⟨i, hi⟩ := List.getElem?_of_mem hfm
    have hi' : fs[i]? = some f := by simpa using hi
    have hlt : i < xs.length := by rw [hlen]; exact (Array.getElem?_eq_some_iff.1 hi').1
    have hy : xs[i]? = some xs[i] := List.getElem?_eq_getElem hlt
    refine ⟨xs[i], (hf i f hi').trans hy, ?_⟩
    refine weights_part (ts := fs.toList.map (·.type)) (ds := xs.map (·.1)) ?_ i f.type xs[i].1 (by simp [hi']) (by rw [List.getElem?_map, hy]; rfl)
    intro q hq
    refine hw q ?_
    simpa [DataW.weights, ht] using hq)
  exact ⟨hl', ts, h1, h2, fun i v t' hv ht' => h3 i v t' (by simpa using hv) ht'⟩
def IntsM (n : Nat) (ts : List T) : Prop := ∃ zs : List Int, zs.length = n ∧ ts = zs.map fun z => T.v (.int .i64 z)
theorem Parts.nil {P : Program} {off : Nat} : Parts P [] off 0 (IntsM 0) := ⟨rfl, [], rfl, rfl⟩
theorem Parts.int {P : Program} {f : Field} {r : List Field} {off n : Nat} (ho : f.offset = off) (hc : P.cellsOf f.type = 1) (ht : P.underlying f.type = some (.int .i64)) (h : Parts P r (off + 1) n (IntsM n)) :
    Parts P (f :: r) off (1 + n) (IntsM (1 + n)) := by
  refine ⟨ho, 1, n, _, _, hc, Opens.int ht, h, rfl, ?_⟩
  rintro a b ⟨z, _, rfl⟩ ⟨zs, hz, rfl⟩
  exact ⟨z :: zs, by simp [hz]; omega, rfl⟩
def Ms : List (List T → Prop) → List T → Prop
  | [], ts => ts = []
  | M :: r, ts => ∃ a b, ts = a ++ b ∧ M a ∧ Ms r b
theorem Parts.mnil {P : Program} {off : Nat} : Parts P [] off 0 (Ms []) := ⟨rfl, rfl⟩
theorem Parts.mcons {P : Program} {f : Field} {r : List Field} {off n1 n : Nat} {M : List T → Prop} {l : List (List T → Prop)} (ho : f.offset = off) (hc : P.cellsOf f.type = n1) (ht : Opens P f.type n1 M) (h : Parts P r (off + n1) n (Ms l)) :
    Parts P (f :: r) off (n1 + n) (Ms (M :: l)) :=
  ⟨ho, n1, n, _, _, hc, ht, h, rfl, fun a b ha hb => ⟨a, b, rfl, ha, hb⟩⟩

theorem rows_map {α : Type} {f : α → List T} {p : α → Prop} {rows : List (List T)} (h : ∀ r ∈ rows, ∃ x, p x ∧ r = f x) : ∃ l : List α, rows = l.map f ∧ ∀ x ∈ l, p x := by
  induction rows with
  | nil => exact ⟨[], rfl, by simp⟩
  | cons r rows ih =>
    obtain ⟨x, hx, rfl⟩ := h r (by simp)
    obtain ⟨l, rfl, hl⟩ := ih fun q hq => h q (by simp [hq])
    exact ⟨x :: l, rfl, by simpa using ⟨hx, hl⟩⟩
theorem weights_all {P : Program} {H : Type} {e : TypeId} {d : DataW H} : ∀ {l : List (DataW H)}, d ∈ l → ∀ m ∈ d.weights P e, m ∈ DataW.weightsAll P e l
  | a :: r, hd, m, hm => by
    simp only [DataW.weightsAll, List.mem_append]
    rcases List.mem_cons.1 hd with rfl | hd
    · exact .inl hm
    · exact .inr (weights_all hd m hm)
theorem Opens.slice {P : Program} {t e : TypeId} {sz B : Nat} {M : List T → Prop} (ht : P.underlying t = some (.slice e)) (hc : P.cellsOf e = sz) (hB : P.bytesOf e = B) (hsz : 0 < sz) (hE : Opens P e sz M) :
    Opens P t 1 (fun ts => ∃ rows, ts = [.sl sz rows] ∧ (∀ x ∈ rows, M x) ∧ rows.length * B ≤ reachBytes) := by
  intro H enc w base sp held fuel cs0 x hx hw
  rcases DataW.trod_slice ht hx with ⟨rfl, _⟩ | ⟨a, len, cap, elems, rest, n, _, rfl, rfl, _, hl, _, hlen, hel, _⟩
  · exact ⟨rfl, _, rfl, ⟨[], rfl, by simp, by simp⟩, one_ow .nil⟩
  · have hw1 : (elems.length + rest.length) * B ≤ reachBytes := by
      have := hw ((elems.length + rest.length) * P.bytesOf e) (by simp [DataW.weights, ht])
      rwa [hB] at this
    have hcell : ∀ i : Nat, ∃ q : List Value × List T, i < len → q.1.length = sz ∧ q.2.length = sz ∧ M q.2 ∧ (∀ j, j < sz → w.cell? ((a.add (i * sz)).add j) = q.1[j]?) ∧
        ∀ (j : Nat) v t', q.1[j]? = some v → q.2[j]? = some t' → Ow (fun k => k < w.heap.size) w 0 v t' none_ := by
      intro i
      by_cases hi : i < len
      · have hy : elems[i]? = some (elems[i]'(by omega)) := List.getElem?_eq_getElem (by omega)
        have h1 := hel i hi
        rw [hy, hc, Option.bind_eq_some_iff] at h1
        obtain ⟨cs, hcs, htr⟩ := h1
        obtain ⟨k1, ts, k2, k3, k4⟩ := hE H enc w base sp held n cs _ htr (by
          intro m hm
          refine hw m ?_
          have := weights_all (P := P) (e := e) (l := elems.map (·.1)) (List.mem_map_of_mem (List.getElem_mem (by omega : i < elems.length))) m hm
          simp [DataW.weights, ht, this])
        obtain ⟨_, g1, g2⟩ := World.cells?_some hcs
        exact ⟨(cs, ts), fun _ => ⟨k1, k2, k3, g2, k4⟩⟩
      · exact ⟨([], []), fun h => absurd h hi⟩
    obtain ⟨c, hc2⟩ := Classical.axiomOfChoice hcell
    have hblk : 0 < len → a.block < w.heap.size := by
      intro h0
      obtain ⟨k1, k2, k3, k4, k5⟩ := hc2 0 h0
      have h1 := k4 0 hsz
      have h2 : (c 0).1[0]? = some ((c 0).1[0]'(by omega)) := List.getElem?_eq_getElem (by omega)
      rw [h2] at h1
      by_cases hlt : a.block < w.heap.size
      · exact hlt
      · unfold World.cell? at h1
        rw [add_block, add_block, Array.getElem?_eq_none (by omega)] at h1
        simp at h1
    have hat : ∀ i j t', cellT ((List.range len).map fun i => (c i).2) i j = some t' → i < len ∧ (c i).2[j]? = some t' := by
      intro i j t' h'
      unfold cellT at h'
      rw [List.getElem?_map] at h'
      by_cases hi : i < len
      · have hr : (List.range len)[i]? = some i := by simp [hi]
        rw [hr] at h'
        exact ⟨hi, by simpa using h'⟩
      · have hr : (List.range len)[i]? = none := by simp; omega
        rw [hr] at h'
        simp at h'
    refine ⟨rfl, [.sl sz ((List.range len).map fun i => (c i).2)], rfl, ⟨_, rfl, ?_, ?_⟩, one_ow ?_⟩
    · intro x hx
      obtain ⟨i, hi, rfl⟩ := List.mem_map.1 hx
      exact (hc2 i (List.mem_range.1 hi)).2.2.1
    · rw [List.length_map, List.length_range]
      exact Nat.le_trans (Nat.mul_le_mul_right _ (by omega)) hw1
    · have hro := Ow.ro (Z := fun k => k < w.heap.size) (w := w) (a := a) (c := cap) (rows := (List.range len).map fun i => (c i).2) (sz := sz) (fun i j => (c i).1.getD j undef) (by simpa using hl)
        (by
          intro r hr
          obtain ⟨i, hi, rfl⟩ := List.mem_map.1 hr
          exact (hc2 i (List.mem_range.1 hi)).2.1) (fun hne => hblk (by
            rcases Nat.eq_zero_or_pos len with h0 | h0
            · subst h0; exact absurd rfl hne
            · exact h0))
        (by
          intro i j t' h'
          obtain ⟨hi, hj⟩ := hat i j t' h'
          obtain ⟨k1, k2, k3, k4, k5⟩ := hc2 i hi
          have hj' : j < sz := by rw [← k2]; exact (List.getElem?_eq_some_iff.1 hj).1
          rw [← Addr.add_add, k4 j hj', List.getElem?_eq_getElem (by omega)]
          simp [List.getD, show j < (c i).1.length by omega])
        (by
          intro i j t' h'
          obtain ⟨hi, hj⟩ := hat i j t' h'
          obtain ⟨k1, k2, k3, k4, k5⟩ := hc2 i hi
          have hj' : j < sz := by rw [← k2]; exact (List.getElem?_eq_some_iff.1 hj).1
          refine k5 j _ t' ?_ hj
          rw [List.getElem?_eq_getElem (by omega)]
          simp [List.getD, show j < (c i).1.length by omega])
      simpa using hro
theorem Opens.one {P : Program} {t : TypeId} {M : List T → Prop} (h : Opens P t 1 M) {H : Type} {enc : TypeId × Value → H} {w : World} {base : Nat} {sp : Nat → Bool} {held : Bool} {v : Value} {d : DataW H} {ps : List MemPlace}
    (hv : v.cells.toList = [v]) (hd : DataW.Trod enc P w base sp held t v d ps) (hw : ∀ m ∈ d.weights P t, m ≤ reachBytes) : ∃ t', M [t'] ∧ Ow (fun k => k < w.heap.size) w 0 v t' none_ := by
  obtain ⟨fuel, hf⟩ := hd
  rw [hv] at hf
  obtain ⟨_, ts, h1, h2, h3⟩ := h H enc w base sp held fuel _ _ hf hw
  obtain ⟨t', rfl⟩ := List.length_eq_one_iff.1 h1
  exact ⟨t', h2, h3 0 v t' rfl rfl⟩
end Go.Proofs.YtldndahfnkbngaaGreat.Abs
namespace Go.Proofs.YtldndahfnkbngaaGreat.Abs
open Go Go.RowKit
set_option linter.unusedVariables false

theorem Ow.slice_inv {Z : Fp} {w : World} {v : Value} {sz : Nat} {rows : List (List T)} {F : Fp} {l : Nat} (h : Ow Z w l v (.sl sz rows) F) :
    (v = .slice none 0 0 ∧ rows = []) ∨ ∃ a c, v = .slice (some a) rows.length c ∧ rows.length ≤ c := by
  cases h with
  | nil => exact .inl ⟨rfl, rfl⟩
  | ro xs hc hs hz hx ht => exact .inr ⟨_, _, rfl, hc⟩
  | own xs F hb hfr hc hoff hmax hs hx ht hF hnb hd => exact .inr ⟨_, _, rfl, hc⟩
theorem arg_slice {Z : Fp} {w : World} {ob : Objs} {ρ : Nat → Value} {o sz : Nat} {rows : List (List T)} {v : Value} (h1 : ob o = ⟨0, 0, false, .tree 0 (.sl sz rows)⟩) (h2 : ρ o = v) (h3 : Ow Z w 0 v (.sl sz rows) none_) :
    AVR w ob ρ (.h o 0 0 [] sz 0 rows.length) v := by
  have hin := h3.slice_inv
  refine .h ?_ ?_ fun _ => ?_
  · rw [h1]; exact ⟨Nat.le_refl _, fun _ h => absurd rfl h⟩
  · rcases hin with ⟨rfl, rfl⟩ | ⟨a, c, rfl, hc⟩
    · exact ⟨none, 0, rfl, Nat.le_refl _, fun _ => rfl⟩
    · exact ⟨some a, c, rfl, hc, fun h => by cases h⟩
  · rw [h1, h2]
    refine ⟨fun cells h => by (dsimp only at h; cases h), fun lvl t hc => ?_⟩
    dsimp only at hc
    cases hc
    refine ⟨v, rows, .here, by omega, ?_⟩
    rcases hin with ⟨rfl, rfl⟩ | ⟨a, c, rfl, hc⟩
    · exact .inl ⟨rfl, rfl, rfl, rfl⟩
    · refine .inr ⟨a, rows.length, c, 0, c, rfl, ?_, hc, by omega, Nat.le_refl _, fun _ => rfl⟩
      rw [Nat.zero_mul]
      cases a with
      | mk b off s => cases s <;> simp [Addr.add]
theorem FnOk.outside {P : Program} {W : World} {f : FuncId} {args : List AV} {conts : List Cont} {r : Res} (h : FnOk P f args conts r) (vals : List Value)
    (ho : ∀ (i : Nat) c, conts[i]? = some c → ∃ t v, c = .tree 0 t ∧ vals[i]? = some v ∧ Ow (fun k => k < W.heap.size) W 0 v t none_) (vs : Array Value) (hs : vs.size = args.length)
    (hA : ∀ (i : Nat) x, args[i]? = some x → AVR W (obIn conts) (fun o => vals.getD (o - 1000000) undef) x (vs.getD i undef)) :
    Calls P f vs W (fun e w' => ∃ v, e = .returned v ∧ Below W.heap.size W w' ∧ ∃ ob' ρ', AVR w' ob' ρ' r.v v) := by
  have hI : OInv W none_ (obIn conts) W (fun o => vals.getD (o - 1000000) undef) (fun _ => none_) (fun k => k < W.heap.size) := by
    refine ⟨Keep.refl _ _, fun k hk _ => hk, fun k hk => hk, fun o k hk => hk.elim, fun o o' k hk => hk.elim, fun o k hk => hk.elim, fun o => ?_⟩
    unfold ObOk
    by_cases h1 : 1000000 ≤ o
    · simp only [obIn, h1, if_true]
      cases hc : conts[o - 1000000]? with
      | none =>
        have e : conts.getD (o - 1000000) .dead = .dead := by simp [List.getD, hc]
        rw [e]
        exact fun k hk => hk
      | some c =>
        obtain ⟨t, v, rfl, hv, how⟩ := ho _ _ hc
        have e : conts.getD (o - 1000000) .dead = .tree 0 t := by simp [List.getD, hc]
        have e2 : vals.getD (o - 1000000) undef = v := by simp [List.getD, hv]
        rw [e, e2]
        exact how
    · simp only [obIn, h1, if_false]
      exact fun k hk => hk
  have hr := h.run W none_ _ _ _ vs hI (fun k _ hk => hk) hs hA
  intro cs
  obtain ⟨e, w', fr, hR, hC, hfn, hl⟩ := hr cs
  refine ⟨e, w', fr, ?_, hC, hfn, hl⟩
  cases e with
  | returned v =>
    obtain ⟨ρ', φ', Z', hst, hav⟩ := hR
    exact ⟨v, rfl, ⟨hst.inv.keep.os, hst.inv.keep.tape, hst.inv.keep.output, hst.inv.keep.size, fun k hk => hst.inv.keep.block k hk id⟩, _, _, hav⟩
  | _ => exact hR.elim
theorem AVR.bool_inv {w : World} {ob : Objs} {ρ : Nat → Value} {b : Bool} {v : Value} (h : AVR w ob ρ (.s (.bool b)) v) : v = .bool b := by
  cases h; rfl
end Go.Proofs.YtldndahfnkbngaaGreat.Abs
