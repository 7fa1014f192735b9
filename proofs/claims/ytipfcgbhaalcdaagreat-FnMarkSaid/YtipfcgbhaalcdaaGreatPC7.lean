/- Part 7 of the words by which the law is followed: an interpreter over data trees, proved of the machine, and what functions of this program come to by it. No condition. -/
import Derived.ChangeSame
import Derived.SizedLaws
import Derived.DataReads
import Derived.Carry
import Derived.WideShapes
import Derived.Test.YtipfcgbhaalcdaaGreatPC6
namespace Go.Proofs.YtipfcgbhaalcdaaGreat.Abs
open Go Go.Proofs
set_option linter.unusedVariables false
set_option linter.unusedSimpArgs false
attribute [local irreducible] callE
theorem sysOk_ways {P : List (List Ins)} {S : List State} {W W' : List (List Item)} {H : List (List Event)} (h : sysOk P S W H = true) (hl : W'.length = W.length) (hw : ∀ i, i < W.length → wayOk (rd W' i) = true ∧ numbersOf (rd W' i) = numbersOf (rd W i)) : sysOk P S W' H = true := by
  simp only [sysOk, sizesOk, Bool.and_eq_true, decide_eq_true_eq, allBelow_eq, List.all_eq_true] at h ⊢
  obtain ⟨⟨a1, a2, a3, a4⟩, b1, b2, b3, b4⟩ := h
  refine ⟨⟨a1, a2, a3, by rw [hl]; exact a4⟩, fun w hw' => ?_, b2, fun a ha b hb => ?_, b4⟩
  · obtain ⟨i, hi, rfl⟩ := mem_rd hw'
    exact (hw i (by omega)).1
  · have h3 := b3 a ha b hb
    have hpl := place_lt ha hb
    simp only [fits, decide_eq_true_eq] at h3 ⊢
    rw [(hw _ (by omega)).2]
    exact h3
theorem way_ok {P : List (List Ins)} {S : List State} {W : List (List Item)} {H : List (List Event)} (h : sysOk P S W H = true) {i : Nat} (hi : i < W.length) : wayOk (rd W i) = true := by
  simp only [sysOk, Bool.and_eq_true, List.all_eq_true] at h
  exact h.2.1 _ (rd_mem hi)
theorem wayOk_mark {w : List Item} (h : wayOk w = true) (hl : w.length < 12) : wayOk (w ++ [⟨true, 0⟩]) = true ∧ numbersOf (w ++ [⟨true, 0⟩]) = numbersOf w := by
  refine ⟨?_, by simp [numbersOf]⟩
  simp only [wayOk, Bool.and_eq_true, decide_eq_true_eq, List.all_append] at h ⊢
  refine ⟨by rw [List.length_append, List.length_singleton]; omega, h.2, ?_⟩
  simp [itemOk, numOk]
theorem wayOk_drop {w : List Item} (h : wayOk w = true) (hm : (rd w 0).mark = true) (hl : 0 < w.length) : wayOk (w.drop 1) = true ∧ numbersOf (w.drop 1) = numbersOf w := by
  cases w with
  | nil => simp at hl
  | cons x w =>
    have e : rd (x :: w) 0 = x := rfl
    rw [e] at hm
    simp only [wayOk, Bool.and_eq_true, decide_eq_true_eq, List.all_cons, List.length_cons, List.drop_succ_cons, List.drop_zero] at h ⊢
    exact ⟨⟨by omega, h.2.2⟩, by simp [numbersOf, hm]⟩
theorem drawW_at {n p : Nat} {W : List (List Item)} : ∀ {k : Nat} (i : Nat), (∀ j, j < k → p * n + j < W.length) → rd (drawW n p W k) i = if p * n ≤ i ∧ i < p * n + k then rd W i ++ [⟨true, 0⟩] else rd W i
  | 0, i, _ => by rw [drawW, if_neg (by omega)]
  | k + 1, i, h => by
    rw [drawW, rd_put _ (by rw [drawW_len]; exact h k (Nat.lt_succ_self k)), drawW_at i fun j hj => h j (Nat.lt_succ_of_lt hj)]
    by_cases e : i = p * n + k
    · subst e; rw [if_pos rfl, if_pos (by omega)]
    · rw [if_neg e]
      by_cases e2 : p * n ≤ i ∧ i < p * n + k
      · rw [if_pos e2, if_pos (by omega)]
      · rw [if_neg e2, if_neg (by omega)]
theorem drawO_at {n p : Nat} {opn : List Bool} : ∀ {k : Nat} (i : Nat), (∀ j, j < k → j * n + p < opn.length) → (rd (drawO n p opn k) i = true ↔ (∃ j, j < k ∧ i = j * n + p) ∨ rd opn i = true)
  | 0, i, _ => by
    rw [drawO]
    exact ⟨.inr, fun h => h.resolve_left fun ⟨j, hj, _⟩ => by omega⟩
  | k + 1, i, h => by
    rw [drawO, rd_put _ (by rw [drawO_len]; exact h k (Nat.lt_succ_self k))]
    by_cases e : i = k * n + p
    · rw [if_pos e]
      exact ⟨fun _ => .inl ⟨k, Nat.lt_succ_self k, e⟩, fun _ => rfl⟩
    · rw [if_neg e, drawO_at i fun j hj => h j (Nat.lt_succ_of_lt hj)]
      constructor
      · rintro (⟨j, hj, e2⟩ | h2)
        · exact .inl ⟨j, by omega, e2⟩
        · exact .inr h2
      · rintro (⟨j, hj, e2⟩ | h2)
        · by_cases e3 : j = k
          · subst e3; exact absurd e2 e
          · exact .inl ⟨j, by omega, e2⟩
        · exact .inr h2
structure LiveF (P : List (List Ins)) (S : List State) (W : List (List Item)) (H : List (List Event)) (on : Bool) (cut : List Int) (opn : List Bool) (kept : List (List Int)) : Prop where
  ok : sysOk P S W H = true
  c : cut.length = P.length
  o : opn.length = P.length * P.length
  k : kept.length = P.length * P.length
  cut1 : ∀ p, p < P.length → -1 ≤ rd cut p ∧ rd cut p ≤ ((rd H p).length : Int)
  cut2 : ∀ p, p < P.length → rd cut p < 0 → ∀ a, a < P.length → rd opn (a * P.length + p) = false ∧ (rd kept (a * P.length + p)).length = 0
  on1 : on = drawnB cut
  on2 : on = false → marksB W = false
theorem liveF_iff {P : List (List Ins)} {S : List State} {W : List (List Item)} {H : List (List Event)} {on : Bool} {cut : List Int} {opn : List Bool} {kept : List (List Int)} : liveOk P S W H on cut opn kept = true ↔ LiveF P S W H on cut opn kept := by
  simp only [liveOk, shotLens, cutOk, inB, Bool.and_eq_true, decide_eq_true_eq, allBelow_eq, Bool.or_eq_true, Bool.not_eq_true']
  constructor
  · rintro ⟨h1, ⟨h2, h3, h4⟩, h5, h6, h7⟩
    refine ⟨h1, h2, h3, h4, fun p hp => (h5 p hp).1, fun p hp hn a ha => ?_, h6, fun h => h7.resolve_left (by rw [h]; simp)⟩
    exact ((h5 p hp).2.resolve_left (by omega)) a ha
  · intro h
    refine ⟨h.ok, ⟨h.c, h.o, h.k⟩, fun p hp => ⟨h.cut1 p hp, ?_⟩, h.on1, ?_⟩
    · by_cases c : 0 ≤ rd cut p
      · exact .inl c
      · exact .inr (h.cut2 p hp (by omega))
    · cases e : on with
      | true => exact .inl rfl
      | false => exact .inr (h.on2 e)
theorem drawnB_iff {cut : List Int} : drawnB cut = true ↔ ∃ p, p < cut.length ∧ 0 ≤ rd cut p := by
  simp only [drawnB, List.any_eq_true, decide_eq_true_eq]
  constructor
  · rintro ⟨x, hx, h0⟩
    obtain ⟨j, hj, rfl⟩ := mem_rd hx
    exact ⟨j, hj, h0⟩
  · rintro ⟨p, hp, h0⟩
    exact ⟨_, rd_mem hp, h0⟩
theorem marksB_iff {W : List (List Item)} : marksB W = true ↔ ∃ w ∈ W, ∃ x ∈ w, x.mark = true := by
  simp only [marksB, markedB, List.any_eq_true]
theorem begin_ok {P : List (List Ins)} {S : List State} {W : List (List Item)} {H : List (List Event)} {on : Bool} {cut : List Int} {opn : List Bool} {kept : List (List Int)} {p : Nat} (h : LiveF P S W H on cut opn kept) (hp : p < P.length) (hc : crowdB P.length p W = false) :
    LiveF P S (drawW P.length p W P.length) H true (cut.set p ((rd H p).length : Int)) (drawO P.length p opn P.length) kept := by
  have hI := (sysOk_facts h.ok).1
  have hin : ∀ j, j < P.length → p * P.length + j < W.length := fun j hj => by rw [hI.w]; exact place_lt hp hj
  have hio : ∀ j, j < P.length → j * P.length + p < opn.length := fun j hj => by rw [h.o]; exact place_lt hj hp
  refine ⟨sysOk_ways h.ok (drawW_len _ _ _ _) fun i hi => ?_, by rw [List.length_set, h.c], by rw [drawO_len, h.o], h.k, fun q hq => ?_, fun q hq hn a ha => ?_, ?_, fun h => by cases h⟩
  · rw [drawW_at i hin]
    split
    · rename_i e
      have := crowd_no hc (i - p * P.length) (by omega)
      rw [show p * P.length + (i - p * P.length) = i by omega] at this
      exact wayOk_mark (way_ok h.ok hi) this
    · exact ⟨way_ok h.ok hi, rfl⟩
  · rw [rd_set _ (by rw [h.c]; exact hp)]
    have := h.cut1 q hq
    split
    · rename_i e; subst e; omega
    · exact this
  · rw [rd_set _ (by rw [h.c]; exact hp)] at hn
    by_cases e : q = p
    · rw [if_pos e] at hn; omega
    · rw [if_neg e] at hn
      have h2 := h.cut2 q hq hn a ha
      refine ⟨?_, h2.2⟩
      apply Bool.eq_false_iff.2
      intro hd
      rw [drawO_at _ hio] at hd
      rcases hd with ⟨j, hj, e2⟩ | hd
      · have h3 := place_div (n := P.length) (a := a) hq
        have h4 := place_div (n := P.length) (a := j) hp
        rw [e2] at h3
        exact e (by rw [← h3.2, h4.2])
      · rw [h2.1] at hd; cases hd
  · symm
    rw [drawnB_iff]
    exact ⟨p, by rw [List.length_set, h.c]; exact hp, by rw [rd_set _ (by rw [h.c]; exact hp), if_pos rfl]; omega⟩
theorem taken_ok {P : List (List Ins)} {S : List State} {W : List (List Item)} {H : List (List Event)} {i : Nat} (h : sysOk P S W H = true) (hi : i < W.length) (hl : 0 < (rd W i).length) (hm : (rd (rd W i) 0).mark = true) : sysOk P S (takenW W i) H = true := by
  refine sysOk_ways h (by simp [takenW]) fun q hq => ?_
  unfold takenW
  rw [rd_put _ hi]
  split
  · rename_i e; subst e
    exact wayOk_drop (way_ok h hi) hm hl
  · exact ⟨way_ok h hq, rfl⟩
theorem mark_shut {P : List (List Ins)} {S : List State} {W W' : List (List Item)} {H : List (List Event)} {on : Bool} {cut : List Int} {opn : List Bool} {kept : List (List Int)} {ix : Nat} (h : LiveF P S W H on cut opn kept) (hs : sysOk P S W' H = true) (hon : on = true) (hix : ix < opn.length) : LiveF P S W' H on cut (opn.set ix false) kept := by
  refine ⟨hs, h.c, by rw [List.length_set, h.o], h.k, h.cut1, fun q hq hn a ha => ?_, h.on1, fun h2 => by rw [hon] at h2; cases h2⟩
  have h2 := h.cut2 q hq hn a ha
  refine ⟨?_, h2.2⟩
  rw [rd_put _ hix]
  split
  · rfl
  · exact h2.1
theorem marksB_step {n p : Nat} {W : List (List Item)} {e : Event} (h : marksB W = false) : marksB (stepW n W p e) = false := by
  apply Bool.eq_false_iff.2
  intro hm
  have hno : ¬ marksB W = true := by rw [h]; simp
  apply hno
  rw [marksB_iff] at hm ⊢
  obtain ⟨w, hw, x, hx, hxm⟩ := hm
  unfold stepW at hw
  have hrd : ∀ i, x ∈ rd W i → ∃ w ∈ W, ∃ x ∈ w, x.mark = true := fun i hxi => by
    by_cases hi : i < W.length
    · exact ⟨_, rd_mem hi, x, hxi, hxm⟩
    · have : rd W i = [] := by simp only [rd, List.getD_eq_getElem?_getD]; rw [List.getElem?_eq_none (by omega)]; rfl
      rw [this] at hxi; cases hxi
  split at hw
  · rcases List.mem_or_eq_of_mem_set hw with h1 | h1
    · exact ⟨w, h1, x, hx, hxm⟩
    · rw [h1] at hx
      rcases List.mem_append.1 hx with h2 | h2
      · exact hrd _ h2
      · simp at h2; rw [h2] at hxm; cases hxm
  · split at hw
    · rcases List.mem_or_eq_of_mem_set hw with h1 | h1
      · exact ⟨w, h1, x, hx, hxm⟩
      · rw [h1] at hx
        exact hrd _ (List.mem_of_mem_drop hx)
    · exact ⟨w, hw, x, hx, hxm⟩
theorem lstep_ok {P : List (List Ins)} {S : List State} {W : List (List Item)} {H : List (List Event)} {on : Bool} {cut : List Int} {opn : List Bool} {kept : List (List Int)} {p : Nat} {e : Event} (h : LiveF P S W H on cut opn kept) (hc : ComesAt P S W H p e) :
    LiveF P (S.set p (did (rd P p) (rd S p) e)) (stepW P.length W p e) (H.set p (rd H p ++ [e])) on cut opn (keptBy P.length opn kept p e) := by
  have hI := (sysOk_facts h.ok).1
  have hp := hc.lt
  have hpH : p < H.length := by rw [hI.h]; exact hp
  have hkl : (keptBy P.length opn kept p e).length = kept.length := by unfold keptBy; split <;> simp
  refine ⟨step_sysOk h.ok hc, h.c, h.o, by rw [hkl, h.k], fun q hq => ?_, fun q hq hn a ha => ?_, h.on1, fun h2 => marksB_step (h.on2 h2)⟩
  · have := h.cut1 q hq
    rw [rd_put _ hpH]
    split
    · rename_i e2; subst e2; rw [List.length_append, List.length_singleton]; omega
    · exact this
  · have h2 := h.cut2 q hq hn a ha
    refine ⟨h2.1, ?_⟩
    unfold keptBy
    split
    · rename_i hk
      have ht := hc.take hk.1
      have hpl := place_lt ht.1.2 hp
      rw [rd_put _ (by rw [h.k]; exact hpl)]
      split
      · rename_i e2
        rw [e2, hk.2] at h2
        cases h2.1
      · exact h2.2
    · exact h2.2

def newV (P : List (List Ins)) (S : List State) (W : List (List Item)) (H : List (List Event)) : LiveV :=
  ⟨⟨P, S, W, H⟩, false, List.replicate P.length (-1), List.replicate (P.length * P.length) false, List.replicate (P.length * P.length) default⟩
def newRes11 (X : LiveV) : Res := ⟨nLive 0 X.s.progs X.s.states X.s.ways X.s.hist X.on X.cut X.opn X.kept, [tInsSS9 X.s.progs, tStateS9 X.s.states, tItemSS9 X.s.ways, tEventSS9 X.s.hist, tI9 X.cut, tBool9 X.opn, tIntSS9 X.kept], [none, none, none, none]⟩
set_option maxRecDepth 20000 in
set_option maxHeartbeats 8000000 in
theorem ok_spec_ShotNew (k : Nat) (P : List (List Ins)) (S : List State) (W : List (List Item)) (H : List (List Event)) (hs : sysOk P S W H = true) :
    callE PR C (k + 8) 67 [aSys 0 P S W H] [tInsSS P, tStateS S, tItemSS W, tEventSS H] = some (newRes11 (newV P S W H)) := by
  have hB := (sysOk_G hs).b
  have hI := (sysOk_facts hs).1
  have hN := hI.n
  have hnn : P.length * P.length ≤ 4 * 4 := Nat.mul_le_mul hN.2 hN.2
  have w1 : IntKind.i64.wrap ((P.length : Int) * (P.length : Int)) = ((P.length * P.length : Nat) : Int) := by
    rw [show (P.length : Int) * (P.length : Int) = ((P.length * P.length : Nat) : Int) by simp]; exact wrap_i64 _ (by omega) (by omega)
  have q1 := fun k => ok_spec_SysOk k P S W H (hB.mono (by decide))
  rw [hs] at q1
  have q2 := fun k => ok_spec_l4Copy k P S W H (hB.mono (by decide)) hI.some
  have r1 : (List.replicate (P.length * P.length) false).length = P.length * P.length := List.length_replicate
  have r2 : (List.replicate (P.length * P.length) (default : List Int)).length = P.length * P.length := List.length_replicate
  have r3 : (List.replicate P.length (-1 : Int)).length = P.length := List.length_replicate
  simp only [newRes11, newV, nLive, r1, r2, r3]
  generalize hO : List.replicate (P.length * P.length) false = O at *
  generalize hK : List.replicate (P.length * P.length) (default : List Int) = K at *
  (refine fnI [ResultVar.cell 2 44] Tryz.func67 ?_; conv => whnf)
  repeat' ((with_reducible (first | refine sCall.of (q1 _) ?_|refine sW.eq (w1) ?_|refine st21 ?_|refine fG.split (fun _ => ?_) (fun _ => ?_)|refine fG.bool (fun _ => ?_) (fun _ => ?_)|refine gD 4 [(1, 5), (1, 9), (5, 9), (1, 11), (5, 11), (9, 11)] ?_|refine gD 9 [(1, 2)] ?_)) <;> (try (conv => whnf)))
  refine loop_rule (ι := TL Int) (fun x => [(1, .pt 1 1 0 [] 0 0), (2, .pt 2 1 0 [] 0 0), (3, i64 P.length), (4, .pt 4 1 0 [] 0 0), (5, i64 (x.j : Nat))])
    (fun x => [(1000000, ⟨0, 0, false, tInsSS P⟩), (1000001, ⟨0, 0, false, tStateS S⟩), (1000002, ⟨0, 0, false, tItemSS W⟩), (1000003, ⟨0, 0, false, tEventSS H⟩), (1, ⟨1, 0, false, bSys P S W H⟩), (2, ⟨1, 0, false, zLive⟩), (4, ⟨1, 0, true, .box [bl false, .h 14 1 0 [] 1 0 P.length, .h 18 1 0 [] 1 0 (P.length * P.length), .h 22 1 0 [] 1 0 (P.length * P.length)]⟩), (14, ⟨1, x.g, x.d, tI9 x.l⟩), (18, ⟨1, 0, false, tBool9 O⟩), (22, ⟨1, 0, false, tIntSS9 K⟩)])
    (fun x => P.length - x.j) (fun x => x.j ≤ P.length ∧ x.l = fill (List.replicate P.length (-1 : Int)) x.j) ⟨0, List.replicate P.length 0, _, _⟩ (by rw [← hO, ← hK]; exact fitOk) ⟨Nat.zero_le _, by rw [fill_zero, r3]; rfl⟩ (by simp [C]; omega) ?_
  rintro ⟨j, out, g, d⟩ sl ob ⟨hj, hout⟩
  dsimp only at hj hout
  have hlen : out.length = P.length := by rw [hout, fill_len, r3]
  by_cases hjl : j < P.length
  · have hn1 : rd (List.replicate P.length (-1 : Int)) j = -1 := rd_rep _ hjl
    (try dsimp only [cond_true, cond_false])
    (conv => whnf)
    repeat' ((with_reducible (first | refine st21 ?_|refine fG.split (fun _ => ?_) (fun _ => ?_)|refine fG.bool (fun _ => ?_) (fun _ => ?_)|refine gD 4 [(1, 5), (1, 9), (5, 9), (1, 11), (5, 11), (9, 11)] ?_|refine gD 9 [(1, 2)] ?_)) <;> (try (conv => whnf)))
    refine ⟨⟨⟨j + 1, out.set j (-1), _, _⟩, fitOk, ?_, ?_⟩⟩
    · refine ⟨by show j + 1 ≤ _; omega, ?_⟩
      have := fill_set (List.replicate P.length (-1 : Int)) j (by rw [r3]; exact hjl)
      rw [hn1] at this
      show out.set j (-1) = _
      rw [hout]
      exact this
    · show P.length - (j + 1) < P.length - j; omega
  · have hjj : j = P.length := by omega
    have ho : out = List.replicate P.length (-1) := by rw [hout, hjj]; have := fill_all (List.replicate P.length (-1 : Int)); rwa [r3] at this
    have et1 : List.take P.length out = out := List.take_of_length_le (by omega)
    have et2 : List.take (P.length * P.length) O = O := List.take_of_length_le (by rw [r1]; exact Nat.le_refl _)
    have et3 : List.take (P.length * P.length) K = K := List.take_of_length_le (by rw [r2]; exact Nat.le_refl _)
    rw [← ho]
    (try dsimp only [cond_true, cond_false])
    (conv => whnf)
    repeat' ((with_reducible (first | refine sCall.of (q2 _) ?_|refine st21 ?_|refine fG.split (fun _ => ?_) (fun _ => ?_)|refine fG.bool (fun _ => ?_) (fun _ => ?_)|refine gD 4 [(1, 5), (1, 9), (5, 9), (1, 11), (5, 11), (9, 11)] ?_|refine gD 9 [(1, 2)] ?_)) <;> (try (conv => whnf)))
    all_goals (simp only [et1, et2, et3] <;> rfl)

def LvR (m : Nat) (P : List (List Ins)) (S : List State) (W : List (List Item)) (H : List (List Event)) (on : Bool) (cut : List Int) (opn : List Bool) (kept : List (List Int)) : Prop :=
  (LiveF P S W H on cut opn kept ∨ ((P = [] ∧ S = []) ∧ (W = [] ∧ H = [])) ∧ on = false ∧ cut = [] ∧ opn = [] ∧ kept = []) ∧ ∀ x ∈ kept, x.length ≤ m
theorem LvR.sys {m : Nat} {P : List (List Ins)} {S : List State} {W : List (List Item)} {H : List (List Event)} {on : Bool} {cut : List Int} {opn : List Bool} {kept : List (List Int)} (h : LvR m P S W H on cut opn kept) : SysB 1048576 P S W H := by
  rcases h.1 with h | ⟨⟨⟨rfl, rfl⟩, rfl, rfl⟩, _⟩
  · exact (sysOk_G h.ok).b
  · exact none_B
theorem LvR.shot {m : Nat} {P : List (List Ins)} {S : List State} {W : List (List Item)} {H : List (List Event)} {on : Bool} {cut : List Int} {opn : List Bool} {kept : List (List Int)} (h : LvR m P S W H on cut opn kept) (hm : m ≤ 1000) : ShotB 1000000 cut opn kept := by
  have h2 : ∀ j : Nat, j < kept.length → (rd kept j).length ≤ 1000000 := fun j hj => by have := h.2 _ (rd_mem hj); omega
  rcases h.1 with h | ⟨_, _, rfl, rfl, rfl⟩
  · have hN := (sysOk_facts h.ok).1.n
    have hnn : P.length * P.length ≤ 4 * 4 := Nat.mul_le_mul hN.2 hN.2
    exact ⟨by rw [h.c]; omega, by rw [h.o]; omega, by rw [h.k]; omega, h2⟩
  · exact ⟨by simp, by simp, by simp, h2⟩
theorem begin_yes {P : List (List Ins)} {S : List State} {W : List (List Item)} {H : List (List Event)} {on : Bool} {cut : List Int} {opn : List Bool} {kept : List (List Int)} {p : Int} (h : (beginIs P S W H on cut opn kept p).2 = 0) :
    LiveF (beginIs P S W H on cut opn kept p).1.s.progs (beginIs P S W H on cut opn kept p).1.s.states (beginIs P S W H on cut opn kept p).1.s.ways (beginIs P S W H on cut opn kept p).1.s.hist (beginIs P S W H on cut opn kept p).1.on (beginIs P S W H on cut opn kept p).1.cut (beginIs P S W H on cut opn kept p).1.opn (beginIs P S W H on cut opn kept p).1.kept ∧ (beginIs P S W H on cut opn kept p).1.kept = kept := by
  unfold beginIs at h ⊢
  split at h
  · rename_i h1
    rw [if_pos h1]
    split at h
    · rename_i h2
      rw [if_pos h2]
      split at h
      · exact absurd h (by show ¬ (3 : Int) = 0; decide)
      · rename_i h3
        rw [if_neg h3]
        split at h
        · exact absurd h (by show ¬ (5 : Int) = 0; decide)
        · rename_i h4
          rw [if_neg h4]
          have h5 := begin_ok (liveF_iff.1 h1) (show p.toNat < P.length by omega) (show crowdB P.length p.toNat W = false by simpa using h4)
          exact ⟨h5, rfl⟩
    · exact absurd h (by show ¬ (2 : Int) = 0; decide)
  · exact absurd h (by show ¬ (1 : Int) = 0; decide)
theorem mark_yes {P : List (List Ins)} {S : List State} {W : List (List Item)} {H : List (List Event)} {on : Bool} {cut : List Int} {opn : List Bool} {kept : List (List Int)} {a b : Int} (h : (markIs P S W H on cut opn kept a b).2 = 0) :
    LiveF (markIs P S W H on cut opn kept a b).1.s.progs (markIs P S W H on cut opn kept a b).1.s.states (markIs P S W H on cut opn kept a b).1.s.ways (markIs P S W H on cut opn kept a b).1.s.hist (markIs P S W H on cut opn kept a b).1.on (markIs P S W H on cut opn kept a b).1.cut (markIs P S W H on cut opn kept a b).1.opn (markIs P S W H on cut opn kept a b).1.kept ∧ (markIs P S W H on cut opn kept a b).1.kept = kept := by
  unfold markIs at h ⊢
  split at h
  · rename_i h1
    rw [if_pos h1]
    have hF := liveF_iff.1 h1
    have hI := (sysOk_facts hF.ok).1
    split at h
    · rename_i h2
      rw [if_pos h2]
      split at h
      · rename_i h3
        rw [if_pos h3]
        have hpl := place_lt (n := P.length) (a := a.toNat) (b := b.toNat) (by omega) (by omega)
        have hT := taken_ok hF.ok (by rw [hI.w]; exact hpl) h3.2.1 h3.2.2
        have hF2 : LiveF P S (takenW W (a.toNat * P.length + b.toNat)) H on cut opn kept := ⟨hT, hF.c, hF.o, hF.k, hF.cut1, hF.cut2, hF.on1, fun h => by rw [h3.1] at h; cases h⟩
        split at h
        · rename_i h4
          rw [if_pos h4]
          split at h
          · exact absurd h (by show ¬ (5 : Int) = 0; decide)
          · rename_i h5
            rw [if_neg h5]
            have hF3 := begin_ok hF2 (show b.toNat < P.length by omega) (by simpa using h5)
            exact ⟨mark_shut hF3 hF3.ok rfl (by rw [drawO_len, hF.o]; exact hpl), rfl⟩
        · rename_i h4
          rw [if_neg h4]
          exact ⟨mark_shut hF hT h3.1 (by rw [hF.o]; exact hpl), rfl⟩
      · exact absurd h (by show ¬ (4 : Int) = 0; decide)
    · exact absurd h (by show ¬ (2 : Int) = 0; decide)
  · exact absurd h (by show ¬ (1 : Int) = 0; decide)
theorem keptBy_few {n p m : Nat} {opn : List Bool} {kept : List (List Int)} {e : Event} (h : ∀ x ∈ kept, x.length ≤ m) : ∀ x ∈ keptBy n opn kept p e, x.length ≤ m + 1 := by
  unfold keptBy
  split
  · refine all_set (fun x hx => by have := h x hx; omega) ?_
    rw [List.length_append, List.length_singleton]
    by_cases hi : e.peer.toNat * n + p < kept.length
    · have := h _ (rd_mem hi); omega
    · have : rd kept (e.peer.toNat * n + p) = [] := by simp only [rd, List.getD_eq_getElem?_getD]; rw [List.getElem?_eq_none (by omega)]; rfl
      rw [this]; simp
  · intro x hx; have := h x hx; omega
theorem lstep_yes {P : List (List Ins)} {S : List State} {W : List (List Item)} {H : List (List Event)} {on : Bool} {cut : List Int} {opn : List Bool} {kept : List (List Int)} {p peer : Int} (h : (liveStepIs P S W H on cut opn kept p peer).2 = 0) :
    LiveF (liveStepIs P S W H on cut opn kept p peer).1.s.progs (liveStepIs P S W H on cut opn kept p peer).1.s.states (liveStepIs P S W H on cut opn kept p peer).1.s.ways (liveStepIs P S W H on cut opn kept p peer).1.s.hist (liveStepIs P S W H on cut opn kept p peer).1.on (liveStepIs P S W H on cut opn kept p peer).1.cut (liveStepIs P S W H on cut opn kept p peer).1.opn (liveStepIs P S W H on cut opn kept p peer).1.kept ∧
    ∀ m, (∀ x ∈ kept, x.length ≤ m) → ∀ x ∈ (liveStepIs P S W H on cut opn kept p peer).1.kept, x.length ≤ m + 1 := by
  unfold liveStepIs at h ⊢
  split at h
  · rename_i h1
    rw [if_pos h1]
    split at h
    · rename_i h2
      rw [if_pos h2]
      have hF := liveF_iff.1 h1
      have hc := coming_comes hF.ok h2
      exact ⟨lstep_ok hF hc.2, fun m hm => keptBy_few hm⟩
    · rename_i h2
      exact absurd h h2
  · exact absurd h (by show ¬ (1 : Int) = 0; decide)
theorem LvR.more {m : Nat} {P : List (List Ins)} {S : List State} {W : List (List Item)} {H : List (List Event)} {on : Bool} {cut : List Int} {opn : List Bool} {kept : List (List Int)} (h : LvR m P S W H on cut opn kept) : LvR (m + 1) P S W H on cut opn kept := ⟨h.1, fun x hx => by have := h.2 x hx; omega⟩
def DAct (b : List Int) (m : Nat) (P : List (List Ins)) (S : List State) (W : List (List Item)) (H : List (List Event)) (on : Bool) (cut : List Int) (opn : List Bool) (kept : List (List Int)) (r : Res) : Prop :=
  ∃ (x : List Int) (i h : Int), x.length ≤ 3 ∧ (0 ≤ i ∧ i ≤ b.length) ∧
  (r = ⟨.tu [aLive 2 P S W H on cut opn kept, .h 2000000 1 0 [] 1 0 x.length], [tI9 x], [none, some (tCur b i h), none, none, none, none, none, none, none]⟩ ∨
   ∃ (P' : List (List Ins)) (S' : List State) (W' : List (List Item)) (H' : List (List Event)) (on' : Bool) (cut' : List Int) (opn' : List Bool) (kept' : List (List Int)), LvR (m + 1) P' S' W' H' on' cut' opn' kept' ∧
     r = ⟨.tu [nLive 0 P' S' W' H' on' cut' opn' kept', .h 2000007 1 0 [] 1 0 x.length], [tInsSS9 P', tStateS9 S', tItemSS9 W', tEventSS9 H', tI9 cut', tBool9 opn', tIntSS9 kept', tI9 x], [none, some (tCur b i h), none, none, none, none, none, none, none]⟩)
structure DM where
  j : Nat
  a : Int
  c : Int
  d : Bool
  i : Int
  h : Int
set_option maxRecDepth 20000 in
set_option maxHeartbeats 16000000 in
theorem ok_spec_l11DrawAct (k : Nat) (b : List Int) (i h : Int) (m : Nat) (P : List (List Ins)) (S : List State) (W : List (List Item)) (H : List (List Event)) (on : Bool) (cut : List Int) (opn : List Bool) (kept : List (List Int)) (hb : Bytes b) (hm : m ≤ 500) (hL : LvR m P S W H on cut opn kept) (h0 : 0 ≤ i := by assumption) (h1 : i ≤ b.length := by assumption) :
    Told (callE PR C (k + 10) 204 [.pt 1000001 0 0 [] 0 0, aLive 2 P S W H on cut opn kept] [tB b, tCur b i h, tInsSS P, tStateS S, tItemSS W, tEventSS H, tI cut, tBool opn, tIntSS kept]) (DAct b m P S W H on cut opn kept) := by
  have hbl := hb.len
  have hB := hL.sys
  have hS := hL.shot (by omega)
  have hS9 : ShotB 1000000000 cut opn kept := ⟨by have := hS.c; omega, by have := hS.o; omega, by have := hS.k; omega, fun j hj => by have := hS.kk j hj; omega⟩
  rcases hL.1 with hF | ⟨⟨⟨rfl, rfl⟩, rfl, rfl⟩, rfl, rfl, rfl, rfl⟩
  · have hI := (sysOk_facts hF.ok).1
    have hN := hI.n
    have hwl := hI.w
    have hnn : P.length * P.length ≤ 4 * 4 := Nat.mul_le_mul hN.2 hN.2
    have hR : Rt P S W H := .inl hF.ok
    cases on with
    | false =>
      (refine callE_w [ResultVar.cell 4 44, ResultVar.tmp 5] rfl Tryz.func204 rfl (by decide +kernel) rfl (by simp) ?_; (conv => whnf))
      repeat' ((with_reducible (first | refine sCall.curB (ok_spec_l1Once _ _ _ _ _ hb) (fun _ _ _ _ _ => ?_)|refine sCall.cur (ok_Below _ _ _ _ _ hb) (fun _ _ _ _ _ _ _ => ?_)|refine sCall.dpick (ok_spec_l6DrawPick _ _ _ _ _ _ _ _ hb hR) (fun _ _ _ _ _ _ => ?_)|refine st21 ?_|refine fG.split (fun _ => ?_) (fun _ => ?_)|refine fG.bool (fun _ => ?_) (fun _ => ?_)|refine gDn 16 ?_|refine gD 25 [(0, 5), (2, 6), (4, 6), (5, 6)] ?_)) <;> (try (conv => whnf)))
      · rename_i p i2 h2 p0 p1 e1 e2
        have q := fun k => ok_spec_Begin k P S W H false cut opn kept p (hB.mono (by decide)) hS9
        have hy := @begin_yes P S W H false cut opn kept p
        generalize beginIs P S W H false cut opn kept p = X at *
        obtain ⟨⟨⟨P', S', W', H'⟩, on', cut', opn', kept'⟩, n⟩ := X
        dsimp only at hy
        simp only [liveRes] at q
        by_cases c0 : n = 0
        · obtain ⟨y1, y2⟩ := hy c0
          repeat' ((with_reducible (first | refine sCall.of (q _) ?_|refine st21 ?_|refine fG.split (fun _ => ?_) (fun _ => ?_)|refine fG.bool (fun _ => ?_) (fun _ => ?_)|refine gDn 16 ?_|refine gD 25 [(0, 5), (2, 6), (4, 6), (5, 6)] ?_)) <;> (try (conv => whnf)))
          exact ⟨[1, p, 0], _, _, by simp, ⟨e1, e2⟩, .inr ⟨_, _, _, _, _, _, _, _, ⟨.inl y1, by rw [y2]; exact hL.more.2⟩, rfl⟩⟩
        · repeat' ((with_reducible (first | refine sCall.of (q _) ?_|refine st21 ?_|refine fG.split (fun _ => ?_) (fun _ => ?_)|refine fG.bool (fun _ => ?_) (fun _ => ?_)|refine gDn 16 ?_|refine gD 25 [(0, 5), (2, 6), (4, 6), (5, 6)] ?_)) <;> (try (conv => whnf)))
          exact ⟨[1, p, 0], _, _, by simp, ⟨e1, e2⟩, .inl rfl⟩
      · rename_i p p2 i2 h2 e1 e2
        have q := fun k => ok_spec_LiveStep k P S W H false cut opn kept p p2 (hB.mono (by decide)) hS9
        have hy := @lstep_yes P S W H false cut opn kept p p2
        generalize liveStepIs P S W H false cut opn kept p p2 = X at *
        obtain ⟨⟨⟨P', S', W', H'⟩, on', cut', opn', kept'⟩, n⟩ := X
        dsimp only at hy
        simp only [liveRes] at q
        by_cases c0 : n = 0
        · obtain ⟨y1, y2⟩ := hy c0
          repeat' ((with_reducible (first | refine sCall.of (q _) ?_|refine st21 ?_|refine fG.split (fun _ => ?_) (fun _ => ?_)|refine fG.bool (fun _ => ?_) (fun _ => ?_)|refine gDn 16 ?_|refine gD 25 [(0, 5), (2, 6), (4, 6), (5, 6)] ?_)) <;> (try (conv => whnf)))
          exact ⟨[0, p, p2], _, _, by simp, ⟨e1, e2⟩, .inr ⟨_, _, _, _, _, _, _, _, ⟨.inl y1, y2 m hL.2⟩, rfl⟩⟩
        · repeat' ((with_reducible (first | refine sCall.of (q _) ?_|refine st21 ?_|refine fG.split (fun _ => ?_) (fun _ => ?_)|refine fG.bool (fun _ => ?_) (fun _ => ?_)|refine gDn 16 ?_|refine gD 25 [(0, 5), (2, 6), (4, 6), (5, 6)] ?_)) <;> (try (conv => whnf)))
          exact ⟨[0, p, p2], _, _, by simp, ⟨e1, e2⟩, .inl rfl⟩
    | true =>
      have w1 : IntKind.i64.wrap ((P.length : Int) * (P.length : Int)) = ((P.length * P.length : Nat) : Int) := by
        rw [show (P.length : Int) * (P.length : Int) = ((P.length * P.length : Nat) : Int) by simp]; exact wrap_i64 _ (by omega) (by omega)
      (refine callE_w [ResultVar.cell 4 44, ResultVar.tmp 5] rfl Tryz.func204 rfl (by decide +kernel) rfl (by simp) ?_; (conv => whnf))
      repeat' ((with_reducible (first | refine sCall.curB (ok_spec_l1Once _ _ _ _ _ hb) (fun _ _ _ _ _ => ?_)|refine sCall.cur (ok_Below _ _ _ _ _ hb) (fun _ _ _ _ _ _ _ => ?_)|refine sCall.dpick (ok_spec_l6DrawPick _ _ _ _ _ _ _ _ hb hR) (fun _ _ _ _ _ _ => ?_)|refine st21 ?_|refine fG.split (fun _ => ?_) (fun _ => ?_)|refine fG.bool (fun _ => ?_) (fun _ => ?_)|refine gDn 16 ?_|refine gD 25 [(0, 5), (2, 6), (4, 6), (5, 6)] ?_)) <;> (try (conv => whnf)))
      · rename_i a0 i2 h2 z1 z2 z3 z4 c0 i3 h3 z5 z6 e1 e2
        refine loop_rule (ι := DM) (fun y => [(0, .pt 1000001 0 0 [] 0 0), (3, .pt 3 1 0 [] 0 0), (4, .pt 4 1 0 [] 0 0), (6, i64 P.length), (10, i64 y.a), (11, i64 y.c), (12, i64 (y.j : Nat))])
          (fun y => [(1000000, ⟨0, 0, false, tB b⟩), (1000001, ⟨0, 0, y.d, tCur b y.i y.h⟩), (1000002, ⟨0, 0, false, tInsSS P⟩), (1000003, ⟨0, 0, false, tStateS S⟩), (1000004, ⟨0, 0, false, tItemSS W⟩), (1000005, ⟨0, 0, false, tEventSS H⟩), (1000006, ⟨0, 0, false, tI cut⟩), (1000007, ⟨0, 0, false, tBool opn⟩), (1000008, ⟨0, 0, false, tIntSS kept⟩),
            (3, ⟨1, 0, false, .box [.h 1000002 0 0 [] 1 0 P.length, .h 1000003 0 0 [] 4 0 S.length, .h 1000004 0 0 [] 1 0 W.length, .h 1000005 0 0 [] 1 0 H.length, bl true, .h 1000006 0 0 [] 1 0 cut.length, .h 1000007 0 0 [] 1 0 opn.length, .h 1000008 0 0 [] 1 0 kept.length]⟩), (4, ⟨1, 0, false, zLive⟩)])
          (fun y => P.length * P.length - y.j) (fun y => y.j ≤ P.length * P.length ∧ (0 ≤ y.i ∧ y.i ≤ b.length)) ⟨0, a0, c0, _, i3, h3⟩ fitOk ⟨Nat.zero_le _, ⟨e1, e2⟩⟩ (by simp [C]; omega) ?_
        clear z1 z2 z3 z4 z5 z6 e1 e2
        rintro ⟨j, a, c, d, i4, h4⟩ sl ob ⟨hj, ⟨e1, e2⟩⟩
        dsimp only at hj e1 e2
        by_cases hjl : j < P.length * P.length
        · have hw12 : (rd W j).length ≤ 1048576 := hB.ww j (by omega)
          have e4 : (List.map rItem (rd W j)).length = (rd W j).length := by simp
          (try dsimp only [cond_true, cond_false])
          (conv => whnf)
          repeat' ((with_reducible (first | refine sW.eq (w1) ?_|refine sCall.curB (ok_spec_l1Once _ _ _ _ _ hb) (fun _ _ _ _ _ => ?_)|refine st21 ?_|refine fG.split (fun _ => ?_) (fun _ => ?_)|refine fG.bool (fun _ => ?_) (fun _ => ?_)|refine sZ.eq (i64_and255 _) ?_|refine sZ.eq (i64_and30 _) ?_|refine sZ.all (fun _ => ?_)|refine sW.all (fun _ => ?_)|refine gDn 16 ?_|refine gD 25 [(0, 5), (2, 6), (4, 6), (5, 6)] ?_)) <;> (try (conv => whnf)))
          all_goals
            refine ⟨⟨⟨j + 1, _, _, _, _, _⟩, fitOk, ?_, ?_⟩⟩
            · exact ⟨by show j + 1 ≤ P.length * P.length; omega, ⟨by assumption, by assumption⟩⟩
            · show P.length * P.length - (j + 1) < P.length * P.length - j; omega
        · have q := fun k => ok_spec_Mark k P S W H true cut opn kept a c (hB.mono (by decide)) hS9
          have hy := @mark_yes P S W H true cut opn kept a c
          generalize markIs P S W H true cut opn kept a c = X at *
          obtain ⟨⟨⟨P', S', W', H'⟩, on', cut', opn', kept'⟩, n⟩ := X
          dsimp only at hy
          simp only [liveRes] at q
          by_cases c0 : n = 0
          · obtain ⟨y1, y2⟩ := hy c0
            (try dsimp only [cond_true, cond_false])
            (conv => whnf)
            repeat' ((with_reducible (first | refine sW.eq (w1) ?_|refine sCall.of (q _) ?_|refine st21 ?_|refine fG.split (fun _ => ?_) (fun _ => ?_)|refine fG.bool (fun _ => ?_) (fun _ => ?_)|refine gDn 16 ?_|refine gD 25 [(0, 5), (2, 6), (4, 6), (5, 6)] ?_)) <;> (try (conv => whnf)))
            exact ⟨[2, a, c], _, _, by simp, ⟨e1, e2⟩, .inr ⟨_, _, _, _, _, _, _, _, ⟨.inl y1, by rw [y2]; exact hL.more.2⟩, rfl⟩⟩
          · (try dsimp only [cond_true, cond_false])
            (conv => whnf)
            repeat' ((with_reducible (first | refine sW.eq (w1) ?_|refine sCall.of (q _) ?_|refine st21 ?_|refine fG.split (fun _ => ?_) (fun _ => ?_)|refine fG.bool (fun _ => ?_) (fun _ => ?_)|refine gDn 16 ?_|refine gD 25 [(0, 5), (2, 6), (4, 6), (5, 6)] ?_)) <;> (try (conv => whnf)))
            exact ⟨[2, a, c], _, _, by simp, ⟨e1, e2⟩, .inl rfl⟩
      · rename_i p p2 i2 h2 e1 e2
        have q := fun k => ok_spec_LiveStep k P S W H true cut opn kept p p2 (hB.mono (by decide)) hS9
        have hy := @lstep_yes P S W H true cut opn kept p p2
        generalize liveStepIs P S W H true cut opn kept p p2 = X at *
        obtain ⟨⟨⟨P', S', W', H'⟩, on', cut', opn', kept'⟩, n⟩ := X
        dsimp only at hy
        simp only [liveRes] at q
        by_cases c0 : n = 0
        · obtain ⟨y1, y2⟩ := hy c0
          repeat' ((with_reducible (first | refine sCall.of (q _) ?_|refine st21 ?_|refine fG.split (fun _ => ?_) (fun _ => ?_)|refine fG.bool (fun _ => ?_) (fun _ => ?_)|refine gDn 16 ?_|refine gD 25 [(0, 5), (2, 6), (4, 6), (5, 6)] ?_)) <;> (try (conv => whnf)))
          exact ⟨[0, p, p2], _, _, by simp, ⟨e1, e2⟩, .inr ⟨_, _, _, _, _, _, _, _, ⟨.inl y1, y2 m hL.2⟩, rfl⟩⟩
        · repeat' ((with_reducible (first | refine sCall.of (q _) ?_|refine st21 ?_|refine fG.split (fun _ => ?_) (fun _ => ?_)|refine fG.bool (fun _ => ?_) (fun _ => ?_)|refine gDn 16 ?_|refine gD 25 [(0, 5), (2, 6), (4, 6), (5, 6)] ?_)) <;> (try (conv => whnf)))
          exact ⟨[0, p, p2], _, _, by simp, ⟨e1, e2⟩, .inl rfl⟩
  · (refine callE_w [ResultVar.cell 4 44, ResultVar.tmp 5] rfl Tryz.func204 rfl (by decide +kernel) rfl (by simp) ?_; (conv => whnf))
    repeat' ((with_reducible (first | refine st21 ?_|refine fG.split (fun _ => ?_) (fun _ => ?_)|refine fG.bool (fun _ => ?_) (fun _ => ?_)|refine gDn 16 ?_|refine gD 25 [(0, 5), (2, 6), (4, 6), (5, 6)] ?_)) <;> (try (conv => whnf)))
    exact ⟨[0, 0, 0], _, _, by simp, ⟨h0, h1⟩, .inl rfl⟩

end Go.Proofs.YtipfcgbhaalcdaaGreat.Abs
namespace Go.Proofs.YtipfcgbhaalcdaaGreat.Abs
open Go Go.Proofs
set_option linter.unusedVariables false
set_option linter.unusedSimpArgs false
attribute [local irreducible] callE
theorem newV_right {P : List (List Ins)} {S : List State} {W : List (List Item)} {H : List (List Event)} (hs : sysOk P S W H = true) (hm : marksB W = false) : LiveF P S W H false (List.replicate P.length (-1)) (List.replicate (P.length * P.length) false) (List.replicate (P.length * P.length) default) := by
  refine ⟨hs, by simp, by simp, by simp, fun p hp => ?_, fun p hp _ a ha => ?_, ?_, fun _ => hm⟩
  · rw [rd_rep _ hp]; omega
  · have := place_lt ha hp
    rw [rd_rep _ this, rd_rep _ this]
    exact ⟨rfl, rfl⟩
  · symm
    apply Bool.eq_false_iff.2
    intro h
    rw [drawnB_iff] at h
    obtain ⟨p, hp, h0⟩ := h
    rw [List.length_replicate] at hp
    rw [rd_rep _ hp] at h0
    omega
theorem newSys_marks (n : Nat) : marksB (List.replicate n (default : List Item)) = false := by
  apply Bool.eq_false_iff.2
  intro h
  rw [marksB_iff] at h
  obtain ⟨w, hw, x, hx, _⟩ := h
  have := List.eq_of_mem_replicate hw
  rw [this] at hx
  cases hx
def Rt0 (P : List (List Ins)) (S : List State) (W : List (List Item)) (H : List (List Event)) : Prop := Rt P S W H ∧ marksB W = false
set_option maxRecDepth 20000 in
theorem ok_spec_ShotNew' (k : Nat) (P : List (List Ins)) (S : List State) (W : List (List Item)) (H : List (List Event)) (hR : Rt P S W H) (hm : marksB W = false) :
    Told (callE PR C (k + 8) 67 [aSys 0 P S W H] [tInsSS P, tStateS S, tItemSS W, tEventSS H]) (fun r => ∃ (P' : List (List Ins)) (S' : List State) (W' : List (List Item)) (H' : List (List Event)) (on : Bool) (cut : List Int) (opn : List Bool) (kept : List (List Int)), LvR 0 P' S' W' H' on cut opn kept ∧ r = newRes11 ⟨⟨P', S', W', H'⟩, on, cut, opn, kept⟩) := by
  rcases hR with hs | ⟨⟨rfl, rfl⟩, rfl, rfl⟩
  · refine ⟨⟨_, ok_spec_ShotNew k P S W H hs, P, S, W, H, false, _, _, _, ⟨.inl (newV_right hs hm), fun x hx => ?_⟩, rfl⟩⟩
    have := List.eq_of_mem_replicate hx
    rw [this]
    exact Nat.le_refl _
  · have q1 := fun k => ok_spec_SysOk k [] [] [] [] (none_B.mono (by decide))
    rw [none_bad] at q1
    (refine callE_w [ResultVar.cell 2 44] rfl Tryz.func67 rfl (by decide +kernel) rfl (by simp) ?_; (conv => whnf))
    repeat' ((with_reducible (first | refine sCall.of (q1 _) ?_|refine st21 ?_|refine fG.split (fun _ => ?_) (fun _ => ?_)|refine fG.bool (fun _ => ?_) (fun _ => ?_)|refine gD 4 [(1, 5), (1, 9), (5, 9), (1, 11), (5, 11), (9, 11)] ?_|refine gD 9 [(1, 2)] ?_)) <;> (try (conv => whnf)))
    exact ⟨[], [], [], [], false, [], [], [], ⟨.inr ⟨⟨⟨rfl, rfl⟩, rfl, rfl⟩, rfl, rfl, rfl, rfl⟩, by simp⟩, rfl⟩
theorem sCall.dlive {x : Option Res} {F : Res → Prop} (e : Told x (fun r => ∃ (P' : List (List Ins)) (S' : List State) (W' : List (List Item)) (H' : List (List Event)) (on : Bool) (cut : List Int) (opn : List Bool) (kept : List (List Int)), LvR 0 P' S' W' H' on cut opn kept ∧ r = newRes11 ⟨⟨P', S', W', H'⟩, on, cut, opn, kept⟩))
    (h : ∀ (P : List (List Ins)) (S : List State) (W : List (List Item)) (H : List (List Event)) (on : Bool) (cut : List Int) (opn : List Bool) (kept : List (List Int)), LvR 0 P S W H on cut opn kept → F ⟨nLive 0 P S W H on cut opn kept, [tInsSS9 P, tStateS9 S, tItemSS9 W, tEventSS9 H, tI9 cut, tBool9 opn, tIntSS9 kept], [none, none, none, none]⟩) : sCall x F :=
  sCall.ex e fun r hr => by obtain ⟨P, S, W, H, on, cut, opn, kept, h1, rfl⟩ := hr; exact h P S W H on cut opn kept h1
set_option maxRecDepth 20000 in
set_option maxHeartbeats 8000000 in
theorem ok_spec_l6DrawNew0 (k : Nat) (b : List Int) (i h : Int) (hb : Bytes b) (h0 : 0 ≤ i := by assumption) (h1 : i ≤ b.length := by assumption) :
    Told (callE PR C (k + 9) 203 [.pt 1000001 0 0 [] 0 0] [tB b, tCur b i h]) (DSys b Rt0 []) := by
  have hbl := hb.len
  (refine callE_w [ResultVar.cell 2 29] rfl Tryz.func203 rfl (by decide +kernel) rfl (by simp) ?_; (conv => whnf))
  repeat' ((with_reducible (first | refine sCall.cur (ok_Below _ _ _ _ _ hb) (fun _ _ _ _ _ _ _ => ?_)|refine st21 ?_|refine fG.split (fun _ => ?_) (fun _ => ?_)|refine fG.bool (fun _ => ?_) (fun _ => ?_))) <;> (try (conv => whnf)))
  rename_i x i0 h0' ha hb' hc hd
  refine loop_rule (ι := DN) (fun y => [(0, .pt 1000001 0 0 [] 0 0), (2, .pt 2 1 0 [] 0 0), (3, i64 (1 + x)), (4, .h y.o y.bb 0 [] 1 0 y.l.length), (5, i64 (y.j : Nat))])
    (fun y => [(1000000, ⟨0, 0, false, tB b⟩), (1000001, ⟨0, 0, true, tCur b y.i y.h⟩), (2, ⟨1, 0, false, .box [.nl 1, .nl 4, .nl 1, .nl 1]⟩), (y.o, ⟨y.bb, 0, false, tInsSS9 y.l⟩)])
    (fun y => (1 + x - y.j).toNat) (fun y => (y.j : Int) ≤ 1 + x ∧ (y.l.length = y.j ∧ ∀ q : Nat, q < y.l.length → (rd y.l q).length ≤ 1048576) ∧ 0 ≤ y.i ∧ y.i ≤ b.length ∧ (y.o = 11 ∨ y.o = 23)) ⟨0, [], 11, _, i0, h0'⟩ fitOk ⟨by show (0 : Int) ≤ 1 + x; omega, ⟨rfl, fun q hq => by simp at hq⟩, hc, hd, .inl rfl⟩ (by simp [C]; omega) ?_
  rintro ⟨j, out, o, bb, i1, h1'⟩ sl ob ⟨hj, ⟨hlen, hin⟩, hi0, hi1, ho⟩
  dsimp only at hj hlen hin hi0 hi1 ho
  by_cases hjl : (j : Int) < 1 + x
  · rcases ho with rfl | rfl
    all_goals (try dsimp only [cond_true, cond_false])
    all_goals (conv => whnf)
    all_goals repeat' ((with_reducible (first | refine sCall.prog (ok_spec_l1DrawProg _ _ _ _ _ _ hb) (fun _ _ _ _ _ _ _ => ?_)|refine st21 ?_|refine fG.split (fun _ => ?_) (fun _ => ?_)|refine fG.bool (fun _ => ?_) (fun _ => ?_))) <;> (try (conv => whnf)))
    all_goals
      rename_i l i2 h2 e1 e2 e3 e4
      refine ⟨⟨⟨j + 1, out ++ [l], 23, _, i2, h2⟩, fitOk, ?_, ?_⟩⟩
      · refine ⟨by show ((j + 1 : Nat) : Int) ≤ 1 + x; omega, ⟨by show (out ++ [l]).length = j + 1; simp [hlen], fun q hq => ?_⟩, e3, e4, .inr rfl⟩
        have hq : q < (out ++ [l]).length := hq
        show (rd (out ++ [l]) q).length ≤ 1048576
        by_cases hq2 : q < out.length
        · have := hin q hq2
          simp only [rd, List.getD_eq_getElem?_getD] at this ⊢
          rwa [List.getElem?_append_left hq2]
        · have e : q = out.length := by simp at hq; omega
          subst e
          have : rd (out ++ [l]) out.length = l := by simp [rd]
          rw [this]; omega
      · show (1 + x - ((j + 1 : Nat) : Int)).toNat < (1 + x - j).toNat; omega
  · have hlen2 : 1 ≤ out.length ∧ out.length ≤ 4 := by omega
    have q1 := fun k => ok_spec_SysNew' k out hlen2 hin
    cases hs : sysOk out (List.replicate out.length newState) (List.replicate (out.length * out.length) default) (List.replicate out.length default) with
    | true =>
      simp only [hs, if_true, newRes] at q1
      rcases ho with rfl | rfl
      all_goals (try dsimp only [cond_true, cond_false])
      all_goals (conv => whnf)
      all_goals repeat' ((with_reducible (first | refine sCall.of (q1 _) ?_|refine st21 ?_|refine fG.split (fun _ => ?_) (fun _ => ?_)|refine fG.bool (fun _ => ?_) (fun _ => ?_))) <;> (try (conv => whnf)))
      all_goals exact ⟨_, _, _, _, _, _, ⟨.inl hs, newSys_marks _⟩, hi0, hi1, rfl⟩
    | false =>
      simp only [hs, Bool.false_eq_true, if_false, zeroRes] at q1
      rcases ho with rfl | rfl
      all_goals (try dsimp only [cond_true, cond_false])
      all_goals (conv => whnf)
      all_goals repeat' ((with_reducible (first | refine sCall.of (q1 _) ?_|refine st21 ?_|refine fG.split (fun _ => ?_) (fun _ => ?_)|refine fG.bool (fun _ => ?_) (fun _ => ?_))) <;> (try (conv => whnf)))
      all_goals exact ⟨[], [], [], [], _, _, ⟨.inr ⟨⟨rfl, rfl⟩, rfl, rfl⟩, rfl⟩, hi0, hi1, rfl⟩
def DLRun (b : List Int) (m : Int) (r : Res) : Prop :=
  ∃ (P : List (List Ins)) (S : List State) (W : List (List Item)) (H : List (List Event)) (on : Bool) (cut : List Int) (opn : List Bool) (kept : List (List Int)) (l : List (List Int)) (i h : Int), LvR 0 P S W H on cut opn kept ∧ (l.length : Int) ≤ m ∧ (0 ≤ i ∧ i ≤ b.length) ∧
  (r = ⟨.tu [nLive 0 P S W H on cut opn kept, .h 2000007 1 0 [] 1 0 l.length, nLive 0 P S W H on cut opn kept], [tInsSS9 P, tStateS9 S, tItemSS9 W, tEventSS9 H, tI9 cut, tBool9 opn, tIntSS9 kept, tIntSS9 l], [none, some (tCur b i h)]⟩ ∨
   ∃ (P' : List (List Ins)) (S' : List State) (W' : List (List Item)) (H' : List (List Event)) (on' : Bool) (cut' : List Int) (opn' : List Bool) (kept' : List (List Int)) (n : Nat), n ≤ 150 ∧ LvR n P' S' W' H' on' cut' opn' kept' ∧
     r = ⟨.tu [nLive 0 P S W H on cut opn kept, .h 2000007 1 0 [] 1 0 l.length, nLive 8 P' S' W' H' on' cut' opn' kept'], [tInsSS9 P, tStateS9 S, tItemSS9 W, tEventSS9 H, tI9 cut, tBool9 opn, tIntSS9 kept, tIntSS9 l, tInsSS9 P', tStateS9 S', tItemSS9 W', tEventSS9 H', tI9 cut', tBool9 opn', tIntSS9 kept'], [none, some (tCur b i h)]⟩)
structure DL where
  j : Nat
  l : List (List Int)
  lo : Nat
  lb : Nat
  P : List (List Ins)
  S : List State
  W : List (List Item)
  H : List (List Event)
  on : Bool
  cut : List Int
  opn : List Bool
  kept : List (List Int)
  o : Nat
  b0 : Nat
  b1 : Nat
  b2 : Nat
  b3 : Nat
  b4 : Nat
  b5 : Nat
  b6 : Nat
  d7 : Bool
  dd : Bool
  i : Int
  h : Int
set_option maxRecDepth 20000 in
set_option maxHeartbeats 16000000 in
theorem ok_spec_l11DrawRun (k : Nat) (b : List Int) (i h m : Int) (hb : Bytes b) (hm : 0 ≤ m ∧ m ≤ 150) (h0 : 0 ≤ i := by assumption) (h1 : i ≤ b.length := by assumption) :
    Told (callE PR C (k + 11) 101 [.pt 1000001 0 0 [] 0 0, i64 m] [tB b, tCur b i h]) (DLRun b m) := by
  have hbl := hb.len
  (refine callE_w [ResultVar.cell 4 44, ResultVar.tmp 5, ResultVar.cell 6 44] rfl Tryz.func101 rfl (by decide +kernel) rfl (by simp) ?_; (conv => whnf))
  repeat' ((with_reducible (first | refine sCall.dsys (ok_spec_l6DrawNew0 _ _ _ _ hb) (fun _ _ _ _ _ _ _ _ _ => ?_)|refine st21 ?_|refine fG.split (fun _ => ?_) (fun _ => ?_)|refine fG.bool (fun _ => ?_) (fun _ => ?_)|refine gD 11 [(2, 3)] ?_)) <;> (try (conv => whnf)))
  rename_i P0 S0 W0 H0 i1 h1' hR0 a1 a2
  have hR1 := hR0.1
  have hR2 := hR0.2
  repeat' ((with_reducible (first | refine sCall.dlive (ok_spec_ShotNew' _ _ _ _ _ hR1 hR2) (fun _ _ _ _ _ _ _ _ _ => ?_)|refine st21 ?_|refine fG.split (fun _ => ?_) (fun _ => ?_)|refine fG.bool (fun _ => ?_) (fun _ => ?_)|refine gD 11 [(2, 3)] ?_)) <;> (try (conv => whnf)))
  rename_i P S W H on cut opn kept hL0
  repeat' ((with_reducible (first | refine sCall.cur (ok_Below _ _ _ _ _ hb) (fun _ _ _ _ _ _ _ => ?_)|refine st21 ?_|refine fG.split (fun _ => ?_) (fun _ => ?_)|refine fG.bool (fun _ => ?_) (fun _ => ?_)|refine gD 11 [(2, 3)] ?_)) <;> (try (conv => whnf)))
  rename_i x i0 h0' ha hb' hc hd
  refine loop_rule (ι := DL) (fun y => [(0, .pt 1000001 0 0 [] 0 0), (4, .pt 4 1 0 [] 0 0), (6, .pt 6 1 0 [] 0 0), (7, .pt 7 1 0 [] 0 0), (8, .pt 8 1 0 [] 0 0), (9, .h y.lo y.lb 0 [] 1 0 y.l.length), (10, i64 x), (11, i64 (y.j : Nat))])
    (fun y => [(1000000, ⟨0, 0, false, tB b⟩), (1000001, ⟨0, 0, true, tCur b y.i y.h⟩), (4, ⟨1, 0, false, zLive⟩), (6, ⟨1, 0, false, zLive⟩),
      (7, ⟨1, 0, y.d7, .box [.h 10016 1 0 [] 1 0 P.length, .h 20016 1 0 [] 4 0 S.length, .h 30016 1 0 [] 1 0 W.length, .h 40016 1 0 [] 1 0 H.length, bl on, .h 50016 1 0 [] 1 0 cut.length, .h 60016 1 0 [] 1 0 opn.length, .h 70016 1 0 [] 1 0 kept.length]⟩),
      (8, ⟨1, 0, y.dd, .box [.h (y.o + 10000) y.b0 0 [] 1 0 y.P.length, .h (y.o + 20000) y.b1 0 [] 4 0 y.S.length, .h (y.o + 30000) y.b2 0 [] 1 0 y.W.length, .h (y.o + 40000) y.b3 0 [] 1 0 y.H.length, bl y.on, .h (y.o + 50000) y.b4 0 [] 1 0 y.cut.length, .h (y.o + 60000) y.b5 0 [] 1 0 y.opn.length, .h (y.o + 70000) y.b6 0 [] 1 0 y.kept.length]⟩),
      (10016, ⟨1, 0, false, tInsSS9 P⟩), (20016, ⟨1, 0, false, tStateS9 S⟩), (30016, ⟨1, 0, false, tItemSS9 W⟩), (40016, ⟨1, 0, false, tEventSS9 H⟩), (50016, ⟨1, 0, false, tI9 cut⟩), (60016, ⟨1, 0, false, tBool9 opn⟩), (70016, ⟨1, 0, false, tIntSS9 kept⟩), (y.lo, ⟨y.lb, 0, false, tIntSS9 y.l⟩),
      (y.o + 10000, ⟨y.b0, 0, false, tInsSS9 y.P⟩), (y.o + 20000, ⟨y.b1, 0, false, tStateS9 y.S⟩), (y.o + 30000, ⟨y.b2, 0, false, tItemSS9 y.W⟩), (y.o + 40000, ⟨y.b3, 0, false, tEventSS9 y.H⟩), (y.o + 50000, ⟨y.b4, 0, false, tI9 y.cut⟩), (y.o + 60000, ⟨y.b5, 0, false, tBool9 y.opn⟩), (y.o + 70000, ⟨y.b6, 0, false, tIntSS9 y.kept⟩)])
    (fun y => (x - y.j).toNat) (fun y => (y.j : Int) ≤ x ∧ (y.l.length = y.j ∧ (y.lo = 18 ∨ y.lo = 37)) ∧ LvR y.j y.P y.S y.W y.H y.on y.cut y.opn y.kept ∧ (0 ≤ y.i ∧ y.i ≤ b.length) ∧
      ((y.o = 16 ∧ ((y.P = P ∧ y.S = S ∧ y.W = W ∧ y.H = H) ∧ y.on = on ∧ y.cut = cut ∧ y.opn = opn ∧ y.kept = kept) ∧ y.b0 = 1 ∧ y.b1 = 1 ∧ y.b2 = 1 ∧ y.b3 = 1 ∧ y.b4 = 1 ∧ y.b5 = 1 ∧ y.b6 = 1) ∨ y.o = 31 ∨ y.o = 5031))
    ⟨0, [], 18, _, P, S, W, H, on, cut, opn, kept, 16, 1, 1, 1, 1, 1, 1, 1, _, _, i0, h0'⟩ fitOk ⟨by show (0 : Int) ≤ x; omega, ⟨rfl, .inl rfl⟩, hL0, ⟨hc, hd⟩, .inl ⟨rfl, ⟨⟨rfl, rfl, rfl, rfl⟩, rfl, rfl, rfl, rfl⟩, rfl, rfl, rfl, rfl, rfl, rfl, rfl⟩⟩ (by simp [C]; omega) ?_
  clear a1 a2 hc hd
  rintro ⟨j, out, lo, lb, P1, S1, W1, H1, on1, cut1, opn1, kept1, o, b0, b1, b2, b3, b4, b5, b6, d7, dd, i2, h2⟩ sl ob ⟨hj, ⟨hlen, hlo⟩, hL, ⟨hi0, hi1⟩, ho⟩
  dsimp only at hj hlen hlo hL hi0 hi1 ho
  by_cases hjl : (j : Int) < x
  · have qa := fun k => ok_spec_l11DrawAct k b i2 h2 j P1 S1 W1 H1 on1 cut1 opn1 kept1 hb (by omega) hL hi0 hi1
    rcases hlo with rfl | rfl
    all_goals rcases ho with ⟨rfl, ⟨⟨rfl, rfl, rfl, rfl⟩, rfl, rfl, rfl, rfl⟩, rfl, rfl, rfl, rfl, rfl, rfl, rfl⟩ | rfl | rfl
    all_goals (try dsimp only [cond_true, cond_false])
    all_goals (conv => whnf)
    all_goals repeat' ((with_reducible (first | (refine sCall.ex (qa _) ?_)|refine st21 ?_|refine fG.split (fun _ => ?_) (fun _ => ?_)|refine fG.bool (fun _ => ?_) (fun _ => ?_)|refine gD 11 [(2, 3)] ?_)) <;> (try (conv => whnf)))
    all_goals
      rintro _ ⟨w, i3, h3, hw, ⟨e1, e2⟩, rfl | ⟨P2, S2, W2, H2, on2, cut2, opn2, kept2, hL2, rfl⟩⟩
    all_goals (conv => whnf)
    all_goals repeat' ((with_reducible (first | refine st21 ?_|refine fG.split (fun _ => ?_) (fun _ => ?_)|refine fG.bool (fun _ => ?_) (fun _ => ?_)|refine gD 11 [(2, 3)] ?_)) <;> (try (conv => whnf)))
    all_goals first
      | refine ⟨⟨⟨j + 1, out ++ [w], 37, _, P2, S2, W2, H2, on2, cut2, opn2, kept2, 31, _, _, _, _, _, _, _, _, _, i3, h3⟩, fitOk, ?_, ?_⟩⟩
      | refine ⟨⟨⟨j + 1, out ++ [w], 37, _, P2, S2, W2, H2, on2, cut2, opn2, kept2, 5031, _, _, _, _, _, _, _, _, _, i3, h3⟩, fitOk, ?_, ?_⟩⟩
      | refine ⟨⟨⟨j + 1, out ++ [w], 37, _, P1, S1, W1, H1, on1, cut1, opn1, kept1, 16, _, _, _, _, _, _, _, _, _, i3, h3⟩, fitOk, ?_, ?_⟩⟩
      | refine ⟨⟨⟨j + 1, out ++ [w], 37, _, P1, S1, W1, H1, on1, cut1, opn1, kept1, 31, _, _, _, _, _, _, _, _, _, i3, h3⟩, fitOk, ?_, ?_⟩⟩
      | refine ⟨⟨⟨j + 1, out ++ [w], 37, _, P1, S1, W1, H1, on1, cut1, opn1, kept1, 5031, _, _, _, _, _, _, _, _, _, i3, h3⟩, fitOk, ?_, ?_⟩⟩
    all_goals first
      | (show (x - ((j + 1 : Nat) : Int)).toNat < (x - j).toNat; omega)
      | exact ⟨by show ((j + 1 : Nat) : Int) ≤ x; omega, ⟨by show (out ++ [_]).length = j + 1; simp [hlen], .inr rfl⟩, hL2, ⟨e1, e2⟩, .inr (.inl rfl)⟩
      | exact ⟨by show ((j + 1 : Nat) : Int) ≤ x; omega, ⟨by show (out ++ [_]).length = j + 1; simp [hlen], .inr rfl⟩, hL2, ⟨e1, e2⟩, .inr (.inr rfl)⟩
      | exact ⟨by show ((j + 1 : Nat) : Int) ≤ x; omega, ⟨by show (out ++ [_]).length = j + 1; simp [hlen], .inr rfl⟩, hL.more, ⟨e1, e2⟩, .inl ⟨rfl, ⟨⟨rfl, rfl, rfl, rfl⟩, rfl, rfl, rfl, rfl⟩, rfl, rfl, rfl, rfl, rfl, rfl, rfl⟩⟩
      | exact ⟨by show ((j + 1 : Nat) : Int) ≤ x; omega, ⟨by show (out ++ [_]).length = j + 1; simp [hlen], .inr rfl⟩, hL.more, ⟨e1, e2⟩, .inr (.inl rfl)⟩
      | exact ⟨by show ((j + 1 : Nat) : Int) ≤ x; omega, ⟨by show (out ++ [_]).length = j + 1; simp [hlen], .inr rfl⟩, hL.more, ⟨e1, e2⟩, .inr (.inr rfl)⟩
  · rcases hlo with rfl | rfl
    all_goals rcases ho with ⟨rfl, ⟨⟨rfl, rfl, rfl, rfl⟩, rfl, rfl, rfl, rfl⟩, rfl, rfl, rfl, rfl, rfl, rfl, rfl⟩ | rfl | rfl
    all_goals (try dsimp only [cond_true, cond_false])
    all_goals (conv => whnf)
    all_goals repeat' ((with_reducible (first | refine st21 ?_|refine fG.split (fun _ => ?_) (fun _ => ?_)|refine fG.bool (fun _ => ?_) (fun _ => ?_)|refine gD 11 [(2, 3)] ?_)) <;> (try (conv => whnf)))
    all_goals first
      | exact ⟨_, _, _, _, _, _, _, _, _, _, _, hL0, by omega, ⟨hi0, hi1⟩, .inl rfl⟩
      | exact ⟨_, _, _, _, _, _, _, _, _, _, _, hL0, by omega, ⟨hi0, hi1⟩, .inr ⟨_, _, _, _, _, _, _, _, j, by omega, hL, rfl⟩⟩

end Go.Proofs.YtipfcgbhaalcdaaGreat.Abs
namespace Go.Proofs.YtipfcgbhaalcdaaGreat.Abs
open Go Go.Proofs
set_option linter.unusedVariables false
set_option linter.unusedSimpArgs false
attribute [local irreducible] callE
def LvB (P : List (List Ins)) (S : List State) (W : List (List Item)) (H : List (List Event)) (cut : List Int) (opn : List Bool) (kept : List (List Int)) : Prop := SysB 2000000 P S W H ∧ ShotB 2000000 cut opn kept
theorem shotB_mk {cut : List Int} {opn : List Bool} {kept : List (List Int)} (h1 : cut.length ≤ 2000000) (h2 : opn.length ≤ 2000000) (h3 : kept.length ≤ 2000000) (h4 : ∀ x ∈ kept, x.length ≤ 2000000) : ShotB 2000000 cut opn kept := ⟨h1, h2, h3, fun _ hj => h4 _ (rd_mem hj)⟩
def DLv (b : List Int) (m : List (Option Cont)) (r : Res) : Prop :=
  ∃ (P : List (List Ins)) (S : List State) (W : List (List Item)) (H : List (List Event)) (on : Bool) (cut : List Int) (opn : List Bool) (kept : List (List Int)) (i h : Int), (SysB 2000000 P S W H ∧ ShotB 2000000 cut opn kept) ∧ (0 ≤ i ∧ i ≤ b.length) ∧
   r = ⟨nLive 0 P S W H on cut opn kept, [tInsSS9 P, tStateS9 S, tItemSS9 W, tEventSS9 H, tI9 cut, tBool9 opn, tIntSS9 kept], none :: some (tCur b i h) :: m⟩
theorem sCall.dlv {x : Option Res} {b : List Int} {m : List (Option Cont)} {F : Res → Prop} (e : Told x (DLv b m))
    (h : ∀ (P : List (List Ins)) (S : List State) (W : List (List Item)) (H : List (List Event)) (on : Bool) (cut : List Int) (opn : List Bool) (kept : List (List Int)) (i h : Int), SysB 2000000 P S W H → ShotB 2000000 cut opn kept → 0 ≤ i → i ≤ b.length → F ⟨nLive 0 P S W H on cut opn kept, [tInsSS9 P, tStateS9 S, tItemSS9 W, tEventSS9 H, tI9 cut, tBool9 opn, tIntSS9 kept], none :: some (tCur b i h) :: m⟩) : sCall x F :=
  sCall.ex e fun r hr => by obtain ⟨P, S, W, H, on, cut, opn, kept, i, h', ⟨h1, h2⟩, ⟨h3, h4⟩, rfl⟩ := hr; exact h P S W H on cut opn kept i h' h1 h2 h3 h4
theorem dlv_mk {b : List Int} {P : List (List Ins)} {S : List State} {W : List (List Item)} {H : List (List Event)} {on : Bool} {cut : List Int} {opn : List Bool} {kept : List (List Int)} {i h : Int} {n0 n1 n2 n3 n4 n5 n6 : Nat} (hB : SysB 2000000 P S W H) (hS : ShotB 2000000 cut opn kept) (e0 : P.length = n0) (e1 : S.length = n1) (e2 : W.length = n2) (e3 : H.length = n3) (e4 : cut.length = n4) (e5 : opn.length = n5) (e6 : kept.length = n6) (h0 : 0 ≤ i) (h1 : i ≤ b.length) :
    DLv b [none] ⟨.ag [.h 2000000 1 0 [] 1 0 n0, .h 2000001 1 0 [] 4 0 n1, .h 2000002 1 0 [] 1 0 n2, .h 2000003 1 0 [] 1 0 n3, bl on, .h 2000004 1 0 [] 1 0 n4, .h 2000005 1 0 [] 1 0 n5, .h 2000006 1 0 [] 1 0 n6], [tInsSS9 P, tStateS9 S, tItemSS9 W, tEventSS9 H, tI9 cut, tBool9 opn, tIntSS9 kept], [none, some (tCur b i h), none]⟩ := by
  subst e0 e1 e2 e3 e4 e5 e6
  exact ⟨P, S, W, H, on, cut, opn, kept, i, h, ⟨hB, hS⟩, ⟨h0, h1⟩, rfl⟩
set_option maxRecDepth 20000 in
set_option maxHeartbeats 16000000 in
theorem ok_spec_l11Draw (k : Nat) (b : List Int) (i h : Int) (hb : Bytes b) (h0 : 0 ≤ i := by assumption) (h1 : i ≤ b.length := by assumption) :
    Told (callE PR C (k + 13) 138 [.pt 1000001 0 0 [] 0 0, .h 1000002 0 0 [] 1 0 b.length] [tB b, tCur b i h, tB b]) (DLv b [none]) := by
  have hbl := hb.len
  (refine callE_w [ResultVar.cell 4 44] rfl Tryz.func138 rfl (by decide +kernel) rfl (by simp) ?_; (conv => whnf))
  repeat' ((with_reducible (first | refine sCall.long (ok_spec_l1Long _ b 40 90 hbl ⟨by decide, by decide⟩ ⟨by decide, by decide⟩) (fun _ _ _ => ?_)|refine st21 ?_|refine fG.split (fun _ => ?_) (fun _ => ?_)|refine fG.bool (fun _ => ?_) (fun _ => ?_)|refine gD 8 [(2, 4), (2, 5)] ?_|refine gD 10 [(2, 8)] ?_|refine gD 13 [(2, 10), (6, 10), (9, 10), (2, 11)] ?_)) <;> (try (conv => whnf)))
  rename_i n hn0 hn1
  repeat' ((with_reducible (first | (refine sCall.ex (ok_spec_l11DrawRun _ b i h n hb ⟨hn0, by omega⟩) ?_)|refine st21 ?_|refine fG.split (fun _ => ?_) (fun _ => ?_)|refine fG.bool (fun _ => ?_) (fun _ => ?_)|refine gD 8 [(2, 4), (2, 5)] ?_|refine gD 10 [(2, 8)] ?_|refine gD 13 [(2, 10), (6, 10), (9, 10), (2, 11)] ?_)) <;> (try (conv => whnf)))
  have go : ∀ {m : Nat} {P : List (List Ins)} {S : List State} {W : List (List Item)} {H : List (List Event)} {on : Bool} {cut : List Int} {opn : List Bool} {kept : List (List Int)}, m ≤ 150 → LvR m P S W H on cut opn kept → SysB 2000000 P S W H ∧ ShotB 2000000 cut opn kept ∧ (¬ cut.length = 0 → (0 < opn.length ∧ opn.length ≤ 16) ∧ (0 < kept.length ∧ kept.length ≤ 16) ∧ cut.length ≤ 4) := fun hm hL => by
    have h1 := hL.sys.mono (show 1048576 ≤ 2000000 by decide)
    have h2 := hL.shot (by omega)
    refine ⟨h1, ⟨by have := h2.c; omega, by have := h2.o; omega, by have := h2.k; omega, fun j hj => by have := h2.kk j hj; omega⟩, fun hc => ?_⟩
    rcases hL.1 with hF | ⟨_, _, rfl, _⟩
    · have hN := (sysOk_facts hF.ok).1.n
      have h3 := Nat.mul_le_mul hN.2 hN.2
      have h4 := Nat.mul_le_mul hN.1 hN.1
      rw [hF.o, hF.k, hF.c]
      omega
    · exact absurd rfl hc
  rintro _ ⟨P, S, W, H, on, cut, opn, kept, l, i', h', hL, hl, ⟨e1, e2⟩, rfl | ⟨P', S', W', H', on', cut', opn', kept', m, hm, hL', rfl⟩⟩
  · obtain ⟨g1, g2, g3⟩ := go (by omega) hL
    have g4 : ∀ x ∈ kept, x.length ≤ 1000 := fun x hx => by have := hL.2 x hx; omega
    by_cases c0 : cut.length = 0
    · (conv => whnf)
      repeat' ((with_reducible (first | refine st21 ?_|refine fG.split (fun _ => ?_) (fun _ => ?_)|refine fG.bool (fun _ => ?_) (fun _ => ?_)|refine gD 8 [(2, 4), (2, 5)] ?_|refine gD 10 [(2, 8)] ?_|refine gD 13 [(2, 10), (6, 10), (9, 10), (2, 11)] ?_)) <;> (try (conv => whnf)))
      exact dlv_mk g1 g2 rfl rfl rfl rfl rfl rfl rfl e1 e2
    · obtain ⟨g5, g6, g7⟩ := g3 c0
      have qc := fun k => ok_Below k b i' h' 25 hb
      have g8 := g4
      have g9 : ∀ x ∈ kept, x.length ≤ 2000000 := fun x hx => by have := g4 x hx; omega
      (conv => whnf)
      repeat' ((with_reducible (first | refine sCall.cur (qc _) (fun _ _ _ _ _ _ _ => ?_)|refine st21 ?_|refine fG.split (fun _ => ?_) (fun _ => ?_)|refine fG.bool (fun _ => ?_) (fun _ => ?_)|refine gD 8 [(2, 4), (2, 5)] ?_|refine gD 10 [(2, 8)] ?_|refine gD 13 [(2, 10), (6, 10), (9, 10), (2, 11)] ?_)) <;> (try (conv => whnf)))
      · exact dlv_mk g1 g2 rfl rfl rfl rfl rfl rfl rfl (by assumption) (by assumption)
      · repeat' ((with_reducible (first | refine sCall.pick (ok_PickInt _ _ _ _ _ hb) (fun _ _ _ _ _ _ => ?_)|refine st21 ?_|refine fG.split (fun _ => ?_) (fun _ => ?_)|refine fG.bool (fun _ => ?_) (fun _ => ?_)|refine gD 8 [(2, 4), (2, 5)] ?_|refine gD 10 [(2, 8)] ?_|refine gD 13 [(2, 10), (6, 10), (9, 10), (2, 11)] ?_)) <;> (try (conv => whnf)))
        exact dlv_mk g1 (shotB_mk (by simp; omega) g2.o g2.k g9) rfl rfl rfl rfl (by simp) rfl rfl (by assumption) (by assumption)
      · repeat' ((with_reducible (first | refine sCall.cur (ok_Below _ _ _ _ _ hb) (fun _ _ _ _ _ _ _ => ?_)|refine st21 ?_|refine fG.split (fun _ => ?_) (fun _ => ?_)|refine fG.bool (fun _ => ?_) (fun _ => ?_)|refine gD 8 [(2, 4), (2, 5)] ?_|refine gD 10 [(2, 8)] ?_|refine gD 13 [(2, 10), (6, 10), (9, 10), (2, 11)] ?_)) <;> (try (conv => whnf)))
        exact dlv_mk g1 (shotB_mk g2.c (by simp; omega) g2.k g9) rfl rfl rfl rfl rfl (by simp) rfl (by assumption) (by assumption)
      · repeat' ((with_reducible (first | refine sCall.cur (ok_Below _ _ _ _ _ hb) (fun _ _ _ _ _ _ _ => ?_)|refine st21 ?_|refine fG.split (fun _ => ?_) (fun _ => ?_)|refine fG.bool (fun _ => ?_) (fun _ => ?_)|refine gD 8 [(2, 4), (2, 5)] ?_|refine gD 10 [(2, 8)] ?_|refine gD 13 [(2, 10), (6, 10), (9, 10), (2, 11)] ?_)) <;> (try (conv => whnf)))
        rename_i w i4 h4 w0 w1 e3 e4
        have g10 := g4 _ (rd_mem (l := kept) (n := w.toNat) (by omega))
        repeat' ((with_reducible (first | refine gHole ?_|refine st21 ?_|refine fG.split (fun _ => ?_) (fun _ => ?_)|refine fG.bool (fun _ => ?_) (fun _ => ?_)|refine gD 8 [(2, 4), (2, 5)] ?_|refine gD 10 [(2, 8)] ?_|refine gD 13 [(2, 10), (6, 10), (9, 10), (2, 11)] ?_)) <;> (try (conv => whnf)))
        exact dlv_mk g1 (shotB_mk g2.c g2.o (by simp; omega) (all_set g9 (by simp; omega))) rfl rfl rfl rfl rfl rfl (by simp) (by assumption) (by assumption)
      · repeat' ((with_reducible (first | refine sCall.dsys (ok_spec_l6Draw _ _ _ _ hb) (fun _ _ _ _ _ _ _ _ _ => ?_)|refine st21 ?_|refine fG.split (fun _ => ?_) (fun _ => ?_)|refine fG.bool (fun _ => ?_) (fun _ => ?_)|refine gD 8 [(2, 4), (2, 5)] ?_|refine gD 10 [(2, 8)] ?_|refine gD 13 [(2, 10), (6, 10), (9, 10), (2, 11)] ?_)) <;> (try (conv => whnf)))
        rename_i P9 S9 W9 H9 i9 h9 hB9 e3 e4
        exact dlv_mk hB9 g2 rfl rfl rfl rfl rfl rfl rfl e3 e4
      · exact dlv_mk g1 g2 rfl rfl rfl rfl rfl rfl rfl (by assumption) (by assumption)
  · obtain ⟨g1, g2, g3⟩ := go hm hL'
    have g4 : ∀ x ∈ kept', x.length ≤ 1000 := fun x hx => by have := hL'.2 x hx; omega
    by_cases c0 : cut'.length = 0
    · (conv => whnf)
      repeat' ((with_reducible (first | refine st21 ?_|refine fG.split (fun _ => ?_) (fun _ => ?_)|refine fG.bool (fun _ => ?_) (fun _ => ?_)|refine gD 8 [(2, 4), (2, 5)] ?_|refine gD 10 [(2, 8)] ?_|refine gD 13 [(2, 10), (6, 10), (9, 10), (2, 11)] ?_)) <;> (try (conv => whnf)))
      exact dlv_mk g1 g2 rfl rfl rfl rfl rfl rfl rfl e1 e2
    · obtain ⟨g5, g6, g7⟩ := g3 c0
      have qc := fun k => ok_Below k b i' h' 25 hb
      have g8 := g4
      have g9 : ∀ x ∈ kept', x.length ≤ 2000000 := fun x hx => by have := g4 x hx; omega
      (conv => whnf)
      repeat' ((with_reducible (first | refine sCall.cur (qc _) (fun _ _ _ _ _ _ _ => ?_)|refine st21 ?_|refine fG.split (fun _ => ?_) (fun _ => ?_)|refine fG.bool (fun _ => ?_) (fun _ => ?_)|refine gD 8 [(2, 4), (2, 5)] ?_|refine gD 10 [(2, 8)] ?_|refine gD 13 [(2, 10), (6, 10), (9, 10), (2, 11)] ?_)) <;> (try (conv => whnf)))
      · exact dlv_mk g1 g2 rfl rfl rfl rfl rfl rfl rfl (by assumption) (by assumption)
      · repeat' ((with_reducible (first | refine sCall.pick (ok_PickInt _ _ _ _ _ hb) (fun _ _ _ _ _ _ => ?_)|refine st21 ?_|refine fG.split (fun _ => ?_) (fun _ => ?_)|refine fG.bool (fun _ => ?_) (fun _ => ?_)|refine gD 8 [(2, 4), (2, 5)] ?_|refine gD 10 [(2, 8)] ?_|refine gD 13 [(2, 10), (6, 10), (9, 10), (2, 11)] ?_)) <;> (try (conv => whnf)))
        exact dlv_mk g1 (shotB_mk (by simp; omega) g2.o g2.k g9) rfl rfl rfl rfl (by simp) rfl rfl (by assumption) (by assumption)
      · repeat' ((with_reducible (first | refine sCall.cur (ok_Below _ _ _ _ _ hb) (fun _ _ _ _ _ _ _ => ?_)|refine st21 ?_|refine fG.split (fun _ => ?_) (fun _ => ?_)|refine fG.bool (fun _ => ?_) (fun _ => ?_)|refine gD 8 [(2, 4), (2, 5)] ?_|refine gD 10 [(2, 8)] ?_|refine gD 13 [(2, 10), (6, 10), (9, 10), (2, 11)] ?_)) <;> (try (conv => whnf)))
        exact dlv_mk g1 (shotB_mk g2.c (by simp; omega) g2.k g9) rfl rfl rfl rfl rfl (by simp) rfl (by assumption) (by assumption)
      · repeat' ((with_reducible (first | refine sCall.cur (ok_Below _ _ _ _ _ hb) (fun _ _ _ _ _ _ _ => ?_)|refine st21 ?_|refine fG.split (fun _ => ?_) (fun _ => ?_)|refine fG.bool (fun _ => ?_) (fun _ => ?_)|refine gD 8 [(2, 4), (2, 5)] ?_|refine gD 10 [(2, 8)] ?_|refine gD 13 [(2, 10), (6, 10), (9, 10), (2, 11)] ?_)) <;> (try (conv => whnf)))
        rename_i w i4 h4 w0 w1 e3 e4
        have g10 := g4 _ (rd_mem (l := kept') (n := w.toNat) (by omega))
        repeat' ((with_reducible (first | refine gHole ?_|refine st21 ?_|refine fG.split (fun _ => ?_) (fun _ => ?_)|refine fG.bool (fun _ => ?_) (fun _ => ?_)|refine gD 8 [(2, 4), (2, 5)] ?_|refine gD 10 [(2, 8)] ?_|refine gD 13 [(2, 10), (6, 10), (9, 10), (2, 11)] ?_)) <;> (try (conv => whnf)))
        exact dlv_mk g1 (shotB_mk g2.c g2.o (by simp; omega) (all_set g9 (by simp; omega))) rfl rfl rfl rfl rfl rfl (by simp) (by assumption) (by assumption)
      · repeat' ((with_reducible (first | refine sCall.dsys (ok_spec_l6Draw _ _ _ _ hb) (fun _ _ _ _ _ _ _ _ _ => ?_)|refine st21 ?_|refine fG.split (fun _ => ?_) (fun _ => ?_)|refine fG.bool (fun _ => ?_) (fun _ => ?_)|refine gD 8 [(2, 4), (2, 5)] ?_|refine gD 10 [(2, 8)] ?_|refine gD 13 [(2, 10), (6, 10), (9, 10), (2, 11)] ?_)) <;> (try (conv => whnf)))
        rename_i P9 S9 W9 H9 i9 h9 hB9 e3 e4
        exact dlv_mk hB9 g2 rfl rfl rfl rfl rfl rfl rfl e3 e4
      · exact dlv_mk g1 g2 rfl rfl rfl rfl rfl rfl rfl (by assumption) (by assumption)
def DLv1 (r : Res) : Prop :=
  ∃ (P : List (List Ins)) (S : List State) (W : List (List Item)) (H : List (List Event)) (on : Bool) (cut : List Int) (opn : List Bool) (kept : List (List Int)) (p : Int), (SysB 2000000 P S W H ∧ ShotB 2000000 cut opn kept) ∧
   r = ⟨.tu [nLive 0 P S W H on cut opn kept, i64 p], [tInsSS9 P, tStateS9 S, tItemSS9 W, tEventSS9 H, tI9 cut, tBool9 opn, tIntSS9 kept], [none]⟩
def DLv2 (r : Res) : Prop :=
  ∃ (P : List (List Ins)) (S : List State) (W : List (List Item)) (H : List (List Event)) (on : Bool) (cut : List Int) (opn : List Bool) (kept : List (List Int)) (p q : Int), (SysB 2000000 P S W H ∧ ShotB 2000000 cut opn kept) ∧
   r = ⟨.tu [nLive 0 P S W H on cut opn kept, i64 p, i64 q], [tInsSS9 P, tStateS9 S, tItemSS9 W, tEventSS9 H, tI9 cut, tBool9 opn, tIntSS9 kept], [none]⟩
theorem sCall.lv2 {x : Option Res} {F : Res → Prop} (e : Told x DLv2)
    (h : ∀ (P : List (List Ins)) (S : List State) (W : List (List Item)) (H : List (List Event)) (on : Bool) (cut : List Int) (opn : List Bool) (kept : List (List Int)) (p q : Int), SysB 2000000 P S W H → ShotB 2000000 cut opn kept → F ⟨.tu [nLive 0 P S W H on cut opn kept, i64 p, i64 q], [tInsSS9 P, tStateS9 S, tItemSS9 W, tEventSS9 H, tI9 cut, tBool9 opn, tIntSS9 kept], [none]⟩) : sCall x F :=
  sCall.ex e fun r hr => by obtain ⟨P, S, W, H, on, cut, opn, kept, p, q, ⟨h1, h2⟩, rfl⟩ := hr; exact h P S W H on cut opn kept p q h1 h2
end Go.Proofs.YtipfcgbhaalcdaaGreat.Abs
namespace Go.Proofs.YtipfcgbhaalcdaaGreat.Abs
open Go Go.Proofs
set_option linter.unusedVariables false
set_option linter.unusedSimpArgs false
attribute [local irreducible] callE
structure LS where
  j : Nat
  m : Int
end Go.Proofs.YtipfcgbhaalcdaaGreat.Abs
namespace Go.Proofs.YtipfcgbhaalcdaaGreat.Abs
open Go Go.Proofs
set_option linter.unusedVariables false
set_option linter.unusedSimpArgs false
attribute [local irreducible] callE
structure DK where
  j : Nat
  a : Int
  c : Int
  d : Bool
  i : Int
  h : Int
set_option maxRecDepth 20000 in
set_option maxHeartbeats 8000000 in
theorem ok_spec_DrawMark (k : Nat) (b : List Int) (hb : Bytes b) : Told (callE PR C (k + 14) 48 [.h 1000000 0 0 [] 1 0 b.length] [tB b]) DLv2 := by
  have hbl := hb.len
  have z0 : (0 : Int) ≤ 0 := Int.le_refl 0
  have z1 : (0 : Int) ≤ b.length := by omega
  (refine callE_w [ResultVar.cell 2 44, ResultVar.tmp 3, ResultVar.tmp 4] rfl Tryz.func48 rfl (by decide +kernel) rfl (by simp) ?_; (conv => whnf))
  repeat' ((with_reducible (first | refine sCall.newCur (ok_spec_l1New _ b hb.len hb.num) (fun _ => ?_)|refine st21 ?_|refine fG.split (fun _ => ?_) (fun _ => ?_)|refine fG.bool (fun _ => ?_) (fun _ => ?_)|refine gDn 9 ?_)) <;> (try (conv => whnf)))
  rename_i h
  repeat' ((with_reducible (first | refine sCall.dlv (ok_spec_l11Draw _ b 0 h hb z0 z1) (fun _ _ _ _ _ _ _ _ _ _ _ _ _ _ => ?_)|refine st21 ?_|refine fG.split (fun _ => ?_) (fun _ => ?_)|refine fG.bool (fun _ => ?_) (fun _ => ?_)|refine gDn 9 ?_)) <;> (try (conv => whnf)))
  rename_i P S W H on cut opn kept i1 h1 hB hS a1 a2
  have hS9 : ShotB 1000000000 cut opn kept := ⟨by have := hS.c; omega, by have := hS.o; omega, by have := hS.k; omega, fun j hj => by have := hS.kk j hj; omega⟩
  have hpl := hB.p
  have hwl := hB.w
  have q1 := fun k => ok_spec_l1Max k (P.length : Int) 1
  have hn : 1 ≤ (if (1 : Int) < (P.length : Int) then (P.length : Int) else 1) ∧ (if (1 : Int) < (P.length : Int) then (P.length : Int) else 1) ≤ 2000000 := by split <;> omega
  generalize (if (1 : Int) < (P.length : Int) then (P.length : Int) else 1) = n at *
  have q3 := fun k => ok_spec_LiveOk k P S W H on cut opn kept (hB.mono (by decide)) hS9.mono9
  generalize liveOk P S W H on cut opn kept = t at *
  repeat' ((with_reducible (first | refine sCall.of (q1 _) ?_|refine sCall.cur (ok_Below _ _ _ _ _ hb) (fun _ _ _ _ _ _ _ => ?_)|refine st21 ?_|refine fG.split (fun _ => ?_) (fun _ => ?_)|refine fG.bool (fun _ => ?_) (fun _ => ?_)|refine gDn 9 ?_)) <;> (try (conv => whnf)))
  rename_i a0 i2 h2 z2 z3 z4 z5 c0 i3 h3 z6 z7 e1 e2
  refine loop_rule (ι := DK) (fun y => [(2, .pt 2 1 0 [] 0 0), (5, .pt 10012 1 0 [] 0 0), (6, .pt 6 1 0 [] 0 0), (7, i64 n), (8, i64 y.a), (9, i64 y.c), (10, i64 (y.j : Nat))])
    (fun y => [(1000000, ⟨0, 0, false, tB b⟩), (10012, ⟨1, 0, y.d, tCur b y.i y.h⟩), (2, ⟨1, 0, false, zLive⟩), (10015, ⟨1, 0, false, tInsSS9 P⟩), (20015, ⟨1, 0, false, tStateS9 S⟩), (30015, ⟨1, 0, false, tItemSS9 W⟩), (40015, ⟨1, 0, false, tEventSS9 H⟩), (50015, ⟨1, 0, false, tI9 cut⟩), (60015, ⟨1, 0, false, tBool9 opn⟩), (70015, ⟨1, 0, false, tIntSS9 kept⟩),
      (6, ⟨1, 0, true, .box [.h 10015 1 0 [] 1 0 P.length, .h 20015 1 0 [] 4 0 S.length, .h 30015 1 0 [] 1 0 W.length, .h 40015 1 0 [] 1 0 H.length, bl on, .h 50015 1 0 [] 1 0 cut.length, .h 60015 1 0 [] 1 0 opn.length, .h 70015 1 0 [] 1 0 kept.length]⟩)])
    (fun y => W.length - y.j) (fun y => y.j ≤ W.length ∧ (0 ≤ y.i ∧ y.i ≤ b.length)) ⟨0, a0, c0, _, i3, h3⟩ fitOk ⟨Nat.zero_le _, ⟨e1, e2⟩⟩ (by simp [C]; omega) ?_
  clear z2 z3 z4 z5 z6 z7 e1 e2
  rintro ⟨j, a, c, d, i4, h4⟩ sl ob ⟨hj, ⟨e1, e2⟩⟩
  dsimp only at hj e1 e2
  by_cases hjl : j < W.length
  · have hw12 : (rd W j).length ≤ 2000000 := hB.ww j hjl
    have e4 : (List.map rItem (rd W j)).length = (rd W j).length := by simp
    cases t with
    | true =>
      (try dsimp only [cond_true, cond_false])
      (conv => whnf)
      repeat' ((with_reducible (first | refine sCall.of (q3 _) ?_|refine sCall.curB (ok_spec_l1Once _ _ _ _ _ hb) (fun _ _ _ _ _ => ?_)|refine st21 ?_|refine fG.split (fun _ => ?_) (fun _ => ?_)|refine fG.bool (fun _ => ?_) (fun _ => ?_)|refine sZ.eq (i64_and255 _) ?_|refine sZ.eq (i64_and30 _) ?_|refine sZ.all (fun _ => ?_)|refine sW.all (fun _ => ?_)|refine gDn 9 ?_)) <;> (try (conv => whnf)))
      all_goals
        refine ⟨⟨⟨j + 1, _, _, _, _, _⟩, fitOk, ?_, ?_⟩⟩
        · exact ⟨by show j + 1 ≤ W.length; omega, ⟨by assumption, by assumption⟩⟩
        · show W.length - (j + 1) < W.length - j; omega
    | false =>
      (try dsimp only [cond_true, cond_false])
      (conv => whnf)
      repeat' ((with_reducible (first | refine sCall.of (q3 _) ?_|refine sCall.curB (ok_spec_l1Once _ _ _ _ _ hb) (fun _ _ _ _ _ => ?_)|refine sCall.pick (ok_PickInt _ _ _ _ _ hb) (fun _ _ _ _ _ _ => ?_)|refine st21 ?_|refine fG.split (fun _ => ?_) (fun _ => ?_)|refine fG.bool (fun _ => ?_) (fun _ => ?_)|refine gDn 9 ?_)) <;> (try (conv => whnf)))
      all_goals exact ⟨_, _, _, _, _, _, _, _, _, _, ⟨hB, hS⟩, rfl⟩
  · (try dsimp only [cond_true, cond_false])
    (conv => whnf)
    repeat' ((with_reducible (first | refine sCall.curB (ok_spec_l1Once _ _ _ _ _ hb) (fun _ _ _ _ _ => ?_)|refine sCall.pick (ok_PickInt _ _ _ _ _ hb) (fun _ _ _ _ _ _ => ?_)|refine st21 ?_|refine fG.split (fun _ => ?_) (fun _ => ?_)|refine fG.bool (fun _ => ?_) (fun _ => ?_)|refine gDn 9 ?_)) <;> (try (conv => whnf)))
    all_goals exact ⟨_, _, _, _, _, _, _, _, _, _, ⟨hB, hS⟩, rfl⟩
structure MarkF (P : List (List Ins)) (S : List State) (W : List (List Item)) (H : List (List Event)) (cut : List Int) (opn : List Bool) (kept : List (List Int)) (a b : Nat) (X : LiveV) : Prop where
  la : a < P.length
  lb : b < P.length
  p : X.s.progs = P
  h : X.s.hist = H
  k : X.kept = kept
  wl : X.s.ways.length = W.length
  cl : X.cut.length = P.length
  ol : X.opn.length = P.length * P.length
  c0 : 0 ≤ rd X.cut b
  o0 : rd X.opn (a * P.length + b) = false
  old : 0 ≤ rd cut b → rd X.cut b = rd cut b ∧ (rd X.s.ways (a * P.length + b)).length + 1 = (rd W (a * P.length + b)).length
theorem mark_go {P : List (List Ins)} {S : List State} {W : List (List Item)} {H : List (List Event)} {on : Bool} {cut : List Int} {opn : List Bool} {kept : List (List Int)} {a b : Int} (h : (markIs P S W H on cut opn kept a b).2 = 0) :
    ∃ a' b' : Nat, a = (a' : Int) ∧ b = (b' : Int) ∧ liveOk P S W H on cut opn kept = true ∧ MarkF P S W H cut opn kept a' b' (markIs P S W H on cut opn kept a b).1 := by
  have hy := mark_yes h
  unfold markIs at h hy ⊢
  split at h
  · rename_i h1
    rw [if_pos h1] at hy ⊢
    have hF := liveF_iff.1 h1
    have hI := (sysOk_facts hF.ok).1
    split at h
    · rename_i h2
      rw [if_pos h2] at hy ⊢
      refine ⟨a.toNat, b.toNat, by omega, by omega, h1, ?_⟩
      split at h
      · rename_i h3
        rw [if_pos h3] at hy ⊢
        have hla : a.toNat < P.length := by omega
        have hlb : b.toNat < P.length := by omega
        have hpl := place_lt hla hlb
        have hw9 : (rd (takenW W (a.toNat * P.length + b.toNat)) (a.toNat * P.length + b.toNat)).length + 1 = (rd W (a.toNat * P.length + b.toNat)).length := by
          unfold takenW
          rw [rd_put _ (by rw [hI.w]; exact hpl), if_pos rfl, List.length_drop]
          have := h3.2.1
          omega
        split at h
        · rename_i h4
          rw [if_pos h4] at hy ⊢
          split at h
          · exact absurd h (by show ¬ (5 : Int) = 0; decide)
          · rename_i h5
            rw [if_neg h5] at hy ⊢
            refine ⟨hla, hlb, rfl, rfl, rfl, by show (drawW _ _ _ _).length = _; rw [drawW_len]; simp [takenW], by show (cut.set _ _).length = _; rw [List.length_set, hF.c], by show ((drawO _ _ _ _).set _ _).length = _; rw [List.length_set, drawO_len, hF.o], ?_, ?_, fun h9 => by omega⟩
            · show 0 ≤ rd (cut.set _ _) _
              rw [rd_set _ (by rw [hF.c]; exact hlb), if_pos rfl]; omega
            · show rd ((drawO _ _ _ _).set _ _) _ = false
              rw [rd_put _ (by rw [drawO_len, hF.o]; exact hpl), if_pos rfl]
        · rename_i h4
          rw [if_neg h4] at hy ⊢
          refine ⟨hla, hlb, rfl, rfl, rfl, by show (takenW _ _).length = _; simp [takenW], hF.c, by show (opn.set _ _).length = _; rw [List.length_set, hF.o], by show 0 ≤ rd cut _; omega, ?_, fun _ => ⟨rfl, hw9⟩⟩
          show rd (opn.set _ _) _ = false
          rw [rd_put _ (by rw [hF.o]; exact hpl), if_pos rfl]
      · exact absurd h (by show ¬ (4 : Int) = 0; decide)
    · exact absurd h (by show ¬ (2 : Int) = 0; decide)
  · exact absurd h (by show ¬ (1 : Int) = 0; decide)
theorem mark_no {P : List (List Ins)} {S : List State} {W : List (List Item)} {H : List (List Event)} {on : Bool} {cut : List Int} {opn : List Bool} {kept : List (List Int)} {a b : Int} (h : ¬ (markIs P S W H on cut opn kept a b).2 = 0) :
    (markIs P S W H on cut opn kept a b).2 = 1 ∧ (markIs P S W H on cut opn kept a b).1 = zeroV ∨ ¬ (markIs P S W H on cut opn kept a b).2 = 1 ∧ (markIs P S W H on cut opn kept a b).1 = ⟨⟨P, S, W, H⟩, on, cut, opn, kept⟩ := by
  unfold markIs at h ⊢
  split at h
  · rename_i h1
    rw [if_pos h1]
    right
    split at h
    · rename_i h2
      rw [if_pos h2]
      split at h
      · rename_i h3
        rw [if_pos h3]
        split at h
        · rename_i h4
          rw [if_pos h4]
          split at h
          · rename_i h5
            rw [if_pos h5]
            exact ⟨by show ¬ (5 : Int) = 1; decide, rfl⟩
          · exact absurd rfl h
        · exact absurd rfl h
      · rename_i h3
        rw [if_neg h3]
        exact ⟨by show ¬ (4 : Int) = 1; decide, rfl⟩
    · rename_i h2
      rw [if_neg h2]
      exact ⟨by show ¬ (2 : Int) = 1; decide, rfl⟩
  · rename_i h1
    rw [if_neg h1]
    left
    exact ⟨rfl, rfl⟩
theorem LiveF.shot {P : List (List Ins)} {S : List State} {W : List (List Item)} {H : List (List Event)} {on : Bool} {cut : List Int} {opn : List Bool} {kept : List (List Int)} (h : LiveF P S W H on cut opn kept) (hk : ∀ j : Nat, j < kept.length → (rd kept j).length ≤ 3000000) : ShotB 1000000000 cut opn kept := by
  have hN := (sysOk_facts h.ok).1.n
  have hnn : P.length * P.length ≤ 4 * 4 := Nat.mul_le_mul hN.2 hN.2
  exact ⟨by rw [h.c]; omega, by rw [h.o]; omega, by rw [h.k]; omega, fun j hj => by have := hk j hj; omega⟩
set_option maxRecDepth 20000 in
set_option maxHeartbeats 16000000 in
theorem ok_laws_FnMark (k : Nat) (b : List Int) (hl : b.length ≤ 140737488355328) (hv : ∀ v ∈ b, 0 ≤ v ∧ v < 256) :
    callE PR C (k + 30) 8 [.h 1000000 0 0 [] 1 0 b.length] [tB b] = some ⟨bl true, [], [none]⟩ := by
  have q0 := fun k => ok_laws_big k b
  by_cases c0 : 1048576 < (b.length : Int)
  · rw [decide_eq_true c0] at q0
    (refine fnI [ResultVar.tmp 2] Tryz.func8 ?_; conv => whnf)
    repeat' ((with_reducible (first | refine sCall.of (q0 _) ?_|refine st21 ?_|refine fG.split (fun _ => ?_) (fun _ => ?_)|refine fG.bool (fun _ => ?_) (fun _ => ?_)|refine gDn 11 ?_|refine gDn 13 ?_)) <;> (try (conv => whnf)))
  · rw [decide_eq_false c0] at q0
    have hb : Bytes b := ⟨by omega, hv⟩
    (refine fnI [ResultVar.tmp 2] Tryz.func8 ?_; conv => whnf)
    repeat' ((with_reducible (first | refine sCall.of (q0 _) ?_|refine sCall.lv2 (ok_spec_DrawMark _ _ hb) (fun _ _ _ _ _ _ _ _ _ _ _ _ => ?_)|refine st21 ?_|refine fG.split (fun _ => ?_) (fun _ => ?_)|refine fG.bool (fun _ => ?_) (fun _ => ?_)|refine gDn 11 ?_|refine gDn 13 ?_)) <;> (try (conv => whnf)))
    rename_i P S W H on cut opn kept x y hB hS
    have hS9 : ShotB 1000000000 cut opn kept := ⟨by have := hS.c; omega, by have := hS.o; omega, by have := hS.k; omega, fun j hj => by have := hS.kk j hj; omega⟩
    have q1 := fun k => ok_impl_Mark k P S W H on cut opn kept x y (hB.mono (by decide)) hS9
    have q2 := fun k => ok_spec_Mark k P S W H on cut opn kept x y (hB.mono (by decide)) hS9
    have hno := @mark_no P S W H on cut opn kept x y
    have hgo := @mark_go P S W H on cut opn kept x y
    have hye := @mark_yes P S W H on cut opn kept x y
    have hkk := hS.kk
    generalize markIs P S W H on cut opn kept x y = X at *
    obtain ⟨⟨⟨P2, S2, W2, H2⟩, on2, cut2, opn2, kept2⟩, n⟩ := X
    dsimp only at hno hgo hye
    simp only [liveRes] at q1 q2
    by_cases hn : n = 0
    · obtain ⟨a, b2, rfl, rfl, ho, hM⟩ := hgo hn
      obtain ⟨hF2, hK⟩ := hye hn
      have hF := liveF_iff.1 ho
      have hMp := hM.p
      have hMh := hM.h
      dsimp only at hMp hMh hK
      subst hMp hMh hK
      have hI := (sysOk_facts hF.ok).1
      have hN := hI.n
      have hwl := hI.w
      have ho9 := hF.o
      have hk9 := hF.k
      have hc9 := hF.c
      have hG2 := (sysOk_G hF2.ok).b
      have q3 := fun k => ok_impl_LiveOk k P2 S2 W2 H2 on2 cut2 opn2 kept2 (hG2.mono (by decide)) (hF2.shot (fun j hj => by have := hkk j hj; omega)).mono9
      rw [liveF_iff.2 hF2] at q3
      have hhl : H2.length ≤ 1048576 := hG2.h
      have q4 := fun k => ok_laws_sameHist k P2 P2 S2 S W2 W H2 (by omega) (fun q hq => by have := hG2.hh q hq; dsimp only at this; omega)
      obtain ⟨m1, m2, _, _, _, m6, m7, m8, m9, m10, m11⟩ := hM
      dsimp only at m6 m7 m8 m9 m10 m11
      have h16 : a * P2.length ≤ 4 * 4 := Nat.mul_le_mul (by omega) hN.2
      have hpl := place_lt m1 m2
      obtain ⟨ix, hix⟩ : ∃ ix : Nat, a * P2.length = ix := ⟨_, rfl⟩
      rw [hix] at h16 hpl m10 m11
      have w1 : IntKind.i64.wrap ((a : Int) * (P2.length : Int)) = (ix : Int) := by
        rw [show (a : Int) * (P2.length : Int) = ((a * P2.length : Nat) : Int) by simp, hix]; exact wrap_i64 _ (by omega) (by omega)
      have en : ((ix : Int) + (b2 : Int)).toNat = ix + b2 := by omega
      have e1 : (List.map rItem (rd W2 ((ix : Int) + (b2 : Int)).toNat)).length = (rd W2 (ix + b2)).length := by rw [en]; simp
      have e2 : (List.map rItem (rd W ((ix : Int) + (b2 : Int)).toNat)).length = (rd W (ix + b2)).length := by rw [en]; simp
      have e3 : (List.map rI (rd kept2 ((ix : Int) + (b2 : Int)).toNat)).length = (rd kept2 (ix + b2)).length := by rw [en]; simp
      have b1 : (rd W (ix + b2)).length ≤ 2000000 := hB.ww _ (by omega)
      have b3 := hkk (ix + b2) (by omega)
      have hop : rd opn2 ((ix : Int) + (b2 : Int)).toNat = false := by rw [en]; exact m10
      clear hno hgo hye hix hG2 hF hF2
      by_cases c2 : 0 ≤ rd cut b2
      · obtain ⟨m12, m13⟩ := m11 c2
        repeat' ((with_reducible (first | refine sCall.of (q1 _) ?_|refine sCall.of (q2 _) ?_|refine sCall.of (q3 _) ?_|refine sCall.of (q4 _) ?_|refine sW.eq (w1) ?_|refine st21 ?_|refine fG.split (fun _ => ?_) (fun _ => ?_)|refine fG.bool (fun _ => ?_) (fun _ => ?_)|refine gDn 11 ?_|refine gDn 13 ?_)) <;> (try (conv => whnf)))
        all_goals first
          | rfl
          | (rw [decide_eq_true rfl])
      · repeat' ((with_reducible (first | refine sCall.of (q1 _) ?_|refine sCall.of (q2 _) ?_|refine sCall.of (q3 _) ?_|refine sCall.of (q4 _) ?_|refine sW.eq (w1) ?_|refine st21 ?_|refine fG.split (fun _ => ?_) (fun _ => ?_)|refine fG.bool (fun _ => ?_) (fun _ => ?_)|refine gDn 11 ?_|refine gDn 13 ?_)) <;> (try (conv => whnf)))
        all_goals first
          | rfl
          | (rw [decide_eq_true rfl])
    · rcases hno hn with ⟨rfl, hz⟩ | ⟨h1, hz⟩
      · cases hz
        repeat' ((with_reducible (first | refine sCall.of (q1 _) ?_|refine sCall.of (q2 _) ?_|refine st21 ?_|refine fG.split (fun _ => ?_) (fun _ => ?_)|refine fG.bool (fun _ => ?_) (fun _ => ?_)|refine gDn 11 ?_|refine gDn 13 ?_)) <;> (try (conv => whnf)))
        all_goals rfl
      · cases hz
        cases on
        all_goals repeat' ((with_reducible (first | refine sCall.of (q1 _) ?_|refine sCall.of (q2 _) ?_|refine st21 ?_|refine fG.split (fun _ => ?_) (fun _ => ?_)|refine fG.bool (fun _ => ?_) (fun _ => ?_)|refine gDn 11 ?_|refine gDn 13 ?_)) <;> (try (conv => whnf)))
        all_goals rfl

end Go.Proofs.YtipfcgbhaalcdaaGreat.Abs
namespace Go.Proofs.YtipfcgbhaalcdaaGreat.Abs
open Go
set_option linter.unusedVariables false

def Opens (P : Program) (t : TypeId) (n : Nat) (M : List T → Prop) : Prop :=
  ∀ (H : Type) (enc : TypeId × Value → H) (w : World) (base : Nat) (sp : Nat → Bool) (held : Bool) (fuel : Nat) (cs : List Value) (x : DataW H × List MemPlace),
    DataW.trod enc P w base sp held fuel t cs = some x → (∀ m ∈ x.1.weights P t, m ≤ reachBytes) →
      cs.length = n ∧ ∃ ts : List T, ts.length = n ∧ M ts ∧ ∀ (i : Nat) v t', cs[i]? = some v → ts[i]? = some t' → Ow (fun k => k < w.heap.size) w 0 v t' none_
theorem Opens.mono {P : Program} {t : TypeId} {n : Nat} {M M' : List T → Prop} (h : Opens P t n M) (hm : ∀ ts, M ts → M' ts) : Opens P t n M' := by
  intro H enc w base sp held fuel cs x hx hw
  obtain ⟨h1, ts, h2, h3, h4⟩ := h H enc w base sp held fuel cs x hx hw
  exact ⟨h1, ts, h2, hm _ h3, h4⟩
theorem one_ow {w : World} {v0 : Value} {t0 : T} (h : Ow (fun k => k < w.heap.size) w 0 v0 t0 none_) : ∀ (i : Nat) v t', [v0][i]? = some v → [t0][i]? = some t' → Ow (fun k => k < w.heap.size) w 0 v t' none_ := by
  rintro (_ | i) v t' h1 h2
  · simp at h1 h2; subst h1; subst h2; exact h
  · simp at h1
theorem Opens.int {P : Program} {t : TypeId} {k : IntKind} (ht : P.underlying t = some (.int k)) : Opens P t 1 (fun ts => ∃ n, (Lit.int k n).wf = true ∧ ts = [.v (.int k n)]) := by
  intro H enc w base sp held fuel cs x hx hw
  obtain ⟨n, rfl, rfl, h⟩ := DataW.trod_int ht hx
  exact ⟨rfl, _, rfl, ⟨n, h, rfl⟩, one_ow (.v rfl)⟩
theorem Opens.bool {P : Program} {t : TypeId} (ht : P.underlying t = some .bool) : Opens P t 1 (fun ts => ∃ b, ts = [.v (.bool b)]) := by
  intro H enc w base sp held fuel cs x hx hw
  obtain ⟨b, rfl, rfl⟩ := DataW.trod_bool ht hx
  exact ⟨rfl, _, rfl, ⟨b, rfl⟩, one_ow (.v rfl)⟩
theorem Opens.str {P : Program} {t : TypeId} (ht : P.underlying t = some .string) : Opens P t 1 (fun ts => ∃ s : ByteArray, s.size ≤ reachBytes ∧ ts = [.v (.string s)]) := by
  intro H enc w base sp held fuel cs x hx hw
  obtain ⟨s, rfl, rfl, h⟩ := DataW.trod_string ht hx
  refine ⟨rfl, _, rfl, ⟨s, ?_, rfl⟩, one_ow (.v rfl)⟩
  have := hw s.data.toList.length (by simp [DataW.weights])
  simpa using this
def Parts (P : Program) : List Field → Nat → Nat → (List T → Prop) → Prop
  | [], _, n, M => n = 0 ∧ M []
  | f :: r, off, n, M => f.offset = off ∧ ∃ n1 n2 M1 M2, P.cellsOf f.type = n1 ∧ Opens P f.type n1 M1 ∧ Parts P r (off + n1) n2 M2 ∧ n = n1 + n2 ∧ ∀ a b, M1 a → M2 b → M (a ++ b)
theorem weights_part {P : Program} {H : Type} {ts : List TypeId} : ∀ {ds : List (DataW H)} {R : Nat}, (∀ m ∈ DataW.weightsEach P ts ds, m ≤ R) → ∀ (j : Nat) t d, ts[j]? = some t → ds[j]? = some d → ∀ m ∈ d.weights P t, m ≤ R :=
  fun h j t d ht hd m hm => h m (DataW.weights_mem_each ht hd m hm)
theorem Parts.opens {P : Program} {H : Type} {enc : TypeId × Value → H} {w : World} {base : Nat} {sp : Nat → Bool} {held : Bool} {fuel : Nat} {cs : List Value} : ∀ {fs : List Field} {off n : Nat} {M : List T → Prop}, Parts P fs off n M → off + n = cs.length →
    (∀ f ∈ fs, ∃ x, DataW.trod enc P w base sp held fuel f.type ((cs.drop f.offset).take (P.cellsOf f.type)) = some x ∧ (∀ m ∈ x.1.weights P f.type, m ≤ reachBytes)) →
    ∃ ts : List T, ts.length = n ∧ M ts ∧ ∀ (i : Nat) v t', cs[off + i]? = some v → ts[i]? = some t' → Ow (fun k => k < w.heap.size) w 0 v t' none_ := by
  intro fs
  induction fs with
  | nil =>
    intro off n M h hl _
    exact ⟨[], h.1.symm, h.2, fun i v t' _ h2 => by simp at h2⟩
  | cons f r ih =>
    intro off n M h hl hx
    obtain ⟨rfl, n1, n2, M1, M2, h1, h2, h3, rfl, h4⟩ := h
    obtain ⟨x, hx1, hx2⟩ := hx f (by simp)
    rw [h1] at hx1
    obtain ⟨k1, t1, k2, k3, k4⟩ := h2 H enc w base sp held fuel _ x hx1 hx2
    obtain ⟨t2, q1, q2, q3⟩ := ih h3 (by omega) fun g hg => hx g (by simp [hg])
    refine ⟨t1 ++ t2, by simp [k2, q1], h4 _ _ k3 q2, fun i v t' hv ht' => ?_⟩
    by_cases hi : i < n1
    · rw [List.getElem?_append_left (by omega)] at ht'
      exact k4 i v t' (by rw [List.getElem?_take, if_pos hi, List.getElem?_drop]; exact hv) ht'
    · rw [List.getElem?_append_right (by omega), k2] at ht'
      exact q3 (i - n1) v t' (by rw [show f.offset + n1 + (i - n1) = f.offset + i by omega]; exact hv) ht'
theorem Opens.struct {P : Program} {t : TypeId} {fs : Array Field} {n : Nat} {M : List T → Prop} (ht : P.underlying t = some (.struct fs)) (hc : P.cellsOf t = n) (hp : Parts P fs.toList 0 n M) : Opens P t n M := by
  intro H enc w base sp held fuel cs x hx hw
  obtain ⟨xs, m, _, rfl, hl, hlen, hf⟩ := DataW.trod_struct ht hx
  have hl' : cs.length = n := hl.trans hc
  obtain ⟨ts, h1, h2, h3⟩ := hp.opens (enc := enc) (w := w) (base := base) (sp := sp) (held := held) (fuel := m) (cs := cs) (by omega) (by
    intro f hfm
    obtain ⟨i, hi⟩ := List.getElem?_of_mem hfm
    have hi' : fs[i]? = some f := by simpa using hi
    have hlt : i < xs.length := by rw [hlen]; exact (Array.getElem?_eq_some_iff.1 hi').1
    have hy : xs[i]? = some xs[i] := List.getElem?_eq_getElem hlt
    refine ⟨xs[i], (hf i f hi').trans hy, ?_⟩
    refine weights_part (ts := fs.toList.map (·.type)) (ds := xs.map (·.1)) ?_ i f.type xs[i].1 (by simp [hi']) (by rw [List.getElem?_map, hy]; rfl)
    intro q hq
    refine hw q ?_
    simpa [DataW.weights, ht] using hq)
  exact ⟨hl', ts, h1, h2, fun i v t' hv ht' => h3 i v t' (by simpa using hv) ht'⟩
def IntsM (n : Nat) (ts : List T) : Prop := ∃ zs : List Int, zs.length = n ∧ ts = zs.map fun z => T.v (.int .i64 z)
theorem Parts.nil {P : Program} {off : Nat} : Parts P [] off 0 (IntsM 0) := ⟨rfl, [], rfl, rfl⟩
theorem Parts.int {P : Program} {f : Field} {r : List Field} {off n : Nat} (ho : f.offset = off) (hc : P.cellsOf f.type = 1) (ht : P.underlying f.type = some (.int .i64)) (h : Parts P r (off + 1) n (IntsM n)) :
    Parts P (f :: r) off (1 + n) (IntsM (1 + n)) := by
  refine ⟨ho, 1, n, _, _, hc, Opens.int ht, h, rfl, ?_⟩
  rintro a b ⟨z, _, rfl⟩ ⟨zs, hz, rfl⟩
  exact ⟨z :: zs, by simp [hz]; omega, rfl⟩
def Ms : List (List T → Prop) → List T → Prop
  | [], ts => ts = []
  | M :: r, ts => ∃ a b, ts = a ++ b ∧ M a ∧ Ms r b
theorem Parts.mnil {P : Program} {off : Nat} : Parts P [] off 0 (Ms []) := ⟨rfl, rfl⟩
theorem Parts.mcons {P : Program} {f : Field} {r : List Field} {off n1 n : Nat} {M : List T → Prop} {l : List (List T → Prop)} (ho : f.offset = off) (hc : P.cellsOf f.type = n1) (ht : Opens P f.type n1 M) (h : Parts P r (off + n1) n (Ms l)) :
    Parts P (f :: r) off (n1 + n) (Ms (M :: l)) :=
  ⟨ho, n1, n, _, _, hc, ht, h, rfl, fun a b ha hb => ⟨a, b, rfl, ha, hb⟩⟩

theorem rows_map {α : Type} {f : α → List T} {p : α → Prop} {rows : List (List T)} (h : ∀ r ∈ rows, ∃ x, p x ∧ r = f x) : ∃ l : List α, rows = l.map f ∧ ∀ x ∈ l, p x := by
  induction rows with
  | nil => exact ⟨[], rfl, by simp⟩
  | cons r rows ih =>
    obtain ⟨x, hx, rfl⟩ := h r (by simp)
    obtain ⟨l, rfl, hl⟩ := ih fun q hq => h q (by simp [hq])
    exact ⟨x :: l, rfl, by simpa using ⟨hx, hl⟩⟩
theorem weights_all {P : Program} {H : Type} {e : TypeId} {d : DataW H} : ∀ {l : List (DataW H)}, d ∈ l → ∀ m ∈ d.weights P e, m ∈ DataW.weightsAll P e l
  | a :: r, hd, m, hm => by
    simp only [DataW.weightsAll, List.mem_append]
    rcases List.mem_cons.1 hd with rfl | hd
    · exact .inl hm
    · exact .inr (weights_all hd m hm)
theorem Opens.slice {P : Program} {t e : TypeId} {sz B : Nat} {M : List T → Prop} (ht : P.underlying t = some (.slice e)) (hc : P.cellsOf e = sz) (hB : P.bytesOf e = B) (hsz : 0 < sz) (hE : Opens P e sz M) :
    Opens P t 1 (fun ts => ∃ rows, ts = [.sl sz rows] ∧ (∀ x ∈ rows, M x) ∧ rows.length * B ≤ reachBytes) := by
  intro H enc w base sp held fuel cs0 x hx hw
  rcases DataW.trod_slice ht hx with ⟨rfl, _⟩ | ⟨a, len, cap, elems, rest, n, _, rfl, rfl, _, hl, _, hlen, hel, _⟩
  · exact ⟨rfl, _, rfl, ⟨[], rfl, by simp, by simp⟩, one_ow .nil⟩
  · have hw1 : (elems.length + rest.length) * B ≤ reachBytes := by
      have := hw ((elems.length + rest.length) * P.bytesOf e) (by simp [DataW.weights, ht])
      rwa [hB] at this
    have hcell : ∀ i : Nat, ∃ q : List Value × List T, i < len → q.1.length = sz ∧ q.2.length = sz ∧ M q.2 ∧ (∀ j, j < sz → w.cell? ((a.add (i * sz)).add j) = q.1[j]?) ∧
        ∀ (j : Nat) v t', q.1[j]? = some v → q.2[j]? = some t' → Ow (fun k => k < w.heap.size) w 0 v t' none_ := by
      intro i
      by_cases hi : i < len
      · have hy : elems[i]? = some (elems[i]'(by omega)) := List.getElem?_eq_getElem (by omega)
        have h1 := hel i hi
        rw [hy, hc, Option.bind_eq_some_iff] at h1
        obtain ⟨cs, hcs, htr⟩ := h1
        obtain ⟨k1, ts, k2, k3, k4⟩ := hE H enc w base sp held n cs _ htr (by
          intro m hm
          refine hw m ?_
          have := weights_all (P := P) (e := e) (l := elems.map (·.1)) (List.mem_map_of_mem (List.getElem_mem (by omega : i < elems.length))) m hm
          simp [DataW.weights, ht, this])
        obtain ⟨_, g1, g2⟩ := World.cells?_some hcs
        exact ⟨(cs, ts), fun _ => ⟨k1, k2, k3, g2, k4⟩⟩
      · exact ⟨([], []), fun h => absurd h hi⟩
    obtain ⟨c, hc2⟩ := Classical.axiomOfChoice hcell
    have hblk : 0 < len → a.block < w.heap.size := by
      intro h0
      obtain ⟨k1, k2, k3, k4, k5⟩ := hc2 0 h0
      have h1 := k4 0 hsz
      have h2 : (c 0).1[0]? = some ((c 0).1[0]'(by omega)) := List.getElem?_eq_getElem (by omega)
      rw [h2] at h1
      by_cases hlt : a.block < w.heap.size
      · exact hlt
      · unfold World.cell? at h1
        rw [add_block, add_block, Array.getElem?_eq_none (by omega)] at h1
        simp at h1
    have hat : ∀ i j t', cellT ((List.range len).map fun i => (c i).2) i j = some t' → i < len ∧ (c i).2[j]? = some t' := by
      intro i j t' h'
      unfold cellT at h'
      rw [List.getElem?_map] at h'
      by_cases hi : i < len
      · have hr : (List.range len)[i]? = some i := by simp [hi]
        rw [hr] at h'
        exact ⟨hi, by simpa using h'⟩
      · have hr : (List.range len)[i]? = none := by simp; omega
        rw [hr] at h'
        simp at h'
    refine ⟨rfl, [.sl sz ((List.range len).map fun i => (c i).2)], rfl, ⟨_, rfl, ?_, ?_⟩, one_ow ?_⟩
    · intro x hx
      obtain ⟨i, hi, rfl⟩ := List.mem_map.1 hx
      exact (hc2 i (List.mem_range.1 hi)).2.2.1
    · rw [List.length_map, List.length_range]
      exact Nat.le_trans (Nat.mul_le_mul_right _ (by omega)) hw1
    · have hro := Ow.ro (Z := fun k => k < w.heap.size) (w := w) (a := a) (c := cap) (rows := (List.range len).map fun i => (c i).2) (sz := sz) (fun i j => (c i).1.getD j undef) (by simpa using hl)
        (by
          intro r hr
          obtain ⟨i, hi, rfl⟩ := List.mem_map.1 hr
          exact (hc2 i (List.mem_range.1 hi)).2.1) (fun hne => hblk (by
            rcases Nat.eq_zero_or_pos len with h0 | h0
            · subst h0; exact absurd rfl hne
            · exact h0))
        (by
          intro i j t' h'
          obtain ⟨hi, hj⟩ := hat i j t' h'
          obtain ⟨k1, k2, k3, k4, k5⟩ := hc2 i hi
          have hj' : j < sz := by rw [← k2]; exact (List.getElem?_eq_some_iff.1 hj).1
          rw [← Addr.add_add, k4 j hj', List.getElem?_eq_getElem (by omega)]
          simp [List.getD, show j < (c i).1.length by omega])
        (by
          intro i j t' h'
          obtain ⟨hi, hj⟩ := hat i j t' h'
          obtain ⟨k1, k2, k3, k4, k5⟩ := hc2 i hi
          have hj' : j < sz := by rw [← k2]; exact (List.getElem?_eq_some_iff.1 hj).1
          refine k5 j _ t' ?_ hj
          rw [List.getElem?_eq_getElem (by omega)]
          simp [List.getD, show j < (c i).1.length by omega])
      simpa using hro
theorem Opens.one {P : Program} {t : TypeId} {M : List T → Prop} (h : Opens P t 1 M) {H : Type} {enc : TypeId × Value → H} {w : World} {base : Nat} {sp : Nat → Bool} {held : Bool} {v : Value} {d : DataW H} {ps : List MemPlace}
    (hv : v.cells.toList = [v]) (hd : DataW.Trod enc P w base sp held t v d ps) (hw : ∀ m ∈ d.weights P t, m ≤ reachBytes) : ∃ t', M [t'] ∧ Ow (fun k => k < w.heap.size) w 0 v t' none_ := by
  obtain ⟨fuel, hf⟩ := hd
  rw [hv] at hf
  obtain ⟨_, ts, h1, h2, h3⟩ := h H enc w base sp held fuel _ _ hf hw
  obtain ⟨t', rfl⟩ := List.length_eq_one_iff.1 h1
  exact ⟨t', h2, h3 0 v t' rfl rfl⟩
end Go.Proofs.YtipfcgbhaalcdaaGreat.Abs
namespace Go.Proofs.YtipfcgbhaalcdaaGreat.Abs
open Go Go.RowKit
set_option linter.unusedVariables false

theorem Ow.slice_inv {Z : Fp} {w : World} {v : Value} {sz : Nat} {rows : List (List T)} {F : Fp} {l : Nat} (h : Ow Z w l v (.sl sz rows) F) :
    (v = .slice none 0 0 ∧ rows = []) ∨ ∃ a c, v = .slice (some a) rows.length c ∧ rows.length ≤ c := by
  cases h with
  | nil => exact .inl ⟨rfl, rfl⟩
  | ro xs hc hs hz hx ht => exact .inr ⟨_, _, rfl, hc⟩
  | own xs F hb hfr hc hoff hmax hs hx ht hF hnb hd => exact .inr ⟨_, _, rfl, hc⟩
theorem arg_slice {Z : Fp} {w : World} {ob : Objs} {ρ : Nat → Value} {o sz : Nat} {rows : List (List T)} {v : Value} (h1 : ob o = ⟨0, 0, false, .tree 0 (.sl sz rows)⟩) (h2 : ρ o = v) (h3 : Ow Z w 0 v (.sl sz rows) none_) :
    AVR w ob ρ (.h o 0 0 [] sz 0 rows.length) v := by
  have hin := h3.slice_inv
  refine .h ?_ ?_ fun _ => ?_
  · rw [h1]; exact ⟨Nat.le_refl _, fun _ h => absurd rfl h⟩
  · rcases hin with ⟨rfl, rfl⟩ | ⟨a, c, rfl, hc⟩
    · exact ⟨none, 0, rfl, Nat.le_refl _, fun _ => rfl⟩
    · exact ⟨some a, c, rfl, hc, fun h => by cases h⟩
  · rw [h1, h2]
    refine ⟨fun cells h => by (dsimp only at h; cases h), fun lvl t hc => ?_⟩
    dsimp only at hc
    cases hc
    refine ⟨v, rows, .here, by omega, ?_⟩
    rcases hin with ⟨rfl, rfl⟩ | ⟨a, c, rfl, hc⟩
    · exact .inl ⟨rfl, rfl, rfl, rfl⟩
    · refine .inr ⟨a, rows.length, c, 0, c, rfl, ?_, hc, by omega, Nat.le_refl _, fun _ => rfl⟩
      rw [Nat.zero_mul]
      cases a with
      | mk b off s => cases s <;> simp [Addr.add]
theorem FnOk.outside {P : Program} {W : World} {f : FuncId} {args : List AV} {conts : List Cont} {r : Res} (h : FnOk P f args conts r) (vals : List Value)
    (ho : ∀ (i : Nat) c, conts[i]? = some c → ∃ t v, c = .tree 0 t ∧ vals[i]? = some v ∧ Ow (fun k => k < W.heap.size) W 0 v t none_) (vs : Array Value) (hs : vs.size = args.length)
    (hA : ∀ (i : Nat) x, args[i]? = some x → AVR W (obIn conts) (fun o => vals.getD (o - 1000000) undef) x (vs.getD i undef)) :
    Calls P f vs W (fun e w' => ∃ v, e = .returned v ∧ Below W.heap.size W w' ∧ ∃ ob' ρ', AVR w' ob' ρ' r.v v) := by
  have hI : OInv W none_ (obIn conts) W (fun o => vals.getD (o - 1000000) undef) (fun _ => none_) (fun k => k < W.heap.size) := by
    refine ⟨Keep.refl _ _, fun k hk _ => hk, fun k hk => hk, fun o k hk => hk.elim, fun o o' k hk => hk.elim, fun o k hk => hk.elim, fun o => ?_⟩
    unfold ObOk
    by_cases h1 : 1000000 ≤ o
    · simp only [obIn, h1, if_true]
      cases hc : conts[o - 1000000]? with
      | none =>
        have e : conts.getD (o - 1000000) .dead = .dead := by simp [List.getD, hc]
        rw [e]
        exact fun k hk => hk
      | some c =>
        obtain ⟨t, v, rfl, hv, how⟩ := ho _ _ hc
        have e : conts.getD (o - 1000000) .dead = .tree 0 t := by simp [List.getD, hc]
        have e2 : vals.getD (o - 1000000) undef = v := by simp [List.getD, hv]
        rw [e, e2]
        exact how
    · simp only [obIn, h1, if_false]
      exact fun k hk => hk
  have hr := h.run W none_ _ _ _ vs hI (fun k _ hk => hk) hs hA
  intro cs
  obtain ⟨e, w', fr, hR, hC, hfn, hl⟩ := hr cs
  refine ⟨e, w', fr, ?_, hC, hfn, hl⟩
  cases e with
  | returned v =>
    obtain ⟨ρ', φ', Z', hst, hav⟩ := hR
    exact ⟨v, rfl, ⟨hst.inv.keep.os, hst.inv.keep.tape, hst.inv.keep.output, hst.inv.keep.size, fun k hk => hst.inv.keep.block k hk id⟩, _, _, hav⟩
  | _ => exact hR.elim
theorem AVR.bool_inv {w : World} {ob : Objs} {ρ : Nat → Value} {b : Bool} {v : Value} (h : AVR w ob ρ (.s (.bool b)) v) : v = .bool b := by
  cases h; rfl
end Go.Proofs.YtipfcgbhaalcdaaGreat.Abs
