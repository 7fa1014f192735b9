/- Part 6 of the words by which the law is followed: an interpreter over data trees, proved of the machine, and what functions of this program come to by it. No condition. -/
import Derived.Test.YtldndahfnkbngaaGreatJB5
namespace Go.Proofs.YtldndahfnkbngaaGreat.Abs
open Go Go.Proofs
set_option linter.unusedVariables false
set_option linter.unusedSimpArgs false
attribute [local irreducible] callE
def askedOf (x : Ins) (peer : Int) : Int := if x.n = 9 then peer else x.n
def srcIs (n : Nat) (W : List (List Item)) (p : Nat) (q : Int) : Int × Int :=
  if 0 ≤ q ∧ q ≤ (n : Int) - 1 then (if (rd W (q.toNat * n + p)).length = 0 then (0, 3) else if (rd (rd W (q.toNat * n + p)) 0).mark = true then (0, 5) else (q, 0)) else (0, 2)
def wantsOf (P : List (List Ins)) (S : List State) (p : Nat) : Event := next (rd P p) (rd S p)
def insAt (P : List (List Ins)) (S : List State) (p : Nat) : Ins := rd (rd P p) (rd S p).at_.toNat
def comingIs (P : List (List Ins)) (S : List State) (W : List (List Item)) (H : List (List Event)) (p peer : Int) : Event × Int :=
  if 0 ≤ p ∧ p ≤ (P.length : Int) - 1 then
    (if (rd S p.toNat).code = 0 then
      (if (200 : Int) ≤ ((rd H p.toNat).length : Int) then (⟨0, 0, 0⟩, 4) else
        if (wantsOf P S p.toNat).kind = 2 then (if (12 : Int) ≤ ((rd W (p.toNat * P.length + (wantsOf P S p.toNat).peer.toNat)).length : Int) then (⟨0, 0, 0⟩, 4) else (wantsOf P S p.toNat, 0))
        else if (wantsOf P S p.toNat).kind = 3 then
          (if (srcIs P.length W p.toNat (askedOf (insAt P S p.toNat) peer)).2 = 0 then (⟨3, askedOf (insAt P S p.toNat) peer, (rd (rd W ((askedOf (insAt P S p.toNat) peer).toNat * P.length + p.toNat)) 0).v⟩, 0) else (⟨0, 0, 0⟩, (srcIs P.length W p.toNat (askedOf (insAt P S p.toNat) peer)).2))
        else (wantsOf P S p.toNat, 0))
    else (⟨0, 0, 0⟩, 6))
  else (⟨0, 0, 0⟩, 2)
def stepW (n : Nat) (W : List (List Item)) (p : Nat) (e : Event) : List (List Item) :=
  if e.kind = 2 then W.set (p * n + e.peer.toNat) (rd W (p * n + e.peer.toNat) ++ [⟨false, e.v⟩]) else if e.kind = 3 then W.set (e.peer.toNat * n + p) ((rd W (e.peer.toNat * n + p)).drop 1) else W
def stepS (P : List (List Ins)) (S : List State) (W : List (List Item)) (H : List (List Event)) (p : Nat) (e : Event) : Sys :=
  ⟨P, S.set p (did (rd P p) (rd S p) e), stepW P.length W p e, H.set p (rd H p ++ [e])⟩
def stepIs (P : List (List Ins)) (S : List State) (W : List (List Item)) (H : List (List Event)) (p peer : Int) : Sys × Int :=
  if (comingIs P S W H p peer).2 = 0 then (stepS P S W H p.toNat (comingIs P S W H p peer).1, 0) else (⟨P, S, W, H⟩, (comingIs P S W H p peer).2)
structure ComesAt (P : List (List Ins)) (S : List State) (W : List (List Item)) (H : List (List Event)) (p : Nat) (e : Event) : Prop where
  lt : p < P.length
  code : (rd S p).code = 0
  few : (rd H p).length < 200
  comes : comes e (next (rd P p) (rd S p)) = true
  send : e.kind = 2 → (0 ≤ e.peer ∧ e.peer.toNat < P.length) ∧ (rd W (p * P.length + e.peer.toNat)).length < 12
  take : e.kind = 3 → (0 ≤ e.peer ∧ e.peer.toNat < P.length) ∧ 0 < (rd W (e.peer.toNat * P.length + p)).length ∧ (rd (rd W (e.peer.toNat * P.length + p)) 0).mark = false ∧ e.v = (rd (rd W (e.peer.toNat * P.length + p)) 0).v
theorem next_kind {l : List Ins} {s : State} : (next l s).kind = 2 ∧ (rd l s.at_.toNat).op = 6 ∧ (next l s).peer = (rd l s.at_.toNat).n ∨ (next l s).kind = 3 ∧ (rd l s.at_.toNat).op = 7 ∧ next l s = ⟨3, (rd l s.at_.toNat).n, 0⟩ ∨ (next l s).kind ≠ 2 ∧ (next l s).kind ≠ 3 := by
  unfold next
  by_cases h6 : (rd l s.at_.toNat).op = 6
  · left; simp [h6]
  · by_cases h7 : (rd l s.at_.toNat).op = 7
    · right; left; simp [h7]
    · right; right
      by_cases h8 : (rd l s.at_.toNat).op = 8 <;> simp [h6, h7, h8]
theorem insOk_peer {x : Ins} {m n : Int} (h : insOk x m n = true) (h6 : x.op = 6) : 0 ≤ x.n ∧ x.n ≤ n - 1 := by
  simp only [insOk, h6, inB, Bool.and_eq_true, decide_eq_true_eq] at h
  simp at h
  omega
theorem comes_self {w : Event} (h : w.kind ≠ 3) : comes w w = true := by rw [comes_other h]; simp
theorem coming_comes {P : List (List Ins)} {S : List State} {W : List (List Item)} {H : List (List Event)} {p peer : Int} (hs : sysOk P S W H = true) (h : (comingIs P S W H p peer).2 = 0) : 0 ≤ p ∧ ComesAt P S W H p.toNat (comingIs P S W H p peer).1 := by
  simp only [sysOk, sizesOk, inB, Bool.and_eq_true, decide_eq_true_eq, allBelow_eq, List.all_eq_true] at hs
  obtain ⟨⟨a1, a2, a3, a4⟩, b1, b2, b3, b4⟩ := hs
  unfold comingIs at h ⊢
  by_cases c1 : 0 ≤ p ∧ p ≤ (P.length : Int) - 1
  · rw [if_pos c1] at h ⊢
    refine ⟨c1.1, ?_⟩
    have hp : p.toNat < P.length := by omega
    have hpr := b2 p.toNat hp
    simp only [procOk, Bool.and_eq_true] at hpr
    obtain ⟨e1, e2, e3, e4, e5⟩ := stood_evOk hpr.2.2
    have hat0 := e2.at0
    have hat1 := e2.at1
    have hio := progOk_iok e3 (i := (rd S p.toNat).at_.toNat) (by omega)
    by_cases c2 : (rd S p.toNat).code = 0
    · rw [if_pos c2] at h ⊢
      by_cases c3 : (200 : Int) ≤ ((rd H p.toNat).length : Int)
      · rw [if_pos c3] at h; exact absurd h (by show ¬ (4 : Int) = 0; decide)
      · rw [if_neg c3] at h ⊢
        by_cases c4 : (wantsOf P S p.toNat).kind = 2
        · rw [if_pos c4] at h ⊢
          by_cases c5 : (12 : Int) ≤ ((rd W (p.toNat * P.length + (wantsOf P S p.toNat).peer.toNat)).length : Int)
          · rw [if_pos c5] at h; exact absurd h (by show ¬ (4 : Int) = 0; decide)
          · rw [if_neg c5] at h ⊢
            have hk := @next_kind (rd P p.toNat) (rd S p.toNat)
            have hpe : 0 ≤ (wantsOf P S p.toNat).peer ∧ (wantsOf P S p.toNat).peer ≤ (P.length : Int) - 1 := by
              rcases hk with hk | hk | hk
              · have h6 := hk.2.1
                have hx : insOk (rd (rd P p.toNat) (rd S p.toNat).at_.toNat) (rd P p.toNat).length P.length = true := by
                  have h1 := hpr.1
                  simp only [progOk, Bool.and_eq_true, List.all_eq_true] at h1
                  exact h1.2 _ (rd_mem (by omega))
                show 0 ≤ (next _ _).peer ∧ (next _ _).peer ≤ _
                rw [hk.2.2]
                exact insOk_peer hx h6
              · exact absurd hk.1 (by show ¬ (wantsOf P S p.toNat).kind = 3; omega)
              · exact absurd c4 hk.1
            exact ⟨hp, c2, by omega, comes_self (by show (wantsOf P S p.toNat).kind ≠ 3; omega), fun _ => ⟨⟨hpe.1, by show (wantsOf P S p.toNat).peer.toNat < _; omega⟩, by show (rd W (p.toNat * P.length + (wantsOf P S p.toNat).peer.toNat)).length < 12; omega⟩, fun h3 => absurd h3 (by show ¬ (wantsOf P S p.toNat).kind = 3; omega)⟩
        · rw [if_neg c4] at h ⊢
          by_cases c6 : (wantsOf P S p.toNat).kind = 3
          · rw [if_pos c6] at h ⊢
            generalize hq : askedOf (insAt P S p.toNat) peer = q at h ⊢
            by_cases c7 : (srcIs P.length W p.toNat q).2 = 0
            · rw [if_pos c7] at h ⊢
              unfold srcIs at c7
              by_cases d1 : 0 ≤ q ∧ q ≤ (P.length : Int) - 1
              · rw [if_pos d1] at c7
                by_cases d2 : (rd W (q.toNat * P.length + p.toNat)).length = 0
                · rw [if_pos d2] at c7; exact absurd c7 (by show ¬ (3 : Int) = 0; decide)
                · rw [if_neg d2] at c7
                  by_cases d3 : (rd (rd W (q.toNat * P.length + p.toNat)) 0).mark = true
                  · rw [if_pos d3] at c7; exact absurd c7 (by show ¬ (5 : Int) = 0; decide)
                  · have hpl := place_lt (n := P.length) (a := q.toNat) (b := p.toNat) (by omega) hp
                    have hw := b1 (rd W (q.toNat * P.length + p.toNat)) (rd_mem (by omega))
                    simp only [wayOk, Bool.and_eq_true, List.all_eq_true] at hw
                    have hit := hw.2 (rd (rd W (q.toNat * P.length + p.toNat)) 0) (rd_mem (by omega))
                    simp only [itemOk, numOk, Bool.and_eq_true, decide_eq_true_eq] at hit
                    have hk := @next_kind (rd P p.toNat) (rd S p.toNat)
                    have h7 : (rd (rd P p.toNat) (rd S p.toNat).at_.toNat).op = 7 ∧ next (rd P p.toNat) (rd S p.toNat) = ⟨3, (rd (rd P p.toNat) (rd S p.toNat).at_.toNat).n, 0⟩ := by
                      rcases hk with hk | hk | hk
                      · exact absurd hk.1 c4
                      · exact hk.2
                      · exact absurd c6 hk.2
                    have htk := hio.take h7.1
                    refine ⟨hp, c2, by omega, ?_, fun h3 => absurd h3 (by show ¬ (3 : Int) = 2; decide), fun _ => ⟨⟨d1.1, by show q.toNat < _; omega⟩, by show 0 < (rd W (q.toNat * P.length + p.toNat)).length; omega, by simpa using d3, rfl⟩⟩
                    rw [h7.2, comes_take]
                    refine ⟨rfl, hit.1, ?_⟩
                    show q = _ ∧ _ ∨ _ ∧ 0 ≤ q ∧ q ≤ 3
                    rw [← hq]
                    unfold askedOf insAt
                    by_cases h9 : (rd (rd P p.toNat) (rd S p.toNat).at_.toNat).n = 9
                    · right
                      rw [if_pos h9]
                      refine ⟨h9, ?_⟩
                      have : q = peer := by rw [← hq, askedOf, insAt, if_pos h9]
                      omega
                    · left
                      rw [if_neg h9]
                      exact ⟨rfl, h9⟩
              · rw [if_neg d1] at c7; exact absurd c7 (by show ¬ (2 : Int) = 0; decide)
            · rw [if_neg c7] at h; exact absurd h c7
          · rw [if_neg c6] at h ⊢
            exact ⟨hp, c2, by omega, comes_self c6, fun h3 => absurd h3 c4, fun h3 => absurd h3 c6⟩
    · rw [if_neg c2] at h; exact absurd h (by show ¬ (6 : Int) = 0; decide)
  · rw [if_neg c1] at h; exact absurd h (by show ¬ (2 : Int) = 0; decide)
theorem rd_put {α : Type} [Inhabited α] {l : List α} {b q : Nat} (x : α) (hb : b < l.length) : rd (l.set b x) q = if q = b then x else rd l q := by
  simp only [rd, List.getD_eq_getElem?_getD, List.getElem?_set]
  by_cases h : b = q
  · subst h; simp [hb]
  · rw [if_neg h, if_neg (fun e => h e.symm)]
theorem vals_end (es : List Event) (e : Event) (x y : Int) : vals (es ++ [e]) x y = vals es x y ++ (if isEv x y e = true then [e.v] else []) := by
  simp only [vals, List.filter_append, List.map_append]
  by_cases h : isEv x y e = true
  · rw [if_pos h]; simp [h]
  · rw [if_neg h]; simp [h]
theorem numbers_end (w : List Item) (v : Int) : numbersOf (w ++ [⟨false, v⟩]) = numbersOf w ++ [v] := by simp [numbersOf]
theorem numbers_drop {w : List Item} (h : 0 < w.length) (hm : (rd w 0).mark = false) : numbersOf w = (rd w 0).v :: numbersOf (w.drop 1) := by
  cases w with
  | nil => simp at h
  | cons x w =>
    have e : rd (x :: w) 0 = x := rfl
    rw [e] at hm ⊢
    simp [numbersOf, hm]
theorem reach_more {H : List (List Event)} {p : Nat} {e : Event} (hP : PeersIn H) (hp : p < H.length) {f : List Int} {n : Nat} (h : Reach H f n) : Reach (H.set p (rd H p ++ [e])) f n := by
  have hr : ∀ q, rd (H.set p (rd H p ++ [e])) q = if q = p then rd H p ++ [e] else rd H q := fun q => rd_put _ hp
  have hpre : ∀ q (k : Nat), k ≤ (rd H q).length → (rd (H.set p (rd H p ++ [e])) q).take k = (rd H q).take k := fun q k hk => by
    rw [hr]
    split
    · rename_i hq; subst hq; rw [List.take_append_of_le_length hk]
    · rfl
  have hel : ∀ q (k : Nat), k < (rd H q).length → rd (rd (H.set p (rd H p ++ [e])) q) k = rd (rd H q) k := fun q k hk => by
    rw [hr]
    split
    · rename_i hq; subst hq; simp only [rd, List.getD_eq_getElem?_getD] at hk ⊢; rw [List.getElem?_append_left hk]
    · rfl
  induction h with
  | zero =>
    have := @Reach.zero (H.set p (rd H p ++ [e]))
    rwa [List.length_set] at this
  | @step f n q h hq hc ih =>
    have hf := h.fok
    have hlt := can_lt hf hq hc
    have h0 := (hf.rng q hq).1
    refine ih.step (by rw [List.length_set]; exact hq) ?_
    unfold canCome at hc ⊢
    rw [hel q _ (by omega), hpre q _ (by omega)]
    simp only [Bool.and_eq_true, Bool.not_eq_true', Bool.and_eq_false_iff, decide_eq_true_eq, decide_eq_false_iff_not] at hc ⊢
    refine ⟨?_, ?_⟩
    · rw [hr]
      split
      · rename_i hq'; subst hq'; simp; omega
      · exact hc.1
    · rcases hc.2 with h1 | h1
      · exact .inl h1
      · by_cases hk : (rd (rd H q) (rd f q).toNat).kind = 3
        · right
          have hpe := hP q hq (rd f q).toNat (by omega) hk
          have hfr := hf.rng (rd (rd H q) (rd f q).toNat).peer.toNat (by omega)
          rw [hpre _ _ (by omega)]
          exact h1
        · exact .inl hk
theorem allEv_set : ∀ {H : List (List Event)} {p : Nat} {e : Event}, p < H.length → allEv (H.set p (rd H p ++ [e])) = allEv H + 1
  | h :: H, 0, e, _ => by simp [allEv, rd]; omega
  | h :: H, p + 1, e, hp => by
    have := allEv_set (H := H) (p := p) (e := e) (by simpa using hp)
    simp only [allEv, List.set_cons_succ, List.map_cons, List.sum_cons] at this ⊢
    rw [show rd (h :: H) (p + 1) = rd H p from rfl, this]
    omega

theorem step_fits {P : List (List Ins)} {S : List State} {W : List (List Item)} {H : List (List Event)} {p : Nat} {e : Event} (hh : H.length = P.length) (hwl : W.length = P.length * P.length) (hc : ComesAt P S W H p e) {a b : Nat} (ha : a < P.length) (hb : b < P.length) (h : fits P.length W H a b = true) : fits P.length (stepW P.length W p e) (H.set p (rd H p ++ [e])) a b = true := by
  have hp := hc.lt
  have hr : ∀ q, rd (H.set p (rd H p ++ [e])) q = if q = p then rd H p ++ [e] else rd H q := fun q => rd_put _ (by omega)
  have hv : ∀ q (x y : Int), vals (rd (H.set p (rd H p ++ [e])) q) x y = vals (rd H q) x y ++ (if q = p ∧ isEv x y e = true then [e.v] else []) := fun q x y => by
    rw [hr]
    by_cases hq : q = p
    · subst hq
      rw [if_pos rfl, vals_end]
      by_cases hi : isEv x y e = true
      · rw [if_pos hi, if_pos ⟨rfl, hi⟩]
      · rw [if_neg hi, if_neg (fun h => hi h.2)]
    · rw [if_neg hq, if_neg (fun h => hq h.1), List.append_nil]
  simp only [fits, decide_eq_true_eq] at h ⊢
  rw [hv, hv]
  unfold stepW
  by_cases k2 : e.kind = 2
  · have hs := hc.send k2
    rw [if_pos k2, if_neg (show ¬ (b = p ∧ isEv 3 a e = true) by simp [isEv, k2]), List.append_nil]
    have hpl := place_lt hp hs.1.2
    rw [rd_put _ (by omega)]
    by_cases hab : a = p ∧ b = e.peer.toNat
    · obtain ⟨rfl, rfl⟩ := hab
      rw [if_pos rfl, if_pos ⟨rfl, by simp [isEv, k2]; omega⟩, numbers_end, ← List.append_assoc, h]
    · have hne : ¬ a * P.length + b = p * P.length + e.peer.toNat := fun he => by
        have h1 := place_div (n := P.length) (a := a) hb
        have h2 := place_div (n := P.length) (a := p) hs.1.2
        rw [he] at h1
        exact hab ⟨by rw [← h1.1, h2.1], by rw [← h1.2, h2.2]⟩
      rw [if_neg hne, if_neg (fun h3 => hab ⟨h3.1, by have := h3.2; simp [isEv, k2] at this; omega⟩), List.append_nil, h]
  · rw [if_neg k2, if_neg (show ¬ (a = p ∧ isEv 2 b e = true) by simp [isEv, k2]), List.append_nil]
    by_cases k3 : e.kind = 3
    · have ht := hc.take k3
      rw [if_pos k3]
      have hpl := place_lt ht.1.2 hp
      rw [rd_put _ (by omega)]
      by_cases hab : a = e.peer.toNat ∧ b = p
      · obtain ⟨rfl, rfl⟩ := hab
        rw [if_pos rfl, if_pos ⟨rfl, by simp [isEv, k3]; omega⟩, ht.2.2.2, ← h, numbers_drop ht.2.1 ht.2.2.1]
        simp
      · have hne : ¬ a * P.length + b = e.peer.toNat * P.length + p := fun he => by
          have h1 := place_div (n := P.length) (a := a) hb
          have h2 := place_div (n := P.length) (a := e.peer.toNat) hp
          rw [he] at h1
          exact hab ⟨by rw [← h1.1, h2.1], by rw [← h1.2, h2.2]⟩
        rw [if_neg hne, if_neg (fun h3 => hab ⟨by have := h3.2; simp [isEv, k3] at this; omega, h3.1⟩), List.append_nil, h]
    · rw [if_neg k3, if_neg (show ¬ (b = p ∧ isEv 3 a e = true) by simp [isEv, k3]), List.append_nil, h]
theorem step_row {P : List (List Ins)} {S : List State} {W : List (List Item)} {H : List (List Event)} {p : Nat} {e : Event} (hs : sysOk P S W H = true) (hc : ComesAt P S W H p e) : inRow (H.set p (rd H p ++ [e])) = true := by
  obtain ⟨hI, hP, hS, h200⟩ := sysOk_facts hs
  simp only [sysOk, Bool.and_eq_true, allBelow_eq] at hs
  obtain ⟨_, _, _, b3, b4⟩ := hs
  have hHl := hI.h
  have hp := hc.lt
  have hpH : p < H.length := by omega
  simp only [inRow, decide_eq_true_eq] at b4 ⊢
  obtain ⟨g, k, h1, h2, h3⟩ := greedy_reach (H := H) (allEv H) .zero (by omega)
  have e1 : k = allEv H := by unfold rowOf at b4; omega
  have hg := (sum_le H g h1.fok.len fun q hq => (h1.fok.rng q hq).2).2 (by rw [h1.sum, e1])
  have hr : ∀ q, rd (H.set p (rd H p ++ [e])) q = if q = p then rd H p ++ [e] else rd H q := fun q => rd_put _ hpH
  have h4 := reach_more (e := e) hP hpH h1
  have hPI : PeersIn (H.set p (rd H p ++ [e])) := by
    intro q hq i hi hk
    rw [List.length_set] at hq ⊢
    rw [hr] at hi hk ⊢
    split at hi
    · rename_i hqp; subst hqp
      rw [if_pos rfl] at hk ⊢
      rw [List.length_append, List.length_singleton] at hi
      by_cases hil : i < (rd H q).length
      · have e0 : rd (rd H q ++ [e]) i = rd (rd H q) i := by simp only [rd, List.getD_eq_getElem?_getD] at hil ⊢; rw [List.getElem?_append_left hil]
        rw [e0] at hk ⊢
        exact hP q hq i hil hk
      · have e0 : rd (rd H q ++ [e]) i = e := by
          have : i = (rd H q).length := by omega
          rw [this]; simp [rd]
        rw [e0] at hk ⊢
        have := (hc.take hk).1
        omega
    · rename_i hqp
      rw [if_neg hqp] at hk ⊢
      exact hP q hq i hi hk
  have hcan : canCome (H.set p (rd H p ++ [e])) g p = true := by
    unfold canCome
    have hgp := hg p hpH
    rw [hr, if_pos rfl, hgp]
    have e0 : rd (rd H p ++ [e]) (((rd H p).length : Int).toNat) = e := by simp [rd]
    rw [e0]
    simp only [Bool.and_eq_true, Bool.not_eq_true', Bool.and_eq_false_iff, decide_eq_true_eq, decide_eq_false_iff_not]
    refine ⟨by rw [List.length_append, List.length_singleton]; omega, ?_⟩
    by_cases k3 : e.kind = 3
    · right
      have ht := hc.take k3
      have hz : e.peer.toNat < H.length := by omega
      have hgz := hg _ hz
      have e5 : (rd (H.set p (rd H p ++ [e])) e.peer.toNat).take (rd g e.peer.toNat).toNat = rd H e.peer.toNat := by
        rw [hr, hgz]
        split
        · rename_i hq; rw [hq]; simp
        · simp
      have e6 : (rd H p ++ [e]).take (((rd H p).length : Int).toNat) = rd H p := by simp
      rw [e5, e6]
      have hf := b3 e.peer.toNat (by omega) p hp
      simp only [fits, decide_eq_true_eq] at hf
      have h5 := congrArg List.length hf
      rw [List.length_append, numbers_drop ht.2.1 ht.2.2.1, List.length_cons] at h5
      rw [show ((e.peer.toNat : Nat) : Int) = e.peer by omega] at h5
      simp only [cnt]
      omega
    · exact .inl k3
  have h6 := h4.step (by rw [List.length_set]; exact hpH) hcan
  have ha := allEv_set (e := e) hpH
  rw [ha]
  have hfull := h6.full (by omega)
  rw [row_len hPI h6 hfull, e1]
theorem replay_more {l : List Ins} {es : List Event} {s : State} {e : Event} (h : stoodAs l es s = true) (hc : s.code = 0) (hn : es.length < 200) (hk : comes e (next l s) = true) : stoodAs l (es ++ [e]) (did l s e) = true := by
  obtain ⟨_, _, h3, h4, h5⟩ := stood_evOk h
  have e1 : replayAll l (es ++ [e]) = some (did l s e) := by
    unfold replayAll
    rw [if_pos ⟨h3, by rw [List.length_append, List.length_singleton]; omega⟩, replay_append, h5]
    show replay l s [e] = _
    rw [replay, if_pos ⟨hc, hk⟩, replay]
  simp only [stoodAs, e1, Option.isSome_some, Bool.true_and, decide_eq_true_eq]
  rfl
theorem step_sysOk {P : List (List Ins)} {S : List State} {W : List (List Item)} {H : List (List Event)} {p : Nat} {e : Event} (hs : sysOk P S W H = true) (hc : ComesAt P S W H p e) :
    sysOk P (S.set p (did (rd P p) (rd S p) e)) (stepW P.length W p e) (H.set p (rd H p ++ [e])) = true := by
  have hrow := step_row hs hc
  simp only [sysOk, sizesOk, inB, Bool.and_eq_true, decide_eq_true_eq, allBelow_eq, List.all_eq_true] at hs ⊢
  obtain ⟨⟨a1, a2, a3, a4⟩, b1, b2, b3, b4⟩ := hs
  have hp := hc.lt
  have hpr := b2 p hp
  simp only [procOk, Bool.and_eq_true] at hpr
  obtain ⟨e1, e2, e3, e4, e5⟩ := stood_evOk hpr.2.2
  have hat0 := e2.at0
  have hat1 := e2.at1
  have hio := progOk_iok e3 (i := (rd S p).at_.toNat) (by omega)
  have hev := comes_evOk e2 hio hc.comes
  have hwl : (stepW P.length W p e).length = W.length := by
    unfold stepW
    split
    · rw [List.length_set]
    · split
      · rw [List.length_set]
      · rfl
  refine ⟨⟨a1, by rw [List.length_set]; exact a2, by rw [List.length_set]; exact a3, by rw [hwl]; exact a4⟩, ?_, ?_, fun a ha b hb => step_fits a3 a4 hc ha hb (b3 a ha b hb), hrow⟩
  · intro w hw
    unfold stepW at hw
    split at hw
    · rename_i k2
      have hsd := hc.send k2
      have hpl := place_lt hp hsd.1.2
      rcases List.mem_or_eq_of_mem_set hw with h | h
      · exact b1 w h
      · have h1 := b1 _ (rd_mem (l := W) (n := p * P.length + e.peer.toNat) (by omega))
        have hnum := comes_num e2 hio hc.comes k2
        rw [h]
        simp only [wayOk, Bool.and_eq_true, decide_eq_true_eq, List.all_append] at h1 ⊢
        refine ⟨by rw [List.length_append, List.length_singleton]; omega, h1.2, ?_⟩
        simp [itemOk, numOk, hnum]
    · split at hw
      · rename_i k3
        have ht := hc.take k3
        have hpl := place_lt ht.1.2 hp
        rcases List.mem_or_eq_of_mem_set hw with h | h
        · exact b1 w h
        · have h1 := b1 _ (rd_mem (l := W) (n := e.peer.toNat * P.length + p) (by omega))
          rw [h]
          simp only [wayOk, Bool.and_eq_true, decide_eq_true_eq, List.all_eq_true] at h1 ⊢
          exact ⟨by rw [List.length_drop]; omega, fun x hx => h1.2 x (List.mem_of_mem_drop hx)⟩
      · exact b1 w hw
  · intro q hq
    have h1 := b2 q hq
    simp only [procOk, Bool.and_eq_true] at h1 ⊢
    rw [rd_put _ (show p < H.length by omega), rd_put _ (show p < S.length by omega)]
    by_cases hqp : q = p
    · subst hqp
      rw [if_pos rfl, if_pos rfl]
      refine ⟨h1.1, ?_, replay_more h1.2.2 hc.code hc.few hc.comes⟩
      simp only [peersOk, List.all_append, Bool.and_eq_true] at h1 ⊢
      refine ⟨h1.2.1, ?_⟩
      simp only [List.all_cons, List.all_nil, Bool.and_true, peerOk, Bool.not_eq_true', Bool.and_eq_false_iff, Bool.or_eq_false_iff, decide_eq_false_iff_not, inB, Bool.not_eq_false', decide_eq_true_eq]
      by_cases k2 : e.kind = 2
      · right; have := (hc.send k2).1; omega
      · by_cases k3 : e.kind = 3
        · right; have := (hc.take k3).1; omega
        · left; exact ⟨k2, k3⟩
    · rw [if_neg hqp, if_neg hqp]
      exact h1
theorem stepIs_sysOk {P : List (List Ins)} {S : List State} {W : List (List Item)} {H : List (List Event)} {p peer : Int} (hs : sysOk P S W H = true) : sysOk (stepIs P S W H p peer).1.progs (stepIs P S W H p peer).1.states (stepIs P S W H p peer).1.ways (stepIs P S W H p peer).1.hist = true := by
  unfold stepIs
  split
  · rename_i h
    exact step_sysOk hs (coming_comes hs h).2
  · exact hs

theorem ok_impl_wayAt_no (k : Nat) (P : List (List Ins)) (S : List State) (W : List (List Item)) (H : List (List Event)) (a b : Int) (hp : P.length ≤ 100000000000) (h : ¬ (0 ≤ a ∧ a ≤ (P.length : Int) - 1)) :
    callE PR C (k + 2) 171 [aSys 0 P S W H, i64 a, i64 b] [tInsSS P, tStateS S, tItemSS W, tEventSS H] = some ⟨i64 (-1), [], [none, none, none, none]⟩ := by
  have q1 := fun k => ok_impl_in k a 0 ((P.length : Int) - 1)
  rw [decide_eq_false h] at q1
  (refine fnI [ResultVar.tmp 6] Tryz.func171 ?_; conv => whnf)
  repeat' ((with_reducible (first | refine sCall.of (q1 _) ?_|refine st16 ?_|refine fG.split (fun _ => ?_) (fun _ => ?_)|refine fG.bool (fun _ => ?_) (fun _ => ?_))) <;> (try (conv => whnf)))
  all_goals rfl
set_option maxHeartbeats 4000000 in
theorem ok_impl_source (k : Nat) (P : List (List Ins)) (S : List State) (W : List (List Item)) (H : List (List Event)) (p : Nat) (peer : Int) (x : Ins) (hb : SysB 100000000000 P S W H) (hI : SysIs P S W H) (hp : p < P.length) :
    callE PR C (k + 3) 245 [aSys 0 P S W H, i64 (p : Nat), i64 peer, aIns x] [tInsSS P, tStateS S, tItemSS W, tEventSS H] = some ⟨.tu [i64 (srcIs P.length W p (askedOf x peer)).1, i64 (srcIs P.length W p (askedOf x peer)).2], [], [none, none, none, none]⟩ := by
  have hN := hI.n
  have hw := hI.w
  generalize hq : askedOf x peer = q
  by_cases d1 : 0 ≤ q ∧ q ≤ (P.length : Int) - 1
  · obtain ⟨q, rfl⟩ : ∃ n : Nat, q = (n : Int) := ⟨q.toNat, by omega⟩
    have q1 := fun k => ok_impl_wayAt k P S W H q p hb (by omega) hp hN.2 hw
    have hpl := place_lt (n := P.length) (a := q) (b := p) (by omega) hp
    have hwb := hb.ww (q * P.length + p) (by omega)
    obtain ⟨ix, hix⟩ : ∃ ix, ix = q * P.length + p := ⟨_, rfl⟩
    have hsrc : srcIs P.length W p q = (if (rd W ix).length = 0 then (0, 3) else if (rd (rd W ix) 0).mark = true then (0, 5) else ((q : Int), 0)) := by
      unfold srcIs
      rw [if_pos d1, hix]
      rfl
    rw [← hix] at q1 hpl hwb
    rw [hsrc]
    clear hsrc hix
    have e4 : (List.map rItem (rd W ix)).length = (rd W ix).length := by simp
    by_cases c9 : x.n = 9
    · rw [askedOf, if_pos c9] at hq
      subst hq
      by_cases d2 : (rd W ix).length = 0
      · rw [if_pos d2]
        (refine fnI [ResultVar.tmp 8, ResultVar.tmp 9] Tryz.func245 ?_; conv => whnf)
        repeat' ((with_reducible (first | refine sCall.of (q1 _) ?_|refine st16 ?_|refine fG.split (fun _ => ?_) (fun _ => ?_)|refine fG.bool (fun _ => ?_) (fun _ => ?_))) <;> (try (conv => whnf)))
      · rw [if_neg d2]
        cases d3 : (rd (rd W ix) 0).mark
        all_goals
          (refine fnI [ResultVar.tmp 8, ResultVar.tmp 9] Tryz.func245 ?_; conv => whnf)
          repeat' ((with_reducible (first | refine sCall.of (q1 _) ?_|refine st16 ?_|refine fG.split (fun _ => ?_) (fun _ => ?_)|refine fG.bool (fun _ => ?_) (fun _ => ?_))) <;> (try (conv => whnf)))
        all_goals rfl
    · rw [askedOf, if_neg c9] at hq
      by_cases d2 : (rd W ix).length = 0
      · rw [if_pos d2]
        rw [← hq] at q1
        (refine fnI [ResultVar.tmp 8, ResultVar.tmp 9] Tryz.func245 ?_; conv => whnf)
        repeat' ((with_reducible (first | refine sCall.of (q1 _) ?_|refine st16 ?_|refine fG.split (fun _ => ?_) (fun _ => ?_)|refine fG.bool (fun _ => ?_) (fun _ => ?_))) <;> (try (conv => whnf)))
      · rw [if_neg d2]
        cases d3 : (rd (rd W ix) 0).mark
        all_goals
          rw [← hq] at q1 ⊢
          (refine fnI [ResultVar.tmp 8, ResultVar.tmp 9] Tryz.func245 ?_; conv => whnf)
          repeat' ((with_reducible (first | refine sCall.of (q1 _) ?_|refine st16 ?_|refine fG.split (fun _ => ?_) (fun _ => ?_)|refine fG.bool (fun _ => ?_) (fun _ => ?_))) <;> (try (conv => whnf)))
        all_goals rfl
  · have q1 := fun k => ok_impl_wayAt_no k P S W H q p (by omega) d1
    rw [show srcIs P.length W p q = (0, 2) by unfold srcIs; rw [if_neg d1]]
    by_cases c9 : x.n = 9
    · rw [askedOf, if_pos c9] at hq
      subst hq
      (refine fnI [ResultVar.tmp 8, ResultVar.tmp 9] Tryz.func245 ?_; conv => whnf)
      repeat' ((with_reducible (first | refine sCall.of (q1 _) ?_|refine st16 ?_|refine fG.split (fun _ => ?_) (fun _ => ?_)|refine fG.bool (fun _ => ?_) (fun _ => ?_))) <;> (try (conv => whnf)))
    · rw [askedOf, if_neg c9] at hq
      rw [← hq] at q1
      (refine fnI [ResultVar.tmp 8, ResultVar.tmp 9] Tryz.func245 ?_; conv => whnf)
      repeat' ((with_reducible (first | refine sCall.of (q1 _) ?_|refine st16 ?_|refine fG.split (fun _ => ?_) (fun _ => ?_)|refine fG.bool (fun _ => ?_) (fun _ => ?_))) <;> (try (conv => whnf)))

theorem srcIs_ok {n : Nat} {W : List (List Item)} {p : Nat} {q : Int} (h : (srcIs n W p q).2 = 0) : (0 ≤ q ∧ q ≤ (n : Int) - 1) ∧ 0 < (rd W (q.toNat * n + p)).length ∧ (rd (rd W (q.toNat * n + p)) 0).mark = false ∧ srcIs n W p q = (q, 0) := by
  unfold srcIs at h ⊢
  by_cases d1 : 0 ≤ q ∧ q ≤ (n : Int) - 1
  · rw [if_pos d1] at h ⊢
    by_cases d2 : (rd W (q.toNat * n + p)).length = 0
    · rw [if_pos d2] at h; exact absurd h (by show ¬ (3 : Int) = 0; decide)
    · rw [if_neg d2] at h ⊢
      by_cases d3 : (rd (rd W (q.toNat * n + p)) 0).mark = true
      · rw [if_pos d3] at h; exact absurd h (by show ¬ (5 : Int) = 0; decide)
      · rw [if_neg d3]; exact ⟨d1, by omega, by simpa using d3, rfl⟩
  · rw [if_neg d1] at h; exact absurd h (by show ¬ (2 : Int) = 0; decide)
structure ProcF (P : List (List Ins)) (S : List State) (H : List (List Event)) (p : Nat) : Prop where
  ok : SOk (rd P p).length (rd S p)
  io : IOk (rd P p).length (rd (rd P p) (rd S p).at_.toNat)
  pl : (rd P p).length ≤ 30
  peer : (next (rd P p) (rd S p)).kind = 2 → 0 ≤ (next (rd P p) (rd S p)).peer ∧ (next (rd P p) (rd S p)).peer ≤ (P.length : Int) - 1
theorem procF_of {P : List (List Ins)} {S : List State} {W : List (List Item)} {H : List (List Event)} {p : Nat} (hs : sysOk P S W H = true) (hp : p < P.length) : ProcF P S H p := by
  simp only [sysOk, Bool.and_eq_true, allBelow_eq] at hs
  have hpr := hs.2.2.1 p hp
  simp only [procOk, Bool.and_eq_true] at hpr
  obtain ⟨e1, e2, e3, e4, e5⟩ := stood_evOk hpr.2.2
  have hat0 := e2.at0
  have hat1 := e2.at1
  refine ⟨e2, progOk_iok e3 (by omega), (progOk_len e3).2, fun h => ?_⟩
  rcases @next_kind (rd P p) (rd S p) with hk | hk | hk
  · rw [hk.2.2]
    have h1 := hpr.1
    simp only [progOk, Bool.and_eq_true, List.all_eq_true] at h1
    exact insOk_peer (h1.2 _ (rd_mem (by omega))) hk.2.1
  · omega
  · exact absurd h hk.1
set_option maxRecDepth 20000 in
set_option maxHeartbeats 8000000 in
theorem ok_impl_coming (k : Nat) (P : List (List Ins)) (S : List State) (W : List (List Item)) (H : List (List Event)) (p peer : Int) (hb : SysB 10000000000 P S W H) (hs : sysOk P S W H = true) :
    callE PR C (k + 4) 176 [aSys 0 P S W H, i64 p, i64 peer] [tInsSS P, tStateS S, tItemSS W, tEventSS H] = some ⟨.tu [aEvent (comingIs P S W H p peer).1, i64 (comingIs P S W H p peer).2], [], [none, none, none, none]⟩ := by
  obtain ⟨hI, hP, hS', h200⟩ := sysOk_facts hs
  have hN := hI.n
  have hsl := hI.s
  have hwl := hI.w
  have hHl := hI.h
  have q1 := fun k => ok_impl_in k p 0 ((P.length : Int) - 1)
  by_cases c1 : 0 ≤ p ∧ p ≤ (P.length : Int) - 1
  · rw [decide_eq_true c1] at q1
    obtain ⟨p, rfl⟩ : ∃ n : Nat, p = (n : Int) := ⟨p.toNat, by omega⟩
    have hp : p < P.length := by omega
    obtain ⟨f1, f2, f3, f4⟩ := procF_of hs hp
    have hh := h200 p (by omega)
    have e4 : (List.map rEvent (rd H p)).length = (rd H p).length := by simp
    have hat0 := f1.at0
    have hat1 := f1.at1
    by_cases c2 : (rd S p).code = 0
    · by_cases c3 : (200 : Int) ≤ ((rd H p).length : Int)
      · have hc : comingIs P S W H p peer = (⟨0, 0, 0⟩, 4) := by unfold comingIs; rw [if_pos c1, Int.toNat_natCast, if_pos c2, if_pos c3]
        rw [hc]
        (refine fnI [ResultVar.cell 6 96, ResultVar.tmp 7] Tryz.func176 ?_; conv => whnf)
        repeat' ((with_reducible (first | refine sCall.of (q1 _) ?_|refine st16 ?_|refine fG.split (fun _ => ?_) (fun _ => ?_)|refine fG.bool (fun _ => ?_) (fun _ => ?_)|refine gD 7 [(1, 11), (4, 11), (6, 11), (9, 11), (10, 11)] ?_|refine gD 10 [(1, 6)] ?_|refine gDn 13 ?_|refine gD 17 [(1, 5)] ?_)) <;> (try (conv => whnf)))
        all_goals rfl
      · have q2 := fun k => ok_impl_next k (rd P p) (rd S p).at_ (rd S p).regs (rd S p).out (rd S p).code (by omega) f1 f2
        rcases @next_kind (rd P p) (rd S p) with hk | hk | hk
        · have hpe := f4 hk.1
          obtain ⟨b, hbq⟩ : ∃ b : Nat, (next (rd P p) (rd S p)).peer = (b : Int) := ⟨_, (Int.toNat_of_nonneg hpe.1).symm⟩
          have q3 := fun k => ok_impl_wayAt k P S W H p b (hb.mono (by decide)) hp (by omega) hN.2 hwl
          have hpl := place_lt hp (show b < P.length by omega)
          have hk2 := hk.1
          have hc : comingIs P S W H p peer = (if (12 : Int) ≤ ((rd W (p * P.length + b)).length : Int) then (⟨0, 0, 0⟩, 4) else (next (rd P p) (rd S p), 0)) := by
            unfold comingIs
            rw [if_pos c1, Int.toNat_natCast, if_pos c2, if_neg c3, if_pos (show (wantsOf P S p).kind = 2 from hk2), show (wantsOf P S p).peer = (b : Int) from hbq, Int.toNat_natCast]
            rfl
          rw [hc]
          clear hc hk f4 hpe
          have q2 : ∀ k, callE PR C (k + 1) 244 [hIns 0 (rd P p), aState 1 (rd S p).at_ (rd S p).regs (rd S p).out (rd S p).code] [tIns (rd P p), tI (rd S p).regs, tI (rd S p).out] = some ⟨aEvent (next (rd P p) (rd S p)), [], [none, none, none]⟩ := q2
          generalize next (rd P p) (rd S p) = w at *
          rw [← hbq] at q3
          obtain ⟨ix, hix⟩ : ∃ ix, ix = p * P.length + b := ⟨_, rfl⟩
          rw [← hix] at q3 hpl ⊢
          have e5 : (List.map rItem (rd W ix)).length = (rd W ix).length := by simp
          by_cases c5 : (12 : Int) ≤ ((rd W ix).length : Int)
          · rw [if_pos c5]
            (refine fnI [ResultVar.cell 6 96, ResultVar.tmp 7] Tryz.func176 ?_; conv => whnf)
            repeat' ((with_reducible (first | refine sCall.of (q1 _) ?_|refine sCall.of (q2 _) ?_|refine sCall.of (q3 _) ?_|refine st16 ?_|refine fG.split (fun _ => ?_) (fun _ => ?_)|refine fG.bool (fun _ => ?_) (fun _ => ?_)|refine gD 7 [(1, 11), (4, 11), (6, 11), (9, 11), (10, 11)] ?_|refine gD 10 [(1, 6)] ?_|refine gDn 13 ?_|refine gD 17 [(1, 5)] ?_)) <;> (try (conv => whnf)))
            all_goals rfl
          · rw [if_neg c5]
            (refine fnI [ResultVar.cell 6 96, ResultVar.tmp 7] Tryz.func176 ?_; conv => whnf)
            repeat' ((with_reducible (first | refine sCall.of (q1 _) ?_|refine sCall.of (q2 _) ?_|refine sCall.of (q3 _) ?_|refine st16 ?_|refine fG.split (fun _ => ?_) (fun _ => ?_)|refine fG.bool (fun _ => ?_) (fun _ => ?_)|refine gD 7 [(1, 11), (4, 11), (6, 11), (9, 11), (10, 11)] ?_|refine gD 10 [(1, 6)] ?_|refine gDn 13 ?_|refine gD 17 [(1, 5)] ?_)) <;> (try (conv => whnf)))
            all_goals rfl
        · have q2 : ∀ k, callE PR C (k + 1) 244 [hIns 0 (rd P p), aState 1 (rd S p).at_ (rd S p).regs (rd S p).out (rd S p).code] [tIns (rd P p), tI (rd S p).regs, tI (rd S p).out] = some ⟨aEvent ⟨3, (rd (rd P p) (rd S p).at_.toNat).n, 0⟩, [], [none, none, none]⟩ := fun k => by rw [← hk.2.2]; exact q2 k
          have q3 := fun k => ok_impl_source k P S W H p peer (rd (rd P p) (rd S p).at_.toNat) (hb.mono (by decide)) hI hp
          have hw3 : (wantsOf P S p).kind = 3 := hk.1
          by_cases c7 : (srcIs P.length W p (askedOf (insAt P S p) peer)).2 = 0
          · obtain ⟨d1, d2, d3, d4⟩ := srcIs_ok c7
            have d4' : srcIs P.length W p (askedOf (rd (rd P p) (rd S p).at_.toNat) peer) = (askedOf (insAt P S p) peer, 0) := d4
            simp only [d4'] at q3
            have hc : comingIs P S W H p peer = (⟨3, askedOf (insAt P S p) peer, (rd (rd W ((askedOf (insAt P S p) peer).toNat * P.length + p)) 0).v⟩, 0) := by
              unfold comingIs
              rw [if_pos c1, Int.toNat_natCast, if_pos c2, if_neg c3, if_neg (by omega), if_pos hw3, if_pos c7]
            rw [hc]
            clear hc c7 d4 d4'
            generalize askedOf (insAt P S p) peer = q at *
            obtain ⟨q, rfl⟩ : ∃ n : Nat, q = (n : Int) := ⟨q.toNat, by omega⟩
            rw [Int.toNat_natCast] at d2 d3 ⊢
            have q4 := fun k => ok_impl_wayAt k P S W H q p (hb.mono (by decide)) (by omega) hp hN.2 hwl
            have hpl := place_lt (show q < P.length by omega) hp
            obtain ⟨ix, hix⟩ : ∃ ix, ix = q * P.length + p := ⟨_, rfl⟩
            rw [← hix] at q4 hpl d2 d3 ⊢
            have e5 : (List.map rItem (rd W ix)).length = (rd W ix).length := by simp
            (refine fnI [ResultVar.cell 6 96, ResultVar.tmp 7] Tryz.func176 ?_; conv => whnf)
            repeat' ((with_reducible (first | refine sCall.of (q1 _) ?_|refine sCall.of (q2 _) ?_|refine sCall.of (q3 _) ?_|refine sCall.of (q4 _) ?_|refine st16 ?_|refine fG.split (fun _ => ?_) (fun _ => ?_)|refine fG.bool (fun _ => ?_) (fun _ => ?_)|refine gD 7 [(1, 11), (4, 11), (6, 11), (9, 11), (10, 11)] ?_|refine gD 10 [(1, 6)] ?_|refine gDn 13 ?_|refine gD 17 [(1, 5)] ?_)) <;> (try (conv => whnf)))
            all_goals rfl
          · have hc : comingIs P S W H p peer = (⟨0, 0, 0⟩, (srcIs P.length W p (askedOf (insAt P S p) peer)).2) := by
              unfold comingIs
              rw [if_pos c1, Int.toNat_natCast, if_pos c2, if_neg c3, if_neg (by omega), if_pos hw3, if_neg c7]
            rw [hc]
            have q3 : ∀ k, callE PR C (k + 3) 245 [aSys 0 P S W H, i64 (p : Nat), i64 peer, aIns (rd (rd P p) (rd S p).at_.toNat)] [tInsSS P, tStateS S, tItemSS W, tEventSS H] = some ⟨.tu [i64 (srcIs P.length W p (askedOf (insAt P S p) peer)).1, i64 (srcIs P.length W p (askedOf (insAt P S p) peer)).2], [], [none, none, none, none]⟩ := q3
            generalize srcIs P.length W p (askedOf (insAt P S p) peer) = r at *
            (refine fnI [ResultVar.cell 6 96, ResultVar.tmp 7] Tryz.func176 ?_; conv => whnf)
            repeat' ((with_reducible (first | refine sCall.of (q1 _) ?_|refine sCall.of (q2 _) ?_|refine sCall.of (q3 _) ?_|refine st16 ?_|refine fG.split (fun _ => ?_) (fun _ => ?_)|refine fG.bool (fun _ => ?_) (fun _ => ?_)|refine gD 7 [(1, 11), (4, 11), (6, 11), (9, 11), (10, 11)] ?_|refine gD 10 [(1, 6)] ?_|refine gDn 13 ?_|refine gD 17 [(1, 5)] ?_)) <;> (try (conv => whnf)))
            all_goals rfl
        · have hc : comingIs P S W H p peer = (next (rd P p) (rd S p), 0) := by
            unfold comingIs
            rw [if_pos c1, Int.toNat_natCast, if_pos c2, if_neg c3, if_neg (show ¬ (wantsOf P S p).kind = 2 from hk.1), if_neg (show ¬ (wantsOf P S p).kind = 3 from hk.2)]
            rfl
          rw [hc]
          have hk2 := hk.1
          have hk3 := hk.2
          clear hc hk f4
          have q2 : ∀ k, callE PR C (k + 1) 244 [hIns 0 (rd P p), aState 1 (rd S p).at_ (rd S p).regs (rd S p).out (rd S p).code] [tIns (rd P p), tI (rd S p).regs, tI (rd S p).out] = some ⟨aEvent (next (rd P p) (rd S p)), [], [none, none, none]⟩ := q2
          generalize next (rd P p) (rd S p) = w at *
          (refine fnI [ResultVar.cell 6 96, ResultVar.tmp 7] Tryz.func176 ?_; conv => whnf)
          repeat' ((with_reducible (first | refine sCall.of (q1 _) ?_|refine sCall.of (q2 _) ?_|refine st16 ?_|refine fG.split (fun _ => ?_) (fun _ => ?_)|refine fG.bool (fun _ => ?_) (fun _ => ?_)|refine gD 7 [(1, 11), (4, 11), (6, 11), (9, 11), (10, 11)] ?_|refine gD 10 [(1, 6)] ?_|refine gDn 13 ?_|refine gD 17 [(1, 5)] ?_)) <;> (try (conv => whnf)))
          all_goals rfl
    · have hc : comingIs P S W H p peer = (⟨0, 0, 0⟩, 6) := by unfold comingIs; rw [if_pos c1, Int.toNat_natCast, if_neg c2]
      rw [hc]
      (refine fnI [ResultVar.cell 6 96, ResultVar.tmp 7] Tryz.func176 ?_; conv => whnf)
      repeat' ((with_reducible (first | refine sCall.of (q1 _) ?_|refine st16 ?_|refine fG.split (fun _ => ?_) (fun _ => ?_)|refine fG.bool (fun _ => ?_) (fun _ => ?_)|refine gD 7 [(1, 11), (4, 11), (6, 11), (9, 11), (10, 11)] ?_|refine gD 10 [(1, 6)] ?_|refine gDn 13 ?_|refine gD 17 [(1, 5)] ?_)) <;> (try (conv => whnf)))
      all_goals rfl
  · rw [decide_eq_false c1] at q1
    have hc : comingIs P S W H p peer = (⟨0, 0, 0⟩, 2) := by unfold comingIs; rw [if_neg c1]
    rw [hc]
    (refine fnI [ResultVar.cell 6 96, ResultVar.tmp 7] Tryz.func176 ?_; conv => whnf)
    repeat' ((with_reducible (first | refine sCall.of (q1 _) ?_|refine st16 ?_|refine fG.split (fun _ => ?_) (fun _ => ?_)|refine fG.bool (fun _ => ?_) (fun _ => ?_)|refine gD 7 [(1, 11), (4, 11), (6, 11), (9, 11), (10, 11)] ?_|refine gD 10 [(1, 6)] ?_|refine gDn 13 ?_|refine gD 17 [(1, 5)] ?_)) <;> (try (conv => whnf)))
    all_goals rfl

theorem sysOk_G {P : List (List Ins)} {S : List State} {W : List (List Item)} {H : List (List Event)} (h : sysOk P S W H = true) : SysG ⟨P, S, W, H⟩ := by
  obtain ⟨hI, hP, hS, h200⟩ := sysOk_facts h
  have hN := hI.n
  have hsl := hI.s
  have hwl := hI.w
  have hHl := hI.h
  have hnn : P.length * P.length ≤ 4 * 4 := Nat.mul_le_mul hN.2 hN.2
  have h' := h
  simp only [sysOk, Bool.and_eq_true, List.all_eq_true] at h'
  refine sysG_of ⟨by show P.length ≤ _; omega, fun j hj => ?_, by show S.length ≤ _; omega, fun j hj => ?_, by show W.length ≤ _; omega, fun j hj => ?_, by show H.length ≤ _; omega, fun j hj => ?_⟩ hN.2 (by show S.length ≤ _; omega) (by show W.length ≤ _; omega) (by show H.length ≤ _; omega)
  · have hj : j < P.length := hj
    have := (procF_of h hj).pl
    show (rd P j).length ≤ _
    omega
  · have hj : j < S.length := hj
    have h1 := (procF_of (p := j) h (by omega)).ok
    have h2 := h1.regs
    have h3 := h1.out
    show (rd S j).regs.length ≤ _ ∧ (rd S j).out.length ≤ _
    omega
  · have hj : j < W.length := hj
    have h1 := h'.2.1 _ (rd_mem hj)
    simp only [wayOk, Bool.and_eq_true, decide_eq_true_eq] at h1
    show (rd W j).length ≤ _
    omega
  · have hj : j < H.length := hj
    have := h200 j hj
    show (rd H j).length ≤ _
    omega

end Go.Proofs.YtldndahfnkbngaaGreat.Abs
namespace Go.Proofs.YtldndahfnkbngaaGreat.Abs
open Go Go.Proofs
set_option linter.unusedVariables false
set_option linter.unusedSimpArgs false
attribute [local irreducible] callE
theorem gRec {a v : AV} {F : Bool → Prop} (h : F true) (e : isRecut a v = true := by simp [isRecut]) : sBool (isRecut a v) F := sBool.eq e h
set_option maxRecDepth 20000 in
set_option maxHeartbeats 8000000 in
theorem ok_impl_step (k : Nat) (P : List (List Ins)) (S : List State) (W : List (List Item)) (H : List (List Event)) (p peer : Int) (hb : SysB 10000000000 P S W H) (hs : sysOk P S W H = true) :
    callE PR C (k + 5) 97 [aSys 0 P S W H, i64 p, i64 peer] [tInsSS P, tStateS S, tItemSS W, tEventSS H] = some (sysRes (stepIs P S W H p peer).1 (stepIs P S W H p peer).2 [none, none, none, none]) := by
  obtain ⟨hI, hP, hS', h200⟩ := sysOk_facts hs
  have hN := hI.n
  have hsl := hI.s
  have hwl := hI.w
  have hHl := hI.h
  have q1 := fun k => ok_impl_cloneSys k P S W H (hb.mono (by decide)) hI.some
  have q2 := fun k => ok_impl_coming k P S W H p peer hb hs
  unfold stepIs
  by_cases c0 : (comingIs P S W H p peer).2 = 0
  · rw [if_pos c0]
    obtain ⟨hp0, hc⟩ := coming_comes hs c0
    generalize comingIs P S W H p peer = ec at *
    obtain ⟨e, n⟩ := ec
    dsimp only at c0 hc ⊢
    subst c0
    obtain ⟨p, rfl⟩ : ∃ n : Nat, p = (n : Int) := ⟨p.toNat, by omega⟩
    rw [Int.toNat_natCast] at hc ⊢
    have hp := hc.lt
    obtain ⟨f1, f2, f3, f4⟩ := procF_of hs hp
    have hh := h200 p (by omega)
    have e4 : (List.map rEvent (rd H p)).length = (rd H p).length := by simp
    have hat0 := f1.at0
    have hat1 := f1.at1
    have q3 : ∀ k, callE PR C (k + 4) 191 [hIns 0 (rd P p), aState 1 (rd S p).at_ (rd S p).regs (rd S p).out (rd S p).code, aEvent e] [tIns (rd P p), tI (rd S p).regs, tI (rd S p).out] = some ⟨nSt 0 (did (rd P p) (rd S p) e), [tI9 (did (rd P p) (rd S p) e).regs, tI9 (did (rd P p) (rd S p) e).out], [none, none, none]⟩ := fun k => ok_impl_did k (rd P p) (rd S p).at_ (rd S p).regs (rd S p).out (rd S p).code e (by omega) f1 f2
    by_cases k2 : e.kind = 2
    · have hsd := hc.send k2
      obtain ⟨b, hbq⟩ : ∃ b : Nat, e.peer = (b : Int) := ⟨_, (Int.toNat_of_nonneg hsd.1.1).symm⟩
      have hbl : b < P.length := by have := hsd.1.2; omega
      have hfew : (rd W (p * P.length + b)).length < 12 := by have := hsd.2; rw [hbq] at this; exact this
      have q4 := fun k => ok_impl_wayAt k P S W H p b (hb.mono (by decide)) hp hbl hN.2 hwl
      have hpl := place_lt hp hbl
      have hW : stepW P.length W p e = W.set (p * P.length + b) (rd W (p * P.length + b) ++ [⟨false, e.v⟩]) := by
        unfold stepW
        rw [if_pos k2, hbq]
        rfl
      simp only [sysRes, stepS, hW, nSys, List.length_set]
      rw [← hbq] at q4
      obtain ⟨ix, hix⟩ : ∃ ix, ix = p * P.length + b := ⟨_, rfl⟩
      rw [← hix] at q4 hpl hfew ⊢
      clear hW hix hsd f4
      (refine fnI [ResultVar.cell 6 36, ResultVar.tmp 7] Tryz.func97 ?_; conv => whnf)
      repeat' ((with_reducible (first | refine sCall.of (q1 _) ?_|refine sCall.of (q2 _) ?_|refine sCall.of (q3 _) ?_|refine sCall.of (q4 _) ?_|refine gHole ?_|refine gRec ?_|refine st16 ?_|refine fG.split (fun _ => ?_) (fun _ => ?_)|refine fG.bool (fun _ => ?_) (fun _ => ?_)|refine gD 5 [(1, 14)] ?_|refine gD 6 [(1, 9), (4, 9), (7, 9), (1, 10)] ?_|refine gD 10 [(1, 11), (4, 11), (7, 11), (1, 12)] ?_|refine gDn 13 ?_)) <;> (try (conv => whnf)))
      all_goals rfl
    · by_cases k3 : e.kind = 3
      · have htk := hc.take k3
        obtain ⟨b, hbq⟩ : ∃ b : Nat, e.peer = (b : Int) := ⟨_, (Int.toNat_of_nonneg htk.1.1).symm⟩
        have hbl : b < P.length := by have := htk.1.2; omega
        have hsome : 0 < (rd W (b * P.length + p)).length := by have := htk.2.1; rw [hbq] at this; exact this
        have q4 := fun k => ok_impl_wayAt k P S W H b p (hb.mono (by decide)) hbl hp hN.2 hwl
        have hpl := place_lt hbl hp
        have hwx := hb.ww (b * P.length + p) (by omega)
        have hW : stepW P.length W p e = W.set (b * P.length + p) ((rd W (b * P.length + p)).drop 1) := by
          unfold stepW
          rw [if_neg k2, if_pos k3, hbq]
          rfl
        simp only [sysRes, stepS, hW, nSys, List.length_set]
        rw [← hbq] at q4
        obtain ⟨ix, hix⟩ : ∃ ix, ix = b * P.length + p := ⟨_, rfl⟩
        rw [← hix] at q4 hpl hsome hwx ⊢
        have e5 : (List.map rItem (rd W ix)).length = (rd W ix).length := by simp
        have et : List.take ((rd W ix).length - 1) (List.drop 1 (rd W ix)) = List.drop 1 (rd W ix) := List.take_of_length_le (by simp)
        clear hW hix htk f4
        (refine fnI [ResultVar.cell 6 36, ResultVar.tmp 7] Tryz.func97 ?_; conv => whnf)
        repeat' ((with_reducible (first | refine sCall.of (q1 _) ?_|refine sCall.of (q2 _) ?_|refine sCall.of (q3 _) ?_|refine sCall.of (q4 _) ?_|refine gHole ?_|refine gRec ?_|refine st16 ?_|refine fG.split (fun _ => ?_) (fun _ => ?_)|refine fG.bool (fun _ => ?_) (fun _ => ?_)|refine gD 5 [(1, 14)] ?_|refine gD 6 [(1, 9), (4, 9), (7, 9), (1, 10)] ?_|refine gD 10 [(1, 11), (4, 11), (7, 11), (1, 12)] ?_|refine gDn 13 ?_)) <;> (try (conv => whnf)))
        all_goals (try rw [et])
        all_goals rfl
      · have hW : stepW P.length W p e = W := by
          unfold stepW
          rw [if_neg k2, if_neg k3]
        simp only [sysRes, stepS, hW, nSys, List.length_set]
        clear hW f4
        (refine fnI [ResultVar.cell 6 36, ResultVar.tmp 7] Tryz.func97 ?_; conv => whnf)
        repeat' ((with_reducible (first | refine sCall.of (q1 _) ?_|refine sCall.of (q2 _) ?_|refine sCall.of (q3 _) ?_|refine gHole ?_|refine gRec ?_|refine st16 ?_|refine fG.split (fun _ => ?_) (fun _ => ?_)|refine fG.bool (fun _ => ?_) (fun _ => ?_)|refine gD 5 [(1, 14)] ?_|refine gD 6 [(1, 9), (4, 9), (7, 9), (1, 10)] ?_|refine gD 10 [(1, 11), (4, 11), (7, 11), (1, 12)] ?_|refine gDn 13 ?_)) <;> (try (conv => whnf)))
        all_goals rfl
  · rw [if_neg c0]
    generalize comingIs P S W H p peer = ec at *
    obtain ⟨e, n⟩ := ec
    dsimp only at c0 q2 ⊢
    simp only [sysRes]
    (refine fnI [ResultVar.cell 6 36, ResultVar.tmp 7] Tryz.func97 ?_; conv => whnf)
    repeat' ((with_reducible (first | refine sCall.of (q1 _) ?_|refine sCall.of (q2 _) ?_|refine st16 ?_|refine fG.split (fun _ => ?_) (fun _ => ?_)|refine fG.bool (fun _ => ?_) (fun _ => ?_)|refine gD 5 [(1, 14)] ?_|refine gD 6 [(1, 9), (4, 9), (7, 9), (1, 10)] ?_|refine gD 10 [(1, 11), (4, 11), (7, 11), (1, 12)] ?_|refine gDn 13 ?_)) <;> (try (conv => whnf)))
    all_goals rfl

theorem dropLim {l : List Item} {t n m : Nat} (h : l.length ≤ 10000000000) (hm : m ≤ 16) : (0 + (List.map rItem (List.take t (List.drop n l))).length) * m ≤ 140737488355328 ∧ 0 + (List.map rItem (List.take t (List.drop n l))).length ≤ 140737488355328 := by
  have h1 : 0 + (List.map rItem (List.take t (List.drop n l))).length ≤ 10000000000 := by simp; omega
  have h2 := Nat.mul_le_mul h1 hm
  exact ⟨by omega, by omega⟩
theorem step_no {P : List (List Ins)} {S : List State} {W : List (List Item)} {H : List (List Event)} {p peer n : Int} {e : Event} (h : comingIs P S W H p peer = (e, n)) (hn : ¬ n = 0) : stepIs P S W H p peer = (⟨P, S, W, H⟩, n) := by
  unfold stepIs; rw [h, if_neg hn]
theorem step_yes {P : List (List Ins)} {S : List State} {W : List (List Item)} {H : List (List Event)} {p : Nat} {peer : Int} {e : Event} (h : comingIs P S W H p peer = (e, 0)) : stepIs P S W H p peer = (stepS P S W H p e, 0) := by
  unfold stepIs; rw [h, if_pos rfl]; rfl
theorem coming_peer {P : List (List Ins)} {S : List State} {W : List (List Item)} {H : List (List Event)} {p : Nat} {peer : Int} (c1 : 0 ≤ (p : Int) ∧ (p : Int) ≤ (P.length : Int) - 1) (c2 : (rd S p).code = 0) (c3 : ¬ (200 : Int) ≤ ((rd H p).length : Int)) (hk : (next (rd P p) (rd S p)).kind = 3) :
    comingIs P S W H p peer = (if (srcIs P.length W p (askedOf (insAt P S p) peer)).2 = 0 then (⟨3, askedOf (insAt P S p) peer, (rd (rd W ((askedOf (insAt P S p) peer).toNat * P.length + p)) 0).v⟩, 0) else (⟨0, 0, 0⟩, (srcIs P.length W p (askedOf (insAt P S p) peer)).2)) := by
  have hw3 : (wantsOf P S p).kind = 3 := hk
  unfold comingIs
  rw [if_pos c1, Int.toNat_natCast, if_pos c2, if_neg c3, if_neg (by omega), if_pos hw3]
theorem coming_send {P : List (List Ins)} {S : List State} {W : List (List Item)} {H : List (List Event)} {p b : Nat} {peer : Int} (c1 : 0 ≤ (p : Int) ∧ (p : Int) ≤ (P.length : Int) - 1) (c2 : (rd S p).code = 0) (c3 : ¬ (200 : Int) ≤ ((rd H p).length : Int)) (hk : (next (rd P p) (rd S p)).kind = 2) (hbq : (next (rd P p) (rd S p)).peer = (b : Int)) :
    comingIs P S W H p peer = (if (12 : Int) ≤ ((rd W (p * P.length + b)).length : Int) then (⟨0, 0, 0⟩, 4) else (next (rd P p) (rd S p), 0)) := by
  unfold comingIs
  rw [if_pos c1, Int.toNat_natCast, if_pos c2, if_neg c3, if_pos (show (wantsOf P S p).kind = 2 from hk), show (wantsOf P S p).peer = (b : Int) from hbq, Int.toNat_natCast]
  rfl
theorem coming_else {P : List (List Ins)} {S : List State} {W : List (List Item)} {H : List (List Event)} {p : Nat} {peer : Int} (c1 : 0 ≤ (p : Int) ∧ (p : Int) ≤ (P.length : Int) - 1) (c2 : (rd S p).code = 0) (c3 : ¬ (200 : Int) ≤ ((rd H p).length : Int)) (hk2 : (next (rd P p) (rd S p)).kind ≠ 2) (hk3 : (next (rd P p) (rd S p)).kind ≠ 3) :
    comingIs P S W H p peer = (next (rd P p) (rd S p), 0) := by
  unfold comingIs
  rw [if_pos c1, Int.toNat_natCast, if_pos c2, if_neg c3, if_neg (show ¬ (wantsOf P S p).kind = 2 from hk2), if_neg (show ¬ (wantsOf P S p).kind = 3 from hk3)]
  rfl
set_option maxRecDepth 20000 in
set_option maxHeartbeats 8000000 in
theorem ok_spec_l5Step (k : Nat) (P : List (List Ins)) (S : List State) (W : List (List Item)) (H : List (List Event)) (p peer : Int) (hb : SysB 10000000000 P S W H) (hs : sysOk P S W H = true) :
    callE PR C (k + 6) 90 [aSys 0 P S W H, i64 p, i64 peer] [tInsSS9 P, tStateS9 S, tItemSS9 W, tEventSS9 H] = some (sysRes (stepIs P S W H p peer).1 (stepIs P S W H p peer).2 [some .dead, some .dead, some .dead, some .dead]) := by
  obtain ⟨hI, hP, hS', h200⟩ := sysOk_facts hs
  have hN := hI.n
  have hsl := hI.s
  have hwl := hI.w
  have hHl := hI.h
  have q1 := fun k => ok_spec_l1In k p 0 ((P.length : Int) - 1)
  by_cases c1 : 0 ≤ p ∧ p ≤ (P.length : Int) - 1
  · rw [decide_eq_true c1] at q1
    obtain ⟨p, rfl⟩ : ∃ n : Nat, p = (n : Int) := ⟨p.toNat, by omega⟩
    have hp : p < P.length := by omega
    obtain ⟨f1, f2, f3, f4⟩ := procF_of hs hp
    have hh := h200 p (by omega)
    have e4 : (List.map rEvent (rd H p)).length = (rd H p).length := by simp
    have hat0 := f1.at0
    have hat1 := f1.at1
    by_cases c2 : (rd S p).code = 0
    · by_cases c3 : (200 : Int) ≤ ((rd H p).length : Int)
      · have hc : comingIs P S W H p peer = (⟨0, 0, 0⟩, 4) := by unfold comingIs; rw [if_pos c1, Int.toNat_natCast, if_pos c2, if_pos c3]
        rw [step_no hc (by decide)]
        (refine fnI [ResultVar.cell 6 36, ResultVar.tmp 7] Tryz.func90 ?_; conv => whnf)
        repeat' ((with_reducible (first | refine sCall.of (q1 _) ?_|refine st16 ?_|refine fG.split (fun _ => ?_) (fun _ => ?_)|refine fG.bool (fun _ => ?_) (fun _ => ?_)|refine gD 8 [(1, 11), (4, 11), (6, 11), (9, 11), (10, 11)] ?_|refine gD 14 [(1, 11), (4, 11), (7, 11), (1, 12)] ?_|refine gD 26 [(1, 8), (3, 8), (1, 11), (3, 11)] ?_|refine gD 27 [(1, 14)] ?_|refine gD 28 [(1, 9), (4, 9), (7, 9), (1, 10)] ?_)) <;> (try (conv => whnf)))
        all_goals rfl
      · have q2 : ∀ k, callE PR C (k + 1) 183 [hIns 0 (rd P p), aState 1 (rd S p).at_ (rd S p).regs (rd S p).out (rd S p).code] [tIns (rd P p), tI (rd S p).regs, tI (rd S p).out] = some ⟨aEvent (next (rd P p) (rd S p)), [], [none, none, none]⟩ := fun k => ok_spec_l2Next k (rd P p) (rd S p).at_ (rd S p).regs (rd S p).out (rd S p).code (by omega) f1 f2
        have q3 : ∀ e : Event, comes e (next (rd P p) (rd S p)) = true → ∀ k, callE PR C (k + 4) 184 [hIns 0 (rd P p), aState 1 (rd S p).at_ (rd S p).regs (rd S p).out (rd S p).code, aEvent e] [tIns (rd P p), tI (rd S p).regs, tI (rd S p).out] = some ⟨.tu [nSt 0 (did (rd P p) (rd S p) e), bl true], [tI9 (did (rd P p) (rd S p) e).regs, tI9 (did (rd P p) (rd S p) e).out], [none, none, none]⟩ := fun e he k => by
          rw [ok_spec_l2Do k (rd P p) (rd S p).at_ (rd S p).regs (rd S p).out (rd S p).code e (by omega) f1 f2]
          exact congrArg some (doRes_true (l := rd P p) (a := (rd S p).at_) (r := (rd S p).regs) (o := (rd S p).out) (c := (rd S p).code) he)
        rcases @next_kind (rd P p) (rd S p) with hk | hk | hk
        · have hpe := f4 hk.1
          obtain ⟨b, hbq⟩ : ∃ b : Nat, (next (rd P p) (rd S p)).peer = (b : Int) := ⟨_, (Int.toNat_of_nonneg hpe.1).symm⟩
          have hbl : b < P.length := by omega
          have hpl := place_lt hp hbl
          have hk2 := hk.1
          have hc := coming_send (W := W) (peer := peer) c1 c2 c3 hk2 hbq
          have q4 := q3 _ (comes_self (w := next (rd P p) (rd S p)) (by omega))
          have hwok : (rd W (p * P.length + b)).length ≤ 12 := by
            simp only [sysOk, Bool.and_eq_true, List.all_eq_true] at hs
            have h1 := hs.2.1 _ (rd_mem (l := W) (n := p * P.length + b) (by omega))
            simp only [wayOk, Bool.and_eq_true, decide_eq_true_eq] at h1
            exact h1.1
          have wm : IntKind.i64.wrap ((p : Int) * (P.length : Int)) = ((p * P.length : Nat) : Int) := by
            have := Nat.mul_le_mul (show p ≤ 4 by omega) hN.2
            rw [show (p : Int) * (P.length : Int) = ((p * P.length : Nat) : Int) by simp]; exact wrap_i64 _ (by omega) (by omega)
          have wa : IntKind.i64.wrap (((p * P.length : Nat) : Int) + (next (rd P p) (rd S p)).peer) = ((p * P.length + b : Nat) : Int) := by
            have := Nat.mul_le_mul (show p ≤ 4 by omega) hN.2
            rw [hbq, wrap_i64 _ (by omega) (by omega)]; simp
          by_cases c5 : (12 : Int) ≤ ((rd W (p * P.length + b)).length : Int)
          · rw [if_pos c5] at hc
            rw [step_no hc (by decide)]
            clear hc hk f4 hpe q3 q4
            generalize next (rd P p) (rd S p) = w at *
            obtain ⟨ix, hix⟩ : ∃ ix, ix = p * P.length + b := ⟨_, rfl⟩
            rw [← hix] at hpl hwok c5 wa
            clear hix
            generalize p * P.length = pm at *
            have e5 : (List.map rItem (rd W ix)).length = (rd W ix).length := by simp
            (refine fnI [ResultVar.cell 6 36, ResultVar.tmp 7] Tryz.func90 ?_; conv => whnf)
            repeat' ((with_reducible (first | refine sCall.of (q1 _) ?_|refine sCall.of (q2 _) ?_|refine sW.eq (wm) ?_|refine sW.eq (wa) ?_|refine st16 ?_|refine fG.split (fun _ => ?_) (fun _ => ?_)|refine fG.bool (fun _ => ?_) (fun _ => ?_)|refine gD 8 [(1, 11), (4, 11), (6, 11), (9, 11), (10, 11)] ?_|refine gD 14 [(1, 11), (4, 11), (7, 11), (1, 12)] ?_|refine gD 26 [(1, 8), (3, 8), (1, 11), (3, 11)] ?_|refine gD 27 [(1, 14)] ?_|refine gD 28 [(1, 9), (4, 9), (7, 9), (1, 10)] ?_)) <;> (try (conv => whnf)))
            all_goals rfl
          · rw [if_neg c5] at hc
            rw [step_yes hc]
            have hW : stepW P.length W p (next (rd P p) (rd S p)) = W.set (p * P.length + b) (rd W (p * P.length + b) ++ [⟨false, (next (rd P p) (rd S p)).v⟩]) := by
              unfold stepW
              rw [if_pos hk2, hbq]
              rfl
            simp only [sysRes, stepS, hW, nSys, List.length_set]
            clear hW hc hk f4 hpe q3
            generalize next (rd P p) (rd S p) = w at *
            obtain ⟨ix, hix⟩ : ∃ ix, ix = p * P.length + b := ⟨_, rfl⟩
            rw [← hix] at hpl hwok c5 wa ⊢
            clear hix
            generalize p * P.length = pm at *
            have e5 : (List.map rItem (rd W ix)).length = (rd W ix).length := by simp
            (refine fnI [ResultVar.cell 6 36, ResultVar.tmp 7] Tryz.func90 ?_; conv => whnf)
            repeat' ((with_reducible (first | refine sCall.of (q1 _) ?_|refine sCall.of (q2 _) ?_|refine sCall.of (q4 _) ?_|refine sW.eq (wm) ?_|refine sW.eq (wa) ?_|refine gHole ?_|refine st16 ?_|refine fG.split (fun _ => ?_) (fun _ => ?_)|refine fG.bool (fun _ => ?_) (fun _ => ?_)|refine gD 8 [(1, 11), (4, 11), (6, 11), (9, 11), (10, 11)] ?_|refine gD 14 [(1, 11), (4, 11), (7, 11), (1, 12)] ?_|refine gD 26 [(1, 8), (3, 8), (1, 11), (3, 11)] ?_|refine gD 27 [(1, 14)] ?_|refine gD 28 [(1, 9), (4, 9), (7, 9), (1, 10)] ?_)) <;> (try (conv => whnf)))
            all_goals rfl
        · have hc := coming_peer (W := W) (peer := peer) c1 c2 c3 hk.1
          have hcs : sysOk P S W H = true := hs
          have q2 : ∀ k, callE PR C (k + 1) 183 [hIns 0 (rd P p), aState 1 (rd S p).at_ (rd S p).regs (rd S p).out (rd S p).code] [tIns (rd P p), tI (rd S p).regs, tI (rd S p).out] = some ⟨aEvent ⟨3, (insAt P S p).n, 0⟩, [], [none, none, none]⟩ := fun k => by rw [show (⟨3, (insAt P S p).n, 0⟩ : Event) = next (rd P p) (rd S p) from hk.2.2.symm]; exact q2 k
          generalize hq : askedOf (insAt P S p) peer = q at hc
          have qI := fun k => ok_spec_l1In k q 0 ((P.length : Int) - 1)
          have hq9 : (insAt P S p).n = 9 ∧ q = peer ∨ ¬ (insAt P S p).n = 9 ∧ (insAt P S p).n = q := by
            unfold askedOf at hq
            by_cases h9 : (insAt P S p).n = 9
            · rw [if_pos h9] at hq; exact .inl ⟨h9, hq.symm⟩
            · rw [if_neg h9] at hq; exact .inr ⟨h9, hq⟩
          generalize (insAt P S p).n = xn at *
          by_cases d1 : 0 ≤ q ∧ q ≤ (P.length : Int) - 1
          · rw [decide_eq_true d1] at qI
            obtain ⟨b, rfl⟩ : ∃ n : Nat, q = (n : Int) := ⟨q.toNat, by omega⟩
            have hbl : b < P.length := by omega
            have hpl := place_lt hbl hp
            have hwx := hb.ww (b * P.length + p) (by omega)
            have wm : IntKind.i64.wrap ((b : Int) * (P.length : Int)) = ((b * P.length : Nat) : Int) := by
              have := Nat.mul_le_mul (show b ≤ 4 by omega) hN.2
              rw [show (b : Int) * (P.length : Int) = ((b * P.length : Nat) : Int) by simp]; exact wrap_i64 _ (by omega) (by omega)
            have wa : IntKind.i64.wrap (((b * P.length : Nat) : Int) + (p : Int)) = ((b * P.length + p : Nat) : Int) := by
              have := Nat.mul_le_mul (show b ≤ 4 by omega) hN.2
              rw [wrap_i64 _ (by omega) (by omega)]; simp
            have hsrc : srcIs P.length W p (b : Int) = (if (rd W (b * P.length + p)).length = 0 then (0, 3) else if (rd (rd W (b * P.length + p)) 0).mark = true then (0, 5) else ((b : Int), 0)) := by
              unfold srcIs
              rw [if_pos d1]
              rfl
            rw [hsrc, Int.toNat_natCast] at hc
            by_cases d2 : (rd W (b * P.length + p)).length = 0
            · rw [if_pos d2, if_neg (by decide)] at hc
              rw [step_no hc (by decide)]
              obtain ⟨ix, hix⟩ : ∃ ix, ix = b * P.length + p := ⟨_, rfl⟩
              rw [← hix] at hpl hwx d2 wa
              clear hc hsrc hix
              generalize b * P.length = pm at *
              have e5 : (List.map rItem (rd W ix)).length = (rd W ix).length := by simp
              rcases hq9 with ⟨h9, h9'⟩ | ⟨h9, h9'⟩
              · rw [← h9'] at *
                (refine fnI [ResultVar.cell 6 36, ResultVar.tmp 7] Tryz.func90 ?_; conv => whnf)
                repeat' ((with_reducible (first | refine sCall.of (q1 _) ?_|refine sCall.of (q2 _) ?_|refine sCall.of (qI _) ?_|refine sW.eq (wm) ?_|refine sW.eq (wa) ?_|refine st16 ?_|refine fG.split (fun _ => ?_) (fun _ => ?_)|refine fG.bool (fun _ => ?_) (fun _ => ?_)|refine gD 8 [(1, 11), (4, 11), (6, 11), (9, 11), (10, 11)] ?_|refine gD 14 [(1, 11), (4, 11), (7, 11), (1, 12)] ?_|refine gD 26 [(1, 8), (3, 8), (1, 11), (3, 11)] ?_|refine gD 27 [(1, 14)] ?_|refine gD 28 [(1, 9), (4, 9), (7, 9), (1, 10)] ?_)) <;> (try (conv => whnf)))
                all_goals rfl
              · rw [h9'] at q2 h9
                (refine fnI [ResultVar.cell 6 36, ResultVar.tmp 7] Tryz.func90 ?_; conv => whnf)
                repeat' ((with_reducible (first | refine sCall.of (q1 _) ?_|refine sCall.of (q2 _) ?_|refine sCall.of (qI _) ?_|refine sW.eq (wm) ?_|refine sW.eq (wa) ?_|refine st16 ?_|refine fG.split (fun _ => ?_) (fun _ => ?_)|refine fG.bool (fun _ => ?_) (fun _ => ?_)|refine gD 8 [(1, 11), (4, 11), (6, 11), (9, 11), (10, 11)] ?_|refine gD 14 [(1, 11), (4, 11), (7, 11), (1, 12)] ?_|refine gD 26 [(1, 8), (3, 8), (1, 11), (3, 11)] ?_|refine gD 27 [(1, 14)] ?_|refine gD 28 [(1, 9), (4, 9), (7, 9), (1, 10)] ?_)) <;> (try (conv => whnf)))
                all_goals rfl
            · rw [if_neg d2] at hc
              cases d3 : (rd (rd W (b * P.length + p)) 0).mark with
              | true =>
                rw [if_pos d3, if_neg (by decide)] at hc
                rw [step_no hc (by decide)]
                obtain ⟨ix, hix⟩ : ∃ ix, ix = b * P.length + p := ⟨_, rfl⟩
                rw [← hix] at hpl hwx d2 d3 wa
                clear hc hsrc hix
                generalize b * P.length = pm at *
                have e5 : (List.map rItem (rd W ix)).length = (rd W ix).length := by simp
                rcases hq9 with ⟨h9, h9'⟩ | ⟨h9, h9'⟩
                · rw [← h9'] at *
                  (refine fnI [ResultVar.cell 6 36, ResultVar.tmp 7] Tryz.func90 ?_; conv => whnf)
                  repeat' ((with_reducible (first | refine sCall.of (q1 _) ?_|refine sCall.of (q2 _) ?_|refine sCall.of (qI _) ?_|refine sW.eq (wm) ?_|refine sW.eq (wa) ?_|refine st16 ?_|refine fG.split (fun _ => ?_) (fun _ => ?_)|refine fG.bool (fun _ => ?_) (fun _ => ?_)|refine gD 8 [(1, 11), (4, 11), (6, 11), (9, 11), (10, 11)] ?_|refine gD 14 [(1, 11), (4, 11), (7, 11), (1, 12)] ?_|refine gD 26 [(1, 8), (3, 8), (1, 11), (3, 11)] ?_|refine gD 27 [(1, 14)] ?_|refine gD 28 [(1, 9), (4, 9), (7, 9), (1, 10)] ?_)) <;> (try (conv => whnf)))
                  all_goals rfl
                · rw [h9'] at q2 h9
                  (refine fnI [ResultVar.cell 6 36, ResultVar.tmp 7] Tryz.func90 ?_; conv => whnf)
                  repeat' ((with_reducible (first | refine sCall.of (q1 _) ?_|refine sCall.of (q2 _) ?_|refine sCall.of (qI _) ?_|refine sW.eq (wm) ?_|refine sW.eq (wa) ?_|refine st16 ?_|refine fG.split (fun _ => ?_) (fun _ => ?_)|refine fG.bool (fun _ => ?_) (fun _ => ?_)|refine gD 8 [(1, 11), (4, 11), (6, 11), (9, 11), (10, 11)] ?_|refine gD 14 [(1, 11), (4, 11), (7, 11), (1, 12)] ?_|refine gD 26 [(1, 8), (3, 8), (1, 11), (3, 11)] ?_|refine gD 27 [(1, 14)] ?_|refine gD 28 [(1, 9), (4, 9), (7, 9), (1, 10)] ?_)) <;> (try (conv => whnf)))
                  all_goals rfl
              | false =>
                rw [if_neg (show ¬ (rd (rd W (b * P.length + p)) 0).mark = true by rw [d3]; decide), if_pos rfl] at hc
                have hcc := (coming_comes (peer := peer) hs (by rw [hc])).2
                rw [hc, Int.toNat_natCast] at hcc
                dsimp only at hcc
                have q4 := q3 _ hcc.comes
                rw [step_yes hc]
                have hW : stepW P.length W p ⟨3, (b : Int), (rd (rd W (b * P.length + p)) 0).v⟩ = W.set (b * P.length + p) ((rd W (b * P.length + p)).drop 1) := by
                  unfold stepW
                  rw [if_neg (show ¬ (3 : Int) = 2 by decide), if_pos rfl]
                  rfl
                simp only [sysRes, stepS, hW, nSys, List.length_set]
                obtain ⟨ix, hix⟩ : ∃ ix, ix = b * P.length + p := ⟨_, rfl⟩
                rw [← hix] at hpl hwx d2 d3 wa q4 ⊢
                clear hc hsrc hix hcc hW q3
                generalize b * P.length = pm at *
                have e5 : (List.map rItem (rd W ix)).length = (rd W ix).length := by simp
                have hdl := dropLim (t := (rd W ix).length - 1) (n := 1) (m := 15 + 1) hwx (by decide)
                have et : List.take ((rd W ix).length - 1) (List.drop 1 (rd W ix)) = List.drop 1 (rd W ix) := List.take_of_length_le (by simp)
                rcases hq9 with ⟨h9, h9'⟩ | ⟨h9, h9'⟩
                · rw [← h9'] at *
                  (refine fnI [ResultVar.cell 6 36, ResultVar.tmp 7] Tryz.func90 ?_; conv => whnf)
                  repeat' ((with_reducible (first | refine sCall.of (q1 _) ?_|refine sCall.of (q2 _) ?_|refine sCall.of (qI _) ?_|refine sCall.of (q4 _) ?_|refine sW.eq (wm) ?_|refine sW.eq (wa) ?_|refine gHole ?_|refine sI.mk hdl ?_|refine st16 ?_|refine fG.split (fun _ => ?_) (fun _ => ?_)|refine fG.bool (fun _ => ?_) (fun _ => ?_)|refine gD 8 [(1, 11), (4, 11), (6, 11), (9, 11), (10, 11)] ?_|refine gD 14 [(1, 11), (4, 11), (7, 11), (1, 12)] ?_|refine gD 26 [(1, 8), (3, 8), (1, 11), (3, 11)] ?_|refine gD 27 [(1, 14)] ?_|refine gD 28 [(1, 9), (4, 9), (7, 9), (1, 10)] ?_)) <;> (try (conv => whnf)))
                  all_goals (try rw [et])
                  all_goals rfl
                · rw [h9'] at q2 h9
                  (refine fnI [ResultVar.cell 6 36, ResultVar.tmp 7] Tryz.func90 ?_; conv => whnf)
                  repeat' ((with_reducible (first | refine sCall.of (q1 _) ?_|refine sCall.of (q2 _) ?_|refine sCall.of (qI _) ?_|refine sCall.of (q4 _) ?_|refine sW.eq (wm) ?_|refine sW.eq (wa) ?_|refine gHole ?_|refine sI.mk hdl ?_|refine st16 ?_|refine fG.split (fun _ => ?_) (fun _ => ?_)|refine fG.bool (fun _ => ?_) (fun _ => ?_)|refine gD 8 [(1, 11), (4, 11), (6, 11), (9, 11), (10, 11)] ?_|refine gD 14 [(1, 11), (4, 11), (7, 11), (1, 12)] ?_|refine gD 26 [(1, 8), (3, 8), (1, 11), (3, 11)] ?_|refine gD 27 [(1, 14)] ?_|refine gD 28 [(1, 9), (4, 9), (7, 9), (1, 10)] ?_)) <;> (try (conv => whnf)))
                  all_goals (try rw [et])
                  all_goals rfl
          · rw [decide_eq_false d1] at qI
            rw [show srcIs P.length W p q = (0, 2) by unfold srcIs; rw [if_neg d1], if_neg (by decide)] at hc
            rw [step_no hc (by decide)]
            clear hc
            rcases hq9 with ⟨h9, h9'⟩ | ⟨h9, h9'⟩
            · rw [← h9'] at *
              (refine fnI [ResultVar.cell 6 36, ResultVar.tmp 7] Tryz.func90 ?_; conv => whnf)
              repeat' ((with_reducible (first | refine sCall.of (q1 _) ?_|refine sCall.of (q2 _) ?_|refine sCall.of (qI _) ?_|refine st16 ?_|refine fG.split (fun _ => ?_) (fun _ => ?_)|refine fG.bool (fun _ => ?_) (fun _ => ?_)|refine gD 8 [(1, 11), (4, 11), (6, 11), (9, 11), (10, 11)] ?_|refine gD 14 [(1, 11), (4, 11), (7, 11), (1, 12)] ?_|refine gD 26 [(1, 8), (3, 8), (1, 11), (3, 11)] ?_|refine gD 27 [(1, 14)] ?_|refine gD 28 [(1, 9), (4, 9), (7, 9), (1, 10)] ?_)) <;> (try (conv => whnf)))
              all_goals rfl
            · rw [h9'] at q2 h9
              (refine fnI [ResultVar.cell 6 36, ResultVar.tmp 7] Tryz.func90 ?_; conv => whnf)
              repeat' ((with_reducible (first | refine sCall.of (q1 _) ?_|refine sCall.of (q2 _) ?_|refine sCall.of (qI _) ?_|refine st16 ?_|refine fG.split (fun _ => ?_) (fun _ => ?_)|refine fG.bool (fun _ => ?_) (fun _ => ?_)|refine gD 8 [(1, 11), (4, 11), (6, 11), (9, 11), (10, 11)] ?_|refine gD 14 [(1, 11), (4, 11), (7, 11), (1, 12)] ?_|refine gD 26 [(1, 8), (3, 8), (1, 11), (3, 11)] ?_|refine gD 27 [(1, 14)] ?_|refine gD 28 [(1, 9), (4, 9), (7, 9), (1, 10)] ?_)) <;> (try (conv => whnf)))
              all_goals rfl
        · have hk2 := hk.1
          have hk3 := hk.2
          have hc := coming_else (W := W) (peer := peer) c1 c2 c3 hk2 hk3
          have q4 := q3 _ (comes_self (w := next (rd P p) (rd S p)) hk3)
          rw [step_yes hc]
          have hW : stepW P.length W p (next (rd P p) (rd S p)) = W := by
            unfold stepW
            rw [if_neg hk2, if_neg hk3]
          simp only [sysRes, stepS, hW, nSys, List.length_set]
          clear hW hc hk f4 q3
          generalize next (rd P p) (rd S p) = w at *
          (refine fnI [ResultVar.cell 6 36, ResultVar.tmp 7] Tryz.func90 ?_; conv => whnf)
          repeat' ((with_reducible (first | refine sCall.of (q1 _) ?_|refine sCall.of (q2 _) ?_|refine sCall.of (q4 _) ?_|refine gHole ?_|refine st16 ?_|refine fG.split (fun _ => ?_) (fun _ => ?_)|refine fG.bool (fun _ => ?_) (fun _ => ?_)|refine gD 8 [(1, 11), (4, 11), (6, 11), (9, 11), (10, 11)] ?_|refine gD 14 [(1, 11), (4, 11), (7, 11), (1, 12)] ?_|refine gD 26 [(1, 8), (3, 8), (1, 11), (3, 11)] ?_|refine gD 27 [(1, 14)] ?_|refine gD 28 [(1, 9), (4, 9), (7, 9), (1, 10)] ?_)) <;> (try (conv => whnf)))
          all_goals rfl
    · have hc : comingIs P S W H p peer = (⟨0, 0, 0⟩, 6) := by unfold comingIs; rw [if_pos c1, Int.toNat_natCast, if_neg c2]
      rw [step_no hc (by decide)]
      (refine fnI [ResultVar.cell 6 36, ResultVar.tmp 7] Tryz.func90 ?_; conv => whnf)
      repeat' ((with_reducible (first | refine sCall.of (q1 _) ?_|refine st16 ?_|refine fG.split (fun _ => ?_) (fun _ => ?_)|refine fG.bool (fun _ => ?_) (fun _ => ?_)|refine gD 8 [(1, 11), (4, 11), (6, 11), (9, 11), (10, 11)] ?_|refine gD 14 [(1, 11), (4, 11), (7, 11), (1, 12)] ?_|refine gD 26 [(1, 8), (3, 8), (1, 11), (3, 11)] ?_|refine gD 27 [(1, 14)] ?_|refine gD 28 [(1, 9), (4, 9), (7, 9), (1, 10)] ?_)) <;> (try (conv => whnf)))
      all_goals rfl
  · rw [decide_eq_false c1] at q1
    have hc : comingIs P S W H p peer = (⟨0, 0, 0⟩, 2) := by unfold comingIs; rw [if_neg c1]
    rw [step_no hc (by decide)]
    (refine fnI [ResultVar.cell 6 36, ResultVar.tmp 7] Tryz.func90 ?_; conv => whnf)
    repeat' ((with_reducible (first | refine sCall.of (q1 _) ?_|refine st16 ?_|refine fG.split (fun _ => ?_) (fun _ => ?_)|refine fG.bool (fun _ => ?_) (fun _ => ?_)|refine gD 8 [(1, 11), (4, 11), (6, 11), (9, 11), (10, 11)] ?_|refine gD 14 [(1, 11), (4, 11), (7, 11), (1, 12)] ?_|refine gD 26 [(1, 8), (3, 8), (1, 11), (3, 11)] ?_|refine gD 27 [(1, 14)] ?_|refine gD 28 [(1, 9), (4, 9), (7, 9), (1, 10)] ?_)) <;> (try (conv => whnf)))
    all_goals rfl

end Go.Proofs.YtldndahfnkbngaaGreat.Abs
namespace Go.Proofs.YtldndahfnkbngaaGreat.Abs
open Go Go.Proofs
set_option linter.unusedVariables false
set_option linter.unusedSimpArgs false
attribute [local irreducible] callE
def stopOk (P : List (List Ins)) (S : List State) (W : List (List Item)) (H : List (List Event)) (p kind : Int) : Bool := sysOk P S W H && (inB p 0 ((P.length : Int) - 1) && inB kind 1 3)
abbrev aStop (p kind v : Int) : AV := .ag [i64 p, i64 kind, i64 v]
def holdsB (kind v a : Int) (o : List Int) (es : List Event) : Bool :=
  if kind = 1 then decide (a = v) else if kind = 2 then decide (0 < (o.length : Int)) && decide (rd o ((o.length : Int) - 1).toNat = v)
  else !decide ((es.length : Int) = 0) && (decide ((rd es ((es.length : Int) - 1).toNat).kind = 3) && decide ((rd es ((es.length : Int) - 1).toNat).v = v))
def stopHolds (P : List (List Ins)) (S : List State) (W : List (List Item)) (H : List (List Event)) (p kind v : Int) : Bool := stopOk P S W H p kind && holdsB kind v (rd S p.toNat).at_ (rd S p.toNat).out (rd H p.toNat)
def lastIs (f : Nat → Bool) : Nat → Int
  | 0 => if f 0 = true then 0 else -1
  | n + 1 => if f (n + 1) = true then ((n + 1 : Nat) : Int) else lastIs f n
def heldAt (l : List Ins) (es : List Event) (kind v : Int) (n : Nat) : Bool := holdsB kind v (stOf (replayAll l (es.take n))).at_ (stOf (replayAll l (es.take n))).out (es.take n)
def lastMo (P : List (List Ins)) (S : List State) (W : List (List Item)) (H : List (List Event)) (p kind v : Int) : Int := if stopOk P S W H p kind = true then lastIs (heldAt (rd P p.toNat) (rd H p.toNat) kind v) (rd H p.toNat).length else -1
structure LA where
  n : Int
  d : Nat
end Go.Proofs.YtldndahfnkbngaaGreat.Abs
namespace Go.Proofs.YtldndahfnkbngaaGreat.Abs
open Go Go.Proofs
set_option linter.unusedVariables false
set_option linter.unusedSimpArgs false
attribute [local irreducible] callE
set_option maxRecDepth 20000 in
set_option maxHeartbeats 4000000 in
theorem ok_spec_Step (k : Nat) (P : List (List Ins)) (S : List State) (W : List (List Item)) (H : List (List Event)) (p peer : Int) (hb : SysB 10000000000 P S W H) (hs : sysOk P S W H = true) :
    callE PR C (k + 8) 112 [aSys 0 P S W H, i64 p, i64 peer] [tInsSS P, tStateS S, tItemSS W, tEventSS H] = some (sysRes (stepIs P S W H p peer).1 (stepIs P S W H p peer).2 [none, none, none, none]) := by
  have q1 := fun k => ok_spec_SysOk k P S W H hb
  simp only [hs] at q1
  have hI := (sysOk_facts hs).1
  have q2 := fun k => ok_spec_l4Copy k P S W H (hb.mono (by decide)) hI.some
  have q3 := fun k => ok_spec_l5Step k P S W H p peer hb hs
  have hno : ¬ (stepIs P S W H p peer).2 = 0 → (stepIs P S W H p peer).1 = ⟨P, S, W, H⟩ := fun h => by
    unfold stepIs at h ⊢
    split
    · rename_i h2; rw [if_pos h2] at h; exact absurd rfl h
    · rfl
  by_cases c0 : (stepIs P S W H p peer).2 = 0
  · generalize stepIs P S W H p peer = X at *
    obtain ⟨⟨P', S', W', H'⟩, n⟩ := X
    dsimp only at c0
    simp only [sysRes] at q3 ⊢
    (refine fnI [ResultVar.cell 6 36, ResultVar.tmp 7] Tryz.func112 ?_; conv => whnf)
    repeat' ((with_reducible (first | refine sCall.of (q1 _) ?_|refine sCall.of (q2 _) ?_|refine sCall.of (q3 _) ?_|refine st16 ?_|refine fG.split (fun _ => ?_) (fun _ => ?_)|refine fG.bool (fun _ => ?_) (fun _ => ?_))) <;> (try (conv => whnf)))
    all_goals rfl
  · have h1 := hno c0
    generalize stepIs P S W H p peer = X at *
    obtain ⟨X, n⟩ := X
    dsimp only at c0 h1
    subst h1
    simp only [sysRes] at q3 ⊢
    (refine fnI [ResultVar.cell 6 36, ResultVar.tmp 7] Tryz.func112 ?_; conv => whnf)
    repeat' ((with_reducible (first | refine sCall.of (q1 _) ?_|refine sCall.of (q2 _) ?_|refine sCall.of (q3 _) ?_|refine st16 ?_|refine fG.split (fun _ => ?_) (fun _ => ?_)|refine fG.bool (fun _ => ?_) (fun _ => ?_))) <;> (try (conv => whnf)))
    all_goals rfl
def heldIn (X : Sys) (q : Nat) (kind v : Int) : Bool := holdsB kind v (rd X.states q).at_ (rd X.states q).out (rd X.hist q)
def stepX (X : Sys) (w : Who) : Sys × Int := stepIs X.progs X.states X.ways X.hist w.p w.i
def untilGo (q : Nat) (kind v : Int) : Nat → List Who → Sys → Sys × Int
  | i, [], X => (X, (i : Int))
  | i, w :: r, X => if (stepX X w).2 = 0 ∧ heldIn (stepX X w).1 q kind v = true then ((stepX X w).1, ((i + 1 : Nat) : Int)) else untilGo q kind v (i + 1) r (stepX X w).1
def untilIs (P : List (List Ins)) (S : List State) (W : List (List Item)) (H : List (List Event)) (l : List Who) (p kind v : Int) : Sys × Int :=
  if stopOk P S W H p kind = true ∧ (l.length : Int) ≤ 200 then untilGo p.toNat kind v 0 l ⟨P, S, W, H⟩ else (⟨[], [], [], []⟩, -1)
structure Along (n : Nat) (X : Sys) : Prop where
  ok : sysOk X.progs X.states X.ways X.hist = true
  n : X.progs.length = n
structure US where
  j : Nat
  X : Sys
  o : Nat
  b0 : Nat
  b1 : Nat
  b2 : Nat
  b3 : Nat
  dd : Bool
def whoOk (H : List (List Event)) (f : List Int) (w : Who) : Bool := inB w.p 0 ((H.length : Int) - 1) && (decide (w.i = rd f w.p.toNat) && canCome H f w.p.toNat)
def rowGo (H : List (List Event)) : List Who → List Int → Bool
  | [], _ => true
  | w :: r, f => whoOk H f w && rowGo H r (goOn f w.p.toNat)
def rowOkB (P : List (List Ins)) (S : List State) (W : List (List Item)) (H : List (List Event)) (row : List Who) : Bool := sysOk P S W H && (decide (row.length = allEv H) && rowGo H row (List.replicate H.length 0))
theorem rowGo_drop {H : List (List Event)} {row : List Who} {j : Nat} (hj : j < row.length) (f : List Int) : rowGo H (row.drop j) f = (whoOk H f (rd row j) && rowGo H (row.drop (j + 1)) (goOn f (rd row j).p.toNat)) := by
  rw [drop_rd hj, rowGo]
structure RO where
  j : Nat
  f : List Int
  g : Nat
  d : Bool
set_option maxHeartbeats 4000000 in
theorem ok_impl_RowOk (k : Nat) (P : List (List Ins)) (S : List State) (W : List (List Item)) (H : List (List Event)) (row : List Who) (hb : SysB 10000000000 P S W H) (hr : row.length ≤ 10000000000) :
    callE PR C (k + 12) 61 [aSys 0 P S W H, .h 1000004 0 0 [] 2 0 row.length] [tInsSS P, tStateS S, tItemSS W, tEventSS H, tWho row] = some ⟨bl (rowOkB P S W H row), [], [none, none, none, none, none]⟩ := by
  have q1 := fun k => ok_impl_SysOk k P S W H hb
  unfold rowOkB
  cases e : sysOk P S W H with
  | false =>
    simp only [e] at q1
    (refine fnI [ResultVar.tmp 4] Tryz.func61 ?_; conv => whnf)
    repeat' ((with_reducible (first | refine sCall.of (q1 _) ?_|refine st16 ?_|refine fG.split (fun _ => ?_) (fun _ => ?_)|refine fG.bool (fun _ => ?_) (fun _ => ?_)|refine gDn 7 ?_|refine gDn 10 ?_)) <;> (try (conv => whnf)))
    all_goals rfl
  | true =>
    simp only [e] at q1
    obtain ⟨hI, hP, hS, h200⟩ := sysOk_facts e
    have hN := hI.n
    have hHl := hI.h
    have hall : allEv H ≤ 1000000000000 := by
      have h1 := wts_bound List.length 200 H h200
      rw [← allEv_wts] at h1
      omega
    have q2 := fun k => ok_impl_allEvents k H (by omega) hall
    rw [Bool.true_and]
    by_cases el : row.length = allEv H
    · rw [decide_eq_true el, Bool.true_and]
      generalize hR : rowGo H row (List.replicate H.length 0) = R
      (refine fnI [ResultVar.tmp 4] Tryz.func61 ?_; conv => whnf)
      repeat' ((with_reducible (first | refine sCall.of (q1 _) ?_|refine sCall.of (q2 _) ?_|refine st16 ?_|refine fG.split (fun _ => ?_) (fun _ => ?_)|refine fG.bool (fun _ => ?_) (fun _ => ?_)|refine gDn 7 ?_|refine gDn 10 ?_)) <;> (try (conv => whnf)))
      refine loop_rule (ι := RO) (fun z => [(2, .pt 2 1 0 [] 0 0), (5, .h 23 1 0 [] 1 0 H.length), (24, .h 1000004 0 0 [] 2 0 row.length), (25, i64 row.length), (26, i64 (z.j : Nat))])
        (fun z => [(1000000, ⟨0, 0, false, tInsSS P⟩), (1000001, ⟨0, 0, false, tStateS S⟩), (1000002, ⟨0, 0, false, tItemSS W⟩), (1000003, ⟨0, 0, false, tEventSS H⟩), (1000004, ⟨0, 0, false, tWho row⟩), (2, ⟨1, 0, false, bSys P S W H⟩), (23, ⟨1, z.g, z.d, tI9 z.f⟩)])
        (fun z => row.length - z.j) (fun z => z.j ≤ row.length ∧ Reach H z.f z.j ∧ R = rowGo H (row.drop z.j) z.f) ⟨0, List.replicate H.length 0, _, _⟩ fitOk ⟨Nat.zero_le _, .zero, hR.symm⟩ (by simp [C]; omega) ?_
      clear hR
      rintro ⟨j, f, g, d⟩ sl ob ⟨hj, hre, hR⟩
      dsimp only at hj hre hR
      have hf := hre.fok
      have hfl := hf.len
      (try dsimp only [cond_true, cond_false])
      (conv => whnf)
      by_cases hjl : j < row.length
      · rw [rowGo_drop hjl] at hR
        repeat' ((with_reducible (first | refine st16 ?_|refine fG.split (fun _ => ?_) (fun _ => ?_)|refine fG.bool (fun _ => ?_) (fun _ => ?_)|refine gDn 7 ?_|refine gDn 10 ?_)) <;> (try (conv => whnf)))
        generalize rd row j = w at hR ⊢
        obtain ⟨wp, wi⟩ := w
        dsimp only at hR
        (try dsimp only [cond_true, cond_false])
        have q3 := fun k => ok_impl_in k wp 0 ((H.length : Int) - 1)
        by_cases c1 : 0 ≤ wp ∧ wp ≤ (H.length : Int) - 1
        · clear q3
          have hp : wp.toNat < H.length := by omega
          have hfp := hf.rng _ hp
          have hhp := h200 _ hp
          have e4 : (List.map rEvent (rd H wp.toNat)).length = (rd H wp.toNat).length := by simp
          by_cases c2 : wi = rd f wp.toNat
          · by_cases c3 : wi < ((rd H wp.toNat).length : Int)
            · have q4 := fun k => ok_impl_sender k P S W H wp.toNat wi.toNat hP hp (by omega) (fun j hj => by have := h200 j hj; omega)
              rw [show ((wp.toNat : Nat) : Int) = wp by omega, show ((wi.toNat : Nat) : Int) = wi by omega] at q4
              have hsc := sender_can hP hS hf hp (by omega)
              rw [← c2] at hsc
              rcases hsc with ⟨h1, h2, h3⟩ | ⟨h1, h2, h3, h4, h5⟩
              · rw [h1] at q4
                rw [show whoOk H f ⟨wp, wi⟩ = true by simp only [whoOk, inB, decide_eq_true c1, decide_eq_true c2, h2, Bool.and_self], Bool.true_and] at hR
                repeat' ((with_reducible (first | refine sCall.of (ok_impl_in _ _ _ _) ?_|refine sCall.of (q4 _) ?_|refine st16 ?_|refine fG.split (fun _ => ?_) (fun _ => ?_)|refine fG.bool (fun _ => ?_) (fun _ => ?_)|refine gDn 7 ?_|refine gDn 10 ?_)) <;> (try (conv => whnf)))
                refine ⟨⟨⟨j + 1, goOn f wp.toNat, _, _⟩, fitOk, ?_, ?_⟩⟩
                · exact ⟨by show j + 1 ≤ _; omega, hre.step hp h2, hR⟩
                · show row.length - (j + 1) < row.length - j; omega
              · generalize senderOf H wp.toNat wi.toNat = k' at q4 h1 h5
                by_cases c4 : k' < rd f (rd (rd H wp.toNat) wi.toNat).peer.toNat
                · rw [decide_eq_true c4] at h5
                  rw [show whoOk H f ⟨wp, wi⟩ = true by simp only [whoOk, inB, decide_eq_true c1, decide_eq_true c2, h5, Bool.and_self], Bool.true_and] at hR
                  repeat' ((with_reducible (first | refine sCall.of (ok_impl_in _ _ _ _) ?_|refine sCall.of (q4 _) ?_|refine st16 ?_|refine fG.split (fun _ => ?_) (fun _ => ?_)|refine fG.bool (fun _ => ?_) (fun _ => ?_)|refine gDn 7 ?_|refine gDn 10 ?_)) <;> (try (conv => whnf)))
                  refine ⟨⟨⟨j + 1, goOn f wp.toNat, _, _⟩, fitOk, ?_, ?_⟩⟩
                  · exact ⟨by show j + 1 ≤ _; omega, hre.step hp h5, hR⟩
                  · show row.length - (j + 1) < row.length - j; omega
                · rw [decide_eq_false c4] at h5
                  rw [show whoOk H f ⟨wp, wi⟩ = false by simp only [whoOk, h5, Bool.and_false], Bool.false_and] at hR
                  subst hR
                  repeat' ((with_reducible (first | refine sCall.of (ok_impl_in _ _ _ _) ?_|refine sCall.of (q4 _) ?_|refine st16 ?_|refine fG.split (fun _ => ?_) (fun _ => ?_)|refine fG.bool (fun _ => ?_) (fun _ => ?_)|refine gDn 7 ?_|refine gDn 10 ?_)) <;> (try (conv => whnf)))
            · have hcan : canCome H f wp.toNat = false := by
                have : rd f wp.toNat = ((rd H wp.toNat).length : Int) := by omega
                simp [canCome, this]
              rw [show whoOk H f ⟨wp, wi⟩ = false by simp only [whoOk, hcan, Bool.and_false], Bool.false_and] at hR
              subst hR
              repeat' ((with_reducible (first | refine sCall.of (ok_impl_in _ _ _ _) ?_|refine st16 ?_|refine fG.split (fun _ => ?_) (fun _ => ?_)|refine fG.bool (fun _ => ?_) (fun _ => ?_)|refine gDn 7 ?_|refine gDn 10 ?_)) <;> (try (conv => whnf)))
          · rw [show whoOk H f ⟨wp, wi⟩ = false by simp only [whoOk, decide_eq_false c2, Bool.false_and, Bool.and_false], Bool.false_and] at hR
            subst hR
            repeat' ((with_reducible (first | refine sCall.of (ok_impl_in _ _ _ _) ?_|refine st16 ?_|refine fG.split (fun _ => ?_) (fun _ => ?_)|refine fG.bool (fun _ => ?_) (fun _ => ?_)|refine gDn 7 ?_|refine gDn 10 ?_)) <;> (try (conv => whnf)))
        · rw [decide_eq_false c1] at q3
          rw [show whoOk H f ⟨wp, wi⟩ = false by simp only [whoOk, inB, decide_eq_false c1, Bool.false_and], Bool.false_and] at hR
          subst hR
          repeat' ((with_reducible (first | refine sCall.of (q3 _) ?_|refine st16 ?_|refine fG.split (fun _ => ?_) (fun _ => ?_)|refine fG.bool (fun _ => ?_) (fun _ => ?_)|refine gDn 7 ?_|refine gDn 10 ?_)) <;> (try (conv => whnf)))
      · rw [List.drop_eq_nil_of_le (by omega), rowGo] at hR
        subst hR
        repeat' ((with_reducible (first | refine st16 ?_|refine fG.split (fun _ => ?_) (fun _ => ?_)|refine fG.bool (fun _ => ?_) (fun _ => ?_)|refine gDn 7 ?_|refine gDn 10 ?_)) <;> (try (conv => whnf)))
    · rw [decide_eq_false el, Bool.false_and]
      (refine fnI [ResultVar.tmp 4] Tryz.func61 ?_; conv => whnf)
      repeat' ((with_reducible (first | refine sCall.of (q1 _) ?_|refine sCall.of (q2 _) ?_|refine st16 ?_|refine fG.split (fun _ => ?_) (fun _ => ?_)|refine fG.bool (fun _ => ?_) (fun _ => ?_)|refine gDn 7 ?_|refine gDn 10 ?_)) <;> (try (conv => whnf)))

set_option maxHeartbeats 4000000 in
theorem ok_spec_RowOk (k : Nat) (P : List (List Ins)) (S : List State) (W : List (List Item)) (H : List (List Event)) (row : List Who) (hb : SysB 10000000000 P S W H) (hr : row.length ≤ 10000000000) :
    callE PR C (k + 8) 63 [aSys 0 P S W H, .h 1000004 0 0 [] 2 0 row.length] [tInsSS P, tStateS S, tItemSS W, tEventSS H, tWho row] = some ⟨bl (rowOkB P S W H row), [], [none, none, none, none, none]⟩ := by
  have q1 := fun k => ok_spec_SysOk k P S W H hb
  unfold rowOkB
  cases e : sysOk P S W H with
  | false =>
    simp only [e] at q1
    (refine fnI [ResultVar.tmp 4] Tryz.func63 ?_; conv => whnf)
    repeat' ((with_reducible (first | refine sCall.of (q1 _) ?_|refine st16 ?_|refine fG.split (fun _ => ?_) (fun _ => ?_)|refine fG.bool (fun _ => ?_) (fun _ => ?_)|refine gDn 8 ?_|refine gDn 14 ?_)) <;> (try (conv => whnf)))
    all_goals rfl
  | true =>
    simp only [e] at q1
    obtain ⟨hI, hP, hS, h200⟩ := sysOk_facts e
    have hN := hI.n
    have hHl := hI.h
    rw [Bool.true_and]
    generalize hR : rowGo H row (List.replicate H.length 0) = R
    (refine fnI [ResultVar.tmp 4] Tryz.func63 ?_; conv => whnf)
    repeat' ((with_reducible (first | refine sCall.of (q1 _) ?_|refine st16 ?_|refine fG.split (fun _ => ?_) (fun _ => ?_)|refine fG.bool (fun _ => ?_) (fun _ => ?_)|refine gDn 8 ?_|refine gDn 14 ?_)) <;> (try (conv => whnf)))
    refine loop_rule (ι := RO) (fun z => [(1, .h 1000004 0 0 [] 2 0 row.length), (2, .pt 2 1 0 [] 0 0), (5, .h 15 1 0 [] 1 0 H.length), (6, i64 (z.j : Nat))])
      (fun z => [(1000000, ⟨0, 0, false, tInsSS P⟩), (1000001, ⟨0, 0, false, tStateS S⟩), (1000002, ⟨0, 0, false, tItemSS W⟩), (1000003, ⟨0, 0, false, tEventSS H⟩), (1000004, ⟨0, 0, false, tWho row⟩), (2, ⟨1, 0, false, bSys P S W H⟩), (15, ⟨1, z.g, z.d, tI9 z.f⟩)])
      (fun z => row.length - z.j) (fun z => z.j ≤ row.length ∧ Reach H z.f z.j ∧ R = rowGo H (row.drop z.j) z.f) ⟨0, List.replicate H.length 0, _, _⟩ fitOk ⟨Nat.zero_le _, .zero, hR.symm⟩ (by simp [C]; omega) ?_
    clear hR
    rintro ⟨j, f, g, d⟩ sl ob ⟨hj, hre, hR⟩
    dsimp only at hj hre hR
    have hf := hre.fok
    have hfl := hf.len
    (try dsimp only [cond_true, cond_false])
    (conv => whnf)
    by_cases hjl : j < row.length
    · rw [rowGo_drop hjl] at hR
      repeat' ((with_reducible (first | refine st16 ?_|refine fG.split (fun _ => ?_) (fun _ => ?_)|refine fG.bool (fun _ => ?_) (fun _ => ?_)|refine gDn 8 ?_|refine gDn 14 ?_)) <;> (try (conv => whnf)))
      generalize rd row j = w at hR ⊢
      obtain ⟨wp, wi⟩ := w
      dsimp only at hR
      (try dsimp only [cond_true, cond_false])
      by_cases c1 : 0 ≤ wp ∧ wp ≤ (H.length : Int) - 1
      · have hp : wp.toNat < H.length := by omega
        have hfp := hf.rng _ hp
        have hhp := h200 _ hp
        by_cases c2 : wi = rd f wp.toNat
        · have et : List.take H.length f = f := List.take_of_length_le (by omega)
          have q4 : ∀ k, callE PR C (k + 4) 141 [aSys 0 P S W H, .h 1000004 0 0 [] 1 0 (List.take H.length f).length, i64 wp] [tInsSS P, tStateS S, tItemSS W, tEventSS H, tI (List.take H.length f)] = some ⟨bl (canCome H f wp.toNat), [], [none, none, none, none, none]⟩ := by
            intro k
            rw [et]
            have := ok_spec_l13Can k P S W H f wp.toNat hP hS hf hp (fun j hj => by have := h200 j hj; omega) (by omega)
            rw [show ((wp.toNat : Nat) : Int) = wp by omega] at this
            exact this
          cases hc : canCome H f wp.toNat with
          | true =>
            rw [show whoOk H f ⟨wp, wi⟩ = true by simp only [whoOk, inB, decide_eq_true c1, decide_eq_true c2, hc, Bool.and_self], Bool.true_and] at hR
            repeat' ((with_reducible (first | refine sCall.of (ok_spec_l1In _ _ _ _) ?_|refine sCall.of (q4 _) ?_|refine st16 ?_|refine fG.split (fun _ => ?_) (fun _ => ?_)|refine fG.bool (fun _ => ?_) (fun _ => ?_)|refine gDn 8 ?_|refine gDn 14 ?_)) <;> (try (conv => whnf)))
            all_goals first
              | (exfalso; simp_all; done)
              | (refine ⟨⟨⟨j + 1, goOn f wp.toNat, _, _⟩, fitOk, ?_, ?_⟩⟩
                 · exact ⟨by show j + 1 ≤ _; omega, hre.step hp hc, hR⟩
                 · show row.length - (j + 1) < row.length - j; omega)
          | false =>
            rw [show whoOk H f ⟨wp, wi⟩ = false by simp only [whoOk, hc, Bool.and_false], Bool.false_and] at hR
            subst hR
            repeat' ((with_reducible (first | refine sCall.of (ok_spec_l1In _ _ _ _) ?_|refine sCall.of (q4 _) ?_|refine st16 ?_|refine fG.split (fun _ => ?_) (fun _ => ?_)|refine fG.bool (fun _ => ?_) (fun _ => ?_)|refine gDn 8 ?_|refine gDn 14 ?_)) <;> (try (conv => whnf)))
            all_goals first
              | simp
              | (exfalso; simp_all; done)
        · rw [show whoOk H f ⟨wp, wi⟩ = false by simp only [whoOk, decide_eq_false c2, Bool.false_and, Bool.and_false], Bool.false_and] at hR
          subst hR
          repeat' ((with_reducible (first | refine sCall.of (ok_spec_l1In _ _ _ _) ?_|refine st16 ?_|refine fG.split (fun _ => ?_) (fun _ => ?_)|refine fG.bool (fun _ => ?_) (fun _ => ?_)|refine gDn 8 ?_|refine gDn 14 ?_)) <;> (try (conv => whnf)))
          all_goals simp
      · rw [show whoOk H f ⟨wp, wi⟩ = false by simp only [whoOk, inB, decide_eq_false c1, Bool.false_and], Bool.false_and] at hR
        subst hR
        repeat' ((with_reducible (first | refine sCall.of (ok_spec_l1In _ _ _ _) ?_|refine st16 ?_|refine fG.split (fun _ => ?_) (fun _ => ?_)|refine fG.bool (fun _ => ?_) (fun _ => ?_)|refine gDn 8 ?_|refine gDn 14 ?_)) <;> (try (conv => whnf)))
        all_goals simp
    · rw [List.drop_eq_nil_of_le (by omega), rowGo] at hR
      subst hR
      rw [Bool.and_true]
      have hjn : j = row.length := by omega
      subst hjn
      repeat' ((with_reducible (first | refine st16 ?_|refine fG.split (fun _ => ?_) (fun _ => ?_)|refine fG.bool (fun _ => ?_) (fun _ => ?_)|refine gDn 8 ?_|refine gDn 14 ?_)) <;> (try (conv => whnf)))
      refine loop_rule (ι := Nat) (fun p => [(2, .pt 2 1 0 [] 0 0), (5, .h 15 1 0 [] 1 0 H.length), (8, i64 (p : Nat))])
        (fun _ => [(1000000, ⟨0, 0, false, tInsSS P⟩), (1000001, ⟨0, 0, false, tStateS S⟩), (1000002, ⟨0, 0, false, tItemSS W⟩), (1000003, ⟨0, 0, false, tEventSS H⟩), (1000004, ⟨0, 0, false, tWho row⟩), (2, ⟨1, 0, false, bSys P S W H⟩), (15, ⟨1, g, d, tI9 f⟩)])
        (fun p => H.length - p) (fun p => p ≤ H.length ∧ ∀ q, q < p → rd f q = ((rd H q).length : Int)) 0 fitOk ⟨Nat.zero_le _, fun q h => absurd h (Nat.not_lt_zero q)⟩ (by simp [C]; omega) ?_
      clear sl ob
      rintro p sl ob ⟨hp, hok⟩
      have hsum := hre.sum
      have hle := sum_le H f hfl fun q hq => (hf.rng q hq).2
      (try dsimp only [cond_true, cond_false])
      (conv => whnf)
      by_cases hpl : p < H.length
      · have e4 : (List.map rEvent (rd H p)).length = (rd H p).length := by simp
        have hfp := hf.rng p hpl
        by_cases c1 : rd f p = ((rd H p).length : Int)
        · repeat' ((with_reducible (first | refine st16 ?_|refine fG.split (fun _ => ?_) (fun _ => ?_)|refine fG.bool (fun _ => ?_) (fun _ => ?_)|refine gDn 8 ?_|refine gDn 14 ?_)) <;> (try (conv => whnf)))
          refine ⟨⟨p + 1, fitOk, ?_, ?_⟩⟩
          · exact ⟨by show p + 1 ≤ _; omega, fun q hq => by rcases Nat.lt_succ_iff_lt_or_eq.1 hq with h | h; exact hok q h; rw [h]; exact c1⟩
          · show H.length - (p + 1) < H.length - p; omega
        · rw [decide_eq_false (p := row.length = allEv H) (fun h => c1 (hle.2 (by omega) p hpl))]
          repeat' ((with_reducible (first | refine st16 ?_|refine fG.split (fun _ => ?_) (fun _ => ?_)|refine fG.bool (fun _ => ?_) (fun _ => ?_)|refine gDn 8 ?_|refine gDn 14 ?_)) <;> (try (conv => whnf)))
      · have := sum_all H f hfl fun q hq => hok q (by omega)
        rw [decide_eq_true (p := row.length = allEv H) (by omega)]
        repeat' ((with_reducible (first | refine st16 ?_|refine fG.split (fun _ => ?_) (fun _ => ?_)|refine fG.bool (fun _ => ?_) (fun _ => ?_)|refine gDn 8 ?_|refine gDn 14 ?_)) <;> (try (conv => whnf)))

theorem snoc_new (l : List State) : l.map rState ++ [[.v (.int .i64 0), .sl 1 ((List.replicate 4 0).map rI), .sl 1 [], .v (.int .i64 0)]] = (l ++ [newState]).map rState := by simp [rState, newState]
theorem gI17 {p A : Prop} (h : A) (e : p := by first | with_reducible assumption | omega | (simp only [Nat.zero_add, Nat.add_zero, Nat.sub_zero, Int.toNat_natCast, Int.toNat_zero, Int.toNat_one, List.length_map, List.length_nil, Int.reduceToNat, Nat.reduceAdd, Nat.reduceSub, Int.sub_zero, Int.reduceAdd, Int.reduceSub, Nat.sub_self, Int.toNat_natCast_add_one, marks_len, bs_len, List.length_append, List.length_cons, List.length_set, List.length_replicate, List.length_range]; first | done | omega)) : sI p A := sI.mk e h
theorem gNum17 {r r' : Nat} {F : Nat → Prop} (h : F r') (e : r = r' := by first | (simp only [Nat.zero_add, Nat.add_zero, Nat.sub_zero, Int.toNat_natCast, Int.toNat_zero, Int.toNat_one, List.length_map, List.length_nil, Int.reduceToNat, Nat.reduceAdd, Nat.reduceSub, Int.sub_zero, Int.reduceAdd, Int.reduceSub, Nat.sub_self, Int.toNat_natCast_add_one, marks_len, bs_len]; rfl) | rfl) : sN r F := sN.eq e h
theorem gRow17 {r r' : List (List T)} {F : List (List T) → Prop} (h : F r') (e : r = r' := by first | (simp only [Nat.add_zero, Nat.zero_add, Nat.reduceAdd, List.drop_zero, List.take_succ_cons, List.take_nil, List.drop_succ_cons, List.drop_nil, List.take_zero, List.nil_append, List.append_nil, List.map_nil, drop_suf, take_pre, drop_map, List.take_length, take_len_set, take_len_app, List.set_set, List.length_map, snoc_new, snoc_rItem, snoc_rInsL, snoc_rItemL, snoc_rEventL, snoc_rState, set_rWho, rep_rWho, snoc_rWho, set_rState, rep_rState, set_rInsL, rep_rInsL, set_rItemL, rep_rItemL, set_rEventL, rep_rEventL, set_rItem, rep_rItem, rep_rKept, marks_take, set_rKept, set_rIns, rep_rIns, set_rEvent, rep_rEvent, snoc_rKept, snoc_rEvent, snoc_rIns, bytesT_bs, snoc_rI, snoc_rB, snoc_rBool, set_rI, set_rBool, rep_rI, rep_rBool, map_app]; rfl) | rfl) : sR r F := sR.eq e h
theorem st17 {P Q : Prop} (h : Q) (e : Q → P := by with_reducible first | exact fun h => gP h | exact fun h => gN h | exact fun h => fG.not h | exact fun h => gY h | exact fun h => gF h | exact fun h => fG.yes (flat_map (fun _ => rfl) _) h | exact fun h => gS64 h | exact fun h => gU8 h | exact fun h => gI17 h | exact fun h => fE.of rfl h | exact fun h => gNum17 h | exact fun h => gSet h | exact fun h => gRd h | exact fun h => gLk h | exact fun h => gRow17 h | exact fun h => gRf4 h) : P := e h
def newSys (P : List (List Ins)) : Sys := ⟨P, List.replicate P.length newState, List.replicate (P.length * P.length) default, List.replicate P.length default⟩
theorem rd_rep {α : Type} [Inhabited α] {n i : Nat} (x : α) (h : i < n) : rd (List.replicate n x) i = x := by simp [rd, h]
theorem new_sysOk {P : List (List Ins)} {S : List State} {W : List (List Item)} {H : List (List Event)} (hs : sysOk P S W H = true) : sysOk P (List.replicate P.length newState) (List.replicate (P.length * P.length) default) (List.replicate P.length default) = true := by
  have hs' := hs
  simp only [sysOk, sizesOk, inB, Bool.and_eq_true, decide_eq_true_eq, allBelow_eq, List.all_eq_true] at hs' ⊢
  obtain ⟨⟨a1, a2, a3, a4⟩, b1, b2, b3, b4⟩ := hs'
  refine ⟨⟨a1, by simp, by simp, by simp⟩, fun w hw => ?_, fun p hp => ?_, fun a ha b hb => ?_, ?_⟩
  · rw [List.mem_replicate] at hw
    rw [hw.2]; rfl
  · have h1 := b2 p hp
    simp only [procOk, Bool.and_eq_true] at h1 ⊢
    rw [rd_rep _ hp, rd_rep _ hp]
    obtain ⟨_, _, h3, _, _⟩ := stood_evOk h1.2.2
    refine ⟨h1.1, rfl, ?_⟩
    have e : replayAll (rd P p) (default : List Event) = some newState := by
      unfold replayAll
      rw [if_pos ⟨h3, Nat.zero_le _⟩]
      rfl
    simp only [stoodAs, e, Option.isSome_some, Bool.true_and, decide_eq_true_eq]
    rfl
  · simp only [fits, decide_eq_true_eq]
    rw [rd_rep _ ha, rd_rep _ hb, rd_rep _ (place_lt ha hb)]
    rfl
  · have e : allEv (List.replicate P.length (default : List Event)) = 0 := by
      simp only [allEv, List.map_replicate]
      generalize P.length = n
      induction n with
      | zero => rfl
      | succ n ih => rw [List.replicate_succ, List.sum_cons, ih]; rfl
    simp only [inRow, rowOf, e, greedy, List.length_nil, decide_true]
structure NS where
  j : Nat
  lp : List (List Ins)
  ls : List State
  v0 : AV
  v1 : AV
  b0 : Nat
  b1 : Nat
  c0 : Cont
  c1 : Cont
  dd : Bool
def NS.ok (P : List (List Ins)) (n0 n1 : Nat) (z : NS) : Prop :=
  (z.lp = P.take z.j ∧ z.ls = (List.replicate P.length newState).take z.j) ∧
  ((z.j = 0 ∧ (z.v0 = .nl 1 ∧ z.v1 = .nl 4) ∧ (z.b0 = 0 ∧ z.b1 = 0) ∧ (z.c0 = .dead ∧ z.c1 = .dead)) ∨
   (0 < z.j ∧ (z.v0 = .h n0 z.b0 0 [] 1 0 z.lp.length ∧ z.v1 = .h n1 z.b1 0 [] 4 0 z.ls.length) ∧ (z.c0 = tInsSS9 z.lp ∧ z.c1 = tStateS9 z.ls)))
def newRes (P : List (List Ins)) : Res := ⟨.tu [nSys 0 P (List.replicate P.length newState) (List.replicate (P.length * P.length) default) (List.replicate P.length default), bl true], [tInsSS9 P, tStateS9 (List.replicate P.length newState), tItemSS9 (List.replicate (P.length * P.length) default), tEventSS9 (List.replicate P.length default)], [none]⟩
set_option maxRecDepth 20000 in
set_option maxHeartbeats 4000000 in
theorem ok_impl_SysNew (k : Nat) (P : List (List Ins)) (hs : sysOk P (List.replicate P.length newState) (List.replicate (P.length * P.length) default) (List.replicate P.length default) = true) :
    callE PR C (k + 12) 96 [.h 1000000 0 0 [] 1 0 P.length] [tInsSS P] = some (newRes P) := by
  have hB := (sysOk_G hs).b
  obtain ⟨hI, _, _, _⟩ := sysOk_facts hs
  have hN := hI.n
  have hnn : P.length * P.length ≤ 4 * 4 := Nat.mul_le_mul hN.2 hN.2
  have w1 : IntKind.i64.wrap ((P.length : Int) * (P.length : Int)) = ((P.length * P.length : Nat) : Int) := by
    rw [show (P.length : Int) * (P.length : Int) = ((P.length * P.length : Nat) : Int) by simp]; exact wrap_i64 _ (by omega) (by omega)
  have q0 := fun k => ok_impl_in k (P.length : Int) 1 4
  rw [decide_eq_true (by omega)] at q0
  have q1 : ∀ k, callE PR C (k + 11) 65 [aSys 0 P (List.replicate P.length newState) (List.replicate (P.length * P.length) default) (List.replicate P.length default)] [tInsSS P, tStateS (List.replicate P.length newState), tItemSS (List.replicate (P.length * P.length) default), tEventSS (List.replicate P.length default)] = some ⟨bl true, [], [none, none, none, none]⟩ := fun k => by
    rw [ok_impl_SysOk k P _ _ _ (hB.mono (by decide)), hs]
  have r1 : (List.replicate (P.length * P.length) (default : List Item)).length = P.length * P.length := List.length_replicate
  have r2 : (List.replicate P.length (default : List Event)).length = P.length := List.length_replicate
  have r3 : (List.replicate P.length newState).length = P.length := List.length_replicate
  have et1 : List.take (P.length * P.length) (List.replicate (P.length * P.length) (default : List Item)) = List.replicate (P.length * P.length) default := List.take_of_length_le (by rw [r1]; exact Nat.le_refl _)
  have et2 : List.take P.length (List.replicate P.length (default : List Event)) = List.replicate P.length default := List.take_of_length_le (by rw [r2]; exact Nat.le_refl _)
  simp only [newRes, nSys, r1, r2]
  simp only [aSys, r1, r2] at q1
  generalize hWe : List.replicate (P.length * P.length) (default : List Item) = W0 at *
  generalize hHe : List.replicate P.length (default : List Event) = H0 at *
  (refine fnI [ResultVar.cell 2 36, ResultVar.tmp 3] Tryz.func96 ?_; conv => whnf)
  repeat' ((with_reducible (first | refine sCall.of (q0 _) ?_|refine sW.eq (w1) ?_|refine st17 ?_|refine fG.split (fun _ => ?_) (fun _ => ?_)|refine fG.bool (fun _ => ?_) (fun _ => ?_)|refine gD 4 [(3, 5), (3, 7), (5, 7)] ?_|refine gD 8 [(1, 3), (1, 4)] ?_|refine gD 9 [(1, 2), (1, 3)] ?_)) <;> (try (conv => whnf)))
  refine loop_rule (ι := NS) (fun z => [(2, .pt 2 1 0 [] 0 0), (5, .pt 5 1 0 [] 0 0), (21, .h 1000000 0 0 [] 1 0 P.length), (22, i64 P.length), (23, i64 (z.j : Nat))])
    (fun z => [(1000000, ⟨0, 0, false, tInsSS P⟩), (2, ⟨1, 0, false, .box [.nl 1, .nl 4, .nl 1, .nl 1]⟩), (5, ⟨1, 0, z.dd, .box [z.v0, z.v1, .h 17 1 0 [] 1 0 (P.length * P.length), .h 19 1 0 [] 1 0 P.length]⟩), (17, ⟨1, 0, false, tItemSS9 W0⟩), (19, ⟨1, 0, false, tEventSS9 H0⟩), (32, ⟨z.b0, 0, false, z.c0⟩), (38, ⟨z.b1, 0, false, z.c1⟩)])
    (fun z => P.length - z.j) (fun z => z.j ≤ P.length ∧ NS.ok P 32 38 z)
    ⟨0, [], [], .nl 1, .nl 4, 0, 0, .dead, .dead, _⟩ (by rw [← hWe, ← hHe]; exact fitOk) ⟨Nat.zero_le _, ⟨rfl, rfl⟩, .inl ⟨rfl, ⟨rfl, rfl⟩, ⟨rfl, rfl⟩, ⟨rfl, rfl⟩⟩⟩ (by simp [C]; omega) ?_
  rintro ⟨j, lp, ls, v0, v1, b0, b1, c0, c1, dd⟩ sl ob ⟨hj, ⟨hlp, hls⟩, hg⟩
  dsimp only at hj hlp hls hg
  by_cases hjl : j < P.length
  · have hxj : (rd P j).length ≤ 1048576 := hB.pp j hjl
    have q3 := fun k => ok_Clone_Ins k (rd P j) (by omega)
    have hnew : rd (List.replicate P.length newState) j = newState := rd_rep _ hjl
    rcases hg with ⟨e1, ⟨f1, f2⟩, ⟨f4, f5⟩, ⟨f7, f8⟩⟩ | ⟨h0, ⟨f1, f2⟩, ⟨f7, f8⟩⟩
    · subst e1 f1 f2 f4 f5 f7 f8 hlp hls
      (try dsimp only [cond_true, cond_false])
      (conv => whnf)
      repeat' ((with_reducible (first | refine sCall.of (q3 _) ?_|refine sCall.of (ok_impl_StateNew _) ?_|refine st17 ?_|refine fG.split (fun _ => ?_) (fun _ => ?_)|refine fG.bool (fun _ => ?_) (fun _ => ?_)|refine gD 4 [(3, 5), (3, 7), (5, 7)] ?_|refine gD 8 [(1, 3), (1, 4)] ?_|refine gD 9 [(1, 2), (1, 3)] ?_)) <;> (try (conv => whnf)))
      refine ⟨⟨⟨0 + 1, [rd P 0], [newState], _, _, _, _, _, _, _⟩, fitOk, ?_, ?_⟩⟩
      · exact ⟨by show 0 + 1 ≤ _; omega, ⟨by show _ = P.take (0 + 1); rw [take_rd hjl]; rfl, by show _ = (List.replicate P.length newState).take (0 + 1); rw [take_rd (by omega), hnew]; rfl⟩, .inr ⟨Nat.one_pos, ⟨rfl, rfl⟩, ⟨rfl, rfl⟩⟩⟩
      · show P.length - (0 + 1) < P.length - 0; omega
    · have l0 : lp.length = j := by rw [hlp]; simp; omega
      have l1 : ls.length = j := by rw [hls]; simp; omega
      subst f1 f2 f7 f8
      (try dsimp only [cond_true, cond_false])
      (conv => whnf)
      repeat' ((with_reducible (first | refine sCall.of (q3 _) ?_|refine sCall.of (ok_impl_StateNew _) ?_|refine st17 ?_|refine fG.split (fun _ => ?_) (fun _ => ?_)|refine fG.bool (fun _ => ?_) (fun _ => ?_)|refine gD 4 [(3, 5), (3, 7), (5, 7)] ?_|refine gD 8 [(1, 3), (1, 4)] ?_|refine gD 9 [(1, 2), (1, 3)] ?_)) <;> (try (conv => whnf)))
      refine ⟨⟨⟨j + 1, lp ++ [rd P j], ls ++ [newState], _, _, _, _, _, _, _⟩, fitOk, ?_, ?_⟩⟩
      · exact ⟨by show j + 1 ≤ _; omega, ⟨by show _ = P.take (j + 1); rw [take_rd hjl, hlp], by show _ = (List.replicate P.length newState).take (j + 1); rw [take_rd (by omega), hls, hnew]⟩, .inr ⟨Nat.succ_pos j, ⟨rfl, rfl⟩, ⟨rfl, rfl⟩⟩⟩
      · show P.length - (j + 1) < P.length - j; omega
  · rw [List.take_of_length_le (by omega)] at hlp hls
    rcases hg with ⟨e1, ⟨f1, f2⟩, ⟨f4, f5⟩, ⟨f7, f8⟩⟩ | ⟨h0, ⟨f1, f2⟩, ⟨f7, f8⟩⟩
    · exfalso; omega
    · rw [hlp] at f1 f7
      rw [hls] at f2 f8
      subst f1 f2 f7 f8
      have q1' : ∀ k, callE PR C (k + 11) 65 [.ag [.h 1000000 0 0 [] 1 0 P.length, .h 1000001 0 0 [] 4 0 (List.replicate P.length newState).length, .h 1000002 0 0 [] 1 0 (List.take (P.length * P.length) W0).length, .h 1000003 0 0 [] 1 0 (List.take P.length H0).length]] [tInsSS P, tStateS (List.replicate P.length newState), tItemSS (List.take (P.length * P.length) W0), tEventSS (List.take P.length H0)] = some ⟨bl true, [], [none, none, none, none]⟩ := fun k => by rw [et1, et2, r1, r2]; exact q1 k
      (try dsimp only [cond_true, cond_false])
      (conv => whnf)
      repeat' ((with_reducible (first | refine sCall.of (q1' _) ?_|refine st17 ?_|refine fG.split (fun _ => ?_) (fun _ => ?_)|refine fG.bool (fun _ => ?_) (fun _ => ?_)|refine gD 4 [(3, 5), (3, 7), (5, 7)] ?_|refine gD 8 [(1, 3), (1, 4)] ?_|refine gD 9 [(1, 2), (1, 3)] ?_)) <;> (try (conv => whnf)))
      simp only [et1, et2] <;> rfl
theorem new_B {P : List (List Ins)} (hN : P.length ≤ 4) (hB : ∀ j : Nat, j < P.length → (rd P j).length ≤ 1048576) : SysB 1048576 P (List.replicate P.length newState) (List.replicate (P.length * P.length) default) (List.replicate P.length default) := by
  have hnn : P.length * P.length ≤ 4 * 4 := Nat.mul_le_mul hN hN
  refine ⟨by omega, hB, by simp; omega, fun j hj => ?_, by simp; omega, fun j hj => ?_, by simp; omega, fun j hj => ?_⟩
  · rw [List.length_replicate] at hj; rw [rd_rep _ hj]; simp [newState]
  · rw [List.length_replicate] at hj; rw [rd_rep _ hj]; exact Nat.zero_le _
  · rw [List.length_replicate] at hj; rw [rd_rep _ hj]; exact Nat.zero_le _
set_option maxRecDepth 20000 in
set_option maxHeartbeats 4000000 in
theorem ok_spec_SysNew' (k : Nat) (P : List (List Ins)) (hN : 1 ≤ P.length ∧ P.length ≤ 4) (hBp : ∀ j : Nat, j < P.length → (rd P j).length ≤ 1048576) :
    callE PR C (k + 8) 89 [.h 1000000 0 0 [] 1 0 P.length] [tInsSS P] = some (if sysOk P (List.replicate P.length newState) (List.replicate (P.length * P.length) default) (List.replicate P.length default) = true then newRes P else zeroRes [none]) := by
  have hB := new_B hN.2 hBp
  generalize ht : sysOk P (List.replicate P.length newState) (List.replicate (P.length * P.length) default) (List.replicate P.length default) = t
  have hnn : P.length * P.length ≤ 4 * 4 := Nat.mul_le_mul hN.2 hN.2
  have w1 : IntKind.i64.wrap ((P.length : Int) * (P.length : Int)) = ((P.length * P.length : Nat) : Int) := by
    rw [show (P.length : Int) * (P.length : Int) = ((P.length * P.length : Nat) : Int) by simp]; exact wrap_i64 _ (by omega) (by omega)
  have q0 := fun k => ok_spec_l4Ins k P (by omega) (fun j hj => by have := hBp j hj; omega)
  have q1 : ∀ k, callE PR C (k + 7) 43 [aSys 0 P (List.replicate P.length newState) (List.replicate (P.length * P.length) default) (List.replicate P.length default)] [tInsSS P, tStateS (List.replicate P.length newState), tItemSS (List.replicate (P.length * P.length) default), tEventSS (List.replicate P.length default)] = some ⟨bl t, [], [none, none, none, none]⟩ := fun k => by
    rw [ok_spec_SysOk k P _ _ _ (hB.mono (by decide)), ht]
  have r1 : (List.replicate (P.length * P.length) (default : List Item)).length = P.length * P.length := List.length_replicate
  have r2 : (List.replicate P.length (default : List Event)).length = P.length := List.length_replicate
  have r3 : (List.replicate P.length newState).length = P.length := List.length_replicate
  have et1 : List.take (P.length * P.length) (List.replicate (P.length * P.length) (default : List Item)) = List.replicate (P.length * P.length) default := List.take_of_length_le (by rw [r1]; exact Nat.le_refl _)
  have et2 : List.take P.length (List.replicate P.length (default : List Event)) = List.replicate P.length default := List.take_of_length_le (by rw [r2]; exact Nat.le_refl _)
  simp only [newRes, nSys, r1, r2]
  simp only [aSys, r1, r2] at q1
  generalize hWe : List.replicate (P.length * P.length) (default : List Item) = W0 at *
  generalize hHe : List.replicate P.length (default : List Event) = H0 at *
  (refine fnI [ResultVar.cell 2 36, ResultVar.tmp 3] Tryz.func89 ?_; conv => whnf)
  repeat' ((with_reducible (first | refine sCall.of (q0 _) ?_|refine sW.eq (w1) ?_|refine st17 ?_|refine fG.split (fun _ => ?_) (fun _ => ?_)|refine fG.bool (fun _ => ?_) (fun _ => ?_)|refine gD 4 [(1, 5), (1, 7), (5, 7), (1, 9), (5, 9), (7, 9)] ?_|refine gD 8 [(1, 2), (1, 3)] ?_)) <;> (try (conv => whnf)))
  refine loop_rule (ι := NS) (fun z => [(2, .pt 2 1 0 [] 0 0), (4, i64 P.length), (5, .pt 5 1 0 [] 0 0), (6, i64 (z.j : Nat))])
    (fun z => [(1000000, ⟨0, 0, false, tInsSS P⟩), (2, ⟨1, 0, false, .box [.nl 1, .nl 4, .nl 1, .nl 1]⟩), (5, ⟨1, 0, z.dd, .box [.h 10013 1 0 [] 1 0 P.length, z.v1, .h 17 1 0 [] 1 0 (P.length * P.length), .h 19 1 0 [] 1 0 P.length]⟩), (10013, ⟨1, 0, false, tInsSS9 P⟩), (17, ⟨1, 0, false, tItemSS9 W0⟩), (19, ⟨1, 0, false, tEventSS9 H0⟩), (30, ⟨z.b1, 0, false, z.c1⟩)])
    (fun z => P.length - z.j) (fun z => z.j ≤ P.length ∧ NS.ok P 32 30 z)
    ⟨0, [], [], .nl 1, .nl 4, 0, 0, .dead, .dead, _⟩ (by rw [← hWe, ← hHe]; exact fitOk) ⟨Nat.zero_le _, ⟨rfl, rfl⟩, .inl ⟨rfl, ⟨rfl, rfl⟩, ⟨rfl, rfl⟩, ⟨rfl, rfl⟩⟩⟩ (by simp [C]; omega) ?_
  rintro ⟨j, lp, ls, v0, v1, b0, b1, c0, c1, dd⟩ sl ob ⟨hj, ⟨hlp, hls⟩, hg⟩
  dsimp only at hj hlp hls hg
  by_cases hjl : j < P.length
  · have hnew : rd (List.replicate P.length newState) j = newState := rd_rep _ hjl
    rcases hg with ⟨e1, ⟨f1, f2⟩, ⟨f4, f5⟩, ⟨f7, f8⟩⟩ | ⟨h0, ⟨f1, f2⟩, ⟨f7, f8⟩⟩
    · subst e1 f1 f2 f4 f5 f7 f8 hlp hls
      (try dsimp only [cond_true, cond_false])
      (conv => whnf)
      repeat' ((with_reducible (first | refine sCall.of (ok_spec_StateNew _) ?_|refine st17 ?_|refine fG.split (fun _ => ?_) (fun _ => ?_)|refine fG.bool (fun _ => ?_) (fun _ => ?_)|refine gD 4 [(1, 5), (1, 7), (5, 7), (1, 9), (5, 9), (7, 9)] ?_|refine gD 8 [(1, 2), (1, 3)] ?_)) <;> (try (conv => whnf)))
      refine ⟨⟨⟨0 + 1, [rd P 0], [newState], .h 32 0 0 [] 1 0 1, _, 0, _, tInsSS9 [rd P 0], _, _⟩, fitOk, ?_, ?_⟩⟩
      · exact ⟨by show 0 + 1 ≤ _; omega, ⟨by show _ = P.take (0 + 1); rw [take_rd hjl]; rfl, by show _ = (List.replicate P.length newState).take (0 + 1); rw [take_rd (by omega), hnew]; rfl⟩, .inr ⟨Nat.one_pos, ⟨rfl, rfl⟩, ⟨rfl, rfl⟩⟩⟩
      · show P.length - (0 + 1) < P.length - 0; omega
    · have l1 : ls.length = j := by rw [hls]; simp; omega
      subst f1 f2 f7 f8
      (try dsimp only [cond_true, cond_false])
      (conv => whnf)
      repeat' ((with_reducible (first | refine sCall.of (ok_spec_StateNew _) ?_|refine st17 ?_|refine fG.split (fun _ => ?_) (fun _ => ?_)|refine fG.bool (fun _ => ?_) (fun _ => ?_)|refine gD 4 [(1, 5), (1, 7), (5, 7), (1, 9), (5, 9), (7, 9)] ?_|refine gD 8 [(1, 2), (1, 3)] ?_)) <;> (try (conv => whnf)))
      refine ⟨⟨⟨j + 1, lp ++ [rd P j], ls ++ [newState], .h 32 0 0 [] 1 0 (lp ++ [rd P j]).length, _, 0, _, tInsSS9 (lp ++ [rd P j]), _, _⟩, fitOk, ?_, ?_⟩⟩
      · exact ⟨by show j + 1 ≤ _; omega, ⟨by show _ = P.take (j + 1); rw [take_rd hjl, hlp], by show _ = (List.replicate P.length newState).take (j + 1); rw [take_rd (by omega), hls, hnew]⟩, .inr ⟨Nat.succ_pos j, ⟨rfl, rfl⟩, ⟨rfl, rfl⟩⟩⟩
      · show P.length - (j + 1) < P.length - j; omega
  · rw [List.take_of_length_le (by omega)] at hls
    rcases hg with ⟨e1, ⟨f1, f2⟩, ⟨f4, f5⟩, ⟨f7, f8⟩⟩ | ⟨h0, ⟨f1, f2⟩, ⟨f7, f8⟩⟩
    · exfalso; omega
    · rw [hls] at f2 f8
      subst f1 f2 f7 f8
      have q1' : ∀ k, callE PR C (k + 7) 43 [.ag [.h 1000000 0 0 [] 1 0 P.length, .h 1000001 0 0 [] 4 0 (List.replicate P.length newState).length, .h 1000002 0 0 [] 1 0 (List.take (P.length * P.length) W0).length, .h 1000003 0 0 [] 1 0 (List.take P.length H0).length]] [tInsSS P, tStateS (List.replicate P.length newState), tItemSS (List.take (P.length * P.length) W0), tEventSS (List.take P.length H0)] = some ⟨bl t, [], [none, none, none, none]⟩ := fun k => by rw [et1, et2, r1, r2]; exact q1 k
      cases t
      all_goals (try dsimp only [cond_true, cond_false])
      all_goals (conv => whnf)
      all_goals repeat' ((with_reducible (first | refine sCall.of (q1' _) ?_|refine st17 ?_|refine fG.split (fun _ => ?_) (fun _ => ?_)|refine fG.bool (fun _ => ?_) (fun _ => ?_)|refine gD 4 [(1, 5), (1, 7), (5, 7), (1, 9), (5, 9), (7, 9)] ?_|refine gD 8 [(1, 2), (1, 3)] ?_)) <;> (try (conv => whnf)))
      all_goals first | rfl | (simp only [et1, et2] <;> rfl)
theorem ok_spec_SysNew (k : Nat) (P : List (List Ins)) (hs : sysOk P (List.replicate P.length newState) (List.replicate (P.length * P.length) default) (List.replicate P.length default) = true) :
    callE PR C (k + 8) 89 [.h 1000000 0 0 [] 1 0 P.length] [tInsSS P] = some (newRes P) := by
  rw [ok_spec_SysNew' k P (sysOk_facts hs).1.n (sysOk_G hs).b.pp, if_pos hs]

end Go.Proofs.YtldndahfnkbngaaGreat.Abs
namespace Go.Proofs.YtldndahfnkbngaaGreat.Abs
open Go Go.Proofs
set_option linter.unusedVariables false
set_option linter.unusedSimpArgs false
attribute [local irreducible] callE
theorem rowGo_in {H : List (List Event)} : ∀ (row : List Who) {f : List Int}, FOk H f → rowGo H row f = true → ∀ w ∈ row, (0 ≤ w.p ∧ w.p.toNat < H.length) ∧ 0 ≤ w.i ∧ w.i.toNat < (rd H w.p.toNat).length
  | [], _, _, _ => by simp
  | x :: r, f, hf, h => by
    simp only [rowGo, Bool.and_eq_true, whoOk, inB, decide_eq_true_eq] at h
    obtain ⟨⟨h1, h2, h3⟩, h4⟩ := h
    have hp : x.p.toNat < H.length := by omega
    have h5 := can_lt hf hp h3
    have h6 := (hf.rng _ hp).1
    intro w hw
    rcases List.mem_cons.1 hw with rfl | hm
    · exact ⟨⟨h1.1, hp⟩, by omega, by omega⟩
    · exact rowGo_in r (fok_goOn hf hp h3) h4 w hm
def redoX (H : List (List Event)) (X : Sys) (w : Who) : Sys × Int := stepIs X.progs X.states X.ways X.hist w.p (rd (rd H w.p.toNat) w.i.toNat).peer
def redoGo (H : List (List Event)) : List Who → Sys → Sys × Bool
  | [], X => (X, true)
  | w :: r, X => if (redoX H X w).2 = 0 then redoGo H r (redoX H X w).1 else (⟨[], [], [], []⟩, false)
def redoIs (P : List (List Ins)) (S : List State) (W : List (List Item)) (H : List (List Event)) (l : List Who) : Sys × Bool := if rowOkB P S W H l = true then redoGo H l (newSys P) else (⟨[], [], [], []⟩, false)
theorem redo_along {H : List (List Event)} {n : Nat} {X : Sys} (h : Along n X) (w : Who) : Along n (redoX H X w).1 := by
  refine ⟨stepIs_sysOk h.ok, ?_⟩
  have := h.n
  unfold redoX stepIs
  split
  · exact this
  · exact this
theorem redoGo_drop {H : List (List Event)} {l : List Who} {j : Nat} {X : Sys} (hj : j < l.length) : redoGo H (l.drop j) X = if (redoX H X (rd l j)).2 = 0 then redoGo H (l.drop (j + 1)) (redoX H X (rd l j)).1 else (⟨[], [], [], []⟩, false) := by
  rw [drop_rd hj, redoGo]
def redoRes (X : Sys × Bool) (b : List (Option Cont)) : Res := ⟨.tu [nSys 0 X.1.progs X.1.states X.1.ways X.1.hist, bl X.2], [tInsSS9 X.1.progs, tStateS9 X.1.states, tItemSS9 X.1.ways, tEventSS9 X.1.hist], b⟩
set_option maxRecDepth 20000 in
set_option maxHeartbeats 8000000 in
theorem ok_impl_Redo (k : Nat) (P : List (List Ins)) (S : List State) (W : List (List Item)) (H : List (List Event)) (l : List Who) (hb : SysB 1000000000 P S W H) (hl : l.length ≤ 1000000000) :
    callE PR C (k + 13) 21 [aSys 0 P S W H, .h 1000004 0 0 [] 2 0 l.length] [tInsSS P, tStateS S, tItemSS W, tEventSS H, tWho l] = some (redoRes (redoIs P S W H l) [none, none, none, none, none]) := by
  have q1 := fun k => ok_impl_RowOk k P S W H l (hb.mono (by decide)) (by omega)
  unfold redoIs
  cases e : rowOkB P S W H l with
  | false =>
    simp only [e] at q1
    rw [if_neg (by decide)]
    (refine fnI [ResultVar.cell 4 36, ResultVar.tmp 5] Tryz.func21 ?_; conv => whnf)
    repeat' ((with_reducible (first | refine sCall.of (q1 _) ?_|refine st17 ?_|refine fG.split (fun _ => ?_) (fun _ => ?_)|refine fG.bool (fun _ => ?_) (fun _ => ?_)|refine gD 9 [(0, 18), (2, 18), (4, 18), (6, 18), (8, 18), (10, 18), (13, 18), (14, 18)] ?_)) <;> (try (conv => whnf)))
    all_goals rfl
  | true =>
    simp only [e] at q1
    rw [if_pos rfl]
    simp only [rowOkB, Bool.and_eq_true, decide_eq_true_eq] at e
    obtain ⟨f1, _, f3⟩ := e
    obtain ⟨hI, _, _, h200⟩ := sysOk_facts f1
    have hHl := hI.h
    have hin := rowGo_in l (fok_zero H) f3
    have hns := new_sysOk f1
    have hA : Along P.length (newSys P) := ⟨hns, rfl⟩
    have q2 := fun k => ok_impl_SysNew k P hns
    simp only [newRes] at q2
    generalize hR : redoGo H l (newSys P) = R
    (refine fnI [ResultVar.cell 4 36, ResultVar.tmp 5] Tryz.func21 ?_; conv => whnf)
    repeat' ((with_reducible (first | refine sCall.of (q1 _) ?_|refine sCall.of (q2 _) ?_|refine st17 ?_|refine fG.split (fun _ => ?_) (fun _ => ?_)|refine fG.bool (fun _ => ?_) (fun _ => ?_)|refine gD 9 [(0, 18), (2, 18), (4, 18), (6, 18), (8, 18), (10, 18), (13, 18), (14, 18)] ?_)) <;> (try (conv => whnf)))
    refine loop_rule (ι := US) (fun z => [(2, .pt 2 1 0 [] 0 0), (4, .pt 4 1 0 [] 0 0), (6, .pt 6 1 0 [] 0 0), (26, .h 1000004 0 0 [] 2 0 l.length), (27, i64 l.length), (28, i64 (z.j : Nat))])
      (fun z => [(1000000, ⟨0, 0, false, tInsSS P⟩), (1000001, ⟨0, 0, false, tStateS S⟩), (1000002, ⟨0, 0, false, tItemSS W⟩), (1000003, ⟨0, 0, false, tEventSS H⟩), (1000004, ⟨0, 0, false, tWho l⟩), (2, ⟨1, 0, false, bSys P S W H⟩), (4, ⟨1, 0, false, .box [.nl 1, .nl 4, .nl 1, .nl 1]⟩), (6, ⟨1, 0, z.dd, .box [.h (z.o + 10000) z.b0 0 [] 1 0 z.X.progs.length, .h (z.o + 20000) z.b1 0 [] 4 0 z.X.states.length, .h (z.o + 30000) z.b2 0 [] 1 0 z.X.ways.length, .h (z.o + 40000) z.b3 0 [] 1 0 z.X.hist.length]⟩), (z.o + 10000, ⟨z.b0, 0, false, tInsSS9 z.X.progs⟩), (z.o + 20000, ⟨z.b1, 0, false, tStateS9 z.X.states⟩), (z.o + 30000, ⟨z.b2, 0, false, tItemSS9 z.X.ways⟩), (z.o + 40000, ⟨z.b3, 0, false, tEventSS9 z.X.hist⟩)])
      (fun z => l.length - z.j) (fun z => z.j ≤ l.length ∧ Along P.length z.X ∧ redoGo H (l.drop z.j) z.X = R ∧ (z.o = 20 ∨ z.o = 47)) ⟨0, newSys P, 20, 1, 1, 1, 1, _⟩ fitOk ⟨Nat.zero_le _, hA, hR, .inl rfl⟩ (by simp [C]; omega) ?_
    clear q1 q2 hR hA hns f3
    rintro ⟨j, ⟨P1, S1, W1, H1⟩, o, b0, b1, b2, b3, dd⟩ sl ob ⟨hj, hA, hR, ho⟩
    dsimp only at hj hA hR ho
    by_cases hjl : j < l.length
    · rw [redoGo_drop hjl] at hR
      have hA' := redo_along (H := H) hA (rd l j)
      have hB := (sysOk_G hA.ok).b
      obtain ⟨i1, i2, i3⟩ := hin (rd l j) (rd_mem hjl)
      have h2 := h200 _ i1.2
      have e4 : (List.map rEvent (rd H (rd l j).p.toNat)).length = (rd H (rd l j).p.toNat).length := by simp
      have q3 : ∀ k, callE PR C (k + 5) 97 [aSys 0 P1 S1 W1 H1, i64 (rd l j).p, i64 (rd (rd H (rd l j).p.toNat) (rd l j).i.toNat).peer] [tInsSS P1, tStateS S1, tItemSS W1, tEventSS H1] = some (sysRes (redoX H ⟨P1, S1, W1, H1⟩ (rd l j)).1 (redoX H ⟨P1, S1, W1, H1⟩ (rd l j)).2 [none, none, none, none]) := fun k => ok_impl_step k P1 S1 W1 H1 (rd l j).p (rd (rd H (rd l j).p.toNat) (rd l j).i.toNat).peer (hB.mono (by decide)) hA.ok
      generalize redoX H ⟨P1, S1, W1, H1⟩ (rd l j) = Y at *
      obtain ⟨⟨P2, S2, W2, H2⟩, n⟩ := Y
      dsimp only at hR hA'
      simp only [sysRes] at q3
      by_cases c0 : n = 0
      · rw [if_pos c0] at hR
        rcases ho with rfl | rfl
        all_goals (try dsimp only [cond_true, cond_false])
        all_goals (conv => whnf)
        all_goals repeat' ((with_reducible (first | refine sCall.of (q3 _) ?_|refine st17 ?_|refine fG.split (fun _ => ?_) (fun _ => ?_)|refine fG.bool (fun _ => ?_) (fun _ => ?_)|refine gD 9 [(0, 18), (2, 18), (4, 18), (6, 18), (8, 18), (10, 18), (13, 18), (14, 18)] ?_)) <;> (try (conv => whnf)))
        all_goals
          refine ⟨⟨⟨j + 1, ⟨P2, S2, W2, H2⟩, 47, _, _, _, _, _⟩, fitOk, ?_, ?_⟩⟩
          · exact ⟨by show j + 1 ≤ _; omega, hA', hR, .inr rfl⟩
          · show l.length - (j + 1) < l.length - j; omega
      · rw [if_neg c0] at hR
        rw [← hR]
        rcases ho with rfl | rfl
        all_goals (try dsimp only [cond_true, cond_false])
        all_goals (conv => whnf)
        all_goals repeat' ((with_reducible (first | refine sCall.of (q3 _) ?_|refine st17 ?_|refine fG.split (fun _ => ?_) (fun _ => ?_)|refine fG.bool (fun _ => ?_) (fun _ => ?_)|refine gD 9 [(0, 18), (2, 18), (4, 18), (6, 18), (8, 18), (10, 18), (13, 18), (14, 18)] ?_)) <;> (try (conv => whnf)))
        all_goals rfl
    · rw [List.drop_eq_nil_of_le (by omega), redoGo] at hR
      rw [← hR]
      rcases ho with rfl | rfl
      all_goals (try dsimp only [cond_true, cond_false])
      all_goals (conv => whnf)
      all_goals repeat' ((with_reducible (first | refine st17 ?_|refine fG.split (fun _ => ?_) (fun _ => ?_)|refine fG.bool (fun _ => ?_) (fun _ => ?_)|refine gD 9 [(0, 18), (2, 18), (4, 18), (6, 18), (8, 18), (10, 18), (13, 18), (14, 18)] ?_)) <;> (try (conv => whnf)))
      all_goals rfl
set_option maxRecDepth 20000 in
set_option maxHeartbeats 8000000 in
theorem ok_spec_Redo (k : Nat) (P : List (List Ins)) (S : List State) (W : List (List Item)) (H : List (List Event)) (l : List Who) (hb : SysB 1000000000 P S W H) (hl : l.length ≤ 1000000000) :
    callE PR C (k + 9) 18 [aSys 0 P S W H, .h 1000004 0 0 [] 2 0 l.length] [tInsSS P, tStateS S, tItemSS W, tEventSS H, tWho l] = some (redoRes (redoIs P S W H l) [none, none, none, none, none]) := by
  have q1 := fun k => ok_spec_RowOk k P S W H l (hb.mono (by decide)) (by omega)
  unfold redoIs
  cases e : rowOkB P S W H l with
  | false =>
    simp only [e] at q1
    rw [if_neg (by decide)]
    (refine fnI [ResultVar.cell 4 36, ResultVar.tmp 5] Tryz.func18 ?_; conv => whnf)
    repeat' ((with_reducible (first | refine sCall.of (q1 _) ?_|refine st17 ?_|refine fG.split (fun _ => ?_) (fun _ => ?_)|refine fG.bool (fun _ => ?_) (fun _ => ?_)|refine gD 8 [(0, 18), (2, 18), (4, 18), (6, 18), (8, 18), (10, 18), (13, 18), (14, 18)] ?_)) <;> (try (conv => whnf)))
    all_goals rfl
  | true =>
    simp only [e] at q1
    rw [if_pos rfl]
    simp only [rowOkB, Bool.and_eq_true, decide_eq_true_eq] at e
    obtain ⟨f1, _, f3⟩ := e
    obtain ⟨hI, _, _, h200⟩ := sysOk_facts f1
    have hHl := hI.h
    have hin := rowGo_in l (fok_zero H) f3
    have hns := new_sysOk f1
    have hA : Along P.length (newSys P) := ⟨hns, rfl⟩
    have q2 := fun k => ok_spec_SysNew k P hns
    simp only [newRes] at q2
    generalize hR : redoGo H l (newSys P) = R
    (refine fnI [ResultVar.cell 4 36, ResultVar.tmp 5] Tryz.func18 ?_; conv => whnf)
    repeat' ((with_reducible (first | refine sCall.of (q1 _) ?_|refine sCall.of (q2 _) ?_|refine st17 ?_|refine fG.split (fun _ => ?_) (fun _ => ?_)|refine fG.bool (fun _ => ?_) (fun _ => ?_)|refine gD 8 [(0, 18), (2, 18), (4, 18), (6, 18), (8, 18), (10, 18), (13, 18), (14, 18)] ?_)) <;> (try (conv => whnf)))
    refine loop_rule (ι := US) (fun z => [(1, .h 1000004 0 0 [] 2 0 l.length), (2, .pt 2 1 0 [] 0 0), (4, .pt 4 1 0 [] 0 0), (6, .pt 6 1 0 [] 0 0), (8, i64 (z.j : Nat))])
      (fun z => [(1000000, ⟨0, 0, false, tInsSS P⟩), (1000001, ⟨0, 0, false, tStateS S⟩), (1000002, ⟨0, 0, false, tItemSS W⟩), (1000003, ⟨0, 0, false, tEventSS H⟩), (1000004, ⟨0, 0, false, tWho l⟩), (2, ⟨1, 0, false, bSys P S W H⟩), (4, ⟨1, 0, false, .box [.nl 1, .nl 4, .nl 1, .nl 1]⟩), (6, ⟨1, 0, z.dd, .box [.h (z.o + 10000) z.b0 0 [] 1 0 z.X.progs.length, .h (z.o + 20000) z.b1 0 [] 4 0 z.X.states.length, .h (z.o + 30000) z.b2 0 [] 1 0 z.X.ways.length, .h (z.o + 40000) z.b3 0 [] 1 0 z.X.hist.length]⟩), (z.o + 10000, ⟨z.b0, 0, false, tInsSS9 z.X.progs⟩), (z.o + 20000, ⟨z.b1, 0, false, tStateS9 z.X.states⟩), (z.o + 30000, ⟨z.b2, 0, false, tItemSS9 z.X.ways⟩), (z.o + 40000, ⟨z.b3, 0, false, tEventSS9 z.X.hist⟩)])
      (fun z => l.length - z.j) (fun z => z.j ≤ l.length ∧ Along P.length z.X ∧ redoGo H (l.drop z.j) z.X = R ∧ (z.o = 20 ∨ z.o = 48)) ⟨0, newSys P, 20, 1, 1, 1, 1, _⟩ fitOk ⟨Nat.zero_le _, hA, hR, .inl rfl⟩ (by simp [C]; omega) ?_
    clear q1 q2 hR hA hns f3
    rintro ⟨j, ⟨P1, S1, W1, H1⟩, o, b0, b1, b2, b3, dd⟩ sl ob ⟨hj, hA, hR, ho⟩
    dsimp only at hj hA hR ho
    by_cases hjl : j < l.length
    · rw [redoGo_drop hjl] at hR
      have hA' := redo_along (H := H) hA (rd l j)
      have hB := (sysOk_G hA.ok).b
      obtain ⟨i1, i2, i3⟩ := hin (rd l j) (rd_mem hjl)
      have h2 := h200 _ i1.2
      have e4 : (List.map rEvent (rd H (rd l j).p.toNat)).length = (rd H (rd l j).p.toNat).length := by simp
      have q3 : ∀ k, callE PR C (k + 6) 90 [aSys 0 P1 S1 W1 H1, i64 (rd l j).p, i64 (rd (rd H (rd l j).p.toNat) (rd l j).i.toNat).peer] [tInsSS9 P1, tStateS9 S1, tItemSS9 W1, tEventSS9 H1] = some (sysRes (redoX H ⟨P1, S1, W1, H1⟩ (rd l j)).1 (redoX H ⟨P1, S1, W1, H1⟩ (rd l j)).2 [some .dead, some .dead, some .dead, some .dead]) := fun k => ok_spec_l5Step k P1 S1 W1 H1 (rd l j).p (rd (rd H (rd l j).p.toNat) (rd l j).i.toNat).peer (hB.mono (by decide)) hA.ok
      generalize redoX H ⟨P1, S1, W1, H1⟩ (rd l j) = Y at *
      obtain ⟨⟨P2, S2, W2, H2⟩, n⟩ := Y
      dsimp only at hR hA'
      simp only [sysRes] at q3
      by_cases c0 : n = 0
      · rw [if_pos c0] at hR
        rcases ho with rfl | rfl
        all_goals (try dsimp only [cond_true, cond_false])
        all_goals (conv => whnf)
        all_goals repeat' ((with_reducible (first | refine sCall.of (q3 _) ?_|refine st17 ?_|refine fG.split (fun _ => ?_) (fun _ => ?_)|refine fG.bool (fun _ => ?_) (fun _ => ?_)|refine gD 8 [(0, 18), (2, 18), (4, 18), (6, 18), (8, 18), (10, 18), (13, 18), (14, 18)] ?_)) <;> (try (conv => whnf)))
        all_goals
          refine ⟨⟨⟨j + 1, ⟨P2, S2, W2, H2⟩, 48, _, _, _, _, _⟩, fitOk, ?_, ?_⟩⟩
          · exact ⟨by show j + 1 ≤ _; omega, hA', hR, .inr rfl⟩
          · show l.length - (j + 1) < l.length - j; omega
      · rw [if_neg c0] at hR
        rw [← hR]
        rcases ho with rfl | rfl
        all_goals (try dsimp only [cond_true, cond_false])
        all_goals (conv => whnf)
        all_goals repeat' ((with_reducible (first | refine sCall.of (q3 _) ?_|refine st17 ?_|refine fG.split (fun _ => ?_) (fun _ => ?_)|refine fG.bool (fun _ => ?_) (fun _ => ?_)|refine gD 8 [(0, 18), (2, 18), (4, 18), (6, 18), (8, 18), (10, 18), (13, 18), (14, 18)] ?_)) <;> (try (conv => whnf)))
        all_goals rfl
    · rw [List.drop_eq_nil_of_le (by omega), redoGo] at hR
      rw [← hR]
      rcases ho with rfl | rfl
      all_goals (try dsimp only [cond_true, cond_false])
      all_goals (conv => whnf)
      all_goals repeat' ((with_reducible (first | refine st17 ?_|refine fG.split (fun _ => ?_) (fun _ => ?_)|refine fG.bool (fun _ => ?_) (fun _ => ?_)|refine gD 8 [(0, 18), (2, 18), (4, 18), (6, 18), (8, 18), (10, 18), (13, 18), (14, 18)] ?_)) <;> (try (conv => whnf)))
      all_goals rfl

end Go.Proofs.YtldndahfnkbngaaGreat.Abs
namespace Go.Proofs.YtldndahfnkbngaaGreat.Abs
open Go Go.Proofs
set_option linter.unusedVariables false
set_option linter.unusedSimpArgs false
attribute [local irreducible] callE
theorem ok_spec_StepBad (k : Nat) (P : List (List Ins)) (S : List State) (W : List (List Item)) (H : List (List Event)) (p peer : Int) (hb : SysB 10000000000 P S W H) (hs : sysOk P S W H = false) :
    callE PR C (k + 8) 112 [aSys 0 P S W H, i64 p, i64 peer] [tInsSS P, tStateS S, tItemSS W, tEventSS H] = some (sysRes ⟨[], [], [], []⟩ 1 [none, none, none, none]) := by
  have q1 := fun k => ok_spec_SysOk k P S W H hb
  simp only [hs] at q1
  (refine fnI [ResultVar.cell 6 36, ResultVar.tmp 7] Tryz.func112 ?_; conv => whnf)
  repeat' ((with_reducible (first | refine sCall.of (q1 _) ?_|refine st17 ?_|refine fG.split (fun _ => ?_) (fun _ => ?_)|refine fG.bool (fun _ => ?_) (fun _ => ?_))) <;> (try (conv => whnf)))
  all_goals rfl
end Go.Proofs.YtldndahfnkbngaaGreat.Abs
namespace Go.Proofs.YtldndahfnkbngaaGreat.Abs
open Go Go.Proofs
set_option linter.unusedVariables false
set_option linter.unusedSimpArgs false
attribute [local irreducible] callE
theorem i64_and255 (n : Int) : Go.bits .and .i64 n 255 = n % 256 := by
  have h127 : (BitVec.ofInt 64 255).toNat = 2 ^ 8 - 1 := by decide
  have key : (BitVec.ofInt 64 n &&& BitVec.ofInt 64 255).toNat = (n % ((2 ^ 64 : Nat) : Int)).toNat % 2 ^ 8 := by
    rw [BitVec.toNat_and, BitVec.toNat_ofInt, h127, Nat.and_two_pow_sub_one_eq_mod]
  show IntKind.i64.wrap ((BitVec.ofInt 64 n &&& BitVec.ofInt 64 255).toNat : Nat) = n % 256
  rw [key, IntKind.wrap_i64]
  omega
theorem i64_and30 (n : Int) : Go.bits .and .i64 n 1073741823 = n % 1073741824 := by
  have h127 : (BitVec.ofInt 64 1073741823).toNat = 2 ^ 30 - 1 := by decide
  have key : (BitVec.ofInt 64 n &&& BitVec.ofInt 64 1073741823).toNat = (n % ((2 ^ 64 : Nat) : Int)).toNat % 2 ^ 30 := by
    rw [BitVec.toNat_and, BitVec.toNat_ofInt, h127, Nat.and_two_pow_sub_one_eq_mod]
  show IntKind.i64.wrap ((BitVec.ofInt 64 n &&& BitVec.ofInt 64 1073741823).toNat : Nat) = n % 1073741824
  rw [key, IntKind.wrap_i64]
  omega
theorem sZ.all {r : Int} {F : Int → Prop} (h : ∀ n, F n) : sZ r F := ⟨h r⟩
theorem sW.all {k : IntKind} {r : Int} {F : Int → Prop} (h : ∀ n, F n) : sW k r F := ⟨h _⟩

abbrev tB (b : List Int) : Cont := .tree 0 (.sl 1 (b.map rB))
set_option maxRecDepth 20000 in
theorem ok_spec_l1New (k : Nat) (b : List Int) (hl : b.length ≤ 100000000000) (hb : ∀ v ∈ b, 0 ≤ v ∧ v < 256) :
    Told (callE PR C (k + 1) 135 [.h 1000000 0 0 [] 1 0 b.length] [tB b]) (fun r => ∃ h : Int, r = ⟨.pt 2000000 1 0 [] 0 0, [.box [.h 1000000 0 0 [] 1 0 b.length, i64 0, i64 h]], [none]⟩) := by
  (refine callE_w [ResultVar.tmp 2] rfl Tryz.func135 rfl (by decide +kernel) rfl (by simp) ?_; (conv => whnf))
  repeat' ((with_reducible (first | refine st17 ?_|refine fG.split (fun _ => ?_) (fun _ => ?_)|refine fG.bool (fun _ => ?_) (fun _ => ?_))) <;> (try (conv => whnf)))
  refine loop_rule (ι := TH) (fun x => [(0, .h 1000000 0 0 [] 1 0 b.length), (3, i64 x.m), (4, i64 (x.j : Nat))])
    (fun x => [(1000000, ⟨0, 0, false, tB b⟩)])
    (fun x => b.length - x.j) (fun x => x.j ≤ b.length ∧ 0 ≤ x.m ∧ x.m ≤ 2000000000000) ⟨0, 17259 + (b.length : Int)⟩ fitOk ⟨Nat.zero_le _, by show (0 : Int) ≤ 17259 + (b.length : Int); omega, by show 17259 + (b.length : Int) ≤ 2000000000000; omega⟩ (by simp [C]; omega) ?_
  rintro ⟨j, m⟩ sl ob ⟨hj, h0, h1⟩
  dsimp only at hj h0 h1
  (try dsimp only [cond_true, cond_false])
  (conv => whnf)
  by_cases hjl : j < b.length
  · have hmem := hb _ (rd_mem hjl)
    repeat' ((with_reducible (first | refine st17 ?_|refine fG.split (fun _ => ?_) (fun _ => ?_)|refine fG.bool (fun _ => ?_) (fun _ => ?_)|refine sZ.eq (i64_and255 _) ?_|refine sZ.eq (i64_and30 _) ?_)) <;> (try (conv => whnf)))
    case' refine_1 h =>
      refine ⟨⟨⟨j + 1, (m * 131 + rd b j + 7) % 1073741824⟩, fitOk, ?_, ?_⟩⟩
      · exact ⟨by show j + 1 ≤ _; omega, by show (0 : Int) ≤ (m * 131 + rd b j + 7) % 1073741824; omega, by show (m * 131 + rd b j + 7) % 1073741824 ≤ (2000000000000 : Int); omega⟩
      · show b.length - (j + 1) < b.length - j; omega
    all_goals exact ⟨_, rfl⟩
  · repeat' ((with_reducible (first | refine st17 ?_|refine fG.split (fun _ => ?_) (fun _ => ?_)|refine fG.bool (fun _ => ?_) (fun _ => ?_))) <;> (try (conv => whnf)))
    exact ⟨_, rfl⟩
def Cur (b : List Int) (lo hi : Int) (r : Res) : Prop := ∃ (x i h : Int), lo ≤ x ∧ x ≤ hi ∧ 0 ≤ i ∧ i ≤ b.length ∧ r = ⟨i64 x, [], [none, some (.box [.h 1000000 0 0 [] 1 0 b.length, i64 i, i64 h])]⟩
theorem ok_spec_l1Byte (k : Nat) (b : List Int) (i h : Int) (hl : b.length ≤ 100000000000) (hb : ∀ v ∈ b, 0 ≤ v ∧ v < 256) (h0 : 0 ≤ i) (h1 : i ≤ b.length) :
    Told (callE PR C (k + 1) 238 [.pt 1000001 0 0 [] 0 0] [tB b, .box [.h 1000000 0 0 [] 1 0 b.length, i64 i, i64 h]]) (Cur b 0 255) := by
  by_cases hc : i < b.length
  · have hmem := hb _ (rd_mem (l := b) (n := i.toNat) (by omega))
    (refine callE_w [ResultVar.tmp 2] rfl Tryz.func238 rfl (by decide +kernel) rfl (by simp) ?_; (conv => whnf))
    repeat' ((with_reducible (first | refine st17 ?_|refine fG.split (fun _ => ?_) (fun _ => ?_)|refine fG.bool (fun _ => ?_) (fun _ => ?_)|refine sZ.eq (i64_and255 _) ?_|refine sZ.eq (i64_and30 _) ?_|refine sZ.all (fun _ => ?_)|refine sW.all (fun _ => ?_)|refine gDn 2 ?_|refine gDn 3 ?_|refine gDn 4 ?_)) <;> (try (conv => whnf)))
    exact ⟨_, _, _, by omega, by omega, by omega, by omega, rfl⟩
  · (refine callE_w [ResultVar.tmp 2] rfl Tryz.func238 rfl (by decide +kernel) rfl (by simp) ?_; (conv => whnf))
    repeat' ((with_reducible (first | refine st17 ?_|refine fG.split (fun _ => ?_) (fun _ => ?_)|refine fG.bool (fun _ => ?_) (fun _ => ?_)|refine sZ.eq (i64_and255 _) ?_|refine sZ.eq (i64_and30 _) ?_|refine sZ.all (fun _ => ?_)|refine sW.all (fun _ => ?_)|refine gDn 2 ?_|refine gDn 3 ?_|refine gDn 4 ?_)) <;> (try (conv => whnf)))
    exact ⟨_, _, _, by omega, by omega, by omega, by omega, rfl⟩
set_option maxRecDepth 20000 in
theorem ok_spec_l1Below (k : Nat) (b : List Int) (i h n : Int) (hl : b.length ≤ 100000000000) (hb : ∀ v ∈ b, 0 ≤ v ∧ v < 256) (h0 : 0 ≤ i) (h1 : i ≤ b.length) (hn : n ≤ 100000000001) :
    Told (callE PR C (k + 2) 163 [.pt 1000001 0 0 [] 0 0, i64 n] [tB b, .box [.h 1000000 0 0 [] 1 0 b.length, i64 i, i64 h]]) (Cur b 0 (if n ≤ 0 then 0 else n - 1)) := by
  by_cases c0 : n ≤ 0
  · rw [if_pos c0]
    (refine callE_w [ResultVar.tmp 4] rfl Tryz.func163 rfl (by decide +kernel) rfl (by simp) ?_; (conv => whnf))
    repeat' ((with_reducible (first | refine st17 ?_|refine fG.split (fun _ => ?_) (fun _ => ?_)|refine fG.bool (fun _ => ?_) (fun _ => ?_))) <;> (try (conv => whnf)))
    exact ⟨_, _, _, by omega, by omega, by omega, by omega, rfl⟩
  · rw [if_neg c0]
    by_cases c1 : n ≤ 256
    · (refine callE_w [ResultVar.tmp 4] rfl Tryz.func163 rfl (by decide +kernel) rfl (by simp) ?_; (conv => whnf))
      repeat' ((with_reducible (first | (refine sCall.ex (ok_spec_l1Byte k b i h hl hb h0 h1) ?_)|refine st17 ?_|refine fG.split (fun _ => ?_) (fun _ => ?_)|refine fG.bool (fun _ => ?_) (fun _ => ?_))) <;> (try (conv => whnf)))
      rintro _ ⟨x1, i1, h1', ha, hb1, hc, hd, rfl⟩
      have e1 : x1.tmod n = x1 % n := Int.tmod_eq_emod_of_nonneg ha
      have e2 := Int.emod_nonneg x1 (by omega : n ≠ 0)
      have e3 := Int.emod_lt_of_pos x1 (by omega : 0 < n)
      (conv => whnf)
      repeat' ((with_reducible (first | refine st17 ?_|refine fG.split (fun _ => ?_) (fun _ => ?_)|refine fG.bool (fun _ => ?_) (fun _ => ?_))) <;> (try (conv => whnf)))
      refine sZ.eq e1 ?_
      (conv => whnf)
      repeat' ((with_reducible (first | refine st17 ?_|refine fG.split (fun _ => ?_) (fun _ => ?_)|refine fG.bool (fun _ => ?_) (fun _ => ?_))) <;> (try (conv => whnf)))
      exact ⟨_, _, _, e2, Int.le_sub_one_of_lt e3, hc, hd, rfl⟩
    · (refine callE_w [ResultVar.tmp 4] rfl Tryz.func163 rfl (by decide +kernel) rfl (by simp) ?_; (conv => whnf))
      repeat' ((with_reducible (first | (refine sCall.ex (ok_spec_l1Byte k b i h hl hb h0 h1) ?_)|refine st17 ?_|refine fG.split (fun _ => ?_) (fun _ => ?_)|refine fG.bool (fun _ => ?_) (fun _ => ?_))) <;> (try (conv => whnf)))
      rintro _ ⟨x1, i1, h1', ha, hb1, hc, hd, rfl⟩
      (conv => whnf)
      repeat' ((with_reducible (first | (refine sCall.ex (ok_spec_l1Byte k b i1 _ hl hb hc hd) ?_)|refine st17 ?_|refine fG.split (fun _ => ?_) (fun _ => ?_)|refine fG.bool (fun _ => ?_) (fun _ => ?_))) <;> (try (conv => whnf)))
      rintro _ ⟨x2, i2, h2', ha2, hb2, hc2, hd2, rfl⟩
      (conv => whnf)
      repeat' ((with_reducible (first | (refine sCall.ex (ok_spec_l1Byte k b i2 _ hl hb hc2 hd2) ?_)|refine st17 ?_|refine fG.split (fun _ => ?_) (fun _ => ?_)|refine fG.bool (fun _ => ?_) (fun _ => ?_))) <;> (try (conv => whnf)))
      rintro _ ⟨x3, i3, h3', ha3, hb3, hc3, hd3, rfl⟩
      (conv => whnf)
      repeat' ((with_reducible (first | (refine sCall.ex (ok_spec_l1Byte k b i3 _ hl hb hc3 hd3) ?_)|refine st17 ?_|refine fG.split (fun _ => ?_) (fun _ => ?_)|refine fG.bool (fun _ => ?_) (fun _ => ?_))) <;> (try (conv => whnf)))
      rintro _ ⟨x4, i4, h4', ha4, hb4, hc4, hd4, rfl⟩
      have e1 : (x1 * 16777216 + x2 * 65536 + x3 * 256 + x4).tmod n = (x1 * 16777216 + x2 * 65536 + x3 * 256 + x4) % n := Int.tmod_eq_emod_of_nonneg (by omega)
      have e2 := Int.emod_nonneg (x1 * 16777216 + x2 * 65536 + x3 * 256 + x4) (by omega : n ≠ 0)
      have e3 := Int.emod_lt_of_pos (x1 * 16777216 + x2 * 65536 + x3 * 256 + x4) (by omega : 0 < n)
      (conv => whnf)
      repeat' ((with_reducible (first | refine st17 ?_|refine fG.split (fun _ => ?_) (fun _ => ?_)|refine fG.bool (fun _ => ?_) (fun _ => ?_))) <;> (try (conv => whnf)))
      refine sZ.eq e1 ?_
      (conv => whnf)
      repeat' ((with_reducible (first | refine st17 ?_|refine fG.split (fun _ => ?_) (fun _ => ?_)|refine fG.bool (fun _ => ?_) (fun _ => ?_))) <;> (try (conv => whnf)))
      exact ⟨_, _, _, e2, Int.le_sub_one_of_lt e3, hc4, hd4, rfl⟩

abbrev tCur (b : List Int) (i h : Int) : Cont := .box [.h 1000000 0 0 [] 1 0 b.length, i64 i, i64 h]
structure Bytes (b : List Int) : Prop where
  len : b.length ≤ 100000000000
  num : ∀ v ∈ b, 0 ≤ v ∧ v < 256
theorem sCall.cur {x : Option Res} {b : List Int} {lo hi : Int} {F : Res → Prop} (e : Told x (Cur b lo hi)) (h : ∀ x i h : Int, lo ≤ x → x ≤ hi → 0 ≤ i → i ≤ b.length → F ⟨i64 x, [], [none, some (tCur b i h)]⟩) : sCall x F :=
  sCall.ex e fun r hr => by obtain ⟨x, i, h', h1, h2, h3, h4, rfl⟩ := hr; exact h x i h' h1 h2 h3 h4
theorem ok_Below (k : Nat) (b : List Int) (i h n : Int) (hb : Bytes b) (h0 : 0 ≤ i := by assumption) (h1 : i ≤ b.length := by assumption) (hn0 : 0 < n := by omega) (hn : n ≤ 100000000001 := by omega) :
    Told (callE PR C (k + 2) 163 [.pt 1000001 0 0 [] 0 0, i64 n] [tB b, tCur b i h]) (Cur b 0 (n - 1)) := by
  have := ok_spec_l1Below k b i h n hb.len hb.num h0 h1 hn
  rwa [if_neg (by omega)] at this
theorem ok_spec_l1Once (k : Nat) (b : List Int) (i h n : Int) (hb : Bytes b) (h0 : 0 ≤ i := by assumption) (h1 : i ≤ b.length := by assumption) (hn0 : 0 < n := by omega) (hn : n ≤ 100000000001 := by omega) :
    Told (callE PR C (k + 3) 137 [.pt 1000001 0 0 [] 0 0, i64 n] [tB b, tCur b i h]) (fun r => ∃ (x : Bool) (i h : Int), 0 ≤ i ∧ i ≤ b.length ∧ r = ⟨bl x, [], [none, some (tCur b i h)]⟩) := by
  (refine callE_w [ResultVar.tmp 4] rfl Tryz.func137 rfl (by decide +kernel) rfl (by simp) ?_; (conv => whnf))
  repeat' ((with_reducible (first | refine sCall.cur (ok_Below _ _ _ _ _ hb) (fun _ _ _ _ _ _ _ => ?_)|refine st17 ?_|refine fG.split (fun _ => ?_) (fun _ => ?_)|refine fG.bool (fun _ => ?_) (fun _ => ?_))) <;> (try (conv => whnf)))
  exact ⟨_, _, _, by assumption, by assumption, rfl⟩
theorem ok_spec_l1PickInt (k : Nat) (b : List Int) (i h : Int) (l : List Int) (hb : Bytes b) (hl0 : 0 < l.length) (hl : l.length ≤ 100000000000) (h0 : 0 ≤ i := by assumption) (h1 : i ≤ b.length := by assumption) :
    Told (callE PR C (k + 3) 174 [.pt 1000001 0 0 [] 0 0, .h 1000002 0 0 [] 1 0 l.length] [tB b, tCur b i h, tI l]) (fun r => ∃ x i h : Int, x ∈ l ∧ 0 ≤ i ∧ i ≤ b.length ∧ r = ⟨i64 x, [], [none, some (tCur b i h), none]⟩) := by
  have hbl := hb.len
  (refine callE_w [ResultVar.tmp 4] rfl Tryz.func174 rfl (by decide +kernel) rfl (by simp) ?_; (conv => whnf))
  repeat' ((with_reducible (first | refine sCall.cur (ok_Below _ _ _ _ _ hb) (fun _ _ _ _ _ _ _ => ?_)|refine st17 ?_|refine fG.split (fun _ => ?_) (fun _ => ?_)|refine fG.bool (fun _ => ?_) (fun _ => ?_))) <;> (try (conv => whnf)))
  exact ⟨_, _, _, rd_mem (by omega), by assumption, by assumption, rfl⟩
theorem sCall.curB {x : Option Res} {b : List Int} {F : Res → Prop} (e : Told x (fun r => ∃ (x : Bool) (i h : Int), 0 ≤ i ∧ i ≤ b.length ∧ r = ⟨bl x, [], [none, some (tCur b i h)]⟩)) (h : ∀ (x : Bool) (i h : Int), 0 ≤ i → i ≤ b.length → F ⟨bl x, [], [none, some (tCur b i h)]⟩) : sCall x F :=
  sCall.ex e fun r hr => by obtain ⟨x, i, h', h3, h4, rfl⟩ := hr; exact h x i h' h3 h4
theorem sCall.newCur {x : Option Res} {b : List Int} {F : Res → Prop} (e : Told x (fun r => ∃ h : Int, r = ⟨.pt 2000000 1 0 [] 0 0, [.box [.h 1000000 0 0 [] 1 0 b.length, i64 0, i64 h]], [none]⟩)) (h : ∀ h : Int, F ⟨.pt 2000000 1 0 [] 0 0, [tCur b 0 h], [none]⟩) : sCall x F :=
  sCall.ex e fun r hr => by obtain ⟨h', rfl⟩ := hr; exact h h'

end Go.Proofs.YtldndahfnkbngaaGreat.Abs
namespace Go.Proofs.YtldndahfnkbngaaGreat.Abs
open Go Go.Proofs
set_option linter.unusedVariables false
set_option linter.unusedSimpArgs false
attribute [local irreducible] callE
set_option maxRecDepth 20000 in
set_option maxHeartbeats 8000000 in
theorem ok_spec_l1DrawIns (k : Nat) (b : List Int) (i h m p : Int) (hb : Bytes b) (hm : 0 < m := by omega) (hm2 : m ≤ 100000000001 := by omega) (hp : 0 < p := by omega) (hp2 : p ≤ 100000000001 := by omega) (h0 : 0 ≤ i := by assumption) (h1 : i ≤ b.length := by assumption) :
    Told (callE PR C (k + 4) 279 [.pt 1000001 0 0 [] 0 0, i64 m, i64 p] [tB b, tCur b i h]) (fun r => ∃ o q a c n i h : Int, 0 ≤ i ∧ i ≤ b.length ∧ r = ⟨.ag [i64 o, i64 q, i64 a, i64 c, i64 n], [], [none, some (tCur b i h)]⟩) := by
  have hbl := hb.len
  (refine callE_w [ResultVar.cell 6 170] rfl Tryz.func279 rfl (by decide +kernel) rfl (by simp) ?_; (conv => whnf))
  repeat' ((with_reducible (first | refine sCall.cur (ok_Below _ _ _ _ _ hb) (fun _ _ _ _ _ _ _ => ?_)|refine sCall.curB (ok_spec_l1Once _ _ _ _ _ hb) (fun _ _ _ _ _ => ?_)|refine st17 ?_|refine fG.split (fun _ => ?_) (fun _ => ?_)|refine fG.bool (fun _ => ?_) (fun _ => ?_))) <;> (try (conv => whnf)))
  all_goals exact ⟨_, _, _, _, _, _, _, by assumption, by assumption, rfl⟩

theorem one_rIns (a b c d e : Int) : [[T.v (.int .i64 a), .v (.int .i64 b), .v (.int .i64 c), .v (.int .i64 d), .v (.int .i64 e)]] = [(⟨a, b, c, d, e⟩ : Ins)].map rIns := rfl
theorem cons_rIns (l : List Ins) (a b c d e : Int) : [T.v (.int .i64 a), .v (.int .i64 b), .v (.int .i64 c), .v (.int .i64 d), .v (.int .i64 e)] :: l.map rIns = ((⟨a, b, c, d, e⟩ : Ins) :: l).map rIns := rfl
theorem one_rI (a : Int) : [[T.v (.int .i64 a)]] = [a].map rI := rfl
theorem cons_rI (l : List Int) (a : Int) : [T.v (.int .i64 a)] :: l.map rI = (a :: l).map rI := rfl
theorem gI18 {p A : Prop} (h : A) (e : p := by first | with_reducible assumption | omega | (simp only [Nat.zero_add, Nat.add_zero, Nat.sub_zero, Int.toNat_natCast, Int.toNat_zero, Int.toNat_one, List.length_map, List.length_nil, Int.reduceToNat, Nat.reduceAdd, Nat.reduceSub, Int.sub_zero, Int.reduceAdd, Int.reduceSub, Nat.sub_self, Int.toNat_natCast_add_one, marks_len, bs_len, List.length_append, List.length_cons, List.length_set, List.length_replicate, List.length_range]; first | done | omega)) : sI p A := sI.mk e h
theorem gNum18 {r r' : Nat} {F : Nat → Prop} (h : F r') (e : r = r' := by first | (simp only [Nat.zero_add, Nat.add_zero, Nat.sub_zero, Int.toNat_natCast, Int.toNat_zero, Int.toNat_one, List.length_map, List.length_nil, Int.reduceToNat, Nat.reduceAdd, Nat.reduceSub, Int.sub_zero, Int.reduceAdd, Int.reduceSub, Nat.sub_self, Int.toNat_natCast_add_one, marks_len, bs_len]; rfl) | rfl) : sN r F := sN.eq e h
theorem gRow18 {r r' : List (List T)} {F : List (List T) → Prop} (h : F r') (e : r = r' := by first | (simp only [Nat.add_zero, Nat.zero_add, Nat.reduceAdd, List.drop_zero, List.take_succ_cons, List.take_nil, List.drop_succ_cons, List.drop_nil, List.take_zero, List.nil_append, List.append_nil, List.map_nil, drop_suf, take_pre, drop_map, List.take_length, take_len_set, take_len_app, List.set_set, List.length_map, one_rIns, cons_rIns, one_rI, cons_rI, snoc_new, snoc_rItem, snoc_rInsL, snoc_rItemL, snoc_rEventL, snoc_rState, set_rWho, rep_rWho, snoc_rWho, set_rState, rep_rState, set_rInsL, rep_rInsL, set_rItemL, rep_rItemL, set_rEventL, rep_rEventL, set_rItem, rep_rItem, rep_rKept, marks_take, set_rKept, set_rIns, rep_rIns, set_rEvent, rep_rEvent, snoc_rKept, snoc_rEvent, snoc_rIns, bytesT_bs, snoc_rI, snoc_rB, snoc_rBool, set_rI, set_rBool, rep_rI, rep_rBool, map_app]; rfl) | rfl) : sR r F := sR.eq e h
theorem st18 {P Q : Prop} (h : Q) (e : Q → P := by with_reducible first | exact fun h => gP h | exact fun h => gN h | exact fun h => fG.not h | exact fun h => gY h | exact fun h => gF h | exact fun h => fG.yes (flat_map (fun _ => rfl) _) h | exact fun h => gS64 h | exact fun h => gU8 h | exact fun h => gI18 h | exact fun h => fE.of rfl h | exact fun h => gNum18 h | exact fun h => gSet h | exact fun h => gRd h | exact fun h => gLk h | exact fun h => gRow18 h | exact fun h => gRf4 h) : P := e h
def DrawnIns (b : List Int) (m n : Nat) (r : Res) : Prop := ∃ (l : List Ins) (i h : Int), m ≤ l.length ∧ l.length ≤ n ∧ 0 ≤ i ∧ i ≤ b.length ∧ r = ⟨.h 2000000 1 0 [] 5 0 l.length, [tIns9 l], [none, some (tCur b i h)]⟩
structure DP where
  j : Nat
  l : List Ins
  o : Nat
  bb : Nat
  i : Int
  h : Int
theorem sCall.ins {x : Option Res} {b : List Int} {F : Res → Prop} (e : Told x (fun r => ∃ o q a c n i h : Int, 0 ≤ i ∧ i ≤ b.length ∧ r = ⟨.ag [i64 o, i64 q, i64 a, i64 c, i64 n], [], [none, some (tCur b i h)]⟩)) (h : ∀ o q a c n i h : Int, 0 ≤ i → i ≤ b.length → F ⟨.ag [i64 o, i64 q, i64 a, i64 c, i64 n], [], [none, some (tCur b i h)]⟩) : sCall x F :=
  sCall.ex e fun r hr => by obtain ⟨o, q, a, c, n, i, h', h3, h4, rfl⟩ := hr; exact h o q a c n i h' h3 h4
theorem sCall.pick {x : Option Res} {b l : List Int} {F : Res → Prop} (e : Told x (fun r => ∃ x i h : Int, x ∈ l ∧ 0 ≤ i ∧ i ≤ b.length ∧ r = ⟨i64 x, [], [none, some (tCur b i h), none]⟩)) (h : ∀ x i h : Int, x ∈ l → 0 ≤ i → i ≤ b.length → F ⟨i64 x, [], [none, some (tCur b i h), none]⟩) : sCall x F :=
  sCall.ex e fun r hr => by obtain ⟨x, i, h', h2, h3, h4, rfl⟩ := hr; exact h x i h' h2 h3 h4
theorem ok_PickInt (k : Nat) (b : List Int) (i h : Int) (l : List Int) (hb : Bytes b) (hl0 : 0 < l.length := by simp) (hl : l.length ≤ 100000000000 := by simp) (h0 : 0 ≤ i := by assumption) (h1 : i ≤ b.length := by assumption) :
    Told (callE PR C (k + 3) 174 [.pt 1000001 0 0 [] 0 0, .h 1000002 0 0 [] 1 0 l.length] [tB b, tCur b i h, tI l]) (fun r => ∃ x i h : Int, x ∈ l ∧ 0 ≤ i ∧ i ≤ b.length ∧ r = ⟨i64 x, [], [none, some (tCur b i h), none]⟩) := ok_spec_l1PickInt k b i h l hb hl0 hl h0 h1
theorem drawn_mk {b : List Int} {m n' n : Nat} {l : List Ins} {i h : Int} (e : l.length = n) (h1 : m ≤ n) (h2 : n ≤ n') (h3 : 0 ≤ i) (h4 : i ≤ b.length) : DrawnIns b m n' ⟨.h 2000000 1 0 [] 5 0 n, [tIns9 l], [none, some (tCur b i h)]⟩ := by
  subst e
  exact ⟨l, i, h, h1, h2, h3, h4, rfl⟩

set_option maxRecDepth 20000 in
set_option maxHeartbeats 8000000 in
theorem ok_spec_l1DrawProg (k : Nat) (b : List Int) (i h p q : Int) (hb : Bytes b) (hp : 0 < p := by omega) (hp2 : p ≤ 100000000001 := by omega) (hq : 0 ≤ q := by omega) (hq2 : q ≤ 100000000001 := by omega) (h0 : 0 ≤ i := by assumption) (h1 : i ≤ b.length := by assumption) :
    Told (callE PR C (k + 5) 266 [.pt 1000001 0 0 [] 0 0, i64 p, i64 q] [tB b, tCur b i h]) (DrawnIns b 4 11) := by
  have hbl := hb.len
  (refine callE_w [ResultVar.tmp 6] rfl Tryz.func266 rfl (by decide +kernel) rfl (by simp) ?_; (conv => whnf))
  repeat' ((with_reducible (first | refine sCall.cur (ok_Below _ _ _ _ _ hb) (fun _ _ _ _ _ _ _ => ?_)|refine st18 ?_|refine fG.split (fun _ => ?_) (fun _ => ?_)|refine fG.bool (fun _ => ?_) (fun _ => ?_)|refine sZ.eq (i64_and255 _) ?_|refine sZ.eq (i64_and30 _) ?_|refine sZ.all (fun _ => ?_)|refine sW.all (fun _ => ?_))) <;> (try (conv => whnf)))
  case' refine_1 | refine_2.refine_1 | refine_2.refine_2.refine_1 =>
    exact drawn_mk rfl (by decide) (by decide) (by assumption) (by assumption)
  case refine_2.refine_2.refine_2 =>
    rename_i x i0 h0' ha hb' hc hd
    refine loop_rule (ι := DP) (fun y => [(0, .pt 1000001 0 0 [] 0 0), (1, i64 p), (8, i64 (3 + x)), (9, .h y.o y.bb 0 [] 5 0 y.l.length), (10, i64 (y.j : Nat))])
      (fun y => [(1000000, ⟨0, 0, false, tB b⟩), (1000001, ⟨0, 0, true, tCur b y.i y.h⟩), (y.o, ⟨y.bb, 0, false, tIns9 y.l⟩)])
      (fun y => (3 + x - y.j).toNat) (fun y => (y.j : Int) ≤ 3 + x ∧ y.l.length = y.j ∧ 0 ≤ y.i ∧ y.i ≤ b.length ∧ (y.o = 56 ∨ y.o = 69)) ⟨0, [], 56, _, i0, h0'⟩ fitOk ⟨by show (0 : Int) ≤ 3 + x; omega, rfl, hc, hd, .inl rfl⟩ (by simp [C]; omega) ?_
    rintro ⟨j, out, o, bb, i1, h1'⟩ sl ob ⟨hj, hlen, hi0, hi1, ho⟩
    dsimp only at hj hlen hi0 hi1 ho
    by_cases hjl : (j : Int) < 3 + x
    · rcases ho with rfl | rfl
      all_goals (try dsimp only [cond_true, cond_false])
      all_goals (conv => whnf)
      all_goals repeat' ((with_reducible (first | refine sCall.ins (ok_spec_l1DrawIns _ _ _ _ _ _ hb) (fun _ _ _ _ _ _ _ _ _ => ?_)|refine st18 ?_|refine fG.split (fun _ => ?_) (fun _ => ?_)|refine fG.bool (fun _ => ?_) (fun _ => ?_)|refine sZ.eq (i64_and255 _) ?_|refine sZ.eq (i64_and30 _) ?_|refine sZ.all (fun _ => ?_)|refine sW.all (fun _ => ?_))) <;> (try (conv => whnf)))
      all_goals
        rename_i o1 q1 a1 c1 n1 i2 h2 e1 e2
        refine ⟨⟨⟨j + 1, out ++ [⟨o1, q1, a1, c1, n1⟩], 69, _, i2, h2⟩, fitOk, ?_, ?_⟩⟩
        · exact ⟨by show ((j + 1 : Nat) : Int) ≤ 3 + x; omega, by show (out ++ [_]).length = j + 1; simp [hlen], e1, e2, .inr rfl⟩
        · show (3 + x - ((j + 1 : Nat) : Int)).toNat < (3 + x - j).toNat; omega
    · rcases ho with rfl | rfl
      all_goals (try dsimp only [cond_true, cond_false])
      all_goals (conv => whnf)
      all_goals repeat' ((with_reducible (first | refine sCall.pick (ok_PickInt _ _ _ _ _ hb) (fun _ _ _ _ _ _ => ?_)|refine st18 ?_|refine fG.split (fun _ => ?_) (fun _ => ?_)|refine fG.bool (fun _ => ?_) (fun _ => ?_)|refine sZ.eq (i64_and255 _) ?_|refine sZ.eq (i64_and30 _) ?_|refine sZ.all (fun _ => ?_)|refine sW.all (fun _ => ?_))) <;> (try (conv => whnf)))
      all_goals
        refine drawn_mk rfl ?_ ?_ (by assumption) (by assumption)
        · simp only [List.length_append, List.length_cons, List.length_nil, hlen]; omega
        · simp only [List.length_append, List.length_cons, List.length_nil, hlen]; omega

set_option maxRecDepth 20000 in
set_option maxHeartbeats 8000000 in
theorem ok_spec_l1Spoil (k : Nat) (b : List Int) (i h o q a c n : Int) (hb : Bytes b) (h0 : 0 ≤ i := by assumption) (h1 : i ≤ b.length := by assumption) :
    Told (callE PR C (k + 4) 267 [.pt 1000001 0 0 [] 0 0, .ag [i64 o, i64 q, i64 a, i64 c, i64 n]] [tB b, tCur b i h]) (fun r => ∃ o q a c n i h : Int, 0 ≤ i ∧ i ≤ b.length ∧ r = ⟨.ag [i64 o, i64 q, i64 a, i64 c, i64 n], [], [none, some (tCur b i h)]⟩) := by
  have hbl := hb.len
  (refine callE_w [ResultVar.cell 4 170] rfl Tryz.func267 rfl (by decide +kernel) rfl (by simp) ?_; (conv => whnf))
  repeat' ((with_reducible (first | refine sCall.cur (ok_Below _ _ _ _ _ hb) (fun _ _ _ _ _ _ _ => ?_)|refine sCall.pick (ok_PickInt _ _ _ _ _ hb) (fun _ _ _ _ _ _ => ?_)|refine st18 ?_|refine fG.split (fun _ => ?_) (fun _ => ?_)|refine fG.bool (fun _ => ?_) (fun _ => ?_)|refine sZ.eq (i64_and255 _) ?_|refine sZ.eq (i64_and30 _) ?_|refine sZ.all (fun _ => ?_)|refine sW.all (fun _ => ?_))) <;> (try (conv => whnf)))
  all_goals exact ⟨_, _, _, _, _, _, _, by assumption, by assumption, rfl⟩

theorem sCall.prog {x : Option Res} {b : List Int} {m n : Nat} {F : Res → Prop} (e : Told x (DrawnIns b m n)) (h : ∀ (l : List Ins) (i h : Int), m ≤ l.length → l.length ≤ n → 0 ≤ i → i ≤ b.length → F ⟨.h 2000000 1 0 [] 5 0 l.length, [tIns9 l], [none, some (tCur b i h)]⟩) : sCall x F :=
  sCall.ex e fun r hr => by obtain ⟨l, i, h', h1, h2, h3, h4, rfl⟩ := hr; exact h l i h' h1 h2 h3 h4
structure DA where
  l : List Ins
  n : Nat
  o : Nat
  bb : Nat
  g : Nat
  d : Bool
  i : Int
  h : Int
set_option maxRecDepth 20000 in
set_option maxHeartbeats 8000000 in
theorem ok_spec_l1DrawAny (k : Nat) (b : List Int) (i h : Int) (hb : Bytes b) (h0 : 0 ≤ i := by assumption) (h1 : i ≤ b.length := by assumption) :
    Told (callE PR C (k + 6) 218 [.pt 1000001 0 0 [] 0 0] [tB b, tCur b i h]) (DrawnIns b 1 40) := by
  have hbl := hb.len
  (refine callE_w [ResultVar.tmp 2] rfl Tryz.func218 rfl (by decide +kernel) rfl (by simp) ?_; (conv => whnf))
  repeat' ((with_reducible (first | refine sCall.cur (ok_Below _ _ _ _ _ hb) (fun _ _ _ _ _ _ _ => ?_)|refine sCall.prog (ok_spec_l1DrawProg _ _ _ _ _ _ hb) (fun _ _ _ _ _ _ _ => ?_)|refine sCall.curB (ok_spec_l1Once _ _ _ _ _ hb) (fun _ _ _ _ _ => ?_)|refine sCall.ins (ok_spec_l1Spoil _ _ _ _ _ _ _ _ _ hb) (fun _ _ _ _ _ _ _ _ _ => ?_)|refine st18 ?_|refine fG.split (fun _ => ?_) (fun _ => ?_)|refine fG.bool (fun _ => ?_) (fun _ => ?_)|refine sZ.eq (i64_and255 _) ?_|refine sZ.eq (i64_and30 _) ?_|refine sZ.all (fun _ => ?_)|refine sW.all (fun _ => ?_))) <;> (try (conv => whnf)))
  case' refine_1.refine_2 | refine_2.refine_2 =>
    exact drawn_mk (by simp) (by omega) (by omega) (by assumption) (by assumption)
  all_goals
    refine loop_rule (ι := DA) (fun y => [(0, .pt 1000001 0 0 [] 0 0), (3, .h y.o y.bb 0 [] 5 0 y.n)])
      (fun y => [(1000000, ⟨0, 0, false, tB b⟩), (1000001, ⟨0, 0, true, tCur b y.i y.h⟩), (y.o, ⟨y.bb, y.g, y.d, tIns9 y.l⟩)])
      (fun y => 31 - y.n) (fun y => y.n = y.l.length ∧ 1 ≤ y.n ∧ y.n ≤ 31 ∧ 0 ≤ y.i ∧ y.i ≤ b.length ∧ (y.o = 10008 ∨ y.o = 35)) ⟨_, _, 10008, _, _, _, _, _⟩ fitOk ⟨by simp, by show 1 ≤ List.length _; omega, by show List.length _ ≤ 31; omega, by assumption, by assumption, .inl rfl⟩ (by simp [C]; omega) ?_
    rintro ⟨out, n, o, bb, g, d, i1, h1'⟩ sl ob ⟨hn, hn1, hn2, hi0, hi1, ho⟩
    dsimp only at hn hn1 hn2 hi0 hi1 ho
    subst hn
    rcases ho with rfl | rfl
    all_goals (try dsimp only [cond_true, cond_false])
    all_goals (conv => whnf)
    all_goals repeat' ((with_reducible (first | refine sCall.cur (ok_Below _ _ _ _ _ hb) (fun _ _ _ _ _ _ _ => ?_)|refine st18 ?_|refine fG.split (fun _ => ?_) (fun _ => ?_)|refine fG.bool (fun _ => ?_) (fun _ => ?_)|refine sZ.eq (i64_and255 _) ?_|refine sZ.eq (i64_and30 _) ?_|refine sZ.all (fun _ => ?_)|refine sW.all (fun _ => ?_))) <;> (try (conv => whnf)))
    case' inl.refine_1 | inr.refine_1 =>
      rename_i x i2 h2 e1 e2 e3 e4 e5
      refine ⟨⟨⟨out ++ [⟨11, 0, 0, 0, 0⟩], _, 35, _, _, _, i2, h2⟩, fitOk, ?_, ?_⟩⟩
      · exact ⟨by first | rfl | simp, by show 1 ≤ List.length _; simp, by show List.length _ ≤ 31; simp; omega, e3, e4, .inr rfl⟩
      · show 31 - List.length _ < 31 - out.length; simp; omega
    all_goals exact drawn_mk rfl (by omega) (by omega) (by assumption) (by assumption)

end Go.Proofs.YtldndahfnkbngaaGreat.Abs
namespace Go.Proofs.YtldndahfnkbngaaGreat.Abs
open Go Go.Proofs
set_option linter.unusedVariables false
set_option linter.unusedSimpArgs false
attribute [local irreducible] callE
theorem ok_spec_l1Max (k : Nat) (a c : Int) : callE PR C (k + 1) 173 [i64 a, i64 c] [] = some ⟨i64 (if c < a then a else c), [], []⟩ := by
  by_cases h : c < a
  · rw [if_pos h]
    (refine fnI [ResultVar.tmp 4] Tryz.func173 ?_; conv => whnf)
    repeat' ((with_reducible (first | refine st18 ?_|refine fG.split (fun _ => ?_) (fun _ => ?_)|refine fG.bool (fun _ => ?_) (fun _ => ?_))) <;> (try (conv => whnf)))
  · rw [if_neg h]
    (refine fnI [ResultVar.tmp 4] Tryz.func173 ?_; conv => whnf)
    repeat' ((with_reducible (first | refine st18 ?_|refine fG.split (fun _ => ?_) (fun _ => ?_)|refine fG.bool (fun _ => ?_) (fun _ => ?_))) <;> (try (conv => whnf)))
theorem ok_spec_l1Long (k : Nat) (b : List Int) (x y : Int) (hl : b.length ≤ 100000000000) (hx : 0 ≤ x ∧ x ≤ 1000) (hy : 0 ≤ y ∧ y ≤ 1000) :
    Told (callE PR C (k + 1) 237 [.h 1000000 0 0 [] 1 0 b.length, i64 x, i64 y] [tB b]) (fun r => ∃ n : Int, 0 ≤ n ∧ n ≤ y ∧ r = ⟨i64 n, [], [none]⟩) := by
  have e : (b.length : Int).tdiv 4 = (b.length : Int) / 4 := Int.tdiv_eq_ediv_of_nonneg (by omega)
  (refine callE_w [ResultVar.tmp 6] rfl Tryz.func237 rfl (by decide +kernel) rfl (by simp) ?_; (conv => whnf))
  repeat' ((with_reducible (first | refine sZ.eq (e) ?_|refine st18 ?_|refine fG.split (fun _ => ?_) (fun _ => ?_)|refine fG.bool (fun _ => ?_) (fun _ => ?_))) <;> (try (conv => whnf)))
  all_goals exact ⟨_, by omega, by omega, rfl⟩
def Rt (P : List (List Ins)) (S : List State) (W : List (List Item)) (H : List (List Event)) : Prop := sysOk P S W H = true ∨ (P = [] ∧ S = []) ∧ W = [] ∧ H = []
theorem none_B : SysB 1048576 [] [] [] [] := by
  refine ⟨by simp, fun j hj => ?_, by simp, fun j hj => ?_, by simp, fun j hj => ?_, by simp, fun j hj => ?_⟩ <;> simp at hj
theorem none_bad : sysOk [] [] [] [] = false := by decide
theorem Rt.B {P : List (List Ins)} {S : List State} {W : List (List Item)} {H : List (List Event)} (h : Rt P S W H) : SysB 1048576 P S W H := by
  rcases h with h | ⟨⟨rfl, rfl⟩, rfl, rfl⟩
  · exact (sysOk_G h).b
  · exact none_B
def DSys (b : List Int) (R : List (List Ins) → List State → List (List Item) → List (List Event) → Prop) (m : List (Option Cont)) (r : Res) : Prop :=
  ∃ (P : List (List Ins)) (S : List State) (W : List (List Item)) (H : List (List Event)) (i h : Int), R P S W H ∧ 0 ≤ i ∧ i ≤ b.length ∧ r = ⟨nSys 0 P S W H, [tInsSS9 P, tStateS9 S, tItemSS9 W, tEventSS9 H], none :: some (tCur b i h) :: m⟩
theorem sCall.dsys {x : Option Res} {b : List Int} {R : List (List Ins) → List State → List (List Item) → List (List Event) → Prop} {m : List (Option Cont)} {F : Res → Prop} (e : Told x (DSys b R m))
    (h : ∀ (P : List (List Ins)) (S : List State) (W : List (List Item)) (H : List (List Event)) (i h : Int), R P S W H → 0 ≤ i → i ≤ b.length → F ⟨nSys 0 P S W H, [tInsSS9 P, tStateS9 S, tItemSS9 W, tEventSS9 H], none :: some (tCur b i h) :: m⟩) : sCall x F :=
  sCall.ex e fun r hr => by obtain ⟨P, S, W, H, i, h', h1, h2, h3, rfl⟩ := hr; exact h P S W H i h' h1 h2 h3
structure DN where
  j : Nat
  l : List (List Ins)
  o : Nat
  bb : Nat
  i : Int
  h : Int
set_option maxRecDepth 20000 in
set_option maxHeartbeats 8000000 in
theorem ok_spec_l6DrawNew (k : Nat) (b : List Int) (i h : Int) (hb : Bytes b) (h0 : 0 ≤ i := by assumption) (h1 : i ≤ b.length := by assumption) :
    Told (callE PR C (k + 9) 217 [.pt 1000001 0 0 [] 0 0] [tB b, tCur b i h]) (DSys b Rt []) := by
  have hbl := hb.len
  (refine callE_w [ResultVar.cell 2 36] rfl Tryz.func217 rfl (by decide +kernel) rfl (by simp) ?_; (conv => whnf))
  repeat' ((with_reducible (first | refine sCall.cur (ok_Below _ _ _ _ _ hb) (fun _ _ _ _ _ _ _ => ?_)|refine st18 ?_|refine fG.split (fun _ => ?_) (fun _ => ?_)|refine fG.bool (fun _ => ?_) (fun _ => ?_))) <;> (try (conv => whnf)))
  rename_i x i0 h0' ha hb' hc hd
  refine loop_rule (ι := DN) (fun y => [(0, .pt 1000001 0 0 [] 0 0), (2, .pt 2 1 0 [] 0 0), (3, i64 (1 + x)), (4, .h y.o y.bb 0 [] 1 0 y.l.length), (5, i64 (y.j : Nat))])
    (fun y => [(1000000, ⟨0, 0, false, tB b⟩), (1000001, ⟨0, 0, true, tCur b y.i y.h⟩), (2, ⟨1, 0, false, .box [.nl 1, .nl 4, .nl 1, .nl 1]⟩), (y.o, ⟨y.bb, 0, false, tInsSS9 y.l⟩)])
    (fun y => (1 + x - y.j).toNat) (fun y => (y.j : Int) ≤ 1 + x ∧ (y.l.length = y.j ∧ ∀ q : Nat, q < y.l.length → (rd y.l q).length ≤ 1048576) ∧ 0 ≤ y.i ∧ y.i ≤ b.length ∧ (y.o = 11 ∨ y.o = 23)) ⟨0, [], 11, _, i0, h0'⟩ fitOk ⟨by show (0 : Int) ≤ 1 + x; omega, ⟨rfl, fun q hq => by simp at hq⟩, hc, hd, .inl rfl⟩ (by simp [C]; omega) ?_
  rintro ⟨j, out, o, bb, i1, h1'⟩ sl ob ⟨hj, ⟨hlen, hin⟩, hi0, hi1, ho⟩
  dsimp only at hj hlen hin hi0 hi1 ho
  by_cases hjl : (j : Int) < 1 + x
  · rcases ho with rfl | rfl
    all_goals (try dsimp only [cond_true, cond_false])
    all_goals (conv => whnf)
    all_goals repeat' ((with_reducible (first | refine sCall.prog (ok_spec_l1DrawProg _ _ _ _ _ _ hb) (fun _ _ _ _ _ _ _ => ?_)|refine st18 ?_|refine fG.split (fun _ => ?_) (fun _ => ?_)|refine fG.bool (fun _ => ?_) (fun _ => ?_))) <;> (try (conv => whnf)))
    all_goals
      rename_i l i2 h2 e1 e2 e3 e4
      refine ⟨⟨⟨j + 1, out ++ [l], 23, _, i2, h2⟩, fitOk, ?_, ?_⟩⟩
      · refine ⟨by show ((j + 1 : Nat) : Int) ≤ 1 + x; omega, ⟨by show (out ++ [l]).length = j + 1; simp [hlen], fun q hq => ?_⟩, e3, e4, .inr rfl⟩
        have hq : q < (out ++ [l]).length := hq
        show (rd (out ++ [l]) q).length ≤ 1048576
        by_cases hq2 : q < out.length
        · have := hin q hq2
          simp only [rd, List.getD_eq_getElem?_getD] at this ⊢
          rwa [List.getElem?_append_left hq2]
        · have e : q = out.length := by simp at hq; omega
          subst e
          have : rd (out ++ [l]) out.length = l := by simp [rd]
          rw [this]; omega
      · show (1 + x - ((j + 1 : Nat) : Int)).toNat < (1 + x - j).toNat; omega
  · have hlen2 : 1 ≤ out.length ∧ out.length ≤ 4 := by omega
    have q1 := fun k => ok_spec_SysNew' k out hlen2 hin
    cases hs : sysOk out (List.replicate out.length newState) (List.replicate (out.length * out.length) default) (List.replicate out.length default) with
    | true =>
      simp only [hs, if_true, newRes] at q1
      rcases ho with rfl | rfl
      all_goals (try dsimp only [cond_true, cond_false])
      all_goals (conv => whnf)
      all_goals repeat' ((with_reducible (first | refine sCall.of (q1 _) ?_|refine st18 ?_|refine fG.split (fun _ => ?_) (fun _ => ?_)|refine fG.bool (fun _ => ?_) (fun _ => ?_))) <;> (try (conv => whnf)))
      all_goals exact ⟨_, _, _, _, _, _, .inl hs, hi0, hi1, rfl⟩
    | false =>
      simp only [hs, Bool.false_eq_true, if_false, zeroRes] at q1
      rcases ho with rfl | rfl
      all_goals (try dsimp only [cond_true, cond_false])
      all_goals (conv => whnf)
      all_goals repeat' ((with_reducible (first | refine sCall.of (q1 _) ?_|refine st18 ?_|refine fG.split (fun _ => ?_) (fun _ => ?_)|refine fG.bool (fun _ => ?_) (fun _ => ?_))) <;> (try (conv => whnf)))
      all_goals exact ⟨[], [], [], [], _, _, .inr ⟨⟨rfl, rfl⟩, rfl, rfl⟩, hi0, hi1, rfl⟩
def Peers (r : Res) : Prop := ∃ l : List Int, l.length ≤ 4 ∧ r = ⟨.h 2000000 1 0 [] 1 0 l.length, [tI9 l], [none, none, none, none]⟩
theorem sCall.peers {x : Option Res} {F : Res → Prop} (e : Told x Peers) (h : ∀ l : List Int, l.length ≤ 4 → F ⟨.h 2000000 1 0 [] 1 0 l.length, [tI9 l], [none, none, none, none]⟩) : sCall x F :=
  sCall.ex e fun r hr => by obtain ⟨l, h1, rfl⟩ := hr; exact h l h1
structure PE where
  j : Nat
  m : Int
  l : List Int
  o : Nat
  bb : Nat
set_option maxRecDepth 20000 in
set_option maxHeartbeats 8000000 in
theorem ok_spec_l5Ready (k : Nat) (P : List (List Ins)) (S : List State) (W : List (List Item)) (H : List (List Event)) (p : Int) (hs : sysOk P S W H = true) :
    Told (callE PR C (k + 7) 274 [aSys 0 P S W H, i64 p] [tInsSS P, tStateS S, tItemSS W, tEventSS H]) Peers := by
  have hB := (sysOk_G hs).b
  obtain ⟨hI, hP, hS', h200⟩ := sysOk_facts hs
  have hN := hI.n
  have hsl := hI.s
  have q1 := fun k => ok_spec_l1In k p 0 ((P.length : Int) - 1)
  by_cases c1 : 0 ≤ p ∧ p ≤ (P.length : Int) - 1
  · rw [decide_eq_true c1] at q1
    obtain ⟨p, rfl⟩ : ∃ n : Nat, p = (n : Int) := ⟨p.toNat, by omega⟩
    have hpP : p < P.length := by omega
    have hF := procF_of hs hpP
    by_cases c2 : (rd S p).code = 0
    · have q2 := fun k => ok_spec_l4Copy k P S W H (hB.mono (by decide)) hI.some
      have q3 := fun (j : Nat) k => ok_spec_l5Step k P S W H p j (hB.mono (by decide)) hs
      have hpl := hF.pl
      have hok := hF.ok
      have hat0 := hok.at0
      have hat1 := hok.at1
      have hio := hF.io
      have q4 := fun k => ok_spec_l2Next k (rd P p) (rd S p).at_ (rd S p).regs (rd S p).out (rd S p).code (by omega) hok hio
      generalize next (rd P p) ⟨(rd S p).at_, (rd S p).regs, (rd S p).out, (rd S p).code⟩ = e at q4
      obtain ⟨ek, ep, ev⟩ := e
      (refine callE_w [ResultVar.tmp 4] rfl Tryz.func274 rfl (by decide +kernel) rfl (by simp) ?_; (conv => whnf))
      repeat' ((with_reducible (first | refine sCall.of (q1 _) ?_|refine sCall.of (q4 _) ?_|refine st18 ?_|refine fG.split (fun _ => ?_) (fun _ => ?_)|refine fG.bool (fun _ => ?_) (fun _ => ?_)|refine gD 5 [(1, 11), (4, 11), (6, 11), (9, 11), (10, 11)] ?_)) <;> (try (conv => whnf)))
      all_goals
        refine loop_rule (ι := PE) (fun y => [(1, i64 (p : Nat)), (2, .pt 2 1 0 [] 0 0), (5, .h y.o y.bb 0 [] 1 0 y.l.length), (8, i64 y.m), (9, i64 (y.j : Nat))])
          (fun y => [(1000000, ⟨0, 0, false, tInsSS P⟩), (1000001, ⟨0, 0, false, tStateS S⟩), (1000002, ⟨0, 0, false, tItemSS W⟩), (1000003, ⟨0, 0, false, tEventSS H⟩), (2, ⟨1, 0, false, bSys P S W H⟩), (y.o, ⟨y.bb, 0, false, tI9 y.l⟩)])
          (fun y => 4 - y.j) (fun y => (y.j ≤ 4 ∧ y.m ≤ 4) ∧ y.l.length ≤ y.j ∧ (y.o = 12 ∨ y.o = 69)) ⟨0, _, [], 12, _⟩ fitOk ⟨⟨Nat.zero_le _, by dsimp only; omega⟩, Nat.zero_le _, .inl rfl⟩ (by simp [C]) ?_
        rintro ⟨j, m, out, o, bb⟩ sl ob ⟨⟨hj, hm⟩, hlen, ho⟩
        dsimp only at hj hm hlen ho
        by_cases hjl : (j : Int) < m
        · have q3 := q3 j
          by_cases c0 : (stepIs P S W H p j).2 = 0
          · generalize stepIs P S W H p j = X at *
            obtain ⟨⟨P', S', W', H'⟩, n⟩ := X
            dsimp only at c0
            simp only [sysRes] at q3
            rcases ho with rfl | rfl
            all_goals (try dsimp only [cond_true, cond_false])
            all_goals (conv => whnf)
            all_goals repeat' ((with_reducible (first | refine sCall.of (q2 _) ?_|refine sCall.of (q3 _) ?_|refine st18 ?_|refine fG.split (fun _ => ?_) (fun _ => ?_)|refine fG.bool (fun _ => ?_) (fun _ => ?_)|refine gD 5 [(1, 11), (4, 11), (6, 11), (9, 11), (10, 11)] ?_)) <;> (try (conv => whnf)))
            all_goals
              refine ⟨⟨⟨j + 1, m, out ++ [(j : Int)], 69, _⟩, fitOk, ?_, ?_⟩⟩
              · exact ⟨⟨by show j + 1 ≤ 4; omega, hm⟩, by show (out ++ [_]).length ≤ j + 1; simp; omega, .inr rfl⟩
              · show 4 - (j + 1) < 4 - j; omega
          · generalize stepIs P S W H p j = X at *
            obtain ⟨⟨P', S', W', H'⟩, n⟩ := X
            dsimp only at c0
            simp only [sysRes] at q3
            rcases ho with rfl | rfl
            all_goals (try dsimp only [cond_true, cond_false])
            all_goals (conv => whnf)
            all_goals repeat' ((with_reducible (first | refine sCall.of (q2 _) ?_|refine sCall.of (q3 _) ?_|refine st18 ?_|refine fG.split (fun _ => ?_) (fun _ => ?_)|refine fG.bool (fun _ => ?_) (fun _ => ?_)|refine gD 5 [(1, 11), (4, 11), (6, 11), (9, 11), (10, 11)] ?_)) <;> (try (conv => whnf)))
            case' inl =>
              refine ⟨⟨⟨j + 1, m, out, 12, _⟩, fitOk, ?_, ?_⟩⟩
              · exact ⟨⟨by show j + 1 ≤ 4; omega, hm⟩, by show out.length ≤ j + 1; omega, .inl rfl⟩
              · show 4 - (j + 1) < 4 - j; omega
            case' inr =>
              refine ⟨⟨⟨j + 1, m, out, 69, _⟩, fitOk, ?_, ?_⟩⟩
              · exact ⟨⟨by show j + 1 ≤ 4; omega, hm⟩, by show out.length ≤ j + 1; omega, .inr rfl⟩
              · show 4 - (j + 1) < 4 - j; omega
        · rcases ho with rfl | rfl
          all_goals (try dsimp only [cond_true, cond_false])
          all_goals (conv => whnf)
          all_goals repeat' ((with_reducible (first | refine st18 ?_|refine fG.split (fun _ => ?_) (fun _ => ?_)|refine fG.bool (fun _ => ?_) (fun _ => ?_)|refine gD 5 [(1, 11), (4, 11), (6, 11), (9, 11), (10, 11)] ?_)) <;> (try (conv => whnf)))
          all_goals exact ⟨_, by omega, rfl⟩
    · (refine callE_w [ResultVar.tmp 4] rfl Tryz.func274 rfl (by decide +kernel) rfl (by simp) ?_; (conv => whnf))
      repeat' ((with_reducible (first | refine sCall.of (q1 _) ?_|refine st18 ?_|refine fG.split (fun _ => ?_) (fun _ => ?_)|refine fG.bool (fun _ => ?_) (fun _ => ?_)|refine gD 5 [(1, 11), (4, 11), (6, 11), (9, 11), (10, 11)] ?_)) <;> (try (conv => whnf)))
      all_goals exact ⟨[], by simp, rfl⟩
  · rw [decide_eq_false c1] at q1
    (refine callE_w [ResultVar.tmp 4] rfl Tryz.func274 rfl (by decide +kernel) rfl (by simp) ?_; (conv => whnf))
    repeat' ((with_reducible (first | refine sCall.of (q1 _) ?_|refine st18 ?_|refine fG.split (fun _ => ?_) (fun _ => ?_)|refine fG.bool (fun _ => ?_) (fun _ => ?_)|refine gD 5 [(1, 11), (4, 11), (6, 11), (9, 11), (10, 11)] ?_)) <;> (try (conv => whnf)))
    all_goals exact ⟨[], by simp, rfl⟩
theorem ok_spec_Ready (k : Nat) (P : List (List Ins)) (S : List State) (W : List (List Item)) (H : List (List Event)) (p : Int) (hR : Rt P S W H) :
    Told (callE PR C (k + 8) 243 [aSys 0 P S W H, i64 p] [tInsSS P, tStateS S, tItemSS W, tEventSS H]) Peers := by
  have q1 := fun k => ok_spec_SysOk k P S W H (hR.B.mono (by decide))
  rcases hR with hs | ⟨⟨rfl, rfl⟩, rfl, rfl⟩
  · simp only [hs] at q1
    (refine callE_w [ResultVar.tmp 4] rfl Tryz.func243 rfl (by decide +kernel) rfl (by simp) ?_; (conv => whnf))
    repeat' ((with_reducible (first | refine sCall.of (q1 _) ?_|refine sCall.peers (ok_spec_l5Ready _ _ _ _ _ _ hs) (fun _ _ => ?_)|refine st18 ?_|refine fG.split (fun _ => ?_) (fun _ => ?_)|refine fG.bool (fun _ => ?_) (fun _ => ?_))) <;> (try (conv => whnf)))
    exact ⟨_, by assumption, rfl⟩
  · simp only [none_bad] at q1
    (refine callE_w [ResultVar.tmp 4] rfl Tryz.func243 rfl (by decide +kernel) rfl (by simp) ?_; (conv => whnf))
    repeat' ((with_reducible (first | refine sCall.of (q1 _) ?_|refine st18 ?_|refine fG.split (fun _ => ?_) (fun _ => ?_)|refine fG.bool (fun _ => ?_) (fun _ => ?_))) <;> (try (conv => whnf)))
    exact ⟨[], by simp, rfl⟩
def DPick (b : List Int) (r : Res) : Prop := ∃ p q i h : Int, 0 ≤ i ∧ i ≤ b.length ∧ r = ⟨.ag [i64 p, i64 q], [], [none, some (tCur b i h), none, none, none, none]⟩
theorem sCall.dpick {x : Option Res} {b : List Int} {F : Res → Prop} (e : Told x (DPick b)) (h : ∀ p q i h : Int, 0 ≤ i → i ≤ b.length → F ⟨.ag [i64 p, i64 q], [], [none, some (tCur b i h), none, none, none, none]⟩) : sCall x F :=
  sCall.ex e fun r hr => by obtain ⟨p, q, i, h', h1, h2, rfl⟩ := hr; exact h p q i h' h1 h2
set_option maxRecDepth 20000 in
set_option maxHeartbeats 8000000 in
theorem ok_spec_l6DrawPick (k : Nat) (b : List Int) (i h : Int) (P : List (List Ins)) (S : List State) (W : List (List Item)) (H : List (List Event)) (hb : Bytes b) (hR : Rt P S W H) (h0 : 0 ≤ i := by assumption) (h1 : i ≤ b.length := by assumption) :
    Told (callE PR C (k + 9) 175 [.pt 1000001 0 0 [] 0 0, aSys 2 P S W H] [tB b, tCur b i h, tInsSS P, tStateS S, tItemSS W, tEventSS H]) (DPick b) := by
  have hbl := hb.len
  have hB := hR.B.p
  have q1 := fun k => ok_spec_l1Max k (P.length : Int) 1
  have hn : 1 ≤ (if (1 : Int) < (P.length : Int) then (P.length : Int) else 1) ∧ (if (1 : Int) < (P.length : Int) then (P.length : Int) else 1) ≤ 1048576 := by split <;> omega
  generalize (if (1 : Int) < (P.length : Int) then (P.length : Int) else 1) = n at *
  (refine callE_w [ResultVar.cell 4 80] rfl Tryz.func175 rfl (by decide +kernel) rfl (by simp) ?_; (conv => whnf))
  repeat' ((with_reducible (first | refine sCall.of (q1 _) ?_|refine sCall.cur (ok_Below _ _ _ _ _ hb) (fun _ _ _ _ _ _ _ => ?_)|refine sCall.peers (ok_spec_Ready _ _ _ _ _ _ hR) (fun _ _ => ?_)|refine sCall.curB (ok_spec_l1Once _ _ _ _ _ hb) (fun _ _ _ _ _ => ?_)|refine st18 ?_|refine fG.split (fun _ => ?_) (fun _ => ?_)|refine fG.bool (fun _ => ?_) (fun _ => ?_))) <;> (try (conv => whnf)))
  all_goals exact ⟨_, _, _, _, by assumption, by assumption, rfl⟩

def stepRt (P : List (List Ins)) (S : List State) (W : List (List Item)) (H : List (List Event)) (p peer : Int) : Sys × Int := if sysOk P S W H = true then stepIs P S W H p peer else (⟨[], [], [], []⟩, 1)
theorem stepRt_rt {P : List (List Ins)} {S : List State} {W : List (List Item)} {H : List (List Event)} (p peer : Int) : Rt (stepRt P S W H p peer).1.progs (stepRt P S W H p peer).1.states (stepRt P S W H p peer).1.ways (stepRt P S W H p peer).1.hist := by
  unfold stepRt
  split
  · rename_i h; exact .inl (stepIs_sysOk h)
  · exact .inr ⟨⟨rfl, rfl⟩, rfl, rfl⟩
theorem ok_spec_StepRt (k : Nat) (P : List (List Ins)) (S : List State) (W : List (List Item)) (H : List (List Event)) (p peer : Int) (hb : SysB 10000000000 P S W H) :
    callE PR C (k + 8) 112 [aSys 0 P S W H, i64 p, i64 peer] [tInsSS P, tStateS S, tItemSS W, tEventSS H] = some (sysRes (stepRt P S W H p peer).1 (stepRt P S W H p peer).2 [none, none, none, none]) := by
  unfold stepRt
  cases hs : sysOk P S W H with
  | true => exact ok_spec_Step k P S W H p peer hb hs
  | false => exact ok_spec_StepBad k P S W H p peer hb hs
def DRun (b : List Int) (m : Int) (r : Res) : Prop :=
  ∃ (P : List (List Ins)) (S : List State) (W : List (List Item)) (H : List (List Event)) (l : List Who) (i h : Int), Rt P S W H ∧ (l.length : Int) ≤ m ∧ (0 ≤ i ∧ i ≤ b.length) ∧
  (r = ⟨.tu [nSys 0 P S W H, .h 2000004 1 0 [] 2 0 l.length, nSys 0 P S W H], [tInsSS9 P, tStateS9 S, tItemSS9 W, tEventSS9 H, tWho9 l], [none, some (tCur b i h)]⟩ ∨
   ∃ (P' : List (List Ins)) (S' : List State) (W' : List (List Item)) (H' : List (List Event)), Rt P' S' W' H' ∧ r = ⟨.tu [nSys 0 P S W H, .h 2000004 1 0 [] 2 0 l.length, nSys 5 P' S' W' H'], [tInsSS9 P, tStateS9 S, tItemSS9 W, tEventSS9 H, tWho9 l, tInsSS9 P', tStateS9 S', tItemSS9 W', tEventSS9 H'], [none, some (tCur b i h)]⟩)
structure DR where
  j : Nat
  l : List Who
  lo : Nat
  lb : Nat
  P : List (List Ins)
  S : List State
  W : List (List Item)
  H : List (List Event)
  o : Nat
  b0 : Nat
  b1 : Nat
  b2 : Nat
  b3 : Nat
  d7 : Bool
  dd : Bool
  i : Int
  h : Int
set_option maxRecDepth 20000 in
set_option maxHeartbeats 16000000 in
theorem ok_spec_l6DrawRun (k : Nat) (b : List Int) (i h m : Int) (hb : Bytes b) (hm : 0 ≤ m ∧ m ≤ 1000) (h0 : 0 ≤ i := by assumption) (h1 : i ≤ b.length := by assumption) :
    Told (callE PR C (k + 10) 136 [.pt 1000001 0 0 [] 0 0, i64 m] [tB b, tCur b i h]) (DRun b m) := by
  have hbl := hb.len
  (refine callE_w [ResultVar.cell 4 36, ResultVar.tmp 5, ResultVar.cell 6 36] rfl Tryz.func136 rfl (by decide +kernel) rfl (by simp) ?_; (conv => whnf))
  repeat' ((with_reducible (first | refine sCall.dsys (ok_spec_l6DrawNew _ _ _ _ hb) (fun _ _ _ _ _ _ _ _ _ => ?_)|refine sCall.cur (ok_Below _ _ _ _ _ hb) (fun _ _ _ _ _ _ _ => ?_)|refine st18 ?_|refine fG.split (fun _ => ?_) (fun _ => ?_)|refine fG.bool (fun _ => ?_) (fun _ => ?_)|refine gD 13 [(2, 3)] ?_)) <;> (try (conv => whnf)))
  rename_i P S W H i1 h1' hR0 a1 a2 x i0 h0' ha hb' hc hd
  refine loop_rule (ι := DR) (fun y => [(0, .pt 1000001 0 0 [] 0 0), (4, .pt 4 1 0 [] 0 0), (6, .pt 6 1 0 [] 0 0), (7, .pt 7 1 0 [] 0 0), (8, .pt 8 1 0 [] 0 0), (9, .h y.lo y.lb 0 [] 2 0 y.l.length), (10, i64 x), (11, i64 (y.j : Nat))])
    (fun y => [(1000000, ⟨0, 0, false, tB b⟩), (1000001, ⟨0, 0, true, tCur b y.i y.h⟩), (4, ⟨1, 0, false, .box [.nl 1, .nl 4, .nl 1, .nl 1]⟩), (6, ⟨1, 0, false, .box [.nl 1, .nl 4, .nl 1, .nl 1]⟩),
      (7, ⟨1, 0, y.d7, .box [.h 10016 1 0 [] 1 0 P.length, .h 20016 1 0 [] 4 0 S.length, .h 30016 1 0 [] 1 0 W.length, .h 40016 1 0 [] 1 0 H.length]⟩),
      (8, ⟨1, 0, y.dd, .box [.h (y.o + 10000) y.b0 0 [] 1 0 y.P.length, .h (y.o + 20000) y.b1 0 [] 4 0 y.S.length, .h (y.o + 30000) y.b2 0 [] 1 0 y.W.length, .h (y.o + 40000) y.b3 0 [] 1 0 y.H.length]⟩),
      (10016, ⟨1, 0, false, tInsSS9 P⟩), (20016, ⟨1, 0, false, tStateS9 S⟩), (30016, ⟨1, 0, false, tItemSS9 W⟩), (40016, ⟨1, 0, false, tEventSS9 H⟩), (y.lo, ⟨y.lb, 0, false, tWho9 y.l⟩),
      (y.o + 10000, ⟨y.b0, 0, false, tInsSS9 y.P⟩), (y.o + 20000, ⟨y.b1, 0, false, tStateS9 y.S⟩), (y.o + 30000, ⟨y.b2, 0, false, tItemSS9 y.W⟩), (y.o + 40000, ⟨y.b3, 0, false, tEventSS9 y.H⟩)])
    (fun y => (x - y.j).toNat) (fun y => (y.j : Int) ≤ x ∧ (y.l.length = y.j ∧ (y.lo = 18 ∨ y.lo = 34)) ∧ Rt y.P y.S y.W y.H ∧ (0 ≤ y.i ∧ y.i ≤ b.length) ∧
      ((y.o = 16 ∧ (y.P = P ∧ y.S = S ∧ y.W = W ∧ y.H = H) ∧ y.b0 = 1 ∧ y.b1 = 1 ∧ y.b2 = 1 ∧ y.b3 = 1) ∨ y.o = 41 ∨ y.o = 5041))
    ⟨0, [], 18, _, P, S, W, H, 16, 1, 1, 1, 1, _, _, i0, h0'⟩ fitOk ⟨by show (0 : Int) ≤ x; omega, ⟨rfl, .inl rfl⟩, hR0, ⟨hc, hd⟩, .inl ⟨rfl, ⟨rfl, rfl, rfl, rfl⟩, rfl, rfl, rfl, rfl⟩⟩ (by simp [C]; omega) ?_
  clear a1 a2 hc hd
  rintro ⟨j, out, lo, lb, P1, S1, W1, H1, o, b0, b1, b2, b3, d7, dd, i2, h2⟩ sl ob ⟨hj, ⟨hlen, hlo⟩, hR, ⟨hi0, hi1⟩, ho⟩
  dsimp only at hj hlen hlo hR hi0 hi1 ho
  by_cases hjl : (j : Int) < x
  · have hB := hR.B
    rcases hlo with rfl | rfl
    all_goals rcases ho with ⟨rfl, ⟨rfl, rfl, rfl, rfl⟩, rfl, rfl, rfl, rfl⟩ | rfl | rfl
    all_goals (try dsimp only [cond_true, cond_false])
    all_goals (conv => whnf)
    all_goals repeat' ((with_reducible (first | refine sCall.dpick (ok_spec_l6DrawPick _ _ _ _ _ _ _ _ hb hR) (fun _ _ _ _ _ _ => ?_)|refine st18 ?_|refine fG.split (fun _ => ?_) (fun _ => ?_)|refine fG.bool (fun _ => ?_) (fun _ => ?_)|refine gD 13 [(2, 3)] ?_)) <;> (try (conv => whnf)))
    all_goals
      rename_i p q i3 h3 e1 e2
      have hR2 := @stepRt_rt P1 S1 W1 H1 p q
      have q3 := fun k => ok_spec_StepRt k P1 S1 W1 H1 p q (hB.mono (by decide))
      generalize stepRt P1 S1 W1 H1 p q = X at hR2 q3
      obtain ⟨⟨P2, S2, W2, H2⟩, n⟩ := X
      dsimp only at hR2
      simp only [sysRes] at q3
      by_cases c0 : n = 0
    all_goals repeat' ((with_reducible (first | refine sCall.of (q3 _) ?_|refine st18 ?_|refine fG.split (fun _ => ?_) (fun _ => ?_)|refine fG.bool (fun _ => ?_) (fun _ => ?_)|refine gD 13 [(2, 3)] ?_)) <;> (try (conv => whnf)))
    all_goals first
      | refine ⟨⟨⟨j + 1, out ++ [⟨p, q⟩], 34, _, P2, S2, W2, H2, 41, _, _, _, _, _, _, i3, h3⟩, fitOk, ?_, ?_⟩⟩
      | refine ⟨⟨⟨j + 1, out ++ [⟨p, q⟩], 34, _, P2, S2, W2, H2, 5041, _, _, _, _, _, _, i3, h3⟩, fitOk, ?_, ?_⟩⟩
      | refine ⟨⟨⟨j + 1, out ++ [⟨p, q⟩], 34, _, P1, S1, W1, H1, 16, _, _, _, _, _, _, i3, h3⟩, fitOk, ?_, ?_⟩⟩
      | refine ⟨⟨⟨j + 1, out ++ [⟨p, q⟩], 34, _, P1, S1, W1, H1, 41, _, _, _, _, _, _, i3, h3⟩, fitOk, ?_, ?_⟩⟩
      | refine ⟨⟨⟨j + 1, out ++ [⟨p, q⟩], 34, _, P1, S1, W1, H1, 5041, _, _, _, _, _, _, i3, h3⟩, fitOk, ?_, ?_⟩⟩
    all_goals first
      | (show (x - ((j + 1 : Nat) : Int)).toNat < (x - j).toNat; omega)
      | exact ⟨by show ((j + 1 : Nat) : Int) ≤ x; omega, ⟨by show (out ++ [_]).length = j + 1; simp [hlen], .inr rfl⟩, hR2, ⟨e1, e2⟩, .inr (.inl rfl)⟩
      | exact ⟨by show ((j + 1 : Nat) : Int) ≤ x; omega, ⟨by show (out ++ [_]).length = j + 1; simp [hlen], .inr rfl⟩, hR2, ⟨e1, e2⟩, .inr (.inr rfl)⟩
      | exact ⟨by show ((j + 1 : Nat) : Int) ≤ x; omega, ⟨by show (out ++ [_]).length = j + 1; simp [hlen], .inr rfl⟩, hR, ⟨e1, e2⟩, .inl ⟨rfl, ⟨rfl, rfl, rfl, rfl⟩, rfl, rfl, rfl, rfl⟩⟩
      | exact ⟨by show ((j + 1 : Nat) : Int) ≤ x; omega, ⟨by show (out ++ [_]).length = j + 1; simp [hlen], .inr rfl⟩, hR, ⟨e1, e2⟩, .inr (.inl rfl)⟩
      | exact ⟨by show ((j + 1 : Nat) : Int) ≤ x; omega, ⟨by show (out ++ [_]).length = j + 1; simp [hlen], .inr rfl⟩, hR, ⟨e1, e2⟩, .inr (.inr rfl)⟩
  · rcases hlo with rfl | rfl
    all_goals rcases ho with ⟨rfl, ⟨rfl, rfl, rfl, rfl⟩, rfl, rfl, rfl, rfl⟩ | rfl | rfl
    all_goals (try dsimp only [cond_true, cond_false])
    all_goals (conv => whnf)
    all_goals repeat' ((with_reducible (first | refine st18 ?_|refine fG.split (fun _ => ?_) (fun _ => ?_)|refine fG.bool (fun _ => ?_) (fun _ => ?_)|refine gD 13 [(2, 3)] ?_)) <;> (try (conv => whnf)))
    all_goals first
      | exact ⟨_, _, _, _, _, _, _, hR0, by omega, ⟨hi0, hi1⟩, .inl rfl⟩
      | exact ⟨_, _, _, _, _, _, _, hR0, by omega, ⟨hi0, hi1⟩, .inr ⟨_, _, _, _, hR, rfl⟩⟩

end Go.Proofs.YtldndahfnkbngaaGreat.Abs
namespace Go.Proofs.YtldndahfnkbngaaGreat.Abs
open Go Go.Proofs
set_option linter.unusedVariables false
set_option linter.unusedSimpArgs false
attribute [local irreducible] callE
theorem sCall.long {x : Option Res} {y : Int} {F : Res → Prop} (e : Told x (fun r => ∃ n : Int, 0 ≤ n ∧ n ≤ y ∧ r = ⟨i64 n, [], [none]⟩)) (h : ∀ n : Int, 0 ≤ n → n ≤ y → F ⟨i64 n, [], [none]⟩) : sCall x F :=
  sCall.ex e fun r hr => by obtain ⟨n, h1, h2, rfl⟩ := hr; exact h n h1 h2
set_option maxRecDepth 20000 in
set_option maxHeartbeats 4000000 in
theorem ok_spec_l6DrawRight (k : Nat) (b : List Int) (i h : Int) (hb : Bytes b) (h0 : 0 ≤ i := by assumption) (h1 : i ≤ b.length := by assumption) :
    Told (callE PR C (k + 11) 162 [.pt 1000001 0 0 [] 0 0, .h 1000002 0 0 [] 1 0 b.length] [tB b, tCur b i h, tB b]) (DSys b Rt [none]) := by
  have hbl := hb.len
  (refine callE_w [ResultVar.cell 4 36] rfl Tryz.func162 rfl (by decide +kernel) rfl (by simp) ?_; (conv => whnf))
  repeat' ((with_reducible (first | refine sCall.long (ok_spec_l1Long _ b 25 70 hbl ⟨by decide, by decide⟩ ⟨by decide, by decide⟩) (fun _ _ _ => ?_)|refine st18 ?_|refine fG.split (fun _ => ?_) (fun _ => ?_)|refine fG.bool (fun _ => ?_) (fun _ => ?_))) <;> (try (conv => whnf)))
  rename_i n hn0 hn1
  repeat' ((with_reducible (first | (refine sCall.ex (ok_spec_l6DrawRun _ b i h n hb ⟨hn0, by omega⟩) ?_)|refine st18 ?_|refine fG.split (fun _ => ?_) (fun _ => ?_)|refine fG.bool (fun _ => ?_) (fun _ => ?_))) <;> (try (conv => whnf)))
  rintro _ ⟨P, S, W, H, l, i', h', hR, hl, ⟨e1, e2⟩, rfl | ⟨P', S', W', H', hR', rfl⟩⟩
  · (conv => whnf)
    repeat' ((with_reducible (first | refine st18 ?_|refine fG.split (fun _ => ?_) (fun _ => ?_)|refine fG.bool (fun _ => ?_) (fun _ => ?_))) <;> (try (conv => whnf)))
    exact ⟨_, _, _, _, _, _, hR, e1, e2, rfl⟩
  · (conv => whnf)
    repeat' ((with_reducible (first | refine st18 ?_|refine fG.split (fun _ => ?_) (fun _ => ?_)|refine fG.bool (fun _ => ?_) (fun _ => ?_))) <;> (try (conv => whnf)))
    exact ⟨_, _, _, _, _, _, hR', e1, e2, rfl⟩
theorem cons_rItem (l : List Item) (a : Bool) (v : Int) : [[T.v (.bool a), .v (.int .i64 v)]] ++ l.map rItem = ((⟨a, v⟩ : Item) :: l).map rItem := rfl
theorem gI19 {p A : Prop} (h : A) (e : p := by first | with_reducible assumption | omega | (simp only [Nat.zero_add, Nat.add_zero, Nat.sub_zero, Int.toNat_natCast, Int.toNat_zero, Int.toNat_one, List.length_map, List.length_nil, Int.reduceToNat, Nat.reduceAdd, Nat.reduceSub, Int.sub_zero, Int.reduceAdd, Int.reduceSub, Nat.sub_self, Int.toNat_natCast_add_one, marks_len, bs_len, List.length_append, List.length_cons, List.length_set, List.length_replicate, List.length_range]; first | done | omega)) : sI p A := sI.mk e h
theorem gNum19 {r r' : Nat} {F : Nat → Prop} (h : F r') (e : r = r' := by first | (simp only [Nat.zero_add, Nat.add_zero, Nat.sub_zero, Int.toNat_natCast, Int.toNat_zero, Int.toNat_one, List.length_map, List.length_nil, Int.reduceToNat, Nat.reduceAdd, Nat.reduceSub, Int.sub_zero, Int.reduceAdd, Int.reduceSub, Nat.sub_self, Int.toNat_natCast_add_one, marks_len, bs_len]; rfl) | rfl) : sN r F := sN.eq e h
theorem gRow19 {r r' : List (List T)} {F : List (List T) → Prop} (h : F r') (e : r = r' := by first | (simp only [Nat.add_zero, Nat.zero_add, Nat.reduceAdd, List.drop_zero, List.take_succ_cons, List.take_nil, List.drop_succ_cons, List.drop_nil, List.take_zero, List.nil_append, List.append_nil, List.map_nil, drop_suf, take_pre, drop_map, List.take_length, take_len_set, take_len_app, List.set_set, List.length_map, cons_rItem, one_rIns, cons_rIns, one_rI, cons_rI, snoc_new, snoc_rItem, snoc_rInsL, snoc_rItemL, snoc_rEventL, snoc_rState, set_rWho, rep_rWho, snoc_rWho, set_rState, rep_rState, set_rInsL, rep_rInsL, set_rItemL, rep_rItemL, set_rEventL, rep_rEventL, set_rItem, rep_rItem, rep_rKept, marks_take, set_rKept, set_rIns, rep_rIns, set_rEvent, rep_rEvent, snoc_rKept, snoc_rEvent, snoc_rIns, bytesT_bs, snoc_rI, snoc_rB, snoc_rBool, set_rI, set_rBool, rep_rI, rep_rBool, map_app]; rfl) | rfl) : sR r F := sR.eq e h
theorem st19 {P Q : Prop} (h : Q) (e : Q → P := by with_reducible first | exact fun h => gP h | exact fun h => gN h | exact fun h => fG.not h | exact fun h => gY h | exact fun h => gF h | exact fun h => fG.yes (flat_map (fun _ => rfl) _) h | exact fun h => gS64 h | exact fun h => gU8 h | exact fun h => gI19 h | exact fun h => fE.of rfl h | exact fun h => gNum19 h | exact fun h => gSet h | exact fun h => gRd h | exact fun h => gLk h | exact fun h => gRow19 h | exact fun h => gRf4 h) : P := e h
theorem mem_rd {α : Type} [Inhabited α] {l : List α} {x : α} (h : x ∈ l) : ∃ j, j < l.length ∧ rd l j = x := by
  obtain ⟨i, hi, rfl⟩ := List.mem_iff_getElem.1 h
  exact ⟨i, hi, by simp [rd, hi]⟩
theorem SysB.all {B : Nat} {P : List (List Ins)} {S : List State} {W : List (List Item)} {H : List (List Event)} (h : SysB B P S W H) : (∀ x ∈ P, x.length ≤ B) ∧ (∀ x ∈ S, x.regs.length ≤ B ∧ x.out.length ≤ B) ∧ (∀ x ∈ W, x.length ≤ B) ∧ ∀ x ∈ H, x.length ≤ B := by
  refine ⟨fun x hx => ?_, fun x hx => ?_, fun x hx => ?_, fun x hx => ?_⟩
  · obtain ⟨j, hj, rfl⟩ := mem_rd hx; exact h.pp j hj
  · obtain ⟨j, hj, rfl⟩ := mem_rd hx; exact h.ss j hj
  · obtain ⟨j, hj, rfl⟩ := mem_rd hx; exact h.ww j hj
  · obtain ⟨j, hj, rfl⟩ := mem_rd hx; exact h.hh j hj
theorem SysB.mk' {B : Nat} {P : List (List Ins)} {S : List State} {W : List (List Item)} {H : List (List Event)} (h1 : (P.length ≤ B ∧ S.length ≤ B) ∧ W.length ≤ B ∧ H.length ≤ B) (h2 : (∀ x ∈ P, x.length ≤ B) ∧ (∀ x ∈ S, x.regs.length ≤ B ∧ x.out.length ≤ B) ∧ (∀ x ∈ W, x.length ≤ B) ∧ ∀ x ∈ H, x.length ≤ B) : SysB B P S W H :=
  ⟨h1.1.1, fun _ hj => h2.1 _ (rd_mem hj), h1.1.2, fun _ hj => h2.2.1 _ (rd_mem hj), h1.2.1, fun _ hj => h2.2.2.1 _ (rd_mem hj), h1.2.2, fun _ hj => h2.2.2.2 _ (rd_mem hj)⟩
theorem all_set {α : Type} {l : List α} {i : Nat} {y : α} {p : α → Prop} (h : ∀ x ∈ l, p x) (hy : p y) : ∀ x ∈ l.set i y, p x := by
  intro x hx
  rcases List.mem_or_eq_of_mem_set hx with h1 | h1
  · exact h x h1
  · rw [h1]; exact hy
theorem dsys_mk {b : List Int} {P : List (List Ins)} {S : List State} {W : List (List Item)} {H : List (List Event)} {i h : Int} {n0 n1 n2 n3 : Nat} (hB : SysB 2000000 P S W H) (e0 : P.length = n0) (e1 : S.length = n1) (e2 : W.length = n2) (e3 : H.length = n3) (h0 : 0 ≤ i) (h1 : i ≤ b.length) :
    DSys b (SysB 2000000) [none] ⟨.ag [.h 2000000 1 0 [] 1 0 n0, .h 2000001 1 0 [] 4 0 n1, .h 2000002 1 0 [] 1 0 n2, .h 2000003 1 0 [] 1 0 n3], [tInsSS9 P, tStateS9 S, tItemSS9 W, tEventSS9 H], [none, some (tCur b i h), none]⟩ := by
  subst e0 e1 e2 e3
  exact ⟨P, S, W, H, i, h, hB, h0, h1, rfl⟩
set_option maxRecDepth 20000 in
set_option maxHeartbeats 8000000 in
theorem ok_spec_l6Draw (k : Nat) (b : List Int) (i h : Int) (hb : Bytes b) (h0 : 0 ≤ i := by assumption) (h1 : i ≤ b.length := by assumption) :
    Told (callE PR C (k + 12) 138 [.pt 1000001 0 0 [] 0 0, .h 1000002 0 0 [] 1 0 b.length] [tB b, tCur b i h, tB b]) (DSys b (SysB 2000000) [none]) := by
  have hbl := hb.len
  (refine callE_w [ResultVar.cell 4 36] rfl Tryz.func138 rfl (by decide +kernel) rfl (by simp) ?_; (conv => whnf))
  repeat' ((with_reducible (first | refine sCall.dsys (ok_spec_l6DrawRight _ _ _ _ hb) (fun _ _ _ _ _ _ _ _ _ => ?_)|refine st19 ?_|refine fG.split (fun _ => ?_) (fun _ => ?_)|refine fG.bool (fun _ => ?_) (fun _ => ?_)|refine gD 9 [(1, 9), (4, 9), (7, 9), (1, 11), (4, 11), (7, 11), (1, 13), (4, 13), (7, 13), (1, 15), (4, 15), (7, 15), (1, 16)] ?_|refine gD 12 [(1, 9), (4, 9), (7, 9), (1, 11), (4, 11), (7, 11), (1, 13), (4, 13), (7, 13), (1, 14)] ?_|refine gD 16 [(1, 4)] ?_|refine gD 19 [(1, 4), (4, 6), (4, 9), (1, 10)] ?_)) <;> (try (conv => whnf)))
  rename_i P S W H i1 h1' hR a1 a2
  have hB := hR.B
  have q1 := fun k => ok_spec_l1Max k (P.length : Int) 1
  by_cases c0 : P.length = 0
  · rw [if_neg (by omega)] at q1
    repeat' ((with_reducible (first | refine sCall.of (q1 _) ?_|refine sCall.cur (ok_Below _ _ _ _ _ hb) (fun _ _ _ _ _ _ _ => ?_)|refine st19 ?_|refine fG.split (fun _ => ?_) (fun _ => ?_)|refine fG.bool (fun _ => ?_) (fun _ => ?_)|refine gD 9 [(1, 9), (4, 9), (7, 9), (1, 11), (4, 11), (7, 11), (1, 13), (4, 13), (7, 13), (1, 15), (4, 15), (7, 15), (1, 16)] ?_|refine gD 12 [(1, 9), (4, 9), (7, 9), (1, 11), (4, 11), (7, 11), (1, 13), (4, 13), (7, 13), (1, 14)] ?_|refine gD 16 [(1, 4)] ?_|refine gD 19 [(1, 4), (4, 6), (4, 9), (1, 10)] ?_)) <;> (try (conv => whnf)))
    exact ⟨_, _, _, _, _, _, hB.mono (by decide), by assumption, by assumption, rfl⟩
  · have hs : sysOk P S W H = true := by
      rcases hR with h | ⟨⟨rfl, rfl⟩, rfl, rfl⟩
      · exact h
      · exact absurd rfl c0
    obtain ⟨hI, _, _, _⟩ := sysOk_facts hs
    have hN := hI.n
    have hsl := hI.s
    have hhl := hI.h
    have hwl : 1 ≤ W.length ∧ W.length ≤ 16 := by
      rw [hI.w]
      have := Nat.mul_le_mul hN.2 hN.2
      have := Nat.mul_le_mul hN.1 hN.1
      omega
    have hn : (if (1 : Int) < (P.length : Int) then (P.length : Int) else 1) = (P.length : Int) := by split <;> omega
    rw [hn] at q1
    have qb := fun k => ok_Below k b i1 h1' (P.length : Int) hb
    repeat' ((with_reducible (first | refine sCall.of (q1 _) ?_|refine sCall.cur (qb _) (fun _ _ _ _ _ _ _ => ?_)|refine st19 ?_|refine fG.split (fun _ => ?_) (fun _ => ?_)|refine fG.bool (fun _ => ?_) (fun _ => ?_)|refine gD 9 [(1, 9), (4, 9), (7, 9), (1, 11), (4, 11), (7, 11), (1, 13), (4, 13), (7, 13), (1, 15), (4, 15), (7, 15), (1, 16)] ?_|refine gD 12 [(1, 9), (4, 9), (7, 9), (1, 11), (4, 11), (7, 11), (1, 13), (4, 13), (7, 13), (1, 14)] ?_|refine gD 16 [(1, 4)] ?_|refine gD 19 [(1, 4), (4, 6), (4, 9), (1, 10)] ?_)) <;> (try (conv => whnf)))
    rename_i x i2 h2 x0 x1 e1 e2
    obtain ⟨p, rfl⟩ : ∃ n : Nat, x = (n : Int) := ⟨x.toNat, by omega⟩
    have hpP : p < P.length := by omega
    have f1 := (procF_of hs hpP).ok.regs
    have f2 := hB.hh p (by omega)
    have f3 : ∀ w : Int, 0 ≤ w → w ≤ (W.length : Int) - 1 → (rd W w.toNat).length ≤ 1048576 := fun w h0 h1 => hB.ww w.toNat (by omega)
    have qc := fun k => ok_Below k b i2 h2 25 hb
    have hM := hB.mono (show 1048576 ≤ 2000000 by decide)
    obtain ⟨m1, m2, m3, m4⟩ := hM.all
    repeat' ((with_reducible (first | refine sCall.cur (qc _) (fun _ _ _ _ _ _ _ => ?_)|refine st19 ?_|refine fG.split (fun _ => ?_) (fun _ => ?_)|refine fG.bool (fun _ => ?_) (fun _ => ?_)|refine gD 9 [(1, 9), (4, 9), (7, 9), (1, 11), (4, 11), (7, 11), (1, 13), (4, 13), (7, 13), (1, 15), (4, 15), (7, 15), (1, 16)] ?_|refine gD 12 [(1, 9), (4, 9), (7, 9), (1, 11), (4, 11), (7, 11), (1, 13), (4, 13), (7, 13), (1, 14)] ?_|refine gD 16 [(1, 4)] ?_|refine gD 19 [(1, 4), (4, 6), (4, 9), (1, 10)] ?_)) <;> (try (conv => whnf)))
    · exact dsys_mk (S := S.set p ⟨(rd S p).at_, (rd S p).regs.set 1 5, (rd S p).out, (rd S p).code⟩) (SysB.mk' ⟨⟨hM.p, by simp; exact hM.s⟩, hM.w, hM.h⟩ ⟨m1, all_set m2 (by have := m2 _ (rd_mem (l := S) (n := p) (by omega)); simpa using this), m3, m4⟩) rfl (by simp) rfl rfl (by assumption) (by assumption)
    · repeat' ((with_reducible (first | refine sCall.cur (ok_Below _ _ _ _ _ hb) (fun _ _ _ _ _ _ _ => ?_)|refine gHole ?_|refine st19 ?_|refine fG.split (fun _ => ?_) (fun _ => ?_)|refine fG.bool (fun _ => ?_) (fun _ => ?_)|refine gD 9 [(1, 9), (4, 9), (7, 9), (1, 11), (4, 11), (7, 11), (1, 13), (4, 13), (7, 13), (1, 15), (4, 15), (7, 15), (1, 16)] ?_|refine gD 12 [(1, 9), (4, 9), (7, 9), (1, 11), (4, 11), (7, 11), (1, 13), (4, 13), (7, 13), (1, 14)] ?_|refine gD 16 [(1, 4)] ?_|refine gD 19 [(1, 4), (4, 6), (4, 9), (1, 10)] ?_)) <;> (try (conv => whnf)))
      exact dsys_mk (SysB.mk' ⟨⟨hM.p, hM.s⟩, hM.w, by simp; exact hM.h⟩ ⟨m1, m2, m3, all_set m4 (by simp; omega)⟩) rfl rfl rfl (by simp) (by assumption) (by assumption)
    · repeat' ((with_reducible (first | refine sCall.cur (ok_Below _ _ _ _ _ hb) (fun _ _ _ _ _ _ _ => ?_)|refine st19 ?_|refine fG.split (fun _ => ?_) (fun _ => ?_)|refine fG.bool (fun _ => ?_) (fun _ => ?_)|refine gD 9 [(1, 9), (4, 9), (7, 9), (1, 11), (4, 11), (7, 11), (1, 13), (4, 13), (7, 13), (1, 15), (4, 15), (7, 15), (1, 16)] ?_|refine gD 12 [(1, 9), (4, 9), (7, 9), (1, 11), (4, 11), (7, 11), (1, 13), (4, 13), (7, 13), (1, 14)] ?_|refine gD 16 [(1, 4)] ?_|refine gD 19 [(1, 4), (4, 6), (4, 9), (1, 10)] ?_)) <;> (try (conv => whnf)))
      rename_i w i4 h4 w0 w1 e3 e4
      have f4 := f3 w w0 w1
      repeat' ((with_reducible (first | refine sCall.cur (ok_Below _ _ _ _ _ hb) (fun _ _ _ _ _ _ _ => ?_)|refine sCall.curB (ok_spec_l1Once _ _ _ _ _ hb) (fun _ _ _ _ _ => ?_)|refine gHole ?_|refine st19 ?_|refine fG.split (fun _ => ?_) (fun _ => ?_)|refine fG.bool (fun _ => ?_) (fun _ => ?_)|refine gD 9 [(1, 9), (4, 9), (7, 9), (1, 11), (4, 11), (7, 11), (1, 13), (4, 13), (7, 13), (1, 15), (4, 15), (7, 15), (1, 16)] ?_|refine gD 12 [(1, 9), (4, 9), (7, 9), (1, 11), (4, 11), (7, 11), (1, 13), (4, 13), (7, 13), (1, 14)] ?_|refine gD 16 [(1, 4)] ?_|refine gD 19 [(1, 4), (4, 6), (4, 9), (1, 10)] ?_)) <;> (try (conv => whnf)))
      exact dsys_mk (SysB.mk' ⟨⟨hM.p, hM.s⟩, by simp; omega, hM.h⟩ ⟨m1, m2, all_set m3 (by simp; omega), m4⟩) rfl rfl (by simp) rfl (by assumption) (by assumption)
    · exact dsys_mk (SysB.mk' ⟨⟨hM.p, hM.s⟩, by simp; omega, hM.h⟩ ⟨m1, m2, fun x hx => m3 x (List.mem_of_mem_drop (List.mem_of_mem_take hx)), m4⟩) rfl rfl (by simp) rfl (by assumption) (by assumption)
    · repeat' ((with_reducible (first | refine sCall.prog (ok_spec_l1DrawAny _ _ _ _ hb) (fun _ _ _ _ _ _ _ => ?_)|refine st19 ?_|refine fG.split (fun _ => ?_) (fun _ => ?_)|refine fG.bool (fun _ => ?_) (fun _ => ?_)|refine gD 9 [(1, 9), (4, 9), (7, 9), (1, 11), (4, 11), (7, 11), (1, 13), (4, 13), (7, 13), (1, 15), (4, 15), (7, 15), (1, 16)] ?_|refine gD 12 [(1, 9), (4, 9), (7, 9), (1, 11), (4, 11), (7, 11), (1, 13), (4, 13), (7, 13), (1, 14)] ?_|refine gD 16 [(1, 4)] ?_|refine gD 19 [(1, 4), (4, 6), (4, 9), (1, 10)] ?_)) <;> (try (conv => whnf)))
      exact dsys_mk (SysB.mk' ⟨⟨by simp; omega, hM.s⟩, hM.w, hM.h⟩ ⟨all_set m1 (by omega), m2, m3, m4⟩) (by simp) rfl rfl rfl (by assumption) (by assumption)
    · repeat' ((with_reducible (first | refine sCall.cur (ok_Below _ _ _ _ _ hb) (fun _ _ _ _ _ _ _ => ?_)|refine st19 ?_|refine fG.split (fun _ => ?_) (fun _ => ?_)|refine fG.bool (fun _ => ?_) (fun _ => ?_)|refine gD 9 [(1, 9), (4, 9), (7, 9), (1, 11), (4, 11), (7, 11), (1, 13), (4, 13), (7, 13), (1, 15), (4, 15), (7, 15), (1, 16)] ?_|refine gD 12 [(1, 9), (4, 9), (7, 9), (1, 11), (4, 11), (7, 11), (1, 13), (4, 13), (7, 13), (1, 14)] ?_|refine gD 16 [(1, 4)] ?_|refine gD 19 [(1, 4), (4, 6), (4, 9), (1, 10)] ?_)) <;> (try (conv => whnf)))
      rename_i w i4 h4 w0 w1 e3 e4
      have f4 := f3 w w0 w1
      repeat' ((with_reducible (first | refine gHole ?_|refine st19 ?_|refine fG.split (fun _ => ?_) (fun _ => ?_)|refine fG.bool (fun _ => ?_) (fun _ => ?_)|refine gD 9 [(1, 9), (4, 9), (7, 9), (1, 11), (4, 11), (7, 11), (1, 13), (4, 13), (7, 13), (1, 15), (4, 15), (7, 15), (1, 16)] ?_|refine gD 12 [(1, 9), (4, 9), (7, 9), (1, 11), (4, 11), (7, 11), (1, 13), (4, 13), (7, 13), (1, 14)] ?_|refine gD 16 [(1, 4)] ?_|refine gD 19 [(1, 4), (4, 6), (4, 9), (1, 10)] ?_)) <;> (try (conv => whnf)))
      exact dsys_mk (SysB.mk' ⟨⟨hM.p, hM.s⟩, by simp; omega, hM.h⟩ ⟨m1, m2, all_set m3 (by simp; omega), m4⟩) rfl rfl (by simp) rfl (by assumption) (by assumption)
    · exact dsys_mk hM rfl rfl rfl rfl (by assumption) (by assumption)

def DSys2 (r : Res) : Prop := ∃ (P : List (List Ins)) (S : List State) (W : List (List Item)) (H : List (List Event)) (p k : Int), SysB 2000000 P S W H ∧ r = ⟨.tu [nSys 0 P S W H, i64 p, i64 k], [tInsSS9 P, tStateS9 S, tItemSS9 W, tEventSS9 H], [none]⟩
def DSys1 (r : Res) : Prop := ∃ (P : List (List Ins)) (S : List State) (W : List (List Item)) (H : List (List Event)) (p : Int), SysB 2000000 P S W H ∧ r = ⟨.tu [nSys 0 P S W H, i64 p], [tInsSS9 P, tStateS9 S, tItemSS9 W, tEventSS9 H], [none]⟩
def DSys0 (r : Res) : Prop := ∃ (P : List (List Ins)) (S : List State) (W : List (List Item)) (H : List (List Event)), SysB 2000000 P S W H ∧ r = ⟨nSys 0 P S W H, [tInsSS9 P, tStateS9 S, tItemSS9 W, tEventSS9 H], [none]⟩
def DSysStop (r : Res) : Prop := ∃ (P : List (List Ins)) (S : List State) (W : List (List Item)) (H : List (List Event)) (p kind v : Int), SysB 2000000 P S W H ∧ r = ⟨.tu [nSys 0 P S W H, aStop p kind v], [tInsSS9 P, tStateS9 S, tItemSS9 W, tEventSS9 H], [none]⟩
def DStop (b : List Int) (r : Res) : Prop := ∃ p kind v i h : Int, 0 ≤ i ∧ i ≤ b.length ∧ r = ⟨aStop p kind v, [], [none, some (tCur b i h), none, none, none, none]⟩
theorem sCall.stop {x : Option Res} {b : List Int} {F : Res → Prop} (e : Told x (DStop b)) (h : ∀ p kind v i h : Int, 0 ≤ i → i ≤ b.length → F ⟨aStop p kind v, [], [none, some (tCur b i h), none, none, none, none]⟩) : sCall x F :=
  sCall.ex e fun r hr => by obtain ⟨p, kind, v, i, h', h1, h2, rfl⟩ := hr; exact h p kind v i h' h1 h2
end Go.Proofs.YtldndahfnkbngaaGreat.Abs
namespace Go.Proofs.YtldndahfnkbngaaGreat.Abs
open Go Go.Proofs
set_option linter.unusedVariables false
set_option linter.unusedSimpArgs false
attribute [local irreducible] callE
theorem ok_laws_sameInts (k : Nat) (r s : List Int) (hr : r.length ≤ 100000000000) (hs : s.length ≤ 100000000000) : callE PR C (k + 1) 37 [.h 1000000 0 0 [] 1 0 r.length, .h 1000001 0 0 [] 1 0 s.length] [tI r, tI s] = some ⟨bl (decide (r = s)), [], [none, none]⟩ := by
  by_cases h : r.length = s.length
  · (refine fnI [ResultVar.tmp 4] Tryz.func37 ?_; conv => whnf)
    repeat' ((with_reducible (first | refine st19 ?_|refine fG.split (fun _ => ?_) (fun _ => ?_)|refine fG.bool (fun _ => ?_) (fun _ => ?_)|refine gDn 6 ?_)) <;> (try (conv => whnf)))
    refine loop_rule (ι := Nat) (fun j => [(0, .h 1000000 0 0 [] 1 0 r.length), (1, .h 1000001 0 0 [] 1 0 s.length), (5, i64 (j : Nat))])
      (fun x => [(1000000, ⟨0, 0, false, tI r⟩), (1000001, ⟨0, 0, false, tI s⟩)])
      (fun j => r.length - j) (fun j => j ≤ r.length ∧ r.take j = s.take j) 0 fitOk ⟨Nat.zero_le _, rfl⟩ (by simp [C]; omega) ?_
    rintro j sl ob ⟨hj, ht⟩
    (try dsimp only [cond_true, cond_false])
    (conv => whnf)
    by_cases hjl : j < r.length
    · by_cases e : rd r j = rd s j
      · repeat' ((with_reducible (first | refine st19 ?_|refine fG.split (fun _ => ?_) (fun _ => ?_)|refine fG.bool (fun _ => ?_) (fun _ => ?_)|refine gDn 6 ?_)) <;> (try (conv => whnf)))
        refine ⟨⟨j + 1, fitOk, ?_, ?_⟩⟩
        · exact ⟨by show j + 1 ≤ _; omega, take_next hjl (by omega) ht e⟩
        · show r.length - (j + 1) < r.length - j; omega
      · rw [decide_eq_false (fun hh : r = s => e (by rw [hh]))]
        repeat' ((with_reducible (first | refine st19 ?_|refine fG.split (fun _ => ?_) (fun _ => ?_)|refine fG.bool (fun _ => ?_) (fun _ => ?_)|refine gDn 6 ?_)) <;> (try (conv => whnf)))
    · have hjj : j = r.length := by omega
      rw [decide_eq_true (take_all_eq h (by rw [← hjj]; exact ht))]
      repeat' ((with_reducible (first | refine st19 ?_|refine fG.split (fun _ => ?_) (fun _ => ?_)|refine fG.bool (fun _ => ?_) (fun _ => ?_)|refine gDn 6 ?_)) <;> (try (conv => whnf)))
  · rw [decide_eq_false (fun hh : r = s => h (by rw [hh]))]
    (refine fnI [ResultVar.tmp 4] Tryz.func37 ?_; conv => whnf)
    repeat' ((with_reducible (first | refine st19 ?_|refine fG.split (fun _ => ?_) (fun _ => ?_)|refine fG.bool (fun _ => ?_) (fun _ => ?_)|refine gDn 6 ?_)) <;> (try (conv => whnf)))
theorem ok_laws_sameState (k : Nat) (a : Int) (r o : List Int) (c a2 : Int) (r2 o2 : List Int) (c2 : Int) (h1 : r.length ≤ 100000000000) (h2 : o.length ≤ 100000000000) (h3 : r2.length ≤ 100000000000) (h4 : o2.length ≤ 100000000000) :
    callE PR C (k + 2) 128 [aState 0 a r o c, aState 2 a2 r2 o2 c2] [tI r, tI o, tI r2, tI o2] = some ⟨bl (sameS a r o c a2 r2 o2 c2), [], [none, none, none, none]⟩ := by
  rw [sameS_eq]
  (refine fnI [ResultVar.tmp 4] Tryz.func128 ?_; conv => whnf)
  repeat' ((with_reducible (first | refine sCall.of (ok_laws_sameInts _ _ _ h1 h3) ?_|refine sCall.of (ok_laws_sameInts _ _ _ h2 h4) ?_|refine st19 ?_|refine fG.split (fun _ => ?_) (fun _ => ?_)|refine fG.bool (fun _ => ?_) (fun _ => ?_))) <;> (try (conv => whnf)))
  all_goals (simp [*]; done)
theorem ok_laws_big (k : Nat) (b : List Int) : callE PR C (k + 1) 34 [.h 1000000 0 0 [] 1 0 b.length] [tB b] = some ⟨bl (decide (1048576 < (b.length : Int))), [], [none]⟩ := by
  (refine fnI [ResultVar.tmp 2] Tryz.func34 ?_; conv => whnf)
  repeat' ((with_reducible (first | refine st19 ?_|refine fG.split (fun _ => ?_) (fun _ => ?_)|refine fG.bool (fun _ => ?_) (fun _ => ?_))) <;> (try (conv => whnf)))
  all_goals (try simp [*]; done)

theorem ok_laws_sameEvents (k : Nat) (l : List Event) (hl : l.length ≤ 100000000000) : callE PR C (k + 1) 127 [.h 1000000 0 0 [] 3 0 l.length, .h 1000001 0 0 [] 3 0 l.length] [tEvent l, tEvent l] = some ⟨bl true, [], [none, none]⟩ := by
  (refine fnI [ResultVar.tmp 4] Tryz.func127 ?_; conv => whnf)
  repeat' ((with_reducible (first | refine st19 ?_|refine fG.split (fun _ => ?_) (fun _ => ?_)|refine fG.bool (fun _ => ?_) (fun _ => ?_)|refine gDn 6 ?_)) <;> (try (conv => whnf)))
  refine loop_rule (ι := Nat) (fun j => [(0, .h 1000000 0 0 [] 3 0 l.length), (1, .h 1000001 0 0 [] 3 0 l.length), (5, i64 (j : Nat))])
    (fun x => [(1000000, ⟨0, 0, false, tEvent l⟩), (1000001, ⟨0, 0, false, tEvent l⟩)])
    (fun j => l.length - j) (fun j => j ≤ l.length) 0 fitOk (Nat.zero_le _) (by simp [C]; omega) ?_
  rintro j sl ob hj
  (try dsimp only [cond_true, cond_false])
  (conv => whnf)
  repeat' ((with_reducible (first | refine st19 ?_|refine fG.split (fun _ => ?_) (fun _ => ?_)|refine fG.bool (fun _ => ?_) (fun _ => ?_)|refine gDn 6 ?_)) <;> (try (conv => whnf)))
  case refine_1.refine_2 =>
    rename_i h
    exact absurd h (by simp)
  case' refine_1.refine_1 =>
    refine ⟨⟨j + 1, fitOk, ?_, ?_⟩⟩
    · show j + 1 ≤ _; omega
    · show l.length - (j + 1) < l.length - j; omega
set_option maxRecDepth 20000 in
theorem ok_laws_sameHist (k : Nat) (P P' : List (List Ins)) (S S' : List State) (W W' : List (List Item)) (H : List (List Event)) (hl : H.length ≤ 100000000000) (hh : ∀ j : Nat, j < H.length → (rd H j).length ≤ 100000000000) :
    callE PR C (k + 2) 44 [aSys 0 P S W H, aSys 4 P' S' W' H] [tInsSS P, tStateS S, tItemSS W, tEventSS H, tInsSS P', tStateS S', tItemSS W', tEventSS H] = some ⟨bl true, [], [none, none, none, none, none, none, none, none]⟩ := by
  (refine fnI [ResultVar.tmp 4] Tryz.func44 ?_; conv => whnf)
  repeat' ((with_reducible (first | refine st19 ?_|refine fG.split (fun _ => ?_) (fun _ => ?_)|refine fG.bool (fun _ => ?_) (fun _ => ?_)|refine gDn 6 ?_)) <;> (try (conv => whnf)))
  refine loop_rule (ι := Nat) (fun j => [(2, .pt 2 1 0 [] 0 0), (3, .pt 3 1 0 [] 0 0), (5, i64 (j : Nat))])
    (fun x => [(1000003, ⟨0, 0, false, tEventSS H⟩), (1000007, ⟨0, 0, false, tEventSS H⟩), (2, ⟨1, 0, false, bSys P S W H⟩), (3, ⟨1, 0, false, .box [.h 1000004 0 0 [] 1 0 P'.length, .h 1000005 0 0 [] 4 0 S'.length, .h 1000006 0 0 [] 1 0 W'.length, .h 1000007 0 0 [] 1 0 H.length]⟩)])
    (fun j => H.length - j) (fun j => j ≤ H.length) 0 fitOk (Nat.zero_le _) (by simp [C]; omega) ?_
  rintro j sl ob hj
  by_cases hjl : j < H.length
  · have q1 := fun k => ok_laws_sameEvents k (rd H j) (hh j hjl)
    (try dsimp only [cond_true, cond_false])
    (conv => whnf)
    repeat' ((with_reducible (first | refine sCall.of (q1 _) ?_|refine st19 ?_|refine fG.split (fun _ => ?_) (fun _ => ?_)|refine fG.bool (fun _ => ?_) (fun _ => ?_)|refine gDn 6 ?_)) <;> (try (conv => whnf)))
    refine ⟨⟨j + 1, fitOk, ?_, ?_⟩⟩
    · show j + 1 ≤ _; omega
    · show H.length - (j + 1) < H.length - j; omega
  · (try dsimp only [cond_true, cond_false])
    (conv => whnf)
    repeat' ((with_reducible (first | refine st19 ?_|refine fG.split (fun _ => ?_) (fun _ => ?_)|refine fG.bool (fun _ => ?_) (fun _ => ?_)|refine gDn 6 ?_)) <;> (try (conv => whnf)))
theorem sameS_self (a : Int) (r o : List Int) (c : Int) : sameS a r o c a r o c = true := decide_eq_true rfl
set_option maxRecDepth 20000 in
theorem ok_laws_sameStates (k : Nat) (P P' : List (List Ins)) (S : List State) (W W' : List (List Item)) (H H' : List (List Event)) (hl : S.length ≤ 100000000000) (hh : ∀ j : Nat, j < S.length → (rd S j).regs.length ≤ 100000000000 ∧ (rd S j).out.length ≤ 100000000000) :
    callE PR C (k + 3) 45 [aSys 0 P S W H, aSys 4 P' S W' H'] [tInsSS P, tStateS S, tItemSS W, tEventSS H, tInsSS P', tStateS S, tItemSS W', tEventSS H'] = some ⟨bl true, [], [none, none, none, none, none, none, none, none]⟩ := by
  (refine fnI [ResultVar.tmp 4] Tryz.func45 ?_; conv => whnf)
  repeat' ((with_reducible (first | refine st19 ?_|refine fG.split (fun _ => ?_) (fun _ => ?_)|refine fG.bool (fun _ => ?_) (fun _ => ?_)|refine gDn 6 ?_)) <;> (try (conv => whnf)))
  refine loop_rule (ι := Nat) (fun j => [(2, .pt 2 1 0 [] 0 0), (3, .pt 3 1 0 [] 0 0), (5, i64 (j : Nat))])
    (fun x => [(1000001, ⟨0, 0, false, tStateS S⟩), (1000005, ⟨0, 0, false, tStateS S⟩), (2, ⟨1, 0, false, bSys P S W H⟩), (3, ⟨1, 0, false, .box [.h 1000004 0 0 [] 1 0 P'.length, .h 1000005 0 0 [] 4 0 S.length, .h 1000006 0 0 [] 1 0 W'.length, .h 1000007 0 0 [] 1 0 H'.length]⟩)])
    (fun j => S.length - j) (fun j => j ≤ S.length) 0 fitOk (Nat.zero_le _) (by simp [C]; omega) ?_
  rintro j sl ob hj
  by_cases hjl : j < S.length
  · have hx := hh j hjl
    have q1 := fun k => ok_laws_sameState k (rd S j).at_ (rd S j).regs (rd S j).out (rd S j).code (rd S j).at_ (rd S j).regs (rd S j).out (rd S j).code hx.1 hx.2 hx.1 hx.2
    rw [sameS_self] at q1
    (try dsimp only [cond_true, cond_false])
    (conv => whnf)
    repeat' ((with_reducible (first | refine sCall.of (q1 _) ?_|refine st19 ?_|refine fG.split (fun _ => ?_) (fun _ => ?_)|refine fG.bool (fun _ => ?_) (fun _ => ?_)|refine gDn 6 ?_)) <;> (try (conv => whnf)))
    refine ⟨⟨j + 1, fitOk, ?_, ?_⟩⟩
    · show j + 1 ≤ _; omega
    · show S.length - (j + 1) < S.length - j; omega
  · (try dsimp only [cond_true, cond_false])
    (conv => whnf)
    repeat' ((with_reducible (first | refine st19 ?_|refine fG.split (fun _ => ?_) (fun _ => ?_)|refine fG.bool (fun _ => ?_) (fun _ => ?_)|refine gDn 6 ?_)) <;> (try (conv => whnf)))

theorem rdH_ext {G H : List (List Event)} (hl : G.length = H.length) (h : ∀ q, q < G.length → rd G q = rd H q) : G = H := by
  apply List.ext_getElem hl
  intro i h1 h2
  have := h i h1
  simpa [rd, h1, h2] using this
theorem rdS_ext {G H : List State} (hl : G.length = H.length) (h : ∀ q, q < G.length → rd G q = rd H q) : G = H := by
  apply List.ext_getElem hl
  intro i h1 h2
  have := h i h1
  simpa [rd, h1, h2] using this
theorem stsOf_self {P : List (List Ins)} {S : List State} {W : List (List Item)} {H : List (List Event)} (h : sysOk P S W H = true) : stsOf P H = S := by
  have hI := (sysOk_facts h).1
  simp only [sysOk, Bool.and_eq_true, allBelow_eq] at h
  have h2 := h.2.2.1
  refine rdS_ext (by rw [stsOf_len, hI.s]) fun q hq => ?_
  rw [stsOf_len] at hq
  rw [stsOf_rd hq]
  have h3 := h2 q hq
  simp only [procOk, stoodAs, Bool.and_eq_true, decide_eq_true_eq] at h3
  exact h3.2.2.2
theorem left_numbers {P : List (List Ins)} {S : List State} {W : List (List Item)} {H : List (List Event)} (h : sysOk P S W H = true) {a b : Nat} (ha : a < P.length) (hb : b < P.length) : leftOf H a b = numbersOf (rd W (a * P.length + b)) := by
  simp only [sysOk, Bool.and_eq_true, allBelow_eq] at h
  have h3 := h.2.2.2.1 a ha b hb
  simp only [fits, decide_eq_true_eq] at h3
  unfold leftOf
  rw [← h3, List.drop_left]
theorem Reach.whole {H : List (List Event)} {f : List Int} {n : Nat} (h : Reach H f n) (hP : PeersIn H) : wholeB H f = true := by
  rw [wholeB_eq]
  induction h with
  | zero => intro a b ha hb; simp only [tookC, rd_zero, Int.toNat_zero, List.take_zero]; simp [cnt, vals]
  | @step f n p h hp hc ih =>
    intro a b ha hb
    have hf := h.fok
    have hlt := can_lt hf hp hc
    have h0 := (hf.rng p hp).1
    have h1 := ih a b ha hb
    have hs : sentC H f a b ≤ sentC H (goOn f p) a b := by
      unfold sentC
      apply cnt_take
      rw [rd_goOn (by rw [hf.len]; exact hp)]
      split
      · rename_i e; subst e; omega
      · exact Nat.le_refl _
    by_cases hbp : b = p
    · subst hbp
      have ht : tookC H (goOn f b) a b = tookC H f a b + (if isEv 3 a (rd (rd H b) (rd f b).toNat) = true then 1 else 0) := by
        unfold tookC
        rw [rd_goOn (by rw [hf.len]; exact hp), if_pos rfl, show (rd f b + 1).toNat = (rd f b).toNat + 1 by omega]
        simp only [cnt]
        rw [vals_snoc _ _ _ (by omega)]
        split <;> simp
      by_cases he : isEv 3 a (rd (rd H b) (rd f b).toNat) = true
      · rw [if_pos he] at ht
        simp only [isEv, Bool.and_eq_true, decide_eq_true_eq] at he
        simp only [canCome, Bool.and_eq_true, Bool.not_eq_true', Bool.and_eq_false_iff, decide_eq_true_eq, decide_eq_false_iff_not] at hc
        rcases hc.2 with h4 | h4
        · exact absurd he.1 h4
        · rw [he.2, Int.toNat_natCast] at h4
          unfold tookC at ht h1
          unfold sentC at hs h1
          unfold tookC sentC
          omega
      · rw [if_neg he] at ht
        omega
    · have ht : tookC H (goOn f p) a b = tookC H f a b := by
        unfold tookC
        rw [rd_goOn (by rw [hf.len]; exact hp), if_neg hbp]
      omega
theorem cut_len {H : List (List Event)} {c : List Int} (hc : FOk H c) {q : Nat} (hq : q < H.length) : ((rd (cutH H c) q).length : Int) = rd c q := by
  have := hc.rng q hq
  rw [rd_cutH hq, List.length_take]
  omega
theorem replay_next {l : List Ins} {es : List Event} (h : (replayAll l es).isSome = true) {n : Nat} (hn : n < es.length) : (stOf (replayAll l (es.take n))).code = 0 ∧ comes (rd es n) (next l (stOf (replayAll l (es.take n)))) = true := by
  have h1 := (replay_take h n).1
  have h2 := (replay_take h (n + 1)).1
  rw [take_rd hn, replay_append, h1] at h2
  simp only [Option.bind_some, replay] at h2
  split at h2
  · rename_i hc; exact hc
  · cases h2
theorem rd_vals_take {es : List Event} {x y : Int} {m c : Nat} (h : c < (vals (es.take m) x y).length) : rd (vals (es.take m) x y) c = rd (vals es x y) c := by
  rw [vals_of_take es x y m, rd_take h]
theorem rd_append_left {α : Type} [Inhabited α] {l m : List α} {i : Nat} (h : i < l.length) : rd (l ++ m) i = rd l i := by
  simp only [rd, List.getD_eq_getElem?_getD]
  rw [List.getElem?_append_left h]
theorem rd_snoc_end {α : Type} [Inhabited α] (l : List α) (x : α) : rd (l ++ [x]) l.length = x := by simp [rd]
theorem coming_can {P : List (List Ins)} {S XS : List State} {W XW : List (List Item)} {H : List (List Event)} {g : List Int} {p : Nat} (hs : sysOk P S W H = true) (hX : sysOk P XS XW (cutH H g) = true) (hg : FOk H g) (hp : p < H.length) (hc : canCome H g p = true) :
    ((comingIs P XS XW (cutH H g) p (rd (rd H p) (rd g p).toNat).peer).2 = 0 ∧ (comingIs P XS XW (cutH H g) p (rd (rd H p) (rd g p).toNat).peer).1 = rd (rd H p) (rd g p).toNat) ∨ (comingIs P XS XW (cutH H g) p (rd (rd H p) (rd g p).toNat).peer).2 = 4 ∨ (comingIs P XS XW (cutH H g) p (rd (rd H p) (rd g p).toNat).peer).2 = 5 := by
  obtain ⟨hI, hP, hS, h200⟩ := sysOk_facts hs
  have hlt := can_lt hg hp hc
  have h0 := (hg.rng p hp).1
  have hpP : p < P.length := by rw [← hI.h]; exact hp
  have hrep : (replayAll (rd P p) (rd H p)).isSome = true := by
    have h := hs
    simp only [sysOk, Bool.and_eq_true, allBelow_eq] at h
    have h1 := h.2.2.1 p hpP
    simp only [procOk, stoodAs, Bool.and_eq_true] at h1
    exact h1.2.2.1
  have hst : rd XS p = stOf (replayAll (rd P p) ((rd H p).take (rd g p).toNat)) := by
    rw [← stsOf_self hX, stsOf_rd hpP, rd_cutH hp]
  obtain ⟨k0, k1⟩ := replay_next hrep (n := (rd g p).toNat) (by omega)
  have hlen := h200 p hp
  rw [← hst] at k0 k1
  have hn9 : ((rd (cutH H g) p).length : Int) = rd g p := cut_len hg hp
  unfold comingIs
  rw [if_pos (by omega), Int.toNat_natCast, if_pos k0, if_neg (by rw [hn9]; omega)]
  have hk := @next_kind (rd P p) (rd XS p)
  generalize he : rd (rd H p) (rd g p).toNat = e at *
  by_cases c2 : (wantsOf P XS p).kind = 2
  · rw [if_pos c2]
    split
    · right; left; rfl
    · left
      refine ⟨rfl, ?_⟩
      rw [comes_other (by show ¬ (wantsOf P XS p).kind = 3; omega)] at k1
      simp only [Bool.and_eq_true, decide_eq_true_eq, Bool.and_true] at k1
      obtain ⟨e1, e2, e3⟩ := k1
      obtain ⟨a, b, c⟩ := e
      simp only at e1 e2 e3
      rw [e1, e2, e3]
      rfl
  · rw [if_neg c2]
    by_cases c3 : (wantsOf P XS p).kind = 3
    · rw [if_pos c3]
      have h7 : (rd (rd P p) (rd XS p).at_.toNat).op = 7 ∧ next (rd P p) (rd XS p) = ⟨3, (rd (rd P p) (rd XS p).at_.toNat).n, 0⟩ := by
        rcases hk with hk | hk | hk
        · exact absurd hk.1 c2
        · exact hk.2
        · exact absurd c3 hk.2
      rw [h7.2, comes_take] at k1
      obtain ⟨e1, e2, e3⟩ := k1
      have ha : askedOf (insAt P XS p) e.peer = e.peer := by
        unfold askedOf insAt
        split
        · rfl
        · rename_i h9
          rcases e3 with h | h
          · exact h.1.symm
          · exact absurd h.1 h9
      rw [ha]
      have hpe := hP p hp (rd g p).toNat (by omega) (by rw [he]; exact e1)
      rw [he] at hpe
      have hcc := hc
      simp only [canCome, Bool.and_eq_true, Bool.not_eq_true', Bool.and_eq_false_iff, decide_eq_true_eq, decide_eq_false_iff_not] at hcc
      rw [he] at hcc
      have hcn := hcc.2.resolve_left (fun h => h e1)
      obtain ⟨z, hz⟩ : ∃ z : Nat, e.peer = (z : Int) := ⟨e.peer.toNat, by omega⟩
      rw [hz, Int.toNat_natCast] at hcn
      rw [hz, Int.toNat_natCast]
      have hzH : z < H.length := by omega
      have hzP : z < P.length := by rw [← hI.h]; exact hzH
      have hL := left_numbers hX hzP hpP
      unfold leftOf at hL
      rw [rd_cutH hzH, rd_cutH hp] at hL
      have hne : 0 < (numbersOf (rd XW (z * P.length + p))).length := by
        rw [← hL, List.length_drop]
        unfold cnt at hcn
        omega
      have hne2 : 0 < (rd XW (z * P.length + p)).length := by
        have h3 : (numbersOf (rd XW (z * P.length + p))).length ≤ (rd XW (z * P.length + p)).length := by
          unfold numbersOf
          rw [List.length_map]
          exact List.length_filter_le _ _
        omega
      have hsrc : srcIs P.length XW p (z : Int) = if (rd (rd XW (z * P.length + p)) 0).mark = true then (0, 5) else ((z : Int), 0) := by
        unfold srcIs
        rw [if_pos (by omega), Int.toNat_natCast, if_neg (by omega)]
      rw [hsrc]
      cases hm : (rd (rd XW (z * P.length + p)) 0).mark with
      | true => right; right; rfl
      | false =>
        left
        refine ⟨rfl, ?_⟩
        have hd := numbers_drop hne2 hm
        rw [hd] at hL
        have f1 : rd (vals ((rd H z).take (rd g z).toNat) 2 p) (vals ((rd H p).take (rd g p).toNat) 3 z).length = (rd (rd XW (z * P.length + p)) 0).v := by
          have := congrArg (fun l => rd l 0) hL
          simp only [rd_drop] at this
          rw [Nat.add_zero] at this
          rw [this]
          rfl
        rw [rd_vals_take (by unfold cnt at hcn; omega)] at f1
        have f2 : isEv 3 z e = true := by simp [isEv, e1, hz]
        have f3 := vals_snoc (rd H p) 3 z (j := (rd g p).toNat) (by omega)
        rw [he, if_pos f2] at f3
        have f4 : rd (vals (rd H p) 3 z) (vals ((rd H p).take (rd g p).toNat) 3 z).length = e.v := by
          rw [← rd_vals_take (m := (rd g p).toNat + 1) (by rw [f3]; simp), f3, rd_snoc_end]
        have f5 : vals (rd H p) 3 z ++ numbersOf (rd W (z * P.length + p)) = vals (rd H z) 2 p := by
          have h := hs
          simp only [sysOk, Bool.and_eq_true, allBelow_eq] at h
          have h3 := h.2.2.2.1 z hzP p hpP
          simpa only [fits, decide_eq_true_eq] using h3
        have f6 : (vals ((rd H p).take (rd g p).toNat) 3 z).length < (vals (rd H p) 3 z).length := by
          have h1 : ((vals ((rd H p).take ((rd g p).toNat + 1)) 3 z)).length ≤ (vals (rd H p) 3 z).length := cnt_take_le (rd H p) 3 z _
          rw [f3, List.length_append, List.length_singleton] at h1
          omega
        rw [← f5, rd_append_left f6, f4] at f1
        obtain ⟨a, b, c⟩ := e
        simp only at e1 hz f1
        rw [e1, hz, f1]; simp
    · rw [if_neg c3]
      left
      refine ⟨rfl, ?_⟩
      rw [comes_other (by show ¬ (wantsOf P XS p).kind = 3; exact c3)] at k1
      simp only [Bool.and_eq_true, decide_eq_true_eq, Bool.and_true] at k1
      obtain ⟨e1, e2, e3⟩ := k1
      obtain ⟨a, b, c⟩ := e
      simp only at e1 e2 e3
      rw [e1, e2, e3]
      rfl
theorem cutH_goOn {H : List (List Event)} {g : List Int} {p : Nat} (hg : FOk H g) (hp : p < H.length) (hc : canCome H g p = true) : (cutH H g).set p (rd (cutH H g) p ++ [rd (rd H p) (rd g p).toNat]) = cutH H (goOn g p) := by
  have hlt := can_lt hg hp hc
  have h0 := (hg.rng p hp).1
  refine rdH_ext (by simp only [List.length_set, cutH_len]) fun q hq => ?_
  rw [List.length_set, cutH_len] at hq
  rw [rd_put _ (by rw [cutH_len]; exact hp), rd_cutH (c := goOn g p) hq, rd_goOn (by rw [hg.len]; exact hp)]
  split
  · rename_i e; subst e
    rw [rd_cutH hq, show (rd g q + 1).toNat = (rd g q).toNat + 1 by omega, take_rd (by omega)]
  · rw [rd_cutH hq]
structure AtCut (P : List (List Ins)) (H : List (List Event)) (g : List Int) (X : Sys) : Prop where
  ok : sysOk X.progs X.states X.ways X.hist = true
  p : X.progs = P
  h : X.hist = cutH H g
theorem atCut_step {P : List (List Ins)} {S : List State} {W : List (List Item)} {H : List (List Event)} {g : List Int} {X : Sys} {p : Nat} (hs : sysOk P S W H = true) (hX : AtCut P H g X) (hg : FOk H g) (hp : p < H.length) (hc : canCome H g p = true) :
    ((stepX X ⟨p, (rd (rd H p) (rd g p).toNat).peer⟩).2 = 0 ∧ AtCut P H (goOn g p) (stepX X ⟨p, (rd (rd H p) (rd g p).toNat).peer⟩).1) ∨ (stepX X ⟨p, (rd (rd H p) (rd g p).toNat).peer⟩).2 = 4 ∨ (stepX X ⟨p, (rd (rd H p) (rd g p).toNat).peer⟩).2 = 5 := by
  obtain ⟨XP, XS, XW, XH⟩ := X
  obtain ⟨h1, h2, h3⟩ := hX
  dsimp only at h1 h2 h3
  subst h2 h3
  have hk := stepIs_sysOk (p := (p : Int)) (peer := (rd (rd H p) (rd g p).toNat).peer) h1
  have := coming_can hs h1 hg hp hc
  unfold stepX
  dsimp only
  unfold stepIs at hk ⊢
  rcases this with ⟨a, b⟩ | a | a
  · left
    rw [if_pos a] at hk ⊢
    refine ⟨rfl, hk, rfl, ?_⟩
    rw [b, Int.toNat_natCast]
    exact cutH_goOn hg hp hc
  · right; left
    rw [if_neg (by rw [a]; decide)]
    exact a
  · right; right
    rw [if_neg (by rw [a]; decide)]
    exact a
theorem atCut_full {P : List (List Ins)} {S : List State} {W : List (List Item)} {H : List (List Event)} {X : Sys} (hs : sysOk P S W H = true) {g : List Int} (hX : AtCut P H g X) (hg : ∀ q, q < H.length → rd g q = ((rd H q).length : Int)) :
    X.hist = H ∧ X.states = S ∧ ∀ i, i < W.length → numbersOf (rd X.ways i) = numbersOf (rd W i) := by
  obtain ⟨XP, XS, XW, XH⟩ := X
  obtain ⟨h1, h2, h3⟩ := hX
  dsimp only at h1 h2 h3 ⊢
  have e : cutH H g = H := by
    refine rdH_ext (cutH_len _ _) fun q hq => ?_
    rw [cutH_len] at hq
    rw [rd_cutH hq, hg q hq, Int.toNat_natCast, List.take_length]
  rw [e] at h3
  subst h2 h3
  refine ⟨rfl, by rw [← stsOf_self h1, stsOf_self hs], fun i hi => ?_⟩
  have hI := (sysOk_facts hs).1
  have hn := hI.n
  rw [hI.w] at hi
  have ha : i / XP.length < XP.length := Nat.div_lt_of_lt_mul hi
  have hb : i % XP.length < XP.length := Nat.mod_lt _ (by omega)
  have h4 := left_numbers h1 ha hb
  have h5 := left_numbers hs ha hb
  rw [show i / XP.length * XP.length + i % XP.length = i by rw [Nat.mul_comm]; exact Nat.div_add_mod i XP.length] at h4 h5
  rw [← h4, ← h5]
theorem atCut_new {P : List (List Ins)} {S : List State} {W : List (List Item)} {H : List (List Event)} (hs : sysOk P S W H = true) : AtCut P H (List.replicate H.length 0) (newSys P) := by
  refine ⟨new_sysOk hs, rfl, ?_⟩
  have hI := (sysOk_facts hs).1
  refine rdH_ext (by simp [newSys, cutH_len, hI.h]) fun q hq => ?_
  have hq' : q < P.length := by simpa [newSys] using hq
  rw [rd_cutH (by rw [hI.h]; exact hq'), rd_zero]
  simp only [newSys]
  rw [rd_rep _ hq']
  rfl
theorem redo_cut {P : List (List Ins)} {S : List State} {W : List (List Item)} {H : List (List Event)} (hs : sysOk P S W H = true) : ∀ (l : List Who) {X : Sys} {f : List Int}, AtCut P H f X → FOk H f → rowGo H l f = true → (redoGo H l X).2 = true → ∃ g, AtCut P H g (redoGo H l X).1 ∧ FOk H g ∧ g.sum = f.sum + l.length
  | [], X, f, h, hf, _, _ => ⟨f, h, hf, by simp⟩
  | w :: r, X, f, h, hf, hr, h2 => by
    simp only [rowGo, Bool.and_eq_true, whoOk, inB, decide_eq_true_eq] at hr
    obtain ⟨⟨h3, h4, h5⟩, h6⟩ := hr
    have hp : w.p.toNat < H.length := by omega
    have h7 := atCut_step hs h hf hp h5
    have e1 : stepX X ⟨(w.p.toNat : Nat), (rd (rd H w.p.toNat) (rd f w.p.toNat).toNat).peer⟩ = redoX H X w := by
      unfold redoX stepX
      rw [h4, show ((w.p.toNat : Nat) : Int) = w.p by omega]
    rw [e1] at h7
    rw [redoGo] at h2 ⊢
    by_cases c : (redoX H X w).2 = 0
    · rw [if_pos c] at h2 ⊢
      have h8 : AtCut P H (goOn f w.p.toNat) (redoX H X w).1 := by
        rcases h7 with h7 | h7 | h7
        · exact h7.2
        · omega
        · omega
      obtain ⟨g, g1, g2, g3⟩ := redo_cut hs r h8 (fok_goOn hf hp h5) h6 h2
      refine ⟨g, g1, g2, ?_⟩
      rw [g3, goOn, sum_set _ _ (by rw [hf.len]; exact hp), List.length_cons]
      omega
    · rw [if_neg c] at h2
      cases h2
theorem redo_same {P : List (List Ins)} {S : List State} {W : List (List Item)} {H : List (List Event)} {l : List Who} (h : (redoIs P S W H l).2 = true) :
    sysOk P S W H = true ∧ sysOk (redoIs P S W H l).1.progs (redoIs P S W H l).1.states (redoIs P S W H l).1.ways (redoIs P S W H l).1.hist = true ∧ (redoIs P S W H l).1.hist = H ∧ (redoIs P S W H l).1.states = S ∧ ∀ i, i < W.length → numbersOf (rd (redoIs P S W H l).1.ways i) = numbersOf (rd W i) := by
  unfold redoIs at h ⊢
  by_cases c : rowOkB P S W H l = true
  · rw [if_pos c] at h ⊢
    simp only [rowOkB, Bool.and_eq_true, decide_eq_true_eq] at c
    obtain ⟨hs, hl, hr⟩ := c
    obtain ⟨g, g1, g2, g3⟩ := redo_cut hs l (atCut_new hs) (fok_zero H) hr h
    have e0 : (List.replicate H.length (0 : Int)).sum = 0 := by simp
    have hall := (sum_le H g g2.len fun q hq => (g2.rng q hq).2).2 (by rw [g3, e0, hl]; omega)
    exact ⟨hs, g1.ok, atCut_full hs g1 hall⟩
  · rw [if_neg c] at h
    cases h
theorem allEv_few : ∀ (H : List (List Event)), (∀ q, q < H.length → (rd H q).length ≤ 200) → allEv H ≤ 200 * H.length
  | [], _ => by simp [allEv]
  | h :: H, hh => by
    have h1 := allEv_few H fun q hq => hh (q + 1) (by simp; omega)
    have h0 := hh 0 (by simp)
    have e0 : rd (h :: H) 0 = h := rfl
    rw [e0] at h0
    simp only [allEv, List.map_cons, List.sum_cons, List.length_cons] at h1 ⊢
    omega

end Go.Proofs.YtldndahfnkbngaaGreat.Abs
namespace Go.Proofs.YtldndahfnkbngaaGreat.Abs
open Go Go.Proofs
set_option linter.unusedVariables false
set_option linter.unusedSimpArgs false
attribute [local irreducible] callE
end Go.Proofs.YtldndahfnkbngaaGreat.Abs
namespace Go.Proofs.YtldndahfnkbngaaGreat.Abs
open Go Go.Proofs
set_option linter.unusedVariables false
set_option linter.unusedSimpArgs false
attribute [local irreducible] callE
def DAt (r : Res) : Prop := ∃ n : Int, 0 ≤ n ∧ n < 256 ∧ r = ⟨i64 n, [], [none]⟩
theorem sCall.at_ {x : Option Res} {F : Res → Prop} (e : Told x DAt) (h : ∀ n : Int, 0 ≤ n → n < 256 → F ⟨i64 n, [], [none]⟩) : sCall x F :=
  sCall.ex e fun r hr => by obtain ⟨n, h1, h2, rfl⟩ := hr; exact h n h1 h2
structure BOS where
  j : Nat
  o0 : Ob
  o1 : Ob
  o2 : Ob
  o3 : Ob
  o4 : Ob
end Go.Proofs.YtldndahfnkbngaaGreat.Abs
