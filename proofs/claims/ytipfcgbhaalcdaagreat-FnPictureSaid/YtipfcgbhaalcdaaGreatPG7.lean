/- FnPicture returns true for every input, and leaves its arguments as they read. Conditions: none beside the row's own. -/
import Derived.ChangeSame
import Derived.SizedLaws
import Derived.DataReads
import Derived.Carry
import Derived.WideShapes
import Derived.KernelRfl
import Derived.Test.YtipfcgbhaalcdaaGreatRows
import Derived.WalkKit
import Derived.ProofKit
import Derived.OpenShut
import Derived.ShutString
import Derived.ChangeOld
import Derived.Below
import Derived.Test.YtipfcgbhaalcdaaGreatPG6
set_option maxRecDepth 20000
set_option maxHeartbeats 16000000
namespace Go.Proofs.YtipfcgbhaalcdaaGreat.Abs
open Go Go.Proofs
set_option linter.unusedVariables false
set_option linter.unusedSimpArgs false
attribute [local irreducible] callE
structure Chan (ca cb : Int) (o : Bool) (kp : List Int) (w : List Item) (T TC SC : List Int) : Prop where
 a0 : ca < 0 → (∀ x ∈ w, x.mark = false) ∧ (0 ≤ cb → o = true)
 a1 : 0 ≤ ca → (∃ X Y, w = X ++ ⟨true, 0⟩ :: Y ∧ (∀ x ∈ X, x.mark = false) ∧ (∀ x ∈ Y, x.mark = false) ∧ T ++ numbersOf X = SC ∧ (0 ≤ cb → o = true)) ∨ ((∀ x ∈ w, x.mark = false) ∧ 0 ≤ cb ∧ o = false ∧ TC ++ kp = SC)
 op : o = true → 0 ≤ cb ∧ TC ++ kp = T
theorem chan_take {ca cb : Int} {o : Bool} {kp : List Int} {w : List Item} {T TC SC : List Int} {v : Int} (h : Chan ca cb o kp (⟨false, v⟩ :: w) T TC SC) : Chan ca cb o (if o = true then kp ++ [v] else kp) w (T ++ [v]) TC SC := by
 refine ⟨fun hc => ?_, fun hc => ?_, fun ho => ?_⟩
 ·obtain ⟨h1, h2⟩ := h.a0 hc
  exact ⟨fun x hx => h1 x (List.mem_cons_of_mem _ hx), h2⟩
 ·rcases h.a1 hc with ⟨X, Y, h1, h2, h3, h4, h5⟩ | ⟨h1, h2, h3, h4⟩
  ·left
   cases X with
   | nil => simp at h1
   | cons x X =>
    rw [List.cons_append, List.cons.injEq] at h1
    obtain ⟨rfl, rfl⟩ := h1
    refine ⟨X, Y, rfl, fun x hx => h2 x (List.mem_cons_of_mem _ hx), h3, ?_, h5⟩
    rw [← h4]
    simp [numbersOf]
  ·right
   refine ⟨fun x hx => h1 x (List.mem_cons_of_mem _ hx), h2, h3, ?_⟩
   rw [h3, if_neg (by simp)]
   exact h4
 ·obtain ⟨h1, h2⟩ := h.op ho
  refine ⟨h1, ?_⟩
  rw [if_pos ho, ← List.append_assoc, h2]
theorem chan_send {ca cb : Int} {o : Bool} {kp : List Int} {w : List Item} {T TC SC : List Int} {v : Int} (h : Chan ca cb o kp w T TC SC) : Chan ca cb o kp (w ++ [⟨false, v⟩]) T TC SC := by
 have hm : ∀ w : List Item, (∀ x ∈ w, x.mark = false) → ∀ x ∈ w ++ [⟨false, v⟩], x.mark = false := fun w h x hx => by
  rcases List.mem_append.1 hx with h1 | h1
  ·exact h x h1
  ·simp at h1; rw [h1]
 refine ⟨fun hc => ⟨hm _ (h.a0 hc).1, (h.a0 hc).2⟩, fun hc => ?_, h.op⟩
 rcases h.a1 hc with ⟨X, Y, h1, h2, h3, h4, h5⟩ | ⟨h1, h2⟩
 ·left
  exact ⟨X, Y ++ [⟨false, v⟩], by rw [h1]; simp, h2, hm _ h3, h4, h5⟩
 ·right
  exact ⟨hm _ h1, h2⟩
theorem chan_drawA {ca cb cb' l : Int} {o o' : Bool} {kp : List Int} {w : List Item} {T TC TC' SC S : List Int} (h : Chan ca cb o kp w T TC SC) (hc : ca < 0) (hS : T ++ numbersOf w = S) (hl : 0 ≤ l) (ho : 0 ≤ cb' → o' = true) (hop : o' = true → 0 ≤ cb' ∧ TC' ++ kp = T) : Chan l cb' o' kp (w ++ [⟨true, 0⟩]) T TC' S :=
 ⟨fun h2 => by omega, fun _ => .inl ⟨w, [], rfl, (h.a0 hc).1, by simp, hS, ho⟩, hop⟩
theorem chan_drawB {ca cb l : Int} {o : Bool} {w : List Item} {T TC SC : List Int} (h : Chan ca cb o [] w T TC SC) (hc : cb < 0) (hl : 0 ≤ l) : Chan ca l true [] w T T SC := by
 refine ⟨fun h2 => ⟨(h.a0 h2).1, fun _ => rfl⟩, fun h2 => ?_, fun _ => ⟨hl, List.append_nil _⟩⟩
 rcases h.a1 h2 with ⟨X, Y, h3, h4, h5, h6, _⟩ | ⟨_, h4, _⟩
 ·exact .inl ⟨X, Y, h3, h4, h5, h6, fun _ => rfl⟩
 ·omega
theorem chan_head {ca cb : Int} {o : Bool} {kp : List Int} {w : List Item} {T TC SC : List Int} {x : Item} (h : Chan ca cb o kp (x :: w) T TC SC) (hx : x.mark = true) : 0 ≤ ca ∧ (∀ y ∈ w, y.mark = false) ∧ T = SC ∧ (0 ≤ cb → o = true) := by
 have hca : 0 ≤ ca := by
  apply Decidable.byContradiction
  intro hn
  have := (h.a0 (by omega)).1 x (List.mem_cons_self ..)
  rw [hx] at this; cases this
 refine ⟨hca, ?_⟩
 rcases h.a1 hca with ⟨X, Y, h1, h2, h3, h4, h5⟩ | ⟨h1, _⟩
 ·cases X with
  | nil =>
   rw [List.nil_append, List.cons.injEq] at h1
   rw [h1.2]
   exact ⟨h3, by simpa [numbersOf] using h4, h5⟩
  | cons y X =>
   rw [List.cons_append, List.cons.injEq] at h1
   have := h2 y (List.mem_cons_self ..)
   rw [← h1.1, hx] at this; cases this
 ·have := h1 x (List.mem_cons_self ..)
  rw [hx] at this; cases this
theorem chan_shut {ca cb : Int} {o : Bool} {kp : List Int} {w : List Item} {T TC SC : List Int} {x : Item} (h : Chan ca cb o kp (x :: w) T TC SC) (hx : x.mark = true) (hb : 0 ≤ cb) : Chan ca cb false kp w T TC SC := by
 obtain ⟨h1, h2, h3, h4⟩ := chan_head h hx
 refine ⟨fun h5 => by omega, fun _ => .inr ⟨h2, hb, rfl, ?_⟩, fun h5 => by cases h5⟩
 rw [(h.op (h4 hb)).2, h3]
def Pict (n : Nat) (W : List (List Item)) (H : List (List Event)) (cut : List Int) (opn : List Bool) (kept : List (List Int)) : Prop :=
 ∀ a b, a < n → b < n → Chan (rd cut a) (rd cut b) (rd opn (a * n + b)) (rd kept (a * n + b)) (rd W (a * n + b)) (vals (rd H b) 3 a) (vals ((rd H b).take (rd cut b).toNat) 3 a) (vals ((rd H a).take (rd cut a).toNat) 2 b)
theorem index_ne {n a b a' b' : Nat} (hb : b < n) (hb' : b' < n) (h : ¬ (a = a' ∧ b = b')) : ¬ a * n + b = a' * n + b' := fun e => by
 have h1 := place_div (n := n) (a := a) hb
 have h2 := place_div (n := n) (a := a') hb'
 rw [e] at h1
 exact h ⟨by rw [← h1.1, h2.1], by rw [← h1.2, h2.2]⟩
theorem pict_done {n : Nat} {W : List (List Item)} {H : List (List Event)} {cut : List Int} {opn : List Bool} {kept : List (List Int)} (h : Pict n W H cut opn kept) (hn : H.length = n) (hc : ∀ p, p < n → 0 ≤ rd cut p) (ho : ∀ a b, a < n → b < n → rd opn (a * n + b) = false) :
  wholeB H cut = true ∧ ∀ a b, a < n → b < n → leftOf (cutH H cut) a b = rd kept (a * n + b) := by
 have hk : ∀ a b, a < n → b < n → vals ((rd H b).take (rd cut b).toNat) 3 a ++ rd kept (a * n + b) = vals ((rd H a).take (rd cut a).toNat) 2 b := fun a b ha hb => by
  rcases (h a b ha hb).a1 (hc a ha) with ⟨_, _, _, _, _, _, h6⟩ | ⟨_, _, _, h4⟩
  ·have := h6 (hc b hb)
   rw [ho a b ha hb] at this; cases this
  ·exact h4
 refine ⟨?_, fun a b ha hb => ?_⟩
 ·rw [wholeB_eq]
  intro a b ha hb
  have h1 := congrArg List.length (hk a b (by omega) (by omega))
  rw [List.length_append] at h1
  simp only [tookC, sentC, cnt]
  omega
 ·unfold leftOf
  rw [rd_cutH (by omega), rd_cutH (by omega), ← hk a b ha hb, List.drop_left]

theorem bool_of_iff {a : Bool} (h : a = true → False) : a = false := by cases a with
 | false => rfl
 | true => exact (h rfl).elim
theorem pict_begin {P : List (List Ins)} {S : List State} {W : List (List Item)} {H : List (List Event)} {on : Bool} {cut : List Int} {opn : List Bool} {kept : List (List Int)} {p : Nat} (h : LiveF P S W H on cut opn kept) (hP : Pict P.length W H cut opn kept) (hp : p < P.length) (hc : rd cut p < 0) :
  Pict P.length (drawW P.length p W P.length) H (cut.set p ((rd H p).length : Int)) (drawO P.length p opn P.length) kept := by
 have hI := (sysOk_facts h.ok).1
 have hcl : p < cut.length := by rw [h.c]; exact hp
 have hin : ∀ j, j < P.length → p * P.length + j < W.length := fun j hj => by rw [hI.w]; exact place_lt hp hj
 have hio : ∀ j, j < P.length → j * P.length + p < opn.length := fun j hj => by rw [h.o]; exact place_lt hj hp
 have hk0 : ∀ a, a < P.length → rd kept (a * P.length + p) = [] := fun a ha => List.eq_nil_of_length_eq_zero (h.cut2 p hp hc a ha).2
 have hW : ∀ a b, a < P.length → b < P.length → rd (drawW P.length p W P.length) (a * P.length + b) = if a = p then rd W (a * P.length + b) ++ [⟨true, 0⟩] else rd W (a * P.length + b) := fun a b ha hb => by
  rw [drawW_at _ hin]
  by_cases e : a = p
  ·subst e; rw [if_pos rfl, if_pos (by omega)]
  ·rw [if_neg e, if_neg]
   intro hh
   have h1 := place_div (n := P.length) (a := a) hb
   have h2 := place_div (n := P.length) (a := p) (b := a * P.length + b - p * P.length) (by omega)
   rw [show p * P.length + (a * P.length + b - p * P.length) = a * P.length + b by omega] at h2
   exact e (by rw [← h1.1, h2.1])
 have hO1 : ∀ a, a < P.length → rd (drawO P.length p opn P.length) (a * P.length + p) = true := fun a ha => (drawO_at _ hio).2 (.inl ⟨a, ha, rfl⟩)
 have hO2 : ∀ a b, a < P.length → b < P.length → b ≠ p → rd (drawO P.length p opn P.length) (a * P.length + b) = rd opn (a * P.length + b) := fun a b ha hb hne => by
  rw [Bool.eq_iff_iff, drawO_at _ hio]
  constructor
  ·rintro (⟨j, hj, e⟩ | h1)
   ·have h1 := place_div (n := P.length) (a := a) hb
    have h2 := place_div (n := P.length) (a := j) hp
    rw [e] at h1
    exact absurd (h1.2.symm.trans h2.2) hne
   ·exact h1
  ·exact .inr
 have hfit : ∀ a b, a < P.length → b < P.length → vals (rd H b) 3 a ++ numbersOf (rd W (a * P.length + b)) = vals (rd H a) 2 b := fun a b ha hb => by
  have h0 := h.ok
  simp only [sysOk, Bool.and_eq_true, allBelow_eq] at h0
  have := h0.2.2.2.1 a ha b hb
  simpa only [fits, decide_eq_true_eq] using this
 have htk : ∀ q, (rd H q).take ((rd H q).length : Int).toNat = rd H q := fun q => by rw [Int.toNat_natCast, List.take_length]
 intro a b ha hb
 have h0 := hP a b ha hb
 rw [hW a b ha hb, rd_set _ hcl, rd_set _ hcl]
 by_cases ea : a = p
 ·subst ea
  rw [if_pos rfl, if_pos rfl, htk]
  by_cases eb : b = a
  ·subst eb
   rw [if_pos rfl, hO1 b hb, htk, hk0 b hb]
   rw [hk0 b hb] at h0
   refine chan_drawA h0 hc (hfit b b hb hb) (by omega) (fun _ => rfl) (fun _ => ⟨by omega, List.append_nil _⟩)
  ·rw [if_neg eb, hO2 a b ha hb eb]
   exact chan_drawA h0 hc (hfit a b ha hb) (by omega) (h0.a0 hc).2 h0.op
 ·rw [if_neg ea, if_neg ea]
  by_cases eb : b = p
  ·subst eb
   rw [if_pos rfl, hO1 a ha, htk, hk0 a ha]
   rw [hk0 a ha] at h0
   exact chan_drawB h0 hc (by omega)
  ·rw [if_neg eb, hO2 a b ha hb eb]
   exact h0
theorem pict_shut {n : Nat} {W : List (List Item)} {H : List (List Event)} {cut : List Int} {opn : List Bool} {kept : List (List Int)} {a b : Nat} (hP : Pict n W H cut opn kept) (ha : a < n) (hb : b < n) (hw : W.length = n * n) (ho : opn.length = n * n) (hl : 0 < (rd W (a * n + b)).length) (hm : (rd (rd W (a * n + b)) 0).mark = true) (hc : 0 ≤ rd cut b) :
  Pict n (takenW W (a * n + b)) H cut (opn.set (a * n + b) false) kept := by
 have hpl := place_lt ha hb
 intro x y hx hy
 have h0 := hP x y hx hy
 unfold takenW
 rw [rd_put _ (by omega), rd_put _ (by omega)]
 by_cases e : x = a ∧ y = b
 ·obtain ⟨rfl, rfl⟩ := e
  rw [if_pos rfl, if_pos rfl]
  generalize rd W (x * n + y) = w at *
  cases w with
  | nil => simp at hl
  | cons z w => exact chan_shut h0 hm hc
 ·rw [if_neg (index_ne hy hb e), if_neg (index_ne hy hb e)]
  exact h0
theorem draw_taken {n a b : Nat} {W : List (List Item)} (ha : a < n) (hb : b < n) (hne : a ≠ b) (hw : W.length = n * n) : drawW n b (takenW W (a * n + b)) n = takenW (drawW n b W n) (a * n + b) := by
 have hpl := place_lt ha hb
 have hin : ∀ j, j < n → b * n + j < W.length := fun j hj => by rw [hw]; exact place_lt hb hj
 have hno : ¬ (b * n ≤ a * n + b ∧ a * n + b < b * n + n) := fun hh => by
  have h1 := place_div (n := n) (a := a) hb
  have h2 := place_div (n := n) (a := b) (b := a * n + b - b * n) (by omega)
  rw [show b * n + (a * n + b - b * n) = a * n + b by omega] at h2
  exact hne (h1.1.symm.trans h2.1)
 have hlt : (takenW W (a * n + b)).length = W.length := by simp [takenW]
 refine rd_extG (by simp [takenW, drawW_len]) fun i hi => ?_
 rw [drawW_at i (by intro j hj; rw [hlt]; exact hin j hj)]
 unfold takenW
 rw [rd_put _ (by omega), rd_put _ (by rw [drawW_len]; omega), drawW_at _ hin, drawW_at i hin]
 by_cases e : i = a * n + b
 ·subst e
  rw [if_neg hno, if_pos rfl, if_pos rfl, if_neg hno]
 ·rw [if_neg e, if_neg e]
theorem pict_first {P : List (List Ins)} {S : List State} {W : List (List Item)} {H : List (List Event)} {on : Bool} {cut : List Int} {opn : List Bool} {kept : List (List Int)} {a b : Nat} (h : LiveF P S W H on cut opn kept) (hP : Pict P.length W H cut opn kept) (ha : a < P.length) (hb : b < P.length) (hl : 0 < (rd W (a * P.length + b)).length) (hm : (rd (rd W (a * P.length + b)) 0).mark = true) (hc : rd cut b < 0) :
  Pict P.length (drawW P.length b (takenW W (a * P.length + b)) P.length) H (cut.set b ((rd H b).length : Int)) ((drawO P.length b opn P.length).set (a * P.length + b) false) kept := by
 have hI := (sysOk_facts h.ok).1
 have hcl : b < cut.length := by rw [h.c]; exact hb
 have hin : ∀ j, j < P.length → b * P.length + j < W.length := fun j hj => by rw [hI.w]; exact place_lt hb hj
 have hne : a ≠ b := by
  rintro rfl
  have h0 := hP a a ha ha
  generalize rd W (a * P.length + a) = w at *
  cases w with
  | nil => simp at hl
  | cons z w => have := (chan_head h0 hm).1; omega
 rw [draw_taken ha hb hne hI.w]
 have h1 := pict_begin h hP hb hc
 have hd : rd (drawW P.length b W P.length) (a * P.length + b) = rd W (a * P.length + b) := by
  rw [drawW_at _ hin, if_neg]
  intro hh
  have h1 := place_div (n := P.length) (a := a) hb
  have h2 := place_div (n := P.length) (a := b) (b := a * P.length + b - b * P.length) (by omega)
  rw [show b * P.length + (a * P.length + b - b * P.length) = a * P.length + b by omega] at h2
  exact hne (h1.1.symm.trans h2.1)
 exact pict_shut h1 ha hb (by rw [drawW_len, hI.w]) (by rw [drawO_len, h.o]) (by rw [hd]; exact hl) (by rw [hd]; exact hm) (by rw [rd_set _ hcl, if_pos rfl]; omega)
theorem vals_app1 (es : List Event) (e : Event) (x y : Int) : vals (es ++ [e]) x y = vals es x y ++ (if isEv x y e = true then [e.v] else []) := by
 unfold vals
 rw [List.filter_append, List.map_append]
 by_cases h : isEv x y e = true <;> simp [h]
theorem pict_step {P : List (List Ins)} {S : List State} {W : List (List Item)} {H : List (List Event)} {on : Bool} {cut : List Int} {opn : List Bool} {kept : List (List Int)} {p : Nat} {e : Event} (h : LiveF P S W H on cut opn kept) (hP : Pict P.length W H cut opn kept) (hc : ComesAt P S W H p e) :
  Pict P.length (stepW P.length W p e) (H.set p (rd H p ++ [e])) cut opn (keptBy P.length opn kept p e) := by
 have hI := (sysOk_facts h.ok).1
 have hp := hc.lt
 have hpH : p < H.length := by rw [hI.h]; exact hp
 have hcu : ∀ q, q < P.length → (rd (H.set p (rd H p ++ [e])) q).take (rd cut q).toNat = (rd H q).take (rd cut q).toNat := fun q hq => by
  have h1 := h.cut1 q hq
  rw [rd_put _ hpH]
  split
  ·rename_i e2; subst e2
   rw [List.take_append_of_le_length (by omega)]
  ·rfl
 intro a b ha hb
 have h0 := hP a b ha hb
 have hpl := place_lt ha hb
 rw [hcu a ha, hcu b hb]
 have hT : vals (rd (H.set p (rd H p ++ [e])) b) 3 a = if b = p ∧ e.kind = 3 ∧ e.peer.toNat = a then vals (rd H b) 3 a ++ [e.v] else vals (rd H b) 3 a := by
  rw [rd_put _ hpH]
  by_cases eb : b = p
  ·subst eb
   rw [if_pos rfl, vals_app1]
   by_cases e3 : e.kind = 3
   ·have ht := (hc.take e3).1
    by_cases e4 : e.peer.toNat = a
    ·rw [if_pos (by simp only [isEv, Bool.and_eq_true, decide_eq_true_eq]; omega), if_pos ⟨rfl, e3, e4⟩]
    ·rw [if_neg (by simp only [isEv, Bool.and_eq_true, decide_eq_true_eq]; omega), if_neg (fun hh => e4 hh.2.2), List.append_nil]
   ·rw [if_neg (by simp only [isEv, Bool.and_eq_true, decide_eq_true_eq]; omega), if_neg (fun hh => e3 hh.2.1), List.append_nil]
  ·rw [if_neg eb, if_neg (fun hh => eb hh.1)]
 rw [hT]
 by_cases e2 : e.kind = 2
 ·have hs := (hc.send e2).1
  have hps := place_lt hp hs.2
  have k1 : rd (keptBy P.length opn kept p e) (a * P.length + b) = rd kept (a * P.length + b) := by unfold keptBy; rw [if_neg (by omega)]
  rw [k1, if_neg (by omega)]
  by_cases e5 : a = p ∧ b = e.peer.toNat
  ·obtain ⟨rfl, rfl⟩ := e5
   have w1 : rd (stepW P.length W a e) (a * P.length + e.peer.toNat) = rd W (a * P.length + e.peer.toNat) ++ [⟨false, e.v⟩] := by
    unfold stepW
    rw [if_pos e2, rd_put _ (by rw [hI.w]; exact hps), if_pos rfl]
   rw [w1]
   exact chan_send h0
  ·have w1 : rd (stepW P.length W p e) (a * P.length + b) = rd W (a * P.length + b) := by
    unfold stepW
    rw [if_pos e2, rd_put _ (by rw [hI.w]; exact hps), if_neg (index_ne hb hs.2 e5)]
   rw [w1]
   exact h0
 ·by_cases e3 : e.kind = 3
  ·obtain ⟨ht, ht2, ht3, ht4⟩ := hc.take e3
   have hps := place_lt ht.2 hp
   by_cases e5 : a = e.peer.toNat ∧ b = p
   ·obtain ⟨rfl, rfl⟩ := e5
    have w1 : rd (stepW P.length W b e) (e.peer.toNat * P.length + b) = (rd W (e.peer.toNat * P.length + b)).drop 1 := by
     unfold stepW
     rw [if_neg e2, if_pos e3, rd_put _ (by rw [hI.w]; exact hps), if_pos rfl]
    have k1 : rd (keptBy P.length opn kept b e) (e.peer.toNat * P.length + b) = if rd opn (e.peer.toNat * P.length + b) = true then rd kept (e.peer.toNat * P.length + b) ++ [e.v] else rd kept (e.peer.toNat * P.length + b) := by
     unfold keptBy
     by_cases o : rd opn (e.peer.toNat * P.length + b) = true
     ·rw [if_pos ⟨e3, o⟩, if_pos o, rd_put _ (by rw [h.k]; exact hps), if_pos rfl]
     ·rw [if_neg (fun hh => o hh.2), if_neg o]
    rw [w1, k1, if_pos (show b = b ∧ e.kind = 3 ∧ e.peer.toNat = e.peer.toNat from ⟨rfl, e3, rfl⟩)]
    generalize rd W (e.peer.toNat * P.length + b) = w at *
    cases w with
    | nil => simp at ht2
    | cons z w =>
     have hz : z = ⟨false, e.v⟩ := by
      have z1 : z.mark = false := ht3
      have z2 : e.v = z.v := ht4
      obtain ⟨m, v⟩ := z
      dsimp only at z1 z2
      rw [z1, z2]
     subst hz
     exact chan_take h0
   ·have w1 : rd (stepW P.length W p e) (a * P.length + b) = rd W (a * P.length + b) := by
     unfold stepW
     rw [if_neg e2, if_pos e3, rd_put _ (by rw [hI.w]; exact hps), if_neg (index_ne hb hp e5)]
    have k1 : rd (keptBy P.length opn kept p e) (a * P.length + b) = rd kept (a * P.length + b) := by
     unfold keptBy
     split
     ·rw [rd_put _ (by rw [h.k]; exact hps), if_neg (index_ne hb hp e5)]
     ·rfl
    rw [w1, k1, if_neg (fun hh => e5 ⟨hh.2.2.symm, hh.1⟩)]
    exact h0
  ·have w1 : rd (stepW P.length W p e) (a * P.length + b) = rd W (a * P.length + b) := by
    unfold stepW
    rw [if_neg e2, if_neg e3]
   have k1 : rd (keptBy P.length opn kept p e) (a * P.length + b) = rd kept (a * P.length + b) := by
    unfold keptBy
    rw [if_neg (fun hh => e3 hh.1)]
   rw [w1, k1, if_neg (fun hh => e3 hh.2.1)]
   exact h0
theorem pict_new {n : Nat} {W : List (List Item)} {H : List (List Event)} (hm : marksB W = false) : Pict n W H (List.replicate n (-1)) (List.replicate (n * n) false) (List.replicate (n * n) default) := by
 intro a b ha hb
 have hpl := place_lt ha hb
 rw [rd_rep _ ha, rd_rep _ hb, rd_rep _ hpl, rd_rep _ hpl]
 refine ⟨fun _ => ⟨fun x hx => ?_, fun hh => by omega⟩, fun hh => by omega, fun hh => by cases hh⟩
 apply bool_of_iff
 intro hx2
 have hno : ¬ marksB W = true := by rw [hm]; simp
 apply hno
 rw [marksB_iff]
 by_cases hi : a * n + b < W.length
 ·exact ⟨_, rd_mem hi, x, hx, hx2⟩
 ·have : rd W (a * n + b) = [] := by simp only [rd, List.getD_eq_getElem?_getD]; rw [List.getElem?_eq_none (by omega)]; rfl
  rw [this] at hx; cases hx
def LvP (P : List (List Ins)) (S : List State) (W : List (List Item)) (H : List (List Event)) (on : Bool) (cut : List Int) (opn : List Bool) (kept : List (List Int)) : Prop := LiveF P S W H on cut opn kept ∧ Pict P.length W H cut opn kept
theorem beginIs_pict {P : List (List Ins)} {S : List State} {W : List (List Item)} {H : List (List Event)} {on : Bool} {cut : List Int} {opn : List Bool} {kept : List (List Int)} {p : Int} {P' : List (List Ins)} {S' : List State} {W' : List (List Item)} {H' : List (List Event)} {on' : Bool} {cut' : List Int} {opn' : List Bool} {kept' : List (List Int)} (hL : LvP P S W H on cut opn kept)
  (h : beginIs P S W H on cut opn kept p = (⟨⟨P', S', W', H'⟩, on', cut', opn', kept'⟩, 0)) : LvP P' S' W' H' on' cut' opn' kept' := by
 have h0 := begin_yes (by rw [h] : (beginIs P S W H on cut opn kept p).2 = 0)
 rw [h] at h0
 refine ⟨h0.1, ?_⟩
 obtain ⟨hF, hP⟩ := hL
 unfold beginIs at h
 rw [if_pos (liveF_iff.2 hF)] at h
 split at h
 ·rename_i h2
  split at h
  ·exact absurd (congrArg Prod.snd h) (by show ¬ (3 : Int) = 0; decide)
  ·rename_i h3
   split at h
   ·exact absurd (congrArg Prod.snd h) (by show ¬ (5 : Int) = 0; decide)
   ·have hp : p.toNat < P.length := by omega
    have hc : rd cut p.toNat < 0 := by
     apply Decidable.byContradiction
     intro hn
     have := hF.on1
     rw [(drawnB_iff (cut := cut)).2 ⟨p.toNat, by rw [hF.c]; exact hp, by omega⟩] at this
     exact h3 this
    have h5 := pict_begin hF hP hp hc
    cases h
    exact h5
 ·exact absurd (congrArg Prod.snd h) (by show ¬ (2 : Int) = 0; decide)
theorem markIs_pict {P : List (List Ins)} {S : List State} {W : List (List Item)} {H : List (List Event)} {on : Bool} {cut : List Int} {opn : List Bool} {kept : List (List Int)} {a b : Int} {P' : List (List Ins)} {S' : List State} {W' : List (List Item)} {H' : List (List Event)} {on' : Bool} {cut' : List Int} {opn' : List Bool} {kept' : List (List Int)} (hL : LvP P S W H on cut opn kept)
  (h : markIs P S W H on cut opn kept a b = (⟨⟨P', S', W', H'⟩, on', cut', opn', kept'⟩, 0)) : LvP P' S' W' H' on' cut' opn' kept' := by
 have h0 := mark_yes (by rw [h] : (markIs P S W H on cut opn kept a b).2 = 0)
 rw [h] at h0
 refine ⟨h0.1, ?_⟩
 obtain ⟨hF, hP⟩ := hL
 have hI := (sysOk_facts hF.ok).1
 unfold markIs at h
 rw [if_pos (liveF_iff.2 hF)] at h
 split at h
 ·rename_i h2
  split at h
  ·rename_i h3
   split at h
   ·rename_i h4
    split at h
    ·exact absurd (congrArg Prod.snd h) (by show ¬ (5 : Int) = 0; decide)
    ·have h5 := pict_first hF hP (a := a.toNat) (b := b.toNat) (by omega) (by omega) h3.2.1 h3.2.2 h4
     cases h
     exact h5
   ·rename_i h4
    have h5 := pict_shut hP (a := a.toNat) (b := b.toNat) (by omega) (by omega) hI.w hF.o h3.2.1 h3.2.2 (by omega)
    cases h
    exact h5
  ·exact absurd (congrArg Prod.snd h) (by show ¬ (4 : Int) = 0; decide)
 ·exact absurd (congrArg Prod.snd h) (by show ¬ (2 : Int) = 0; decide)
theorem lstepIs_pict {P : List (List Ins)} {S : List State} {W : List (List Item)} {H : List (List Event)} {on : Bool} {cut : List Int} {opn : List Bool} {kept : List (List Int)} {p peer : Int} {P' : List (List Ins)} {S' : List State} {W' : List (List Item)} {H' : List (List Event)} {on' : Bool} {cut' : List Int} {opn' : List Bool} {kept' : List (List Int)} (hL : LvP P S W H on cut opn kept)
  (h : liveStepIs P S W H on cut opn kept p peer = (⟨⟨P', S', W', H'⟩, on', cut', opn', kept'⟩, 0)) : LvP P' S' W' H' on' cut' opn' kept' := by
 have h0 := lstep_yes (by rw [h] : (liveStepIs P S W H on cut opn kept p peer).2 = 0)
 rw [h] at h0
 refine ⟨h0.1, ?_⟩
 obtain ⟨hF, hP⟩ := hL
 unfold liveStepIs at h
 rw [if_pos (liveF_iff.2 hF)] at h
 split at h
 ·rename_i h2
  obtain ⟨_, hc⟩ := coming_comes hF.ok h2
  have h5 := pict_step hF hP hc
  cases h
  exact h5
 ·rename_i h2
  exact absurd (congrArg Prod.snd h) h2
theorem pict_law {P : List (List Ins)} {S : List State} {W : List (List Item)} {H : List (List Event)} {on : Bool} {cut : List Int} {opn : List Bool} {kept : List (List Int)} (hL : LvP P S W H on cut opn kept) (hd : shotDone P S W H on cut opn kept = true) :
  wholeB H cut = true ∧ ((pictureIs P S W H on cut opn kept).2 = false → ∃ i, i < kept.length ∧ 12 < (rd kept i).length) := by
 obtain ⟨hF, hP⟩ := hL
 have hI := (sysOk_facts hF.ok).1
 have hd' := hd
 simp only [shotDone, Bool.and_eq_true, Bool.not_eq_true', List.any_eq_false, decide_eq_true_eq] at hd'
 obtain ⟨h1, h2, h3, h4⟩ := hd'
 have hc : ∀ p, p < P.length → 0 ≤ rd cut p := fun p hp => by
  have h5 := h3 (rd cut p) (rd_mem (by rw [hF.c]; exact hp))
  have h6 := hF.cut1 p hp
  omega
 have ho : ∀ a b, a < P.length → b < P.length → rd opn (a * P.length + b) = false := fun a b ha hb => by
  apply bool_of_iff
  intro hx
  have := h4 (rd opn (a * P.length + b)) (rd_mem (by rw [hF.o]; exact place_lt ha hb))
  simp_all
 obtain ⟨hw, hk⟩ := pict_done hP hI.h hc ho
 refine ⟨hw, fun hp => ?_⟩
 by_cases hf : waysFit (cutH H cut) P.length = true
 ·exfalso
  have hpic : picOk (waysOf (cutH H cut) P.length) kept = true := by
   unfold picOk
   rw [waysOf_len]
   refine allBelow_yes fun i hi => ?_
   rw [decide_eq_true_eq]
   have hn : 0 < P.length := hI.n.1
   have hi1 : i / P.length < P.length := Nat.div_lt_of_lt_mul hi
   have hi2 : i % P.length < P.length := Nat.mod_lt _ hn
   have e : i / P.length * P.length + i % P.length = i := by rw [Nat.mul_comm]; exact Nat.div_add_mod _ _
   have := hk _ _ hi1 hi2
   rw [← e, rd_waysOf hi1 hi2, numbers_wayOf, this]
  unfold pictureIs at hp
  rw [if_pos hd, if_pos ⟨hw, hf⟩, if_pos hpic] at hp
  cases hp
 ·unfold waysFit at hf
  rw [allBelow_eq] at hf
  simp only [allBelow_eq, decide_eq_true_eq] at hf
  have : ∃ a b, a < P.length ∧ b < P.length ∧ 12 < (leftOf (cutH H cut) a b).length := by
   apply Classical.byContradiction
   intro hn
   apply hf
   intro a ha b hb
   apply Decidable.byContradiction
   intro h5
   exact hn ⟨a, b, ha, hb, by omega⟩
  obtain ⟨a, b, ha, hb, hlt⟩ := this
  rw [hk a b ha hb] at hlt
  exact ⟨_, by rw [hF.k]; exact place_lt ha hb, hlt⟩

theorem ins_set {m p r n : Int} (h1 : 0 ≤ r ∧ r ≤ 3 := by omega) (h2 : -1000000000 ≤ n ∧ n ≤ 1000000000 := by omega) (h3 : 1 ≤ p ∧ p ≤ 4 := by omega) : insOk ⟨1, r, 0, 0, n⟩ m p = true := by simp [insOk, inB, numOk]; omega
theorem ins_calc {m p o r a c : Int} (h0 : 2 ≤ o ∧ o ≤ 5 := by omega) (h1 : 0 ≤ r ∧ r ≤ 3 := by omega) (h2 : 0 ≤ a ∧ a ≤ 3 := by omega) (h4 : 0 ≤ c ∧ c ≤ 3 := by omega) (h3 : 1 ≤ p ∧ p ≤ 4 := by omega) : insOk ⟨o, r, a, c, 0⟩ m p = true := by
 simp only [insOk, inB, Bool.and_eq_true, decide_eq_true_eq]
 refine ⟨⟨⟨⟨h1, h2⟩, h4⟩, h3⟩, ?_⟩
 rw [if_neg (by omega), if_pos (by omega)]
 rfl
theorem ins_send {m p a n : Int} (h2 : 0 ≤ a ∧ a ≤ 3 := by omega) (h4 : 0 ≤ n ∧ n ≤ p - 1 := by omega) (h3 : 1 ≤ p ∧ p ≤ 4 := by omega) : insOk ⟨6, 0, a, 0, n⟩ m p = true := by simp [insOk, inB]; omega
theorem ins_any {m p r : Int} (h2 : 0 ≤ r ∧ r ≤ 3 := by omega) (h3 : 1 ≤ p ∧ p ≤ 4 := by omega) : insOk ⟨7, r, 0, 0, 9⟩ m p = true := by simp [insOk, inB]; omega
theorem ins_take {m p r n : Int} (h2 : 0 ≤ r ∧ r ≤ 3 := by omega) (h4 : 0 ≤ n ∧ n ≤ p - 1 := by omega) (h3 : 1 ≤ p ∧ p ≤ 4 := by omega) : insOk ⟨7, r, 0, 0, n⟩ m p = true := by simp [insOk, inB]; omega
theorem ins_print {m p a : Int} (h2 : 0 ≤ a ∧ a ≤ 3 := by omega) (h3 : 1 ≤ p ∧ p ≤ 4 := by omega) : insOk ⟨8, 0, a, 0, 0⟩ m p = true := by simp [insOk, inB]; omega
theorem ins_jump {m p n : Int} (h2 : 0 ≤ n ∧ n < m := by omega) (h3 : 1 ≤ p ∧ p ≤ 4 := by omega) : insOk ⟨9, 0, 0, 0, n⟩ m p = true := by simp [insOk, inB]; omega
theorem ins_zero {m p a n : Int} (h1 : 0 ≤ a ∧ a ≤ 3 := by omega) (h2 : 0 ≤ n ∧ n < m := by omega) (h3 : 1 ≤ p ∧ p ≤ 4 := by omega) : insOk ⟨10, 0, a, 0, n⟩ m p = true := by simp [insOk, inB]; omega
theorem ins_end {m p : Int} (h3 : 1 ≤ p ∧ p ≤ 4 := by omega) : insOk ⟨11, 0, 0, 0, 0⟩ m p = true := by simp [insOk, inB]; omega
theorem s_l1DrawInsR (k : Nat) (b : List Int) (i h m p : Int) (hb : Bytes b) (hm : 0 < m := by omega) (hm2 : m ≤ 1000 := by omega) (hp : 1 ≤ p ∧ p ≤ 4 := by omega) (h0 : 0 ≤ i := by assumption) (h1 : i ≤ b.length := by assumption) :
  Told (callE PR C (k + 4) 304 [.pt 1000001 0 0 [] 0 0, i64 m, i64 p] [tB b, tCur b i h]) (fun r => ∃ o q a c n i h : Int, insOk ⟨o, q, a, c, n⟩ m p = true ∧ 0 ≤ i ∧ i ≤ b.length ∧ r = ⟨.ag [i64 o, i64 q, i64 a, i64 c, i64 n], [], [none, some (tCur b i h)]⟩) := by
 have hbl := hb.len
 (refine callE_w [ResultVar.cell 6 116] rfl Tryz.func304 rfl (by decide +kernel) rfl (by simp) ?_; (conv => whnf))
 repeat' ((with_reducible (first | refine sCall.cur (ok_Below _ _ _ _ _ hb) (fun _ _ _ _ _ _ _ => ?_)|refine sCall.curB (s_l1Once _ _ _ _ _ hb) (fun _ _ _ _ _ => ?_)|refine st21 ?_|refine gA ?_ ?_<;>intro _|refine gE ?_ ?_<;>intro _)) <;> (try (conv => whnf)))
 all_goals first
  | exact ⟨_, _, _, _, _, _, _, ins_set, by assumption, by assumption, rfl⟩
  | exact ⟨_, _, _, _, _, _, _, ins_calc, by assumption, by assumption, rfl⟩
  | exact ⟨_, _, _, _, _, _, _, ins_send, by assumption, by assumption, rfl⟩
  | exact ⟨_, _, _, _, _, _, _, ins_any, by assumption, by assumption, rfl⟩
  | exact ⟨_, _, _, _, _, _, _, ins_take, by assumption, by assumption, rfl⟩
  | exact ⟨_, _, _, _, _, _, _, ins_print, by assumption, by assumption, rfl⟩
  | exact ⟨_, _, _, _, _, _, _, ins_jump, by assumption, by assumption, rfl⟩
  | exact ⟨_, _, _, _, _, _, _, ins_zero, by assumption, by assumption, rfl⟩
theorem sCall.insR {x : Option Res} {b : List Int} {m p : Int} {F : Res → Prop} (e : Told x (fun r => ∃ o q a c n i h : Int, insOk ⟨o, q, a, c, n⟩ m p = true ∧ 0 ≤ i ∧ i ≤ b.length ∧ r = ⟨.ag [i64 o, i64 q, i64 a, i64 c, i64 n], [], [none, some (tCur b i h)]⟩)) (h : ∀ o q a c n i h : Int, insOk ⟨o, q, a, c, n⟩ m p = true → 0 ≤ i → i ≤ b.length → F ⟨.ag [i64 o, i64 q, i64 a, i64 c, i64 n], [], [none, some (tCur b i h)]⟩) : sCall x F :=
 sCall.ex e fun r hr => by obtain ⟨o, q, a, c, n, i, h', h2, h3, h4, rfl⟩ := hr; exact h o q a c n i h' h2 h3 h4
def DrawnR (b : List Int) (p : Int) (r : Res) : Prop := ∃ (l : List Ins) (i h : Int), progOk l p = true ∧ 0 ≤ i ∧ i ≤ b.length ∧ r = ⟨.h 2000000 1 0 [] 5 0 l.length, [tIns9 l], [none, some (tCur b i h)]⟩
theorem drawnR_mk {b : List Int} {p : Int} {l : List Ins} {i h : Int} {n : Nat} (e : l.length = n) (h1 : progOk l p = true) (h3 : 0 ≤ i) (h4 : i ≤ b.length) : DrawnR b p ⟨.h 2000000 1 0 [] 5 0 n, [tIns9 l], [none, some (tCur b i h)]⟩ := by
 subst e
 exact ⟨l, i, h, h1, h3, h4, rfl⟩
theorem sCall.progR {x : Option Res} {b : List Int} {p : Int} {F : Res → Prop} (e : Told x (DrawnR b p)) (h : ∀ (l : List Ins) (i h : Int), progOk l p = true → 0 ≤ i → i ≤ b.length → F ⟨.h 2000000 1 0 [] 5 0 l.length, [tIns9 l], [none, some (tCur b i h)]⟩) : sCall x F :=
 sCall.ex e fun r hr => by obtain ⟨l, i, h', h1, h3, h4, rfl⟩ := hr; exact h l i h' h1 h3 h4
theorem s_l1DrawProgR (k : Nat) (b : List Int) (i h p q : Int) (hb : Bytes b) (hp : 1 ≤ p ∧ p ≤ 4 := by omega) (hq : 0 ≤ q ∧ q ≤ 4 := by omega) (h0 : 0 ≤ i := by assumption) (h1 : i ≤ b.length := by assumption) :
  Told (callE PR C (k + 5) 275 [.pt 1000001 0 0 [] 0 0, i64 p, i64 q] [tB b, tCur b i h]) (DrawnR b p) := by
 have hbl := hb.len
 have hn0 := Int.emod_nonneg (q + 1) (by omega : p ≠ 0)
 have hn1 := Int.emod_lt_of_pos (q + 1) (by omega : 0 < p)
 have hne : (q + 1).tmod p = (q + 1) % p := Int.tmod_eq_emod_of_nonneg (by omega)
 generalize (q + 1) % p = n0 at *
 (refine callE_w [ResultVar.tmp 6] rfl Tryz.func275 rfl (by decide +kernel) rfl (by simp) ?_; (conv => whnf))
 repeat' ((with_reducible (first | refine sCall.cur (ok_Below _ _ _ _ _ hb) (fun _ _ _ _ _ _ _ => ?_)|refine sZ.eq (hne) ?_|refine st21 ?_|refine gA ?_ ?_<;>intro _|refine gE ?_ ?_<;>intro _)) <;> (try (conv => whnf)))
 case' refine_1 | refine_2.refine_1 | refine_2.refine_2.refine_1 =>
  refine drawnR_mk rfl ?_ (by assumption) (by assumption)
  simp only [progOk, List.all_cons, List.all_nil, List.length_cons, List.length_nil, Bool.and_true, Bool.and_eq_true, decide_eq_true_eq, inB]
  refine ⟨⟨by omega, hp⟩, ?_⟩
  repeat' (apply And.intro)
  all_goals first | exact ins_set | exact ins_send | exact ins_any | exact ins_print | exact ins_calc | exact ins_jump | exact ins_zero | exact ins_end
 case refine_2.refine_2.refine_2 =>
  rename_i x i0 h0' ha hb' hc hd
  refine loop_rule (ι := DP) (fun y => [(0, .pt 1000001 0 0 [] 0 0), (1, i64 p), (8, i64 (3 + x)), (9, .h y.o y.bb 0 [] 5 0 y.l.length), (10, i64 (y.j : Nat))])
   (fun y => [(1000000, ⟨0, 0, false, tB b⟩), (1000001, ⟨0, 0, true, tCur b y.i y.h⟩), (y.o, ⟨y.bb, 0, false, tIns9 y.l⟩)])
   (fun y => (3 + x - y.j).toNat) (fun y => (y.j : Int) ≤ 3 + x ∧ (y.l.length = y.j ∧ ∀ z ∈ y.l, insOk z (3 + x + 1) p = true) ∧ 0 ≤ y.i ∧ y.i ≤ b.length ∧ (y.o = 56 ∨ y.o = 69)) ⟨0, [], 56, _, i0, h0'⟩ fitOk ⟨by show (0 : Int) ≤ 3 + x; omega, ⟨rfl, fun z hz => by simp at hz⟩, hc, hd, .inl rfl⟩ (by simp [C]; omega) ?_
  rintro ⟨j, out, o, bb, i1, h1'⟩ sl ob ⟨hj, ⟨hlen, hall⟩, hi0, hi1, ho⟩
  dsimp only at hj hlen hall hi0 hi1 ho
  by_cases hjl : (j : Int) < 3 + x
  ·rcases ho with rfl | rfl
   all_goals (try dsimp only [cond_true, cond_false])
   all_goals (conv => whnf)
   all_goals repeat' ((with_reducible (first | refine sCall.insR (s_l1DrawInsR _ _ _ _ _ _ hb) (fun _ _ _ _ _ _ _ _ _ _ => ?_)|refine st21 ?_|refine gA ?_ ?_<;>intro _|refine gE ?_ ?_<;>intro _)) <;> (try (conv => whnf)))
   all_goals
    rename_i o1 q1 a1 c1 n1 i2 h2 e0 e1 e2
    refine ⟨⟨⟨j + 1, out ++ [⟨o1, q1, a1, c1, n1⟩], 69, _, i2, h2⟩, fitOk, ?_, ?_⟩⟩
    ·refine ⟨by show ((j + 1 : Nat) : Int) ≤ 3 + x; omega, ⟨by show (out ++ [_]).length = j + 1; simp [hlen], fun z hz => ?_⟩, e1, e2, .inr rfl⟩
     rcases List.mem_append.1 hz with hz | hz
     ·exact hall z hz
     ·rw [List.mem_singleton] at hz; rw [hz]; exact e0
    ·show (3 + x - ((j + 1 : Nat) : Int)).toNat < (3 + x - j).toNat; omega
  ·rcases ho with rfl | rfl
   all_goals (try dsimp only [cond_true, cond_false])
   all_goals (conv => whnf)
   all_goals repeat' ((with_reducible (first | refine sCall.pick (ok_PickInt _ _ _ _ _ hb) (fun _ _ _ _ _ _ => ?_)|refine st21 ?_|refine gA ?_ ?_<;>intro _|refine gE ?_ ?_<;>intro _)) <;> (try (conv => whnf)))
   all_goals
    rename_i y2 i2 h2 e0 e1 e2
    refine drawnR_mk rfl ?_ (by assumption) (by assumption)
    have hpl : ((out ++ [(⟨y2, 0, 0, 0, 0⟩ : Ins)]).length : Int) = 3 + x + 1 := by rw [List.length_append, List.length_singleton, hlen]; omega
    simp only [progOk, List.all_append, List.all_cons, List.all_nil, Bool.and_true, Bool.and_eq_true, decide_eq_true_eq, inB, hpl]
    refine ⟨⟨⟨by omega, by omega⟩, hp⟩, List.all_eq_true.2 hall, ?_⟩
    simp at e0
    rcases e0 with rfl | rfl
    ·exact ins_end
    ·exact ins_jump

end Go.Proofs.YtipfcgbhaalcdaaGreat.Abs
namespace Go.Proofs.YtipfcgbhaalcdaaGreat.Abs
open Go Go.Proofs
set_option linter.unusedVariables false
set_option linter.unusedSimpArgs false
attribute [local irreducible] callE
theorem newV_right {P : List (List Ins)} {S : List State} {W : List (List Item)} {H : List (List Event)} (hs : sysOk P S W H = true) (hm : marksB W = false) : LiveF P S W H false (List.replicate P.length (-1)) (List.replicate (P.length * P.length) false) (List.replicate (P.length * P.length) default) := by
 refine ⟨hs, by simp, by simp, by simp, fun p hp => ?_, fun p hp _ a ha => ?_, ?_, fun _ => hm⟩
 ·rw [rd_rep _ hp]; omega
 ·have := place_lt ha hp
  rw [rd_rep _ this, rd_rep _ this]
  exact ⟨rfl, rfl⟩
 ·symm
  apply Bool.eq_false_iff.2
  intro h
  rw [drawnB_iff] at h
  obtain ⟨p, hp, h0⟩ := h
  rw [List.length_replicate] at hp
  rw [rd_rep _ hp] at h0
  omega
theorem newSys_marks (n : Nat) : marksB (List.replicate n (default : List Item)) = false := by
 apply Bool.eq_false_iff.2
 intro h
 rw [marksB_iff] at h
 obtain ⟨w, hw, x, hx, _⟩ := h
 have := List.eq_of_mem_replicate hw
 rw [this] at hx
 cases hx

theorem insOk_four {x : Ins} {m p : Int} (h : insOk x m p = true) : insOk x m 4 = true := by
 simp only [insOk, inB, Bool.and_eq_true, decide_eq_true_eq] at h ⊢
 obtain ⟨⟨⟨⟨h1, h2⟩, h3⟩, h4⟩, h5⟩ := h
 refine ⟨⟨⟨⟨h1, h2⟩, h3⟩, by omega⟩, ?_⟩
 split at h5
 ·rename_i c; rw [if_pos c]; exact h5
 ·rename_i c; rw [if_neg c]
  split at h5
  ·rename_i c2; rw [if_pos c2]; exact h5
  ·rename_i c2; rw [if_neg c2]
   split at h5
   ·rename_i c3; rw [if_pos c3]
    simp only [Bool.and_eq_true, decide_eq_true_eq] at h5 ⊢
    exact ⟨⟨by omega, h5.1.2⟩, h5.2⟩
   ·rename_i c3; rw [if_neg c3]
    split at h5
    ·rename_i c4; rw [if_pos c4]
     simp only [Bool.and_eq_true, Bool.or_eq_true, decide_eq_true_eq] at h5 ⊢
     exact ⟨⟨by omega, h5.1.2⟩, h5.2⟩
    ·rename_i c4; rw [if_neg c4]; exact h5
theorem progOk_four {l : List Ins} {p : Int} (h : progOk l p = true) : progOk l 4 = true := by
 simp only [progOk, Bool.and_eq_true, List.all_eq_true] at h ⊢
 exact ⟨⟨h.1.1, rfl⟩, fun x hx => insOk_four (h.2 x hx)⟩
theorem newR {P : List (List Ins)} (hn : 1 ≤ P.length ∧ P.length ≤ 4) (h : ∀ p, p < P.length → progOk (rd P p) P.length = true) : sysOk P (List.replicate P.length newState) (List.replicate (P.length * P.length) default) (List.replicate P.length default) = true := by
 simp only [sysOk, sizesOk, inB, Bool.and_eq_true, decide_eq_true_eq, allBelow_eq, List.all_eq_true]
 refine ⟨⟨by omega, by simp, by simp, by simp⟩, fun w hw => ?_, fun p hp => ?_, fun a ha b hb => ?_, ?_⟩
 ·rw [List.mem_replicate] at hw
  rw [hw.2]; rfl
 ·have h1 := h p hp
  simp only [procOk, Bool.and_eq_true]
  rw [rd_rep _ hp, rd_rep _ hp]
  refine ⟨h1, rfl, ?_⟩
  have e : replayAll (rd P p) (default : List Event) = some newState := by
   unfold replayAll
   rw [if_pos ⟨progOk_four h1, Nat.zero_le _⟩]
   rfl
  simp only [stoodAs, e, Option.isSome_some, Bool.true_and, decide_eq_true_eq]
  rfl
 ·simp only [fits, decide_eq_true_eq]
  rw [rd_rep _ ha, rd_rep _ hb, rd_rep _ (place_lt ha hb)]
  rfl
 ·have e : allEv (List.replicate P.length (default : List Event)) = 0 := by
   simp only [allEv, List.map_replicate]
   generalize P.length = n
   induction n with
   | zero => rfl
   | succ n ih => rw [List.replicate_succ, List.sum_cons, ih]; rfl
  simp only [inRow, rowOf, e, greedy, List.length_nil, decide_true]
def RtR (P : List (List Ins)) (S : List State) (W : List (List Item)) (H : List (List Event)) : Prop := sysOk P S W H = true ∧ marksB W = false
theorem s_l6DrawNewR (k : Nat) (b : List Int) (i h : Int) (hb : Bytes b) (h0 : 0 ≤ i := by assumption) (h1 : i ≤ b.length := by assumption) :
  Told (callE PR C (k + 9) 203 [.pt 1000001 0 0 [] 0 0] [tB b, tCur b i h]) (DSys b RtR []) := by
 have hbl := hb.len
 (refine callE_w [ResultVar.cell 2 29] rfl Tryz.func203 rfl (by decide +kernel) rfl (by simp) ?_; (conv => whnf))
 repeat' ((with_reducible (first | refine sCall.cur (ok_Below _ _ _ _ _ hb) (fun _ _ _ _ _ _ _ => ?_)|refine st21 ?_|refine gA ?_ ?_<;>intro _|refine gE ?_ ?_<;>intro _)) <;> (try (conv => whnf)))
 rename_i x i0 h0' ha hb' hc hd
 refine loop_rule (ι := DN) (fun y => [(0, .pt 1000001 0 0 [] 0 0), (2, .pt 2 1 0 [] 0 0), (3, i64 (1 + x)), (4, .h y.o y.bb 0 [] 1 0 y.l.length), (5, i64 (y.j : Nat))])
  (fun y => [(1000000, ⟨0, 0, false, tB b⟩), (1000001, ⟨0, 0, true, tCur b y.i y.h⟩), (2, ⟨1, 0, false, .box [.nl 1, .nl 4, .nl 1, .nl 1]⟩), (y.o, ⟨y.bb, 0, false, tInsSS9 y.l⟩)])
  (fun y => (1 + x - y.j).toNat) (fun y => (y.j : Int) ≤ 1 + x ∧ (y.l.length = y.j ∧ ∀ q : Nat, q < y.l.length → progOk (rd y.l q) (1 + x) = true) ∧ 0 ≤ y.i ∧ y.i ≤ b.length ∧ (y.o = 11 ∨ y.o = 23)) ⟨0, [], 11, _, i0, h0'⟩ fitOk ⟨by show (0 : Int) ≤ 1 + x; omega, ⟨rfl, fun q hq => by simp at hq⟩, hc, hd, .inl rfl⟩ (by simp [C]; omega) ?_
 rintro ⟨j, out, o, bb, i1, h1'⟩ sl ob ⟨hj, ⟨hlen, hin⟩, hi0, hi1, ho⟩
 dsimp only at hj hlen hin hi0 hi1 ho
 by_cases hjl : (j : Int) < 1 + x
 ·rcases ho with rfl | rfl
  all_goals (try dsimp only [cond_true, cond_false])
  all_goals (conv => whnf)
  all_goals repeat' ((with_reducible (first | refine sCall.progR (s_l1DrawProgR _ _ _ _ _ _ hb) (fun _ _ _ _ _ _ => ?_)|refine st21 ?_|refine gA ?_ ?_<;>intro _|refine gE ?_ ?_<;>intro _)) <;> (try (conv => whnf)))
  all_goals
   rename_i l i2 h2 e2 e3 e4
   refine ⟨⟨⟨j + 1, out ++ [l], 23, _, i2, h2⟩, fitOk, ?_, ?_⟩⟩
   ·refine ⟨by show ((j + 1 : Nat) : Int) ≤ 1 + x; omega, ⟨by show (out ++ [l]).length = j + 1; simp [hlen], fun q hq => ?_⟩, e3, e4, .inr rfl⟩
    have hq : q < (out ++ [l]).length := hq
    show progOk (rd (out ++ [l]) q) (1 + x) = true
    by_cases hq2 : q < out.length
    ·have := hin q hq2
     simp only [rd, List.getD_eq_getElem?_getD] at this ⊢
     rwa [List.getElem?_append_left hq2]
    ·have e : q = out.length := by simp at hq; omega
     subst e
     have : rd (out ++ [l]) out.length = l := by simp [rd]
     rw [this]; exact e2
   ·show (1 + x - ((j + 1 : Nat) : Int)).toNat < (1 + x - j).toNat; omega
 ·have hlen2 : 1 ≤ out.length ∧ out.length ≤ 4 := by omega
  have hpx : (1 : Int) + x = (out.length : Int) := by omega
  rw [hpx] at hin
  have hsz : ∀ q : Nat, q < out.length → (rd out q).length ≤ 1048576 := fun q hq => by have := (progOk_len (hin q hq)).2; omega
  have q1 := fun k => s_SysNew' k out hlen2 hsz
  have hs := newR hlen2 hin
  simp only [hs, if_true, newRes] at q1
  rcases ho with rfl | rfl
  all_goals (try dsimp only [cond_true, cond_false])
  all_goals (conv => whnf)
  all_goals repeat' ((with_reducible (first | refine sCall.of (q1 _) ?_|refine st21 ?_|refine gA ?_ ?_<;>intro _|refine gE ?_ ?_<;>intro _)) <;> (try (conv => whnf)))
  all_goals exact ⟨_, _, _, _, _, _, ⟨hs, newSys_marks _⟩, hi0, hi1, rfl⟩
def LvP0 (P : List (List Ins)) (S : List State) (W : List (List Item)) (H : List (List Event)) (on : Bool) (cut : List Int) (opn : List Bool) (kept : List (List Int)) : Prop := LvP P S W H on cut opn kept ∧ ∀ x ∈ kept, x.length ≤ 0
theorem LvP0.r {P : List (List Ins)} {S : List State} {W : List (List Item)} {H : List (List Event)} {on : Bool} {cut : List Int} {opn : List Bool} {kept : List (List Int)} (h : LvP0 P S W H on cut opn kept) : LvR 0 P S W H on cut opn kept := ⟨.inl h.1.1, h.2⟩
theorem s_ShotNewP (k : Nat) (P : List (List Ins)) (S : List State) (W : List (List Item)) (H : List (List Event)) (hR : RtR P S W H) :
  Told (callE PR C (k + 8) 67 [aSys 0 P S W H] [tInsSS P, tStateS S, tItemSS W, tEventSS H]) (fun r => ∃ (P' : List (List Ins)) (S' : List State) (W' : List (List Item)) (H' : List (List Event)) (on : Bool) (cut : List Int) (opn : List Bool) (kept : List (List Int)), LvP0 P' S' W' H' on cut opn kept ∧ r = newRes11 ⟨⟨P', S', W', H'⟩, on, cut, opn, kept⟩) := by
 refine ⟨⟨_, s_ShotNew k P S W H hR.1, P, S, W, H, false, _, _, _, ⟨⟨newV_right hR.1 hR.2, pict_new hR.2⟩, fun x hx => ?_⟩, rfl⟩⟩
 have := List.eq_of_mem_replicate hx
 rw [this]
 exact Nat.le_refl _
theorem sCall.dliveP {x : Option Res} {F : Res → Prop} (e : Told x (fun r => ∃ (P' : List (List Ins)) (S' : List State) (W' : List (List Item)) (H' : List (List Event)) (on : Bool) (cut : List Int) (opn : List Bool) (kept : List (List Int)), LvP0 P' S' W' H' on cut opn kept ∧ r = newRes11 ⟨⟨P', S', W', H'⟩, on, cut, opn, kept⟩))
  (h : ∀ (P : List (List Ins)) (S : List State) (W : List (List Item)) (H : List (List Event)) (on : Bool) (cut : List Int) (opn : List Bool) (kept : List (List Int)), LvP0 P S W H on cut opn kept → F ⟨nLive 0 P S W H on cut opn kept, [tInsSS9 P, tStateS9 S, tItemSS9 W, tEventSS9 H, tI9 cut, tBool9 opn, tIntSS9 kept], [none, none, none, none]⟩) : sCall x F :=
 sCall.ex e fun r hr => by obtain ⟨P, S, W, H, on, cut, opn, kept, h1, rfl⟩ := hr; exact h P S W H on cut opn kept h1
def DLRunP (b : List Int) (m : Int) (r : Res) : Prop :=
  ∃ (P : List (List Ins)) (S : List State) (W : List (List Item)) (H : List (List Event)) (on : Bool) (cut : List Int) (opn : List Bool) (kept : List (List Int)) (l : List (List Int)) (i h : Int), (LvP0 P S W H on cut opn kept ∧ ∀ w ∈ l, w.length = 3) ∧ (l.length : Int) ≤ m ∧ (0 ≤ i ∧ i ≤ b.length) ∧
  (r = ⟨.tu [nLive 0 P S W H on cut opn kept, .h 2000007 1 0 [] 1 0 l.length, nLive 0 P S W H on cut opn kept], [tInsSS9 P, tStateS9 S, tItemSS9 W, tEventSS9 H, tI9 cut, tBool9 opn, tIntSS9 kept, tIntSS9 l], [none, some (tCur b i h)]⟩ ∨
   ∃ (P' : List (List Ins)) (S' : List State) (W' : List (List Item)) (H' : List (List Event)) (on' : Bool) (cut' : List Int) (opn' : List Bool) (kept' : List (List Int)) (n : Nat), n ≤ 150 ∧ LvR n P' S' W' H' on' cut' opn' kept' ∧
     r = ⟨.tu [nLive 0 P S W H on cut opn kept, .h 2000007 1 0 [] 1 0 l.length, nLive 8 P' S' W' H' on' cut' opn' kept'], [tInsSS9 P, tStateS9 S, tItemSS9 W, tEventSS9 H, tI9 cut, tBool9 opn, tIntSS9 kept, tIntSS9 l, tInsSS9 P', tStateS9 S', tItemSS9 W', tEventSS9 H', tI9 cut', tBool9 opn', tIntSS9 kept'], [none, some (tCur b i h)]⟩)
structure DLP where
 j : Nat
 l : List (List Int)
 lo : Nat
 lb : Nat
 P : List (List Ins)
 S : List State
 W : List (List Item)
 H : List (List Event)
 on : Bool
 cut : List Int
 opn : List Bool
 kept : List (List Int)
 o : Nat
 b0 : Nat
 b1 : Nat
 b2 : Nat
 b3 : Nat
 b4 : Nat
 b5 : Nat
 b6 : Nat
 d7 : Bool
 dd : Bool
 i : Int
 h : Int
theorem snoc3 {l : List (List Int)} {w : List Int} (h : ∀ x ∈ l, x.length = 3) (hw : w.length = 3) : ∀ x ∈ l ++ [w], x.length = 3 := fun x hx => by
 rcases List.mem_append.1 hx with h1 | h1
 ·exact h x h1
 ·rw [List.mem_singleton] at h1; rw [h1]; exact hw
theorem s_l11DrawRunP (k : Nat) (b : List Int) (i h m : Int) (hb : Bytes b) (hm : 0 ≤ m ∧ m ≤ 150) (h0 : 0 ≤ i := by assumption) (h1 : i ≤ b.length := by assumption) :
  Told (callE PR C (k + 11) 101 [.pt 1000001 0 0 [] 0 0, i64 m] [tB b, tCur b i h]) (DLRunP b m) := by
 have hbl := hb.len
 (refine callE_w [ResultVar.cell 4 44, ResultVar.tmp 5, ResultVar.cell 6 44] rfl Tryz.func101 rfl (by decide +kernel) rfl (by simp) ?_; (conv => whnf))
 repeat' ((with_reducible (first | refine sCall.dsys (s_l6DrawNewR _ _ _ _ hb) (fun _ _ _ _ _ _ _ _ _ => ?_)|refine st21 ?_|refine gA ?_ ?_<;>intro _|refine gE ?_ ?_<;>intro _|refine gD 11 [(2, 3)] ?_)) <;> (try (conv => whnf)))
 rename_i P0 S0 W0 H0 i1 h1' hR0 a1 a2
 repeat' ((with_reducible (first | refine sCall.dliveP (s_ShotNewP _ _ _ _ _ hR0) (fun _ _ _ _ _ _ _ _ _ => ?_)|refine st21 ?_|refine gA ?_ ?_<;>intro _|refine gE ?_ ?_<;>intro _|refine gD 11 [(2, 3)] ?_)) <;> (try (conv => whnf)))
 rename_i P S W H on cut opn kept hL0
 repeat' ((with_reducible (first | refine sCall.cur (ok_Below _ _ _ _ _ hb) (fun _ _ _ _ _ _ _ => ?_)|refine st21 ?_|refine gA ?_ ?_<;>intro _|refine gE ?_ ?_<;>intro _|refine gD 11 [(2, 3)] ?_)) <;> (try (conv => whnf)))
 rename_i x i0 h0' ha hb' hc hd
 refine loop_rule (ι := DLP) (fun y => [(0, .pt 1000001 0 0 [] 0 0), (4, .pt 4 1 0 [] 0 0), (6, .pt 6 1 0 [] 0 0), (7, .pt 7 1 0 [] 0 0), (8, .pt 8 1 0 [] 0 0), (9, .h y.lo y.lb 0 [] 1 0 y.l.length), (10, i64 x), (11, i64 (y.j : Nat))])
  (fun y => [(1000000, ⟨0, 0, false, tB b⟩), (1000001, ⟨0, 0, true, tCur b y.i y.h⟩), (4, ⟨1, 0, false, zLive⟩), (6, ⟨1, 0, false, zLive⟩),
   (7, ⟨1, 0, y.d7, .box [.h 10016 1 0 [] 1 0 P.length, .h 20016 1 0 [] 4 0 S.length, .h 30016 1 0 [] 1 0 W.length, .h 40016 1 0 [] 1 0 H.length, bl on, .h 50016 1 0 [] 1 0 cut.length, .h 60016 1 0 [] 1 0 opn.length, .h 70016 1 0 [] 1 0 kept.length]⟩),
   (8, ⟨1, 0, y.dd, .box [.h (y.o + 10000) y.b0 0 [] 1 0 y.P.length, .h (y.o + 20000) y.b1 0 [] 4 0 y.S.length, .h (y.o + 30000) y.b2 0 [] 1 0 y.W.length, .h (y.o + 40000) y.b3 0 [] 1 0 y.H.length, bl y.on, .h (y.o + 50000) y.b4 0 [] 1 0 y.cut.length, .h (y.o + 60000) y.b5 0 [] 1 0 y.opn.length, .h (y.o + 70000) y.b6 0 [] 1 0 y.kept.length]⟩),
   (10016, ⟨1, 0, false, tInsSS9 P⟩), (20016, ⟨1, 0, false, tStateS9 S⟩), (30016, ⟨1, 0, false, tItemSS9 W⟩), (40016, ⟨1, 0, false, tEventSS9 H⟩), (50016, ⟨1, 0, false, tI9 cut⟩), (60016, ⟨1, 0, false, tBool9 opn⟩), (70016, ⟨1, 0, false, tIntSS9 kept⟩), (y.lo, ⟨y.lb, 0, false, tIntSS9 y.l⟩),
   (y.o + 10000, ⟨y.b0, 0, false, tInsSS9 y.P⟩), (y.o + 20000, ⟨y.b1, 0, false, tStateS9 y.S⟩), (y.o + 30000, ⟨y.b2, 0, false, tItemSS9 y.W⟩), (y.o + 40000, ⟨y.b3, 0, false, tEventSS9 y.H⟩), (y.o + 50000, ⟨y.b4, 0, false, tI9 y.cut⟩), (y.o + 60000, ⟨y.b5, 0, false, tBool9 y.opn⟩), (y.o + 70000, ⟨y.b6, 0, false, tIntSS9 y.kept⟩)])
  (fun y => (x - y.j).toNat) (fun y => (y.j : Int) ≤ x ∧ ((y.l.length = y.j ∧ ∀ w ∈ y.l, w.length = 3) ∧ (y.lo = 18 ∨ y.lo = 37)) ∧ LvR y.j y.P y.S y.W y.H y.on y.cut y.opn y.kept ∧ (0 ≤ y.i ∧ y.i ≤ b.length) ∧
   ((y.o = 16 ∧ ((y.P = P ∧ y.S = S ∧ y.W = W ∧ y.H = H) ∧ y.on = on ∧ y.cut = cut ∧ y.opn = opn ∧ y.kept = kept) ∧ y.b0 = 1 ∧ y.b1 = 1 ∧ y.b2 = 1 ∧ y.b3 = 1 ∧ y.b4 = 1 ∧ y.b5 = 1 ∧ y.b6 = 1) ∨ y.o = 31 ∨ y.o = 5031))
  ⟨0, [], 18, _, P, S, W, H, on, cut, opn, kept, 16, 1, 1, 1, 1, 1, 1, 1, _, _, i0, h0'⟩ fitOk ⟨by show (0 : Int) ≤ x; omega, ⟨⟨rfl, fun w hw => by simp at hw⟩, .inl rfl⟩, hL0.r, ⟨hc, hd⟩, .inl ⟨rfl, ⟨⟨rfl, rfl, rfl, rfl⟩, rfl, rfl, rfl, rfl⟩, rfl, rfl, rfl, rfl, rfl, rfl, rfl⟩⟩ (by simp [C]; omega) ?_
 clear a1 a2 hc hd
 rintro ⟨j, out, lo, lb, P1, S1, W1, H1, on1, cut1, opn1, kept1, o, b0, b1, b2, b3, b4, b5, b6, d7, dd, i2, h2⟩ sl ob ⟨hj, ⟨⟨hlen, hl3⟩, hlo⟩, hL, ⟨hi0, hi1⟩, ho⟩
 dsimp only at hj hlen hl3 hlo hL hi0 hi1 ho
 by_cases hjl : (j : Int) < x
 ·have qa := fun k => s_l11DrawAct k b i2 h2 j P1 S1 W1 H1 on1 cut1 opn1 kept1 hb (by omega) hL hi0 hi1
  rcases hlo with rfl | rfl
  all_goals rcases ho with ⟨rfl, ⟨⟨rfl, rfl, rfl, rfl⟩, rfl, rfl, rfl, rfl⟩, rfl, rfl, rfl, rfl, rfl, rfl, rfl⟩ | rfl | rfl
  all_goals (try dsimp only [cond_true, cond_false])
  all_goals (conv => whnf)
  all_goals repeat' ((with_reducible (first | (refine sCall.ex (qa _) ?_)|refine st21 ?_|refine gA ?_ ?_<;>intro _|refine gE ?_ ?_<;>intro _|refine gD 11 [(2, 3)] ?_)) <;> (try (conv => whnf)))
  all_goals
   rintro _ ⟨w, i3, h3, hw, ⟨e1, e2⟩, rfl | ⟨P2, S2, W2, H2, on2, cut2, opn2, kept2, hL2, rfl⟩⟩
  all_goals (conv => whnf)
  all_goals repeat' ((with_reducible (first | refine st21 ?_|refine gA ?_ ?_<;>intro _|refine gE ?_ ?_<;>intro _|refine gD 11 [(2, 3)] ?_)) <;> (try (conv => whnf)))
  all_goals first
   | refine ⟨⟨⟨j + 1, out ++ [w], 37, _, P2, S2, W2, H2, on2, cut2, opn2, kept2, 31, _, _, _, _, _, _, _, _, _, i3, h3⟩, fitOk, ?_, ?_⟩⟩
   | refine ⟨⟨⟨j + 1, out ++ [w], 37, _, P2, S2, W2, H2, on2, cut2, opn2, kept2, 5031, _, _, _, _, _, _, _, _, _, i3, h3⟩, fitOk, ?_, ?_⟩⟩
   | refine ⟨⟨⟨j + 1, out ++ [w], 37, _, P1, S1, W1, H1, on1, cut1, opn1, kept1, 16, _, _, _, _, _, _, _, _, _, i3, h3⟩, fitOk, ?_, ?_⟩⟩
   | refine ⟨⟨⟨j + 1, out ++ [w], 37, _, P1, S1, W1, H1, on1, cut1, opn1, kept1, 31, _, _, _, _, _, _, _, _, _, i3, h3⟩, fitOk, ?_, ?_⟩⟩
   | refine ⟨⟨⟨j + 1, out ++ [w], 37, _, P1, S1, W1, H1, on1, cut1, opn1, kept1, 5031, _, _, _, _, _, _, _, _, _, i3, h3⟩, fitOk, ?_, ?_⟩⟩
  all_goals first
   | (show (x - ((j + 1 : Nat) : Int)).toNat < (x - j).toNat; omega)
   | exact ⟨by show ((j + 1 : Nat) : Int) ≤ x; omega, ⟨⟨by show (out ++ [_]).length = j + 1; simp [hlen], snoc3 hl3 hw⟩, .inr rfl⟩, hL2, ⟨e1, e2⟩, .inr (.inl rfl)⟩
   | exact ⟨by show ((j + 1 : Nat) : Int) ≤ x; omega, ⟨⟨by show (out ++ [_]).length = j + 1; simp [hlen], snoc3 hl3 hw⟩, .inr rfl⟩, hL2, ⟨e1, e2⟩, .inr (.inr rfl)⟩
   | exact ⟨by show ((j + 1 : Nat) : Int) ≤ x; omega, ⟨⟨by show (out ++ [_]).length = j + 1; simp [hlen], snoc3 hl3 hw⟩, .inr rfl⟩, hL.more, ⟨e1, e2⟩, .inl ⟨rfl, ⟨⟨rfl, rfl, rfl, rfl⟩, rfl, rfl, rfl, rfl⟩, rfl, rfl, rfl, rfl, rfl, rfl, rfl⟩⟩
   | exact ⟨by show ((j + 1 : Nat) : Int) ≤ x; omega, ⟨⟨by show (out ++ [_]).length = j + 1; simp [hlen], snoc3 hl3 hw⟩, .inr rfl⟩, hL.more, ⟨e1, e2⟩, .inr (.inl rfl)⟩
   | exact ⟨by show ((j + 1 : Nat) : Int) ≤ x; omega, ⟨⟨by show (out ++ [_]).length = j + 1; simp [hlen], snoc3 hl3 hw⟩, .inr rfl⟩, hL.more, ⟨e1, e2⟩, .inr (.inr rfl)⟩
 ·rcases hlo with rfl | rfl
  all_goals rcases ho with ⟨rfl, ⟨⟨rfl, rfl, rfl, rfl⟩, rfl, rfl, rfl, rfl⟩, rfl, rfl, rfl, rfl, rfl, rfl, rfl⟩ | rfl | rfl
  all_goals (try dsimp only [cond_true, cond_false])
  all_goals (conv => whnf)
  all_goals repeat' ((with_reducible (first | refine st21 ?_|refine gA ?_ ?_<;>intro _|refine gE ?_ ?_<;>intro _|refine gD 11 [(2, 3)] ?_)) <;> (try (conv => whnf)))
  all_goals first
   | exact ⟨_, _, _, _, _, _, _, _, _, _, _, ⟨hL0, hl3⟩, by omega, ⟨hi0, hi1⟩, .inl rfl⟩
   | exact ⟨_, _, _, _, _, _, _, _, _, _, _, ⟨hL0, hl3⟩, by omega, ⟨hi0, hi1⟩, .inr ⟨_, _, _, _, _, _, _, _, j, by omega, hL, rfl⟩⟩

end Go.Proofs.YtipfcgbhaalcdaaGreat.Abs
namespace Go.Proofs.YtipfcgbhaalcdaaGreat.Abs
open Go Go.Proofs
set_option linter.unusedVariables false
set_option linter.unusedSimpArgs false
attribute [local irreducible] callE
def actIs (P : List (List Ins)) (S : List State) (W : List (List Item)) (H : List (List Event)) (on : Bool) (cut : List Int) (opn : List Bool) (kept : List (List Int)) (x : List Int) : LiveV × Int :=
 if rd x 0 = 1 then beginIs P S W H on cut opn kept (rd x 1) else if rd x 0 = 2 then markIs P S W H on cut opn kept (rd x 1) (rd x 2) else liveStepIs P S W H on cut opn kept (rd x 1) (rd x 2)
theorem w_act (k : Nat) (P : List (List Ins)) (S : List State) (W : List (List Item)) (H : List (List Event)) (on : Bool) (cut : List Int) (opn : List Bool) (kept : List (List Int)) (x : List Int) (hb : SysB 1000000000 P S W H) (hs : ShotB 1000000000 cut opn kept) (hx : x.length = 3) :
  callE PR C (k + 20) 24 [aLive 0 P S W H on cut opn kept, .h 1000007 0 0 [] 1 0 x.length] [tInsSS P, tStateS S, tItemSS W, tEventSS H, tI cut, tBool opn, tIntSS kept, tI x] = some (liveRes (actIs P S W H on cut opn kept x).1 (actIs P S W H on cut opn kept x).2 [none, none, none, none, none, none, none, none]) := by
 unfold actIs
 by_cases c1 : rd x 0 = 1
 ·rw [if_pos c1]
  have q1 := fun k => i_Begin k P S W H on cut opn kept (rd x 1) hb hs
  generalize beginIs P S W H on cut opn kept (rd x 1) = X at *
  obtain ⟨⟨⟨P', S', W', H'⟩, on', cut', opn', kept'⟩, n⟩ := X
  simp only [liveRes] at q1 ⊢
  (refine fnI [ResultVar.cell 4 44, ResultVar.tmp 5] Tryz.func24 ?_; conv => whnf)
  repeat' ((with_reducible (first | refine sCall.of (q1 _) ?_|refine st21 ?_|refine gA ?_ ?_<;>intro _|refine gE ?_ ?_<;>intro _|refine gD 3 [(0, 8), (3, 8), (4, 8)] ?_|refine gD 6 [(0, 11), (3, 11), (6, 11), (7, 11)] ?_|refine gD 8 [(0, 11), (3, 11), (6, 11), (7, 11)] ?_)) <;> (try (conv => whnf)))
 ·rw [if_neg c1]
  by_cases c2 : rd x 0 = 2
  ·rw [if_pos c2]
   have q1 := fun k => i_Mark k P S W H on cut opn kept (rd x 1) (rd x 2) hb hs
   generalize markIs P S W H on cut opn kept (rd x 1) (rd x 2) = X at *
   obtain ⟨⟨⟨P', S', W', H'⟩, on', cut', opn', kept'⟩, n⟩ := X
   simp only [liveRes] at q1 ⊢
   (refine fnI [ResultVar.cell 4 44, ResultVar.tmp 5] Tryz.func24 ?_; conv => whnf)
   repeat' ((with_reducible (first | refine sCall.of (q1 _) ?_|refine st21 ?_|refine gA ?_ ?_<;>intro _|refine gE ?_ ?_<;>intro _|refine gD 3 [(0, 8), (3, 8), (4, 8)] ?_|refine gD 6 [(0, 11), (3, 11), (6, 11), (7, 11)] ?_|refine gD 8 [(0, 11), (3, 11), (6, 11), (7, 11)] ?_)) <;> (try (conv => whnf)))
  ·rw [if_neg c2]
   have q1 := fun k => i_LiveStep k P S W H on cut opn kept (rd x 1) (rd x 2) hb hs
   generalize liveStepIs P S W H on cut opn kept (rd x 1) (rd x 2) = X at *
   obtain ⟨⟨⟨P', S', W', H'⟩, on', cut', opn', kept'⟩, n⟩ := X
   simp only [liveRes] at q1 ⊢
   (refine fnI [ResultVar.cell 4 44, ResultVar.tmp 5] Tryz.func24 ?_; conv => whnf)
   repeat' ((with_reducible (first | refine sCall.of (q1 _) ?_|refine st21 ?_|refine gA ?_ ?_<;>intro _|refine gE ?_ ?_<;>intro _|refine gD 3 [(0, 8), (3, 8), (4, 8)] ?_|refine gD 6 [(0, 11), (3, 11), (6, 11), (7, 11)] ?_|refine gD 8 [(0, 11), (3, 11), (6, 11), (7, 11)] ?_)) <;> (try (conv => whnf)))
theorem w_actSpec (k : Nat) (P : List (List Ins)) (S : List State) (W : List (List Item)) (H : List (List Event)) (on : Bool) (cut : List Int) (opn : List Bool) (kept : List (List Int)) (x : List Int) (hb : SysB 1000000000 P S W H) (hs : ShotB 1000000000 cut opn kept) (hx : x.length = 3) :
  callE PR C (k + 20) 25 [aLive 0 P S W H on cut opn kept, .h 1000007 0 0 [] 1 0 x.length] [tInsSS P, tStateS S, tItemSS W, tEventSS H, tI cut, tBool opn, tIntSS kept, tI x] = some (liveRes (actIs P S W H on cut opn kept x).1 (actIs P S W H on cut opn kept x).2 [none, none, none, none, none, none, none, none]) := by
 unfold actIs
 by_cases c1 : rd x 0 = 1
 ·rw [if_pos c1]
  have q1 := fun k => s_Begin k P S W H on cut opn kept (rd x 1) hb hs
  generalize beginIs P S W H on cut opn kept (rd x 1) = X at *
  obtain ⟨⟨⟨P', S', W', H'⟩, on', cut', opn', kept'⟩, n⟩ := X
  simp only [liveRes] at q1 ⊢
  (refine fnI [ResultVar.cell 4 44, ResultVar.tmp 5] Tryz.func25 ?_; conv => whnf)
  repeat' ((with_reducible (first | refine sCall.of (q1 _) ?_|refine st21 ?_|refine gA ?_ ?_<;>intro _|refine gE ?_ ?_<;>intro _|refine gD 3 [(0, 8), (3, 8), (4, 8)] ?_|refine gD 6 [(0, 11), (3, 11), (6, 11), (7, 11)] ?_|refine gD 8 [(0, 11), (3, 11), (6, 11), (7, 11)] ?_)) <;> (try (conv => whnf)))
 ·rw [if_neg c1]
  by_cases c2 : rd x 0 = 2
  ·rw [if_pos c2]
   have q1 := fun k => s_Mark k P S W H on cut opn kept (rd x 1) (rd x 2) hb hs
   generalize markIs P S W H on cut opn kept (rd x 1) (rd x 2) = X at *
   obtain ⟨⟨⟨P', S', W', H'⟩, on', cut', opn', kept'⟩, n⟩ := X
   simp only [liveRes] at q1 ⊢
   (refine fnI [ResultVar.cell 4 44, ResultVar.tmp 5] Tryz.func25 ?_; conv => whnf)
   repeat' ((with_reducible (first | refine sCall.of (q1 _) ?_|refine st21 ?_|refine gA ?_ ?_<;>intro _|refine gE ?_ ?_<;>intro _|refine gD 3 [(0, 8), (3, 8), (4, 8)] ?_|refine gD 6 [(0, 11), (3, 11), (6, 11), (7, 11)] ?_|refine gD 8 [(0, 11), (3, 11), (6, 11), (7, 11)] ?_)) <;> (try (conv => whnf)))
  ·rw [if_neg c2]
   have q1 := fun k => s_LiveStep k P S W H on cut opn kept (rd x 1) (rd x 2) hb hs
   generalize liveStepIs P S W H on cut opn kept (rd x 1) (rd x 2) = X at *
   obtain ⟨⟨⟨P', S', W', H'⟩, on', cut', opn', kept'⟩, n⟩ := X
   simp only [liveRes] at q1 ⊢
   (refine fnI [ResultVar.cell 4 44, ResultVar.tmp 5] Tryz.func25 ?_; conv => whnf)
   repeat' ((with_reducible (first | refine sCall.of (q1 _) ?_|refine st21 ?_|refine gA ?_ ?_<;>intro _|refine gE ?_ ?_<;>intro _|refine gD 3 [(0, 8), (3, 8), (4, 8)] ?_|refine gD 6 [(0, 11), (3, 11), (6, 11), (7, 11)] ?_|refine gD 8 [(0, 11), (3, 11), (6, 11), (7, 11)] ?_)) <;> (try (conv => whnf)))

def DShots (r : Res) : Prop := ∃ (P : List (List Ins)) (S : List State) (W : List (List Item)) (H : List (List Event)) (on : Bool) (cut : List Int) (opn : List Bool) (kept : List (List Int)) (l : List (List Int)), LvP0 P S W H on cut opn kept ∧ (∀ w ∈ l, w.length = 3) ∧ l.length ≤ 150 ∧ r = ⟨.tu [nLive 0 P S W H on cut opn kept, .h 2000007 1 0 [] 1 0 l.length], [tInsSS9 P, tStateS9 S, tItemSS9 W, tEventSS9 H, tI9 cut, tBool9 opn, tIntSS9 kept, tIntSS9 l], [none]⟩
theorem sCall.shots {x : Option Res} {F : Res → Prop} (e : Told x DShots) (h : ∀ (P : List (List Ins)) (S : List State) (W : List (List Item)) (H : List (List Event)) (on : Bool) (cut : List Int) (opn : List Bool) (kept : List (List Int)) (l : List (List Int)), LvP0 P S W H on cut opn kept → (∀ w ∈ l, w.length = 3) → l.length ≤ 150 → F ⟨.tu [nLive 0 P S W H on cut opn kept, .h 2000007 1 0 [] 1 0 l.length], [tInsSS9 P, tStateS9 S, tItemSS9 W, tEventSS9 H, tI9 cut, tBool9 opn, tIntSS9 kept, tIntSS9 l], [none]⟩) : sCall x F :=
 sCall.ex e fun r hr => by obtain ⟨P, S, W, H, on, cut, opn, kept, l, h1, h2, h3, rfl⟩ := hr; exact h P S W H on cut opn kept l h1 h2 h3
theorem s_DrawShots (k : Nat) (b : List Int) (hb : Bytes b) : Told (callE PR C (k + 13) 23 [.h 1000000 0 0 [] 1 0 b.length] [tB b]) DShots := by
 have hbl := hb.len
 have z0 : (0 : Int) ≤ 0 := Int.le_refl 0
 have z1 : (0 : Int) ≤ b.length := by omega
 (refine callE_w [ResultVar.cell 2 44, ResultVar.tmp 3] rfl Tryz.func23 rfl (by decide +kernel) rfl (by simp) ?_; (conv => whnf))
 repeat' ((with_reducible (first | refine sCall.newCur (s_l1New _ b hb.len hb.num) (fun _ => ?_)|refine sCall.long (s_l1Long _ b 60 140 hbl ⟨by decide, by decide⟩ ⟨by decide, by decide⟩) (fun _ _ _ => ?_)|refine st21 ?_|refine gA ?_ ?_<;>intro _|refine gE ?_ ?_<;>intro _)) <;> (try (conv => whnf)))
 rename_i h n hn0 hn1
 repeat' ((with_reducible (first | (refine sCall.ex (s_l11DrawRunP _ b 0 h n hb ⟨hn0, by omega⟩) ?_)|refine st21 ?_|refine gA ?_ ?_<;>intro _|refine gE ?_ ?_<;>intro _)) <;> (try (conv => whnf)))
 rintro _ ⟨P, S, W, H, on, cut, opn, kept, l, i', h', ⟨hL, h3⟩, hl, ⟨e1, e2⟩, rfl | ⟨P', S', W', H', on', cut', opn', kept', m, hm, hL', rfl⟩⟩
 all_goals (conv => whnf)
 all_goals repeat' ((with_reducible (first | refine st21 ?_|refine gA ?_ ?_<;>intro _|refine gE ?_ ?_<;>intro _)) <;> (try (conv => whnf)))
 all_goals exact ⟨_, _, _, _, _, _, _, _, _, hL, h3, by omega, rfl⟩
theorem pict_act {P : List (List Ins)} {S : List State} {W : List (List Item)} {H : List (List Event)} {on : Bool} {cut : List Int} {opn : List Bool} {kept : List (List Int)} {x : List Int} {m : Nat} {P' : List (List Ins)} {S' : List State} {W' : List (List Item)} {H' : List (List Event)} {on' : Bool} {cut' : List Int} {opn' : List Bool} {kept' : List (List Int)} (hL : LvP P S W H on cut opn kept) (hk : ∀ x ∈ kept, x.length ≤ m)
  (h : actIs P S W H on cut opn kept x = (⟨⟨P', S', W', H'⟩, on', cut', opn', kept'⟩, 0)) : LvP P' S' W' H' on' cut' opn' kept' ∧ ∀ x ∈ kept', x.length ≤ m + 1 := by
 unfold actIs at h
 split at h
 ·have h1 := begin_yes (by rw [h] : (beginIs P S W H on cut opn kept (rd x 1)).2 = 0)
  rw [h] at h1
  exact ⟨beginIs_pict hL h, by have e : kept' = kept := h1.2; rw [e]; exact fun x hx => by have := hk x hx; omega⟩
 ·split at h
  ·have h1 := mark_yes (by rw [h] : (markIs P S W H on cut opn kept (rd x 1) (rd x 2)).2 = 0)
   rw [h] at h1
   exact ⟨markIs_pict hL h, by have e : kept' = kept := h1.2; rw [e]; exact fun x hx => by have := hk x hx; omega⟩
  ·have h1 := lstep_yes (by rw [h] : (liveStepIs P S W H on cut opn kept (rd x 1) (rd x 2)).2 = 0)
   rw [h] at h1
   exact ⟨lstepIs_pict hL h, h1.2 m hk⟩
theorem gSelf {b : Bool} {A B : Prop} (h : A) : fG (b == b) A B := fG.yes (beq_self_eq_true _) h
structure PL where
 j : Nat
 P : List (List Ins)
 S : List State
 W : List (List Item)
 H : List (List Event)
 on : Bool
 cut : List Int
 opn : List Bool
 kept : List (List Int)
 o : Nat
 b0 : Nat
 b1 : Nat
 b2 : Nat
 b3 : Nat
 b4 : Nat
 b5 : Nat
 b6 : Nat
 dd : Bool
structure PF where
 i : Nat
 f : Bool
 b0 : Nat
 b1 : Nat
 b2 : Nat
 b3 : Nat
 b4 : Nat
 b5 : Nat
 b6 : Nat
 dd : Bool
theorem w_FnPicture (k : Nat) (b : List Int) (hl : b.length ≤ 140737488355328) (hv : ∀ v ∈ b, 0 ≤ v ∧ v < 256) :
    callE PR C (k + 30) 4 [.h 1000000 0 0 [] 1 0 b.length] [tB b] = some ⟨bl true, [], [none]⟩ := by
  have q0 := fun k => w_big k b
  by_cases c0 : 1048576 < (b.length : Int)
  · rw [decide_eq_true c0] at q0
    (refine fnI [ResultVar.tmp 2] Tryz.func4 ?_; conv => whnf)
    repeat' ((with_reducible (first | refine sCall.of (q0 _) ?_|refine st21 ?_|refine gA ?_ ?_<;>intro _|refine gE ?_ ?_<;>intro _|refine gD 7 [(0, 9), (4, 9), (5, 9)] ?_|refine gD 8 [(0, 9), (4, 9), (5, 9)] ?_)) <;> (try (conv => whnf)))
  · rw [decide_eq_false c0] at q0
    have hb : Bytes b := ⟨by omega, hv⟩
    (refine fnI [ResultVar.tmp 2] Tryz.func4 ?_; conv => whnf)
    repeat' ((with_reducible (first | refine sCall.of (q0 _) ?_|refine sCall.shots (s_DrawShots _ _ hb) (fun _ _ _ _ _ _ _ _ _ _ _ _ => ?_)|refine st21 ?_|refine gA ?_ ?_<;>intro _|refine gE ?_ ?_<;>intro _|refine gD 7 [(0, 9), (4, 9), (5, 9)] ?_|refine gD 8 [(0, 9), (4, 9), (5, 9)] ?_)) <;> (try (conv => whnf)))
    rename_i P0 S0 W0 H0 on0 cut0 opn0 kept0 l hL0 h3 hl2
    refine loop_rule (ι := PL) (fun y => [(3, .pt 3 1 0 [] 0 0), (4, .h 80018 1 0 [] 1 0 l.length), (5, i64 (y.j : Nat))])
      (fun y => [(3, ⟨1, 0, y.dd, .box [.h (y.o + 10000) y.b0 0 [] 1 0 y.P.length, .h (y.o + 20000) y.b1 0 [] 4 0 y.S.length, .h (y.o + 30000) y.b2 0 [] 1 0 y.W.length, .h (y.o + 40000) y.b3 0 [] 1 0 y.H.length, bl y.on, .h (y.o + 50000) y.b4 0 [] 1 0 y.cut.length, .h (y.o + 60000) y.b5 0 [] 1 0 y.opn.length, .h (y.o + 70000) y.b6 0 [] 1 0 y.kept.length]⟩), (80018, ⟨1, 0, false, tIntSS9 l⟩),
        (y.o + 10000, ⟨y.b0, 0, false, tInsSS9 y.P⟩), (y.o + 20000, ⟨y.b1, 0, false, tStateS9 y.S⟩), (y.o + 30000, ⟨y.b2, 0, false, tItemSS9 y.W⟩), (y.o + 40000, ⟨y.b3, 0, false, tEventSS9 y.H⟩), (y.o + 50000, ⟨y.b4, 0, false, tI9 y.cut⟩), (y.o + 60000, ⟨y.b5, 0, false, tBool9 y.opn⟩), (y.o + 70000, ⟨y.b6, 0, false, tIntSS9 y.kept⟩)])
      (fun y => l.length - y.j) (fun y => y.j ≤ l.length ∧ LvP y.P y.S y.W y.H y.on y.cut y.opn y.kept ∧ (∀ x ∈ y.kept, x.length ≤ y.j) ∧ (y.o = 18 ∨ y.o = 33 ∨ y.o = 5033)) ⟨0, P0, S0, W0, H0, on0, cut0, opn0, kept0, 18, 1, 1, 1, 1, 1, 1, 1, _⟩ fitOk ⟨Nat.zero_le _, hL0.1, hL0.2, .inl rfl⟩ (by simp [C]; omega) ?_
    clear hL0 q0
    rintro ⟨j, P, S, W, H, on, cut, opn, kept, o, b0, b1, b2, b3, b4, b5, b6, dd⟩ sl ob ⟨hj, hL, hk, ho⟩
    dsimp only at hj hL hk ho
    have hR : LvR j P S W H on cut opn kept := ⟨.inl hL.1, hk⟩
    have hB := hR.sys.mono (show 1048576 ≤ 1000000000 by decide)
    have hS := hR.shot (by omega)
    have hS9 : ShotB 1000000000 cut opn kept := ⟨by have := hS.c; omega, by have := hS.o; omega, by have := hS.k; omega, fun j hj => by have := hS.kk j hj; omega⟩
    by_cases hjl : j < l.length
    · have hx := h3 _ (rd_mem hjl)
      have q1 := fun k => w_act k P S W H on cut opn kept (rd l j) hB hS9 hx
      have q2 := fun k => w_actSpec k P S W H on cut opn kept (rd l j) hB hS9 hx
      have ha := fun P' S' W' H' on' cut' opn' kept' => @pict_act P S W H on cut opn kept (rd l j) j P' S' W' H' on' cut' opn' kept' hL hk
      generalize actIs P S W H on cut opn kept (rd l j) = X at *
      obtain ⟨⟨⟨P', S', W', H'⟩, on', cut', opn', kept'⟩, n⟩ := X
      simp only [liveRes] at q1 q2
      by_cases cn : n = 0
      · subst cn
        obtain ⟨hL', hk'⟩ := ha _ _ _ _ _ _ _ _ rfl
        clear ha hL hk hR hB hS hS9 hx
        obtain ⟨n0, hn0⟩ : ∃ n0 : Int, n0 = 0 := ⟨0, rfl⟩
        rw [← hn0] at q1 q2
        have hR' : LvR (j + 1) P' S' W' H' on' cut' opn' kept' := ⟨.inl hL'.1, hk'⟩
        have hB' := hR'.sys.mono (show 1048576 ≤ 1000000000 by decide)
        have hS' := hR'.shot (by omega)
        have hS9' : ShotB 1000000000 cut' opn' kept' := ⟨by have := hS'.c; omega, by have := hS'.o; omega, by have := hS'.k; omega, fun j hj => by have := hS'.kk j hj; omega⟩
        have q3 := fun k => i_ShotDone k P' S' W' H' on' cut' opn' kept' (hB'.mono (by decide)) hS9'.mono9
        cases hd : shotDone P' S' W' H' on' cut' opn' kept' with
        | false =>
          simp only [hd] at q3
          rcases ho with rfl | rfl | rfl
          all_goals (try dsimp only [cond_true, cond_false])
          all_goals (conv => whnf)
          all_goals repeat' ((with_reducible (first | refine sCall.of (q1 _) ?_|refine sCall.of (q2 _) ?_|refine sCall.of (q3 _) ?_|refine gSelf ?_|refine st21 ?_|refine gA ?_ ?_<;>intro _|refine gE ?_ ?_<;>intro _|refine gD 7 [(0, 9), (4, 9), (5, 9)] ?_|refine gD 8 [(0, 9), (4, 9), (5, 9)] ?_)) <;> (try (conv => whnf)))
          case' inl =>
            refine ⟨⟨⟨j + 1, P', S', W', H', on', cut', opn', kept', 33, _, _, _, _, _, _, _, _⟩, fitOk, ?_, ?_⟩⟩
          case' inr.inl =>
            refine ⟨⟨⟨j + 1, P', S', W', H', on', cut', opn', kept', 5033, _, _, _, _, _, _, _, _⟩, fitOk, ?_, ?_⟩⟩
          case' inr.inr =>
            refine ⟨⟨⟨j + 1, P', S', W', H', on', cut', opn', kept', 33, _, _, _, _, _, _, _, _⟩, fitOk, ?_, ?_⟩⟩
          all_goals first
            | (show l.length - (j + 1) < l.length - j; omega)
            | exact ⟨by show j + 1 ≤ _; omega, hL', hk', .inl rfl⟩
            | exact ⟨by show j + 1 ≤ _; omega, hL', hk', .inr (.inl rfl)⟩
            | exact ⟨by show j + 1 ≤ _; omega, hL', hk', .inr (.inr rfl)⟩
        | true =>
          simp only [hd] at q3
          obtain ⟨f1, f2, f3⟩ := shotDone_facts hd
          obtain ⟨hwh, hfull⟩ := pict_law hL' hd
          have q4 := fun k => i_Whole k P' S' W' H' cut' (hB'.mono (by decide)) f1 f2
          rw [hwh] at q4
          have q5 := fun k => i_Picture k P' S' W' H' on' cut' opn' kept' hB' hS9'
          generalize pictureIs P' S' W' H' on' cut' opn' kept' = Z at q5 hfull
          obtain ⟨⟨Pz, Sz, Wz, Hz⟩, t⟩ := Z
          simp only [sysResB] at q5
          dsimp only at hfull
          have hkl := hS9'.k
          have hkk := hS9'.kk
          clear f1 f2 f3 hwh hS' hB' hd
          rcases ho with rfl | rfl | rfl
          all_goals (try dsimp only [cond_true, cond_false])
          all_goals (conv => whnf)
          all_goals repeat' ((with_reducible (first | refine sCall.of (q1 _) ?_|refine sCall.of (q2 _) ?_|refine sCall.of (q3 _) ?_|refine sCall.of (q4 _) ?_|refine sCall.of (q5 _) ?_|refine gSelf ?_|refine st21 ?_|refine gA ?_ ?_<;>intro _|refine gE ?_ ?_<;>intro _|refine gD 7 [(0, 9), (4, 9), (5, 9)] ?_|refine gD 8 [(0, 9), (4, 9), (5, 9)] ?_)) <;> (try (conv => whnf)))
          case' inl =>
            refine loop_rule (ι := PF) (fun z => [(3, .pt 3 1 0 [] 0 0), (4, .h 80018 1 0 [] 1 0 l.length), (5, i64 (j : Nat)), (11, bl t), (12, bl z.f), (13, i64 (z.i : Nat))])
              (fun z => [(3, ⟨1, 0, z.dd, .box [.h 10033 z.b0 0 [] 1 0 P'.length, .h 20033 z.b1 0 [] 4 0 S'.length, .h 30033 z.b2 0 [] 1 0 W'.length, .h 40033 z.b3 0 [] 1 0 H'.length, bl on', .h 50033 z.b4 0 [] 1 0 cut'.length, .h 60033 z.b5 0 [] 1 0 opn'.length, .h 70033 z.b6 0 [] 1 0 kept'.length]⟩), (80018, ⟨1, 0, false, tIntSS9 l⟩), (10033, ⟨z.b0, 0, false, tInsSS9 P'⟩), (20033, ⟨z.b1, 0, false, tStateS9 S'⟩), (30033, ⟨z.b2, 0, false, tItemSS9 W'⟩), (40033, ⟨z.b3, 0, false, tEventSS9 H'⟩), (50033, ⟨z.b4, 0, false, tI9 cut'⟩), (60033, ⟨z.b5, 0, false, tBool9 opn'⟩), (70033, ⟨z.b6, 0, false, tIntSS9 kept'⟩)]) (fun z => kept'.length - z.i) (fun z => z.i ≤ kept'.length ∧ ∀ q, q < z.i → 12 < (rd kept' q).length → z.f = true) ⟨0, false, _, _, _, _, _, _, _, _⟩ fitOk ⟨Nat.zero_le _, fun q h => absurd h (Nat.not_lt_zero q)⟩ (by simp [C]; omega) ?_
          case' inr.inl =>
            refine loop_rule (ι := PF) (fun z => [(3, .pt 3 1 0 [] 0 0), (4, .h 80018 1 0 [] 1 0 l.length), (5, i64 (j : Nat)), (11, bl t), (12, bl z.f), (13, i64 (z.i : Nat))])
              (fun z => [(3, ⟨1, 0, z.dd, .box [.h 15033 z.b0 0 [] 1 0 P'.length, .h 25033 z.b1 0 [] 4 0 S'.length, .h 35033 z.b2 0 [] 1 0 W'.length, .h 45033 z.b3 0 [] 1 0 H'.length, bl on', .h 55033 z.b4 0 [] 1 0 cut'.length, .h 65033 z.b5 0 [] 1 0 opn'.length, .h 75033 z.b6 0 [] 1 0 kept'.length]⟩), (80018, ⟨1, 0, false, tIntSS9 l⟩), (15033, ⟨z.b0, 0, false, tInsSS9 P'⟩), (25033, ⟨z.b1, 0, false, tStateS9 S'⟩), (35033, ⟨z.b2, 0, false, tItemSS9 W'⟩), (45033, ⟨z.b3, 0, false, tEventSS9 H'⟩), (55033, ⟨z.b4, 0, false, tI9 cut'⟩), (65033, ⟨z.b5, 0, false, tBool9 opn'⟩), (75033, ⟨z.b6, 0, false, tIntSS9 kept'⟩)]) (fun z => kept'.length - z.i) (fun z => z.i ≤ kept'.length ∧ ∀ q, q < z.i → 12 < (rd kept' q).length → z.f = true) ⟨0, false, _, _, _, _, _, _, _, _⟩ fitOk ⟨Nat.zero_le _, fun q h => absurd h (Nat.not_lt_zero q)⟩ (by simp [C]; omega) ?_
          case' inr.inr =>
            refine loop_rule (ι := PF) (fun z => [(3, .pt 3 1 0 [] 0 0), (4, .h 80018 1 0 [] 1 0 l.length), (5, i64 (j : Nat)), (11, bl t), (12, bl z.f), (13, i64 (z.i : Nat))])
              (fun z => [(3, ⟨1, 0, z.dd, .box [.h 10033 z.b0 0 [] 1 0 P'.length, .h 20033 z.b1 0 [] 4 0 S'.length, .h 30033 z.b2 0 [] 1 0 W'.length, .h 40033 z.b3 0 [] 1 0 H'.length, bl on', .h 50033 z.b4 0 [] 1 0 cut'.length, .h 60033 z.b5 0 [] 1 0 opn'.length, .h 70033 z.b6 0 [] 1 0 kept'.length]⟩), (80018, ⟨1, 0, false, tIntSS9 l⟩), (10033, ⟨z.b0, 0, false, tInsSS9 P'⟩), (20033, ⟨z.b1, 0, false, tStateS9 S'⟩), (30033, ⟨z.b2, 0, false, tItemSS9 W'⟩), (40033, ⟨z.b3, 0, false, tEventSS9 H'⟩), (50033, ⟨z.b4, 0, false, tI9 cut'⟩), (60033, ⟨z.b5, 0, false, tBool9 opn'⟩), (70033, ⟨z.b6, 0, false, tIntSS9 kept'⟩)]) (fun z => kept'.length - z.i) (fun z => z.i ≤ kept'.length ∧ ∀ q, q < z.i → 12 < (rd kept' q).length → z.f = true) ⟨0, false, _, _, _, _, _, _, _, _⟩ fitOk ⟨Nat.zero_le _, fun q h => absurd h (Nat.not_lt_zero q)⟩ (by simp [C]; omega) ?_
          all_goals
            clear q1 q2 q3 q4 q5 sl ob
            rintro ⟨i, f, b0, b1, b2, b3, b4, b5, b6, dd⟩ sl ob ⟨hi, hf⟩
            dsimp only at hi hf
            by_cases hil : i < kept'.length
            · have hki := hkk i hil
              have e6 : (List.map rI (rd kept' i)).length = (rd kept' i).length := by simp
              cases f
              all_goals (try dsimp only [cond_true, cond_false])
              all_goals (conv => whnf)
              all_goals repeat' ((with_reducible (first | refine st21 ?_|refine gA ?_ ?_<;>intro _|refine gE ?_ ?_<;>intro _|refine gD 7 [(0, 9), (4, 9), (5, 9)] ?_|refine gD 8 [(0, 9), (4, 9), (5, 9)] ?_)) <;> (try (conv => whnf)))
              case' false =>
                refine ⟨⟨⟨i + 1, decide (12 < ((List.map rI (rd kept' i)).length : Int)), _, _, _, _, _, _, _, _⟩, fitOk, ?_, ?_⟩⟩
              case' true =>
                refine ⟨⟨⟨i + 1, true, _, _, _, _, _, _, _, _⟩, fitOk, ?_, ?_⟩⟩
              all_goals first
                | (show kept'.length - (i + 1) < kept'.length - i; omega)
                | exact ⟨by show i + 1 ≤ _; omega, fun q hq h12 => rfl⟩
                | (refine ⟨by show i + 1 ≤ _; omega, fun q hq h12 => ?_⟩
                   rcases Nat.lt_succ_iff_lt_or_eq.1 hq with h | h
                   · exact absurd (hf q h h12) (by simp)
                   · show decide _ = true
                     rw [decide_eq_true_eq]
                     rw [h] at h12
                     omega)
            · have hft : t = false → f = true := fun ht => by
                obtain ⟨q, hq, h12⟩ := hfull ht
                exact hf q (by omega) h12
              cases t
              case' false =>
                rw [hft rfl]
              all_goals (try dsimp only [cond_true, cond_false])
              all_goals (conv => whnf)
              all_goals repeat' ((with_reducible (first | refine st21 ?_|refine gA ?_ ?_<;>intro _|refine gE ?_ ?_<;>intro _|refine gD 7 [(0, 9), (4, 9), (5, 9)] ?_|refine gD 8 [(0, 9), (4, 9), (5, 9)] ?_)) <;> (try (conv => whnf)))
              all_goals first
                | refine ⟨⟨⟨j + 1, P', S', W', H', on', cut', opn', kept', 18, _, _, _, _, _, _, _, _⟩, fitOk, ?_, ?_⟩⟩
                | refine ⟨⟨⟨j + 1, P', S', W', H', on', cut', opn', kept', 33, _, _, _, _, _, _, _, _⟩, fitOk, ?_, ?_⟩⟩
                | refine ⟨⟨⟨j + 1, P', S', W', H', on', cut', opn', kept', 5033, _, _, _, _, _, _, _, _⟩, fitOk, ?_, ?_⟩⟩
              all_goals first
                | (show l.length - (j + 1) < l.length - j; omega)
                | exact ⟨by show j + 1 ≤ _; omega, hL', hk', .inl rfl⟩
                | exact ⟨by show j + 1 ≤ _; omega, hL', hk', .inr (.inl rfl)⟩
                | exact ⟨by show j + 1 ≤ _; omega, hL', hk', .inr (.inr rfl)⟩
      · have hL' := hL
        have hk' : ∀ x ∈ kept, x.length ≤ j + 1 := fun x hx => by have := hk x hx; omega
        clear ha hL hk hR hS hS9 hx
        have hR' : LvR (j + 1) P S W H on cut opn kept := ⟨.inl hL'.1, hk'⟩
        have hB' := hR'.sys.mono (show 1048576 ≤ 1000000000 by decide)
        have hS' := hR'.shot (by omega)
        have hS9' : ShotB 1000000000 cut opn kept := ⟨by have := hS'.c; omega, by have := hS'.o; omega, by have := hS'.k; omega, fun j hj => by have := hS'.kk j hj; omega⟩
        have q3 := fun k => i_ShotDone k P S W H on cut opn kept (hB'.mono (by decide)) hS9'.mono9
        cases hd : shotDone P S W H on cut opn kept with
        | false =>
          simp only [hd] at q3
          rcases ho with rfl | rfl | rfl
          all_goals (try dsimp only [cond_true, cond_false])
          all_goals (conv => whnf)
          all_goals repeat' ((with_reducible (first | refine sCall.of (q1 _) ?_|refine sCall.of (q2 _) ?_|refine sCall.of (q3 _) ?_|refine gSelf ?_|refine st21 ?_|refine gA ?_ ?_<;>intro _|refine gE ?_ ?_<;>intro _|refine gD 7 [(0, 9), (4, 9), (5, 9)] ?_|refine gD 8 [(0, 9), (4, 9), (5, 9)] ?_)) <;> (try (conv => whnf)))
          case' inl =>
            refine ⟨⟨⟨j + 1, P, S, W, H, on, cut, opn, kept, 18, _, _, _, _, _, _, _, _⟩, fitOk, ?_, ?_⟩⟩
          case' inr.inl =>
            refine ⟨⟨⟨j + 1, P, S, W, H, on, cut, opn, kept, 33, _, _, _, _, _, _, _, _⟩, fitOk, ?_, ?_⟩⟩
          case' inr.inr =>
            refine ⟨⟨⟨j + 1, P, S, W, H, on, cut, opn, kept, 5033, _, _, _, _, _, _, _, _⟩, fitOk, ?_, ?_⟩⟩
          all_goals first
            | (show l.length - (j + 1) < l.length - j; omega)
            | exact ⟨by show j + 1 ≤ _; omega, hL', hk', .inl rfl⟩
            | exact ⟨by show j + 1 ≤ _; omega, hL', hk', .inr (.inl rfl)⟩
            | exact ⟨by show j + 1 ≤ _; omega, hL', hk', .inr (.inr rfl)⟩
        | true =>
          simp only [hd] at q3
          obtain ⟨f1, f2, f3⟩ := shotDone_facts hd
          obtain ⟨hwh, hfull⟩ := pict_law hL' hd
          have q4 := fun k => i_Whole k P S W H cut (hB'.mono (by decide)) f1 f2
          rw [hwh] at q4
          have q5 := fun k => i_Picture k P S W H on cut opn kept hB' hS9'
          generalize pictureIs P S W H on cut opn kept = Z at q5 hfull
          obtain ⟨⟨Pz, Sz, Wz, Hz⟩, t⟩ := Z
          simp only [sysResB] at q5
          dsimp only at hfull
          have hkl := hS9'.k
          have hkk := hS9'.kk
          clear f1 f2 f3 hwh hS' hB' hd
          rcases ho with rfl | rfl | rfl
          all_goals (try dsimp only [cond_true, cond_false])
          all_goals (conv => whnf)
          all_goals repeat' ((with_reducible (first | refine sCall.of (q1 _) ?_|refine sCall.of (q2 _) ?_|refine sCall.of (q3 _) ?_|refine sCall.of (q4 _) ?_|refine sCall.of (q5 _) ?_|refine gSelf ?_|refine st21 ?_|refine gA ?_ ?_<;>intro _|refine gE ?_ ?_<;>intro _|refine gD 7 [(0, 9), (4, 9), (5, 9)] ?_|refine gD 8 [(0, 9), (4, 9), (5, 9)] ?_)) <;> (try (conv => whnf)))
          case' inl =>
            refine loop_rule (ι := PF) (fun z => [(3, .pt 3 1 0 [] 0 0), (4, .h 80018 1 0 [] 1 0 l.length), (5, i64 (j : Nat)), (11, bl t), (12, bl z.f), (13, i64 (z.i : Nat))])
              (fun z => [(3, ⟨1, 0, z.dd, .box [.h 10018 z.b0 0 [] 1 0 P.length, .h 20018 z.b1 0 [] 4 0 S.length, .h 30018 z.b2 0 [] 1 0 W.length, .h 40018 z.b3 0 [] 1 0 H.length, bl on, .h 50018 z.b4 0 [] 1 0 cut.length, .h 60018 z.b5 0 [] 1 0 opn.length, .h 70018 z.b6 0 [] 1 0 kept.length]⟩), (80018, ⟨1, 0, false, tIntSS9 l⟩), (10018, ⟨z.b0, 0, false, tInsSS9 P⟩), (20018, ⟨z.b1, 0, false, tStateS9 S⟩), (30018, ⟨z.b2, 0, false, tItemSS9 W⟩), (40018, ⟨z.b3, 0, false, tEventSS9 H⟩), (50018, ⟨z.b4, 0, false, tI9 cut⟩), (60018, ⟨z.b5, 0, false, tBool9 opn⟩), (70018, ⟨z.b6, 0, false, tIntSS9 kept⟩)]) (fun z => kept.length - z.i) (fun z => z.i ≤ kept.length ∧ ∀ q, q < z.i → 12 < (rd kept q).length → z.f = true) ⟨0, false, _, _, _, _, _, _, _, _⟩ fitOk ⟨Nat.zero_le _, fun q h => absurd h (Nat.not_lt_zero q)⟩ (by simp [C]; omega) ?_
          case' inr.inl =>
            refine loop_rule (ι := PF) (fun z => [(3, .pt 3 1 0 [] 0 0), (4, .h 80018 1 0 [] 1 0 l.length), (5, i64 (j : Nat)), (11, bl t), (12, bl z.f), (13, i64 (z.i : Nat))])
              (fun z => [(3, ⟨1, 0, z.dd, .box [.h 10033 z.b0 0 [] 1 0 P.length, .h 20033 z.b1 0 [] 4 0 S.length, .h 30033 z.b2 0 [] 1 0 W.length, .h 40033 z.b3 0 [] 1 0 H.length, bl on, .h 50033 z.b4 0 [] 1 0 cut.length, .h 60033 z.b5 0 [] 1 0 opn.length, .h 70033 z.b6 0 [] 1 0 kept.length]⟩), (80018, ⟨1, 0, false, tIntSS9 l⟩), (10033, ⟨z.b0, 0, false, tInsSS9 P⟩), (20033, ⟨z.b1, 0, false, tStateS9 S⟩), (30033, ⟨z.b2, 0, false, tItemSS9 W⟩), (40033, ⟨z.b3, 0, false, tEventSS9 H⟩), (50033, ⟨z.b4, 0, false, tI9 cut⟩), (60033, ⟨z.b5, 0, false, tBool9 opn⟩), (70033, ⟨z.b6, 0, false, tIntSS9 kept⟩)]) (fun z => kept.length - z.i) (fun z => z.i ≤ kept.length ∧ ∀ q, q < z.i → 12 < (rd kept q).length → z.f = true) ⟨0, false, _, _, _, _, _, _, _, _⟩ fitOk ⟨Nat.zero_le _, fun q h => absurd h (Nat.not_lt_zero q)⟩ (by simp [C]; omega) ?_
          case' inr.inr =>
            refine loop_rule (ι := PF) (fun z => [(3, .pt 3 1 0 [] 0 0), (4, .h 80018 1 0 [] 1 0 l.length), (5, i64 (j : Nat)), (11, bl t), (12, bl z.f), (13, i64 (z.i : Nat))])
              (fun z => [(3, ⟨1, 0, z.dd, .box [.h 15033 z.b0 0 [] 1 0 P.length, .h 25033 z.b1 0 [] 4 0 S.length, .h 35033 z.b2 0 [] 1 0 W.length, .h 45033 z.b3 0 [] 1 0 H.length, bl on, .h 55033 z.b4 0 [] 1 0 cut.length, .h 65033 z.b5 0 [] 1 0 opn.length, .h 75033 z.b6 0 [] 1 0 kept.length]⟩), (80018, ⟨1, 0, false, tIntSS9 l⟩), (15033, ⟨z.b0, 0, false, tInsSS9 P⟩), (25033, ⟨z.b1, 0, false, tStateS9 S⟩), (35033, ⟨z.b2, 0, false, tItemSS9 W⟩), (45033, ⟨z.b3, 0, false, tEventSS9 H⟩), (55033, ⟨z.b4, 0, false, tI9 cut⟩), (65033, ⟨z.b5, 0, false, tBool9 opn⟩), (75033, ⟨z.b6, 0, false, tIntSS9 kept⟩)]) (fun z => kept.length - z.i) (fun z => z.i ≤ kept.length ∧ ∀ q, q < z.i → 12 < (rd kept q).length → z.f = true) ⟨0, false, _, _, _, _, _, _, _, _⟩ fitOk ⟨Nat.zero_le _, fun q h => absurd h (Nat.not_lt_zero q)⟩ (by simp [C]; omega) ?_
          all_goals
            clear q1 q2 q3 q4 q5 sl ob
            rintro ⟨i, f, b0, b1, b2, b3, b4, b5, b6, dd⟩ sl ob ⟨hi, hf⟩
            dsimp only at hi hf
            by_cases hil : i < kept.length
            · have hki := hkk i hil
              have e6 : (List.map rI (rd kept i)).length = (rd kept i).length := by simp
              cases f
              all_goals (try dsimp only [cond_true, cond_false])
              all_goals (conv => whnf)
              all_goals repeat' ((with_reducible (first | refine st21 ?_|refine gA ?_ ?_<;>intro _|refine gE ?_ ?_<;>intro _|refine gD 7 [(0, 9), (4, 9), (5, 9)] ?_|refine gD 8 [(0, 9), (4, 9), (5, 9)] ?_)) <;> (try (conv => whnf)))
              case' false =>
                refine ⟨⟨⟨i + 1, decide (12 < ((List.map rI (rd kept i)).length : Int)), _, _, _, _, _, _, _, _⟩, fitOk, ?_, ?_⟩⟩
              case' true =>
                refine ⟨⟨⟨i + 1, true, _, _, _, _, _, _, _, _⟩, fitOk, ?_, ?_⟩⟩
              all_goals first
                | (show kept.length - (i + 1) < kept.length - i; omega)
                | exact ⟨by show i + 1 ≤ _; omega, fun q hq h12 => rfl⟩
                | (refine ⟨by show i + 1 ≤ _; omega, fun q hq h12 => ?_⟩
                   rcases Nat.lt_succ_iff_lt_or_eq.1 hq with h | h
                   · exact absurd (hf q h h12) (by simp)
                   · show decide _ = true
                     rw [decide_eq_true_eq]
                     rw [h] at h12
                     omega)
            · have hft : t = false → f = true := fun ht => by
                obtain ⟨q, hq, h12⟩ := hfull ht
                exact hf q (by omega) h12
              cases t
              case' false =>
                rw [hft rfl]
              all_goals (try dsimp only [cond_true, cond_false])
              all_goals (conv => whnf)
              all_goals repeat' ((with_reducible (first | refine st21 ?_|refine gA ?_ ?_<;>intro _|refine gE ?_ ?_<;>intro _|refine gD 7 [(0, 9), (4, 9), (5, 9)] ?_|refine gD 8 [(0, 9), (4, 9), (5, 9)] ?_)) <;> (try (conv => whnf)))
              all_goals first
                | refine ⟨⟨⟨j + 1, P, S, W, H, on, cut, opn, kept, 18, _, _, _, _, _, _, _, _⟩, fitOk, ?_, ?_⟩⟩
                | refine ⟨⟨⟨j + 1, P, S, W, H, on, cut, opn, kept, 33, _, _, _, _, _, _, _, _⟩, fitOk, ?_, ?_⟩⟩
                | refine ⟨⟨⟨j + 1, P, S, W, H, on, cut, opn, kept, 5033, _, _, _, _, _, _, _, _⟩, fitOk, ?_, ?_⟩⟩
              all_goals first
                | (show l.length - (j + 1) < l.length - j; omega)
                | exact ⟨by show j + 1 ≤ _; omega, hL', hk', .inl rfl⟩
                | exact ⟨by show j + 1 ≤ _; omega, hL', hk', .inr (.inl rfl)⟩
                | exact ⟨by show j + 1 ≤ _; omega, hL', hk', .inr (.inr rfl)⟩
    · have q3 := fun k => i_LiveOk k P S W H on cut opn kept (hB.mono (by decide)) hS9.mono9
      rw [liveF_iff.2 hL.1] at q3
      rcases ho with rfl | rfl | rfl
      all_goals (try dsimp only [cond_true, cond_false])
      all_goals (conv => whnf)
      all_goals repeat' ((with_reducible (first | refine sCall.of (q3 _) ?_|refine st21 ?_|refine gA ?_ ?_<;>intro _|refine gE ?_ ?_<;>intro _|refine gD 7 [(0, 9), (4, 9), (5, 9)] ?_|refine gD 8 [(0, 9), (4, 9), (5, 9)] ?_)) <;> (try (conv => whnf)))

end Go.Proofs.YtipfcgbhaalcdaaGreat.Abs
namespace Go.Proofs.YtipfcgbhaalcdaaGreat.Abs
open Go
set_option linter.unusedVariables false

def Opens (P : Program) (t : TypeId) (n : Nat) (M : List T → Prop) : Prop :=
 ∀ (H : Type) (enc : TypeId × Value → H) (w : World) (base : Nat) (sp : Nat → Bool) (held : Bool) (fuel : Nat) (cs : List Value) (x : DataW H × List MemPlace),
  DataW.trod enc P w base sp held fuel t cs = some x → (∀ m ∈ x.1.weights P t, m ≤ reachBytes) →
   cs.length = n ∧ ∃ ts : List T, ts.length = n ∧ M ts ∧ ∀ (i : Nat) v t', cs[i]? = some v → ts[i]? = some t' → Ow (fun k => k < w.heap.size) w 0 v t' none_
theorem Opens.mono {P : Program} {t : TypeId} {n : Nat} {M M' : List T → Prop} (h : Opens P t n M) (hm : ∀ ts, M ts → M' ts) : Opens P t n M' := by
 intro H enc w base sp held fuel cs x hx hw
 obtain ⟨h1, ts, h2, h3, h4⟩ := h H enc w base sp held fuel cs x hx hw
 exact ⟨h1, ts, h2, hm _ h3, h4⟩
theorem one_ow {w : World} {v0 : Value} {t0 : T} (h : Ow (fun k => k < w.heap.size) w 0 v0 t0 none_) : ∀ (i : Nat) v t', [v0][i]? = some v → [t0][i]? = some t' → Ow (fun k => k < w.heap.size) w 0 v t' none_ := by
 rintro (_ | i) v t' h1 h2
 ·simp at h1 h2; subst h1; subst h2; exact h
 ·simp at h1
theorem Opens.int {P : Program} {t : TypeId} {k : IntKind} (ht : P.underlying t = some (.int k)) : Opens P t 1 (fun ts => ∃ n, (Lit.int k n).wf = true ∧ ts = [.v (.int k n)]) := by
 intro H enc w base sp held fuel cs x hx hw
 obtain ⟨n, rfl, rfl, h⟩ := DataW.trod_int ht hx
 exact ⟨rfl, _, rfl, ⟨n, h, rfl⟩, one_ow (.v rfl)⟩
theorem Opens.bool {P : Program} {t : TypeId} (ht : P.underlying t = some .bool) : Opens P t 1 (fun ts => ∃ b, ts = [.v (.bool b)]) := by
 intro H enc w base sp held fuel cs x hx hw
 obtain ⟨b, rfl, rfl⟩ := DataW.trod_bool ht hx
 exact ⟨rfl, _, rfl, ⟨b, rfl⟩, one_ow (.v rfl)⟩
theorem Opens.str {P : Program} {t : TypeId} (ht : P.underlying t = some .string) : Opens P t 1 (fun ts => ∃ s : ByteArray, s.size ≤ reachBytes ∧ ts = [.v (.string s)]) := by
 intro H enc w base sp held fuel cs x hx hw
 obtain ⟨s, rfl, rfl, h⟩ := DataW.trod_string ht hx
 refine ⟨rfl, _, rfl, ⟨s, ?_, rfl⟩, one_ow (.v rfl)⟩
 have := hw s.data.toList.length (by simp [DataW.weights])
 simpa using this
def Parts (P : Program) : List Field → Nat → Nat → (List T → Prop) → Prop
 | [], _, n, M => n = 0 ∧ M []
 | f :: r, off, n, M => f.offset = off ∧ ∃ n1 n2 M1 M2, P.cellsOf f.type = n1 ∧ Opens P f.type n1 M1 ∧ Parts P r (off + n1) n2 M2 ∧ n = n1 + n2 ∧ ∀ a b, M1 a → M2 b → M (a ++ b)
theorem weights_part {P : Program} {H : Type} {ts : List TypeId} : ∀ {ds : List (DataW H)} {R : Nat}, (∀ m ∈ DataW.weightsEach P ts ds, m ≤ R) → ∀ (j : Nat) t d, ts[j]? = some t → ds[j]? = some d → ∀ m ∈ d.weights P t, m ≤ R :=
 fun h j t d ht hd m hm => h m (DataW.weights_mem_each ht hd m hm)
theorem Parts.opens {P : Program} {H : Type} {enc : TypeId × Value → H} {w : World} {base : Nat} {sp : Nat → Bool} {held : Bool} {fuel : Nat} {cs : List Value} : ∀ {fs : List Field} {off n : Nat} {M : List T → Prop}, Parts P fs off n M → off + n = cs.length →
  (∀ f ∈ fs, ∃ x, DataW.trod enc P w base sp held fuel f.type ((cs.drop f.offset).take (P.cellsOf f.type)) = some x ∧ (∀ m ∈ x.1.weights P f.type, m ≤ reachBytes)) →
  ∃ ts : List T, ts.length = n ∧ M ts ∧ ∀ (i : Nat) v t', cs[off + i]? = some v → ts[i]? = some t' → Ow (fun k => k < w.heap.size) w 0 v t' none_ := by
 intro fs
 induction fs with
 | nil =>
  intro off n M h hl _
  exact ⟨[], h.1.symm, h.2, fun i v t' _ h2 => by simp at h2⟩
 | cons f r ih =>
  intro off n M h hl hx
  obtain ⟨rfl, n1, n2, M1, M2, h1, h2, h3, rfl, h4⟩ := h
  obtain ⟨x, hx1, hx2⟩ := hx f (by simp)
  rw [h1] at hx1
  obtain ⟨k1, t1, k2, k3, k4⟩ := h2 H enc w base sp held fuel _ x hx1 hx2
  obtain ⟨t2, q1, q2, q3⟩ := ih h3 (by omega) fun g hg => hx g (by simp [hg])
  refine ⟨t1 ++ t2, by simp [k2, q1], h4 _ _ k3 q2, fun i v t' hv ht' => ?_⟩
  by_cases hi : i < n1
  ·rw [List.getElem?_append_left (by omega)] at ht'
   exact k4 i v t' (by rw [List.getElem?_take, if_pos hi, List.getElem?_drop]; exact hv) ht'
  ·rw [List.getElem?_append_right (by omega), k2] at ht'
   exact q3 (i - n1) v t' (by rw [show f.offset + n1 + (i - n1) = f.offset + i by omega]; exact hv) ht'
theorem Opens.struct {P : Program} {t : TypeId} {fs : Array Field} {n : Nat} {M : List T → Prop} (ht : P.underlying t = some (.struct fs)) (hc : P.cellsOf t = n) (hp : Parts P fs.toList 0 n M) : Opens P t n M := by
 intro H enc w base sp held fuel cs x hx hw
 obtain ⟨xs, m, _, rfl, hl, hlen, hf⟩ := DataW.trod_struct ht hx
 have hl' : cs.length = n := hl.trans hc
 obtain ⟨ts, h1, h2, h3⟩ := hp.opens (enc := enc) (w := w) (base := base) (sp := sp) (held := held) (fuel := m) (cs := cs) (by omega) (by
  intro f hfm
  obtain ⟨i, hi⟩ := List.getElem?_of_mem hfm
  have hi' : fs[i]? = some f := by simpa using hi
  have hlt : i < xs.length := by rw [hlen]; exact (Array.getElem?_eq_some_iff.1 hi').1
  have hy : xs[i]? = some xs[i] := List.getElem?_eq_getElem hlt
  refine ⟨xs[i], (hf i f hi').trans hy, ?_⟩
  refine weights_part (ts := fs.toList.map (·.type)) (ds := xs.map (·.1)) ?_ i f.type xs[i].1 (by simp [hi']) (by rw [List.getElem?_map, hy]; rfl)
  intro q hq
  refine hw q ?_
  simpa [DataW.weights, ht] using hq)
 exact ⟨hl', ts, h1, h2, fun i v t' hv ht' => h3 i v t' (by simpa using hv) ht'⟩
def IntsM (n : Nat) (ts : List T) : Prop := ∃ zs : List Int, zs.length = n ∧ ts = zs.map fun z => T.v (.int .i64 z)
theorem Parts.nil {P : Program} {off : Nat} : Parts P [] off 0 (IntsM 0) := ⟨rfl, [], rfl, rfl⟩
theorem Parts.int {P : Program} {f : Field} {r : List Field} {off n : Nat} (ho : f.offset = off) (hc : P.cellsOf f.type = 1) (ht : P.underlying f.type = some (.int .i64)) (h : Parts P r (off + 1) n (IntsM n)) :
  Parts P (f :: r) off (1 + n) (IntsM (1 + n)) := by
 refine ⟨ho, 1, n, _, _, hc, Opens.int ht, h, rfl, ?_⟩
 rintro a b ⟨z, _, rfl⟩ ⟨zs, hz, rfl⟩
 exact ⟨z :: zs, by simp [hz]; omega, rfl⟩
def Ms : List (List T → Prop) → List T → Prop
 | [], ts => ts = []
 | M :: r, ts => ∃ a b, ts = a ++ b ∧ M a ∧ Ms r b
theorem Parts.mnil {P : Program} {off : Nat} : Parts P [] off 0 (Ms []) := ⟨rfl, rfl⟩
theorem Parts.mcons {P : Program} {f : Field} {r : List Field} {off n1 n : Nat} {M : List T → Prop} {l : List (List T → Prop)} (ho : f.offset = off) (hc : P.cellsOf f.type = n1) (ht : Opens P f.type n1 M) (h : Parts P r (off + n1) n (Ms l)) :
  Parts P (f :: r) off (n1 + n) (Ms (M :: l)) :=
 ⟨ho, n1, n, _, _, hc, ht, h, rfl, fun a b ha hb => ⟨a, b, rfl, ha, hb⟩⟩

theorem rows_map {α : Type} {f : α → List T} {p : α → Prop} {rows : List (List T)} (h : ∀ r ∈ rows, ∃ x, p x ∧ r = f x) : ∃ l : List α, rows = l.map f ∧ ∀ x ∈ l, p x := by
 induction rows with
 | nil => exact ⟨[], rfl, by simp⟩
 | cons r rows ih =>
  obtain ⟨x, hx, rfl⟩ := h r (by simp)
  obtain ⟨l, rfl, hl⟩ := ih fun q hq => h q (by simp [hq])
  exact ⟨x :: l, rfl, by simpa using ⟨hx, hl⟩⟩
theorem weights_all {P : Program} {H : Type} {e : TypeId} {d : DataW H} : ∀ {l : List (DataW H)}, d ∈ l → ∀ m ∈ d.weights P e, m ∈ DataW.weightsAll P e l
 | a :: r, hd, m, hm => by
  simp only [DataW.weightsAll, List.mem_append]
  rcases List.mem_cons.1 hd with rfl | hd
  ·exact .inl hm
  ·exact .inr (weights_all hd m hm)
theorem Opens.slice {P : Program} {t e : TypeId} {sz B : Nat} {M : List T → Prop} (ht : P.underlying t = some (.slice e)) (hc : P.cellsOf e = sz) (hB : P.bytesOf e = B) (hsz : 0 < sz) (hE : Opens P e sz M) :
  Opens P t 1 (fun ts => ∃ rows, ts = [.sl sz rows] ∧ (∀ x ∈ rows, M x) ∧ rows.length * B ≤ reachBytes) := by
 intro H enc w base sp held fuel cs0 x hx hw
 rcases DataW.trod_slice ht hx with ⟨rfl, _⟩ | ⟨a, len, cap, elems, rest, n, _, rfl, rfl, _, hl, _, hlen, hel, _⟩
 ·exact ⟨rfl, _, rfl, ⟨[], rfl, by simp, by simp⟩, one_ow .nil⟩
 ·have hw1 : (elems.length + rest.length) * B ≤ reachBytes := by
   have := hw ((elems.length + rest.length) * P.bytesOf e) (by simp [DataW.weights, ht])
   rwa [hB] at this
  have hcell : ∀ i : Nat, ∃ q : List Value × List T, i < len → q.1.length = sz ∧ q.2.length = sz ∧ M q.2 ∧ (∀ j, j < sz → w.cell? ((a.add (i * sz)).add j) = q.1[j]?) ∧
    ∀ (j : Nat) v t', q.1[j]? = some v → q.2[j]? = some t' → Ow (fun k => k < w.heap.size) w 0 v t' none_ := by
   intro i
   by_cases hi : i < len
   ·have hy : elems[i]? = some (elems[i]'(by omega)) := List.getElem?_eq_getElem (by omega)
    have h1 := hel i hi
    rw [hy, hc, Option.bind_eq_some_iff] at h1
    obtain ⟨cs, hcs, htr⟩ := h1
    obtain ⟨k1, ts, k2, k3, k4⟩ := hE H enc w base sp held n cs _ htr (by
     intro m hm
     refine hw m ?_
     have := weights_all (P := P) (e := e) (l := elems.map (·.1)) (List.mem_map_of_mem (List.getElem_mem (by omega : i < elems.length))) m hm
     simp [DataW.weights, ht, this])
    obtain ⟨_, g1, g2⟩ := World.cells?_some hcs
    exact ⟨(cs, ts), fun _ => ⟨k1, k2, k3, g2, k4⟩⟩
   ·exact ⟨([], []), fun h => absurd h hi⟩
  obtain ⟨c, hc2⟩ := Classical.axiomOfChoice hcell
  have hblk : 0 < len → a.block < w.heap.size := by
   intro h0
   obtain ⟨k1, k2, k3, k4, k5⟩ := hc2 0 h0
   have h1 := k4 0 hsz
   have h2 : (c 0).1[0]? = some ((c 0).1[0]'(by omega)) := List.getElem?_eq_getElem (by omega)
   rw [h2] at h1
   by_cases hlt : a.block < w.heap.size
   ·exact hlt
   ·unfold World.cell? at h1
    rw [add_block, add_block, Array.getElem?_eq_none (by omega)] at h1
    simp at h1
  have hat : ∀ i j t', cellT ((List.range len).map fun i => (c i).2) i j = some t' → i < len ∧ (c i).2[j]? = some t' := by
   intro i j t' h'
   unfold cellT at h'
   rw [List.getElem?_map] at h'
   by_cases hi : i < len
   ·have hr : (List.range len)[i]? = some i := by simp [hi]
    rw [hr] at h'
    exact ⟨hi, by simpa using h'⟩
   ·have hr : (List.range len)[i]? = none := by simp; omega
    rw [hr] at h'
    simp at h'
  refine ⟨rfl, [.sl sz ((List.range len).map fun i => (c i).2)], rfl, ⟨_, rfl, ?_, ?_⟩, one_ow ?_⟩
  ·intro x hx
   obtain ⟨i, hi, rfl⟩ := List.mem_map.1 hx
   exact (hc2 i (List.mem_range.1 hi)).2.2.1
  ·rw [List.length_map, List.length_range]
   exact Nat.le_trans (Nat.mul_le_mul_right _ (by omega)) hw1
  ·have hro := Ow.ro (Z := fun k => k < w.heap.size) (w := w) (a := a) (c := cap) (rows := (List.range len).map fun i => (c i).2) (sz := sz) (fun i j => (c i).1.getD j undef) (by simpa using hl)
    (by
     intro r hr
     obtain ⟨i, hi, rfl⟩ := List.mem_map.1 hr
     exact (hc2 i (List.mem_range.1 hi)).2.1) (fun hne => hblk (by
      rcases Nat.eq_zero_or_pos len with h0 | h0
      ·subst h0; exact absurd rfl hne
      ·exact h0))
    (by
     intro i j t' h'
     obtain ⟨hi, hj⟩ := hat i j t' h'
     obtain ⟨k1, k2, k3, k4, k5⟩ := hc2 i hi
     have hj' : j < sz := by rw [← k2]; exact (List.getElem?_eq_some_iff.1 hj).1
     rw [← Addr.add_add, k4 j hj', List.getElem?_eq_getElem (by omega)]
     simp [List.getD, show j < (c i).1.length by omega])
    (by
     intro i j t' h'
     obtain ⟨hi, hj⟩ := hat i j t' h'
     obtain ⟨k1, k2, k3, k4, k5⟩ := hc2 i hi
     have hj' : j < sz := by rw [← k2]; exact (List.getElem?_eq_some_iff.1 hj).1
     refine k5 j _ t' ?_ hj
     rw [List.getElem?_eq_getElem (by omega)]
     simp [List.getD, show j < (c i).1.length by omega])
   simpa using hro
theorem Opens.one {P : Program} {t : TypeId} {M : List T → Prop} (h : Opens P t 1 M) {H : Type} {enc : TypeId × Value → H} {w : World} {base : Nat} {sp : Nat → Bool} {held : Bool} {v : Value} {d : DataW H} {ps : List MemPlace}
  (hv : v.cells.toList = [v]) (hd : DataW.Trod enc P w base sp held t v d ps) (hw : ∀ m ∈ d.weights P t, m ≤ reachBytes) : ∃ t', M [t'] ∧ Ow (fun k => k < w.heap.size) w 0 v t' none_ := by
 obtain ⟨fuel, hf⟩ := hd
 rw [hv] at hf
 obtain ⟨_, ts, h1, h2, h3⟩ := h H enc w base sp held fuel _ _ hf hw
 obtain ⟨t', rfl⟩ := List.length_eq_one_iff.1 h1
 exact ⟨t', h2, h3 0 v t' rfl rfl⟩
end Go.Proofs.YtipfcgbhaalcdaaGreat.Abs
namespace Go.Proofs.YtipfcgbhaalcdaaGreat.Abs
open Go Go.RowKit
set_option linter.unusedVariables false

theorem Ow.slice_inv {Z : Fp} {w : World} {v : Value} {sz : Nat} {rows : List (List T)} {F : Fp} {l : Nat} (h : Ow Z w l v (.sl sz rows) F) :
  (v = .slice none 0 0 ∧ rows = []) ∨ ∃ a c, v = .slice (some a) rows.length c ∧ rows.length ≤ c := by
 cases h with
 | nil => exact .inl ⟨rfl, rfl⟩
 | ro xs hc hs hz hx ht => exact .inr ⟨_, _, rfl, hc⟩
 | own xs F hb hfr hc hoff hmax hs hx ht hF hnb hd => exact .inr ⟨_, _, rfl, hc⟩
theorem arg_slice {Z : Fp} {w : World} {ob : Objs} {ρ : Nat → Value} {o sz : Nat} {rows : List (List T)} {v : Value} (h1 : ob o = ⟨0, 0, false, .tree 0 (.sl sz rows)⟩) (h2 : ρ o = v) (h3 : Ow Z w 0 v (.sl sz rows) none_) :
  AVR w ob ρ (.h o 0 0 [] sz 0 rows.length) v := by
 have hin := h3.slice_inv
 refine .h ?_ ?_ fun _ => ?_
 ·rw [h1]; exact ⟨Nat.le_refl _, fun _ h => absurd rfl h⟩
 ·rcases hin with ⟨rfl, rfl⟩ | ⟨a, c, rfl, hc⟩
  ·exact ⟨none, 0, rfl, Nat.le_refl _, fun _ => rfl⟩
  ·exact ⟨some a, c, rfl, hc, fun h => by cases h⟩
 ·rw [h1, h2]
  refine ⟨fun cells h => by (dsimp only at h; cases h), fun lvl t hc => ?_⟩
  dsimp only at hc
  cases hc
  refine ⟨v, rows, .here, by omega, ?_⟩
  rcases hin with ⟨rfl, rfl⟩ | ⟨a, c, rfl, hc⟩
  ·exact .inl ⟨rfl, rfl, rfl, rfl⟩
  ·refine .inr ⟨a, rows.length, c, 0, c, rfl, ?_, hc, by omega, Nat.le_refl _, fun _ => rfl⟩
   rw [Nat.zero_mul]
   cases a with
   | mk b off s => cases s <;> simp [Addr.add]
theorem FnOk.outside {P : Program} {W : World} {f : FuncId} {args : List AV} {conts : List Cont} {r : Res} (h : FnOk P f args conts r) (vals : List Value)
  (ho : ∀ (i : Nat) c, conts[i]? = some c → ∃ t v, c = .tree 0 t ∧ vals[i]? = some v ∧ Ow (fun k => k < W.heap.size) W 0 v t none_) (vs : Array Value) (hs : vs.size = args.length)
  (hA : ∀ (i : Nat) x, args[i]? = some x → AVR W (obIn conts) (fun o => vals.getD (o - 1000000) undef) x (vs.getD i undef)) :
  Calls P f vs W (fun e w' => ∃ v, e = .returned v ∧ Below W.heap.size W w' ∧ ∃ ob' ρ', AVR w' ob' ρ' r.v v) := by
 have hI : OInv W none_ (obIn conts) W (fun o => vals.getD (o - 1000000) undef) (fun _ => none_) (fun k => k < W.heap.size) := by
  refine ⟨Keep.refl _ _, fun k hk _ => hk, fun k hk => hk, fun o k hk => hk.elim, fun o o' k hk => hk.elim, fun o k hk => hk.elim, fun o => ?_⟩
  unfold ObOk
  by_cases h1 : 1000000 ≤ o
  ·simp only [obIn, h1, if_true]
   cases hc : conts[o - 1000000]? with
   | none =>
    have e : conts.getD (o - 1000000) .dead = .dead := by simp [List.getD, hc]
    rw [e]
    exact fun k hk => hk
   | some c =>
    obtain ⟨t, v, rfl, hv, how⟩ := ho _ _ hc
    have e : conts.getD (o - 1000000) .dead = .tree 0 t := by simp [List.getD, hc]
    have e2 : vals.getD (o - 1000000) undef = v := by simp [List.getD, hv]
    rw [e, e2]
    exact how
  ·simp only [obIn, h1, if_false]
   exact fun k hk => hk
 have hr := h.run W none_ _ _ _ vs hI (fun k _ hk => hk) hs hA
 intro cs
 obtain ⟨e, w', fr, hR, hC, hfn, hl⟩ := hr cs
 refine ⟨e, w', fr, ?_, hC, hfn, hl⟩
 cases e with
 | returned v =>
  obtain ⟨ρ', φ', Z', hst, hav⟩ := hR
  exact ⟨v, rfl, ⟨hst.inv.keep.os, hst.inv.keep.tape, hst.inv.keep.output, hst.inv.keep.size, fun k hk => hst.inv.keep.block k hk id⟩, _, _, hav⟩
 | _ => exact hR.elim
theorem AVR.bool_inv {w : World} {ob : Objs} {ρ : Nat → Value} {b : Bool} {v : Value} (h : AVR w ob ρ (.s (.bool b)) v) : v = .bool b := by
 cases h; rfl
end Go.Proofs.YtipfcgbhaalcdaaGreat.Abs
namespace Go.Proofs.YtipfcgbhaalcdaaGreat.Abs
open Go Go.Proofs Go.RowKit
set_option linter.unusedVariables false
set_option linter.unusedSimpArgs false
attribute [local irreducible] callE
theorem u8_wf {n : Int} (h : (Lit.int .u8 n).wf = true) : 0 ≤ n ∧ n < 256 := by
 simp [Lit.wf, IntKind.min, IntKind.max, IntKind.bits, IntKind.signed] at h
 omega
theorem opens_Bytes : Opens Tryz.prog 22 1 (fun ts => ∃ l : List Int, (l.length ≤ 140737488355328 ∧ ∀ v ∈ l, 0 ≤ v ∧ v < 256) ∧ ts = [.sl 1 (l.map rB)]) :=
 (Opens.slice (sz := 1) (B := 1) Tryz.underlying22 (by kernel_rfl) (by kernel_rfl) (by decide) (Opens.int Tryz.underlying5)).mono fun ts h => by
  obtain ⟨rows, rfl, h1, h2⟩ := h
  obtain ⟨l, rfl, hl⟩ := rows_map (f := rB) (p := fun v => 0 ≤ v ∧ v < 256) (fun r hr => by obtain ⟨n, hn, rfl⟩ := h1 r hr; exact ⟨n, u8_wf hn, rfl⟩)
  rw [List.length_map] at h2
  have := reachBytes_lt
  exact ⟨l, ⟨by omega, hl⟩, rfl⟩
theorem open_Bytes {H : Type} {enc : TypeId × Value → H} {w : World} {base : Nat} {sp : Nat → Bool} {held : Bool} {v : Value} {d : DataW H} {ps : List MemPlace} {r : Go.Reach} {b0 : Nat}
  (hval : Value.okWide Tryz.prog w r b0 22 v) (h : DataW.Trod enc Tryz.prog w base sp held 22 v d ps) (hw : ∀ m ∈ d.weights Tryz.prog 22, m ≤ reachBytes) :
  ∃ l : List Int, (l.length ≤ 140737488355328 ∧ ∀ v ∈ l, 0 ≤ v ∧ v < 256) ∧ Ow (fun k => k < w.heap.size) w 0 v (.sl 1 (l.map rB)) none_ := by
 obtain ⟨a0, len0, cap0, rfl⟩ := Go.WideShapes.okWide_slice Tryz.underlying22 hval
 obtain ⟨t', ⟨l, h1, h2⟩, h3⟩ := opens_Bytes.one rfl h hw
 cases h2
 exact ⟨l, h1, h3⟩

theorem walk_FnPicture {W : World} {v0 : Value} {l : List Int} (h1 : l.length ≤ 140737488355328 ∧ ∀ v ∈ l, 0 ≤ v ∧ v < 256)
  (o1 : Ow (fun k => k < W.heap.size) W 0 v0 (.sl 1 (l.map rB)) none_) :
  Calls PR 4 #[v0] W (fun e w' => e = .returned (.bool true) ∧ Below W.heap.size W w') := by
 have hF := callE_sound (C := C) tys_ok prims_ok _ _ _ _ _ (w_FnPicture 0 l h1.1 h1.2)
 refine (hF.outside [v0] ?_ #[v0] rfl ?_).mono ?_
 ·rintro (_ | i) c hc
  ·cases hc; exact ⟨_, _, rfl, rfl, o1⟩
  ·simp at hc
 ·rintro (_ | i) x hx
  ·cases hx
   have := arg_slice (ob := obIn [tB l]) (ρ := fun o => [v0].getD (o - 1000000) undef) (o := 1000000) (by rfl) (by rfl) o1
   rwa [List.length_map] at this
  ·simp at hx
 ·rintro e w' ⟨v, rfl, hb, ob', ρ', hv⟩
  exact ⟨by rw [hv.bool_inv], hb⟩

end Go.Proofs.YtipfcgbhaalcdaaGreat.Abs
namespace Go.Proofs.YtipfcgbhaalcdaaGreat.fnPicture
open Go Go.Proofs Go.ChangeShapes Go.WideShapes Go.RowKit Go.Proofs.YtipfcgbhaalcdaaGreat.Abs
set_option linter.unusedVariables false
theorem own : ownKnob Tryz.prog.godebug = none := by kernel_rfl
theorem laidOut : laidOutB Tryz.prog = true := by kernel_rfl
set_option maxRecDepth 100000 in
theorem lifted (os : Os) (started : os.Started) (H : Type) (enc : TypeId × Value → H) :
  ReturnsInHanded {} Tryz.checked os 4 .any (Rows.fnPictureSpec.pre6 enc Tryz.prog Tryz.f4 Rows.fnPictureRow.domain false) (Rows.fnPictureSpec.post enc Tryz.prog Tryz.f4 false true false false) := by
 refine returnsInHanded_of_change_sized (C := Tryz.checked) own started (by kernel_rfl) Tryz.func4
  (ChangeSpec.witness6 (enc := enc) (C := Tryz.checked) false ⟨#[], #[.slice none 0 0], []⟩ 8 (by kernel_rfl) (by kernel_rfl) (by kernel_rfl) (by kernel_rfl)) ?_
 intro W base args ds gs before hval0 hW hcnd hsz0 _
 have hsz : (DataW.weightsEach Tryz.prog (Tryz.f4.params.toList ++ Rows.fnPictureSpec.plain.varTypes Tryz.prog) (ds ++ gs)).all (· ≤ reachBytes) = true := hsz0
 have hval : ∀ (j : Nat) t v, Tryz.f4.params[j]? = some t → args[j]? = some v → Value.okWide Tryz.prog W .any base t v := hval0
 have hW' := hW
 obtain ⟨p, q, hA0, hV, rfl, hfz, hnd⟩ := hW
 have hA : DataW.TrodAll enc Tryz.prog W 0 (fun _ => true) true Tryz.f4.params.toList args.toList ds p := hA0
 rw [Tryz.params4] at hA hval hsz
 obtain ⟨v0, vs0, d0, ds0, p0, q0, hargs, rfl, rfl, h0, r0⟩ := trodAll_cons hA
 obtain ⟨rfl, rfl, rfl⟩ := trodAll_nil r0
 obtain rfl : args = #[v0] := by cases args; simp_all
 obtain ⟨rfl, rfl⟩ := trodVars_none hV
 have hwt : ∀ (j : Nat) t d, [22][j]? = some t → [d0][j]? = some d → ∀ m ∈ d.weights Tryz.prog t, m ≤ reachBytes := by
  intro j t d ht hd m hm
  have := List.all_eq_true.1 hsz m (DataW.weights_mem_each (j := j) (t := t) (d := d) ht hd m hm)
  simpa using this
 have k0 := h0
 have lt0 : ∀ x ∈ p0, x.block < W.heap.size := by obtain ⟨m, hm⟩ := k0; exact DataW.trod_lt m _ _ _ hm
 obtain ⟨l0, s0, o0⟩ := open_Bytes (hval 0 22 v0 rfl rfl) h0 (hwt 0 _ _ rfl rfl)
 clear hA0 hval0 hsz0 hsz hwt
 refine (walk_FnPicture s0 o0).mono fun e W' ⟨he, bel⟩ => ?_
 subst he
 exact ⟨_, rfl, _, _, _, [], _, [], hW', trodAll_mk1 (shut_bool Tryz.underlying4 _), (trodAll_cons_mk (Below.trod laidOut (by kernel_rfl) (of_decide_eq_true (by kernel_rfl)) k0 bel lt0) trodAll_mk0), rfl, bel.frame _, fun h => by cases h⟩
theorem andT {a b : Bool} (h1 : a = true) (h2 : b = true) : (a && b) = true := by rw [h1, h2]; rfl
theorem j0 : Rows.fnPictureRow.wf (OpenSpec.ofChange Rows.fnPictureSpec) = true := by kernel_rfl
theorem j1 : laidOutB Tryz.prog = true := by kernel_rfl
theorem j2 : mapsRowed Tryz.prog = true := by kernel_rfl
theorem j3 : Tryz.f4.params.all (Tryz.prog.readableRec ·) = true := by kernel_rfl
theorem j4 : namedTie Tryz.prog Rows.fnPictureRow.named Rows.fnPictureSpec.vars = true := by kernel_rfl
theorem j5 : (Rows.fnPictureRow.stops == []) = true := by kernel_rfl
theorem j6 : (Tryz.prog.stops == []) = true := by kernel_rfl
theorem j7 : (Rows.fnPictureRow.knobs == []) = true := by kernel_rfl
theorem j8 : (Tryz.prog.stopKnobs == []) = true := by kernel_rfl
theorem j9 : (Rows.fnPictureRow.inPlace == Tryz.prog.inPlace 4) = true := by kernel_rfl
theorem j10 : (Rows.fnPictureRow.unfollowed == Tryz.prog.unfollowed 4) = true := by kernel_rfl
theorem j11 : (Rows.fnPictureRow.recurses == Tryz.prog.recurses 4) = true := by kernel_rfl
theorem j12 : (Rows.fnPictureRow.named == Tryz.prog.varsNamed 4) = true := by kernel_rfl
theorem j13 : (Rows.fnPictureRow.maps == (Tryz.f4.params.toList ++ Rows.fnPictureSpec.plain.varTypes Tryz.prog).any (Tryz.prog.mapsRec ·)) = true := by kernel_rfl
theorem j14 : (Rows.fnPictureRow.ifaces == (Tryz.f4.params.toList ++ Rows.fnPictureSpec.plain.varTypes Tryz.prog).any (Tryz.prog.ifacesRec ·)) = true := by kernel_rfl
theorem j15 : (Rows.fnPictureRow.mapsOut == Tryz.prog.mapsAmong Tryz.f4.resultTypes.toList) = true := by kernel_rfl
theorem j16 : (Rows.fnPictureRow.loops == (Tryz.f4.params.toList ++ Rows.fnPictureSpec.plain.varTypes Tryz.prog).any (Tryz.prog.loopsFrom ·)) = true := by kernel_rfl
theorem j17 : (Rows.fnPictureRow.wideKeys == (Tryz.f4.params.toList ++ Rows.fnPictureSpec.plain.varTypes Tryz.prog ++ Tryz.f4.resultTypes.toList).any (Tryz.prog.wideKeysFrom ·)) = true := by kernel_rfl
theorem j18 : Rows.fnPictureSpec.vars.all (Tryz.prog.varReadable ·) = true := by kernel_rfl
theorem j19 : Tryz.f4.resultTypes.all (fun t => Tryz.prog.readableRec t && decide (t < Tryz.prog.types.size)) = true := by kernel_rfl
theorem j20 : (Rows.fnPictureRow.ifacesOut == Tryz.f4.resultTypes.toList.any (Tryz.prog.ifacesRec ·)) = true := by kernel_rfl
theorem j21 : (Rows.fnPictureRow.loopsOut == Tryz.f4.resultTypes.toList.any (Tryz.prog.loopsFrom ·)) = true := by kernel_rfl
theorem j22 : (Rows.fnPictureRow.plainKeys == Tryz.prog.plainKeys) = true := by kernel_rfl
theorem j23 : Rows.fnPictureRow.shortTexts.isNone = true := by kernel_rfl
theorem j24 : Tryz.prog.stopsHeard = true := by kernel_rfl
theorem j25 : Tryz.prog.mayEnter = true := by kernel_rfl
theorem j26 : (Rows.fnPictureRow.lifted == Tryz.prog.liftsFinal) = true := by kernel_rfl
theorem j27 : (Tryz.prog.make == some Rows.fnPictureRow.make) = true := by kernel_rfl
theorem j28 : (Rows.fnPictureRow.kinds == (if Rows.fnPictureRow.domain.isEmpty then [] else Tryz.f4.params.toList.map fun t => match Tryz.prog.underlying t with | some (.int k) => some k | _ => none)) = true := by kernel_rfl
theorem j29 : (Rows.fnPictureRow.pinned == Rows.fnPictureRow.pinnedBy) = true := by kernel_rfl
theorem j30 : (Rows.fnPictureRow.veiled == (Tryz.f4.params.toList ++ Rows.fnPictureSpec.plain.varTypes Tryz.prog ++ Tryz.f4.resultTypes.toList).any (Tryz.prog.veiledRec ·)) = true := by kernel_rfl
theorem j31 : Rows.fnPictureRow.veiledFits Tryz.prog Tryz.f4.params.toList (Tryz.f4.params.toList ++ Rows.fnPictureSpec.plain.varTypes Tryz.prog ++ Tryz.f4.resultTypes.toList) = true := by kernel_rfl
set_option maxRecDepth 100000 in
theorem joined : joinedFacts Tryz.prog 4 Tryz.f4 Rows.fnPictureSpec Rows.fnPictureRow = true := by
 unfold joinedFacts
 exact andT (andT (andT (andT (andT (andT (andT (andT (andT (andT (andT (andT (andT (andT (andT (andT (andT (andT (andT (andT (andT (andT (andT (andT (andT (andT (andT (andT (andT (andT (andT j0 j1) j2) j3) j4) j5) j6) j7) j8) j9) j10) j11) j12) j13) j14) j15) j16) j17) j18) j19) j20) j21) j22) j23) j24) j25) j26) j27) j28) j29) j30) j31
theorem over : Rows.fnPictureRow.holds Tryz.pinned (OpenSpec.ofChange Rows.fnPictureSpec) :=
 OpenClaim.holds_of_wide 4 Tryz.f4 rfl rfl rfl rfl rfl rfl rfl ⟨rfl, rfl, rfl, rfl, rfl⟩ rfl rfl rfl rfl rfl (by kernel_rfl) Tryz.func4 joined
  (of_decide_eq_true (by kernel_rfl)) (by unfold Func.isWrapper; first | (rw [if_pos (by decide +kernel)]; kernel_rfl) | (rw [if_neg (by decide +kernel)]; exact ⟨rfl, rfl⟩))
  (fun os started H enc _ => lifted os started H enc)
theorem proved : Rows.FnPictureSaid := over
#print axioms proved
end Go.Proofs.YtipfcgbhaalcdaaGreat.fnPicture
namespace Go.Proofs.YtipfcgbhaalcdaaGreat
theorem fnPicture_holds : Rows.FnPictureSaid := fnPicture.proved
end Go.Proofs.YtipfcgbhaalcdaaGreat

