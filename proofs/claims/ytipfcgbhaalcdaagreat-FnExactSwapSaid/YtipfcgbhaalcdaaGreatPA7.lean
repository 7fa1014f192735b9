/- Part 7 of the words by which the law is followed: an interpreter over data trees, proved of the machine, and what functions of this program come to by it. No condition. -/
import Derived.ChangeSame
import Derived.SizedLaws
import Derived.DataReads
import Derived.Carry
import Derived.WideShapes
import Derived.Test.YtipfcgbhaalcdaaGreatPA6
namespace Go.Proofs.YtipfcgbhaalcdaaGreat.Abs
open Go Go.Proofs
set_option linter.unusedVariables false
set_option linter.unusedSimpArgs false
attribute [local irreducible] callE
def joinL (a b : List Int) : List Int := (List.range a.length).map fun i => max (rd a i) (rd b i)
theorem joinL_len (a b : List Int) : (joinL a b).length = a.length := by simp [joinL]
theorem joinL_rd {a b : List Int} {q : Nat} (h : q < a.length) : rd (joinL a b) q = max (rd a q) (rd b q) := rd_range _ h
theorem whole_goOn {H : List (List Event)} {f : List Int} {p : Nat} (hf : FOk H f) (hw : wholeB H f = true) (hp : p < H.length) (hc : canCome H f p = true) : wholeB H (goOn f p) = true := by
  rw [wholeB_eq] at hw ⊢
  intro a b ha hb
  have hlt := can_lt hf hp hc
  have h0 := (hf.rng p hp).1
  have h1 := hw a b ha hb
  have hs : sentC H f a b ≤ sentC H (goOn f p) a b := by
    unfold sentC
    apply cnt_take
    rw [rd_goOn (by rw [hf.len]; exact hp)]
    split
    · rename_i e; subst e; omega
    · exact Nat.le_refl _
  by_cases hbp : b = p
  · subst hbp
    have ht : tookC H (goOn f b) a b = tookC H f a b + (if isEv 3 a (rd (rd H b) (rd f b).toNat) = true then 1 else 0) := by
      unfold tookC
      rw [rd_goOn (by rw [hf.len]; exact hp), if_pos rfl, show (rd f b + 1).toNat = (rd f b).toNat + 1 by omega]
      simp only [cnt]
      rw [vals_snoc _ _ _ (by omega)]
      split <;> simp
    by_cases he : isEv 3 a (rd (rd H b) (rd f b).toNat) = true
    · rw [if_pos he] at ht
      simp only [isEv, Bool.and_eq_true, decide_eq_true_eq] at he
      simp only [canCome, Bool.and_eq_true, Bool.not_eq_true', Bool.and_eq_false_iff, decide_eq_true_eq, decide_eq_false_iff_not] at hc
      rcases hc.2 with h4 | h4
      · exact absurd he.1 h4
      · rw [he.2, Int.toNat_natCast] at h4
        unfold tookC at ht h1
        unfold sentC at hs h1
        unfold tookC sentC
        omega
    · rw [if_neg he] at ht
      omega
  · have ht : tookC H (goOn f p) a b = tookC H f a b := by
      unfold tookC
      rw [rd_goOn (by rw [hf.len]; exact hp), if_neg hbp]
    omega
theorem fok_join {H : List (List Event)} {a b : List Int} (ha : FOk H a) (hb : FOk H b) : FOk H (joinL a b) := ⟨by rw [joinL_len, ha.len], fun q hq => by
  rw [joinL_rd (by rw [ha.len]; exact hq)]
  have h1 := ha.rng q hq
  have h2 := hb.rng q hq
  omega⟩
theorem whole_join {H : List (List Event)} {a b : List Int} (ha : FOk H a) (hb : FOk H b) (wa : wholeB H a = true) (wb : wholeB H b = true) : wholeB H (joinL a b) = true := by
  rw [wholeB_eq] at wa wb ⊢
  intro x y hx hy
  have h1 := wa x y hx hy
  have h2 := wb x y hx hy
  unfold tookC sentC at h1 h2 ⊢
  rw [joinL_rd (by rw [ha.len]; exact hy), joinL_rd (by rw [ha.len]; exact hx)]
  have h3 := cnt_take (rd H x) 2 y (a := (rd a x).toNat) (b := (max (rd a x) (rd b x)).toNat) (by omega)
  have h4 := cnt_take (rd H x) 2 y (a := (rd b x).toNat) (b := (max (rd a x) (rd b x)).toNat) (by omega)
  rcases Int.le_total (rd a y) (rd b y) with h | h
  · rw [show max (rd a y) (rd b y) = rd b y by omega]; omega
  · rw [show max (rd a y) (rd b y) = rd a y by omega]; omega
structure IsClk (H : List (List Event)) (p i : Nat) (v : List Int) : Prop where
  fok : FOk H v
  whole : wholeB H v = true
  own : rd v p = (i : Int) + 1
  least : ∀ d, FOk H d → wholeB H d = true → (i : Int) + 1 ≤ rd d p → ∀ q, q < H.length → rd v q ≤ rd d q
theorem IsClk.eq {H : List (List Event)} {p i : Nat} {v w : List Int} (hv : IsClk H p i v) (hw : IsClk H p i w) : v = w := by
  refine rd_ext (by rw [hv.fok.len, hw.fok.len]) fun q hq => ?_
  rw [hv.fok.len] at hq
  have h1 := hv.least w hw.fok hw.whole (by rw [hw.own]; exact Int.le_refl _) q hq
  have h2 := hw.least v hv.fok hv.whole (by rw [hv.own]; exact Int.le_refl _) q hq
  omega
theorem sender_take {H : List (List Event)} {p i : Nat} (h : 0 ≤ senderOf H p i) : (rd (rd H p) i).kind = 3 := by
  unfold senderOf at h
  split at h
  · assumption
  · omega
theorem whole_sender {H : List (List Event)} {d : List Int} {p i : Nat} (hP : PeersIn H) (hd : FOk H d) (hw : wholeB H d = true) (hp : p < H.length) (hi : (i : Int) + 1 ≤ rd d p) (hk : 0 ≤ senderOf H p i) :
    senderOf H p i + 1 ≤ rd d (rd (rd H p) i).peer.toNat := by
  have k3 := sender_take hk
  have hdp := hd.rng p hp
  have hil : i < (rd H p).length := by omega
  have hpe := hP p hp i hil k3
  have hev : isEv 3 (rd (rd H p) i).peer (rd (rd H p) i) = true := by simp [isEv, k3]
  rw [senderOf, if_pos k3] at hk ⊢
  generalize (rd (rd H p) i).peer = q at *
  have h1 : cnt ((rd H p).take (i + 1)) 3 q = cnt ((rd H p).take i) 3 q + 1 := by
    simp only [cnt]
    rw [vals_snoc _ _ _ hil, if_pos hev]
    simp
  have h2 := cnt_take (rd H p) 3 q (a := i + 1) (b := (rd d p).toNat) (by omega)
  have h3 := wholeB_eq.1 hw q.toNat p (by omega) hp
  unfold tookC sentC at h3
  rw [show ((q.toNat : Nat) : Int) = q by omega] at h3
  have h4 := (nth_lt (rd H q.toNat) 2 p (cnt ((rd H p).take i) 3 q) (rd d q.toNat).toNat).2 (by omega)
  omega
theorem isClk_goOn {H : List (List Event)} {j : List Int} {p i : Nat} (hj : FOk H j) (wj : wholeB H j = true) (hp : p < H.length) (hi : rd j p = (i : Int)) (hc : canCome H j p = true)
    (hl : ∀ d, FOk H d → wholeB H d = true → (i : Int) + 1 ≤ rd d p → ∀ q, q < H.length → rd j q ≤ rd d q) : IsClk H p i (j.set p ((i : Int) + 1)) := by
  have e : j.set p ((i : Int) + 1) = goOn j p := by rw [goOn, hi]
  rw [e]
  refine ⟨fok_goOn hj hp hc, whole_goOn hj wj hp hc, by rw [rd_goOn (by rw [hj.len]; exact hp), if_pos rfl, hi], fun d h1 h2 h3 q hq => ?_⟩
  rw [rd_goOn (by rw [hj.len]; exact hp)]
  split
  · rename_i e; subst e; omega
  · exact hl d h1 h2 h3 q hq
structure Clks (H : List (List Event)) (f : List Int) (C : List (List (List Int))) : Prop where
  len : C.length = H.length
  rows : ∀ p, p < H.length → ((rd C p).length : Int) = rd f p
  is : ∀ p, p < H.length → ∀ i, i < (rd C p).length → IsClk H p i (rd (rd C p) i)
def baseOf (n : Nat) (C : List (List (List Int))) (p i : Nat) : List Int := if i = 0 then List.replicate n 0 else rd (rd C p) (i - 1)
def newClk (H : List (List Event)) (C : List (List (List Int))) (p i : Nat) : List Int := (if senderOf H p i < 0 then baseOf H.length C p i else joinL (baseOf H.length C p i) (rd (rd C (rd (rd H p) i).peer.toNat) (senderOf H p i).toNat)).set p ((i : Int) + 1)
theorem base_is {H : List (List Event)} {f : List Int} {C : List (List (List Int))} {p : Nat} (h : Clks H f C) (hP : PeersIn H) (hp : p < H.length) :
    FOk H (baseOf H.length C p (rd C p).length) ∧ wholeB H (baseOf H.length C p (rd C p).length) = true ∧ rd (baseOf H.length C p (rd C p).length) p = ((rd C p).length : Int) ∧
    ∀ d, FOk H d → wholeB H d = true → ((rd C p).length : Int) + 1 ≤ rd d p → ∀ q, q < H.length → rd (baseOf H.length C p (rd C p).length) q ≤ rd d q := by
  unfold baseOf
  by_cases e : (rd C p).length = 0
  · rw [if_pos e]
    refine ⟨fok_zero H, Reach.whole .zero hP, by rw [rd_zero, e]; rfl, fun d h1 _ _ q hq => by rw [rd_zero]; exact (h1.rng q hq).1⟩
  · rw [if_neg e]
    have hb := h.is p hp ((rd C p).length - 1) (by omega)
    refine ⟨hb.fok, hb.whole, by rw [hb.own]; omega, fun d h1 h2 h3 q hq => hb.least d h1 h2 (by omega) q hq⟩
theorem newClk_is {H : List (List Event)} {f : List Int} {n : Nat} {C : List (List (List Int))} {p : Nat} (h : Clks H f C) (hP : PeersIn H) (hS : Sends H) (hR : Reach H f n) (hp : p < H.length) (hc : canCome H f p = true) :
    IsClk H p (rd C p).length (newClk H C p (rd C p).length) ∧ (0 ≤ senderOf H p (rd C p).length → (rd (rd H p) (rd C p).length).peer.toNat < H.length ∧ 0 ≤ (rd (rd H p) (rd C p).length).peer ∧ senderOf H p (rd C p).length < rd f (rd (rd H p) (rd C p).length).peer.toNat) := by
  have hf := hR.fok
  have hfp := h.rows p hp
  have hlt := can_lt hf hp hc
  obtain ⟨b1, b2, b3, b4⟩ := base_is h hP hp
  generalize hi : (rd C p).length = i at *
  have efi : (rd f p).toNat = i := by omega
  have hsc := sender_can hP hS hf hp hlt
  rw [efi] at hsc
  unfold newClk
  rcases hsc with ⟨s1, s2, s3⟩ | ⟨s1, s2, s3, s4, s5⟩
  · rw [if_pos (by omega)]
    refine ⟨isClk_goOn b1 b2 hp b3 ?_ b4, fun h0 => by omega⟩
    have h5 := sender_can (f := baseOf H.length C p i) hP hS b1 hp (by omega)
    rw [b3, Int.toNat_natCast] at h5
    rcases h5 with h5 | h5
    · exact h5.2.1
    · exact absurd h5.2.1 s3
  · rw [if_neg (by omega)]
    rw [s5, decide_eq_true_eq] at hc
    generalize hq : (rd (rd H p) i).peer.toNat = q at *
    have hcq := h.rows q s3
    have hs := h.is q s3 (senderOf H p i).toNat (by omega)
    have hsp := hs.least f hf (hR.whole hP) (by omega)
    have hj := fok_join b1 hs.fok
    have wj := whole_join b1 hs.fok b2 hs.whole
    have lb : (baseOf H.length C p i).length = H.length := b1.len
    have ej : rd (joinL (baseOf H.length C p i) (rd (rd C q) (senderOf H p i).toNat)) p = (i : Int) := by
      rw [joinL_rd (by rw [lb]; exact hp), b3]
      have := hsp p hp
      omega
    refine ⟨isClk_goOn hj wj hp ej ?_ fun d h1 h2 h3 x hx => ?_, fun _ => ⟨s3, s4, hc⟩⟩
    · have h5 := sender_can hP hS hj hp (by omega)
      rw [ej, Int.toNat_natCast, hq] at h5
      rcases h5 with h5 | h5
      · exact absurd s2 h5.2.2
      · rw [h5.2.2.2.2, decide_eq_true_eq, joinL_rd (by rw [lb]; exact s3), hs.own]
        omega
    · rw [joinL_rd (by rw [lb]; exact hx)]
      have h4 := whole_sender hP h1 h2 hp h3 s1
      rw [hq] at h4
      have h5 := hs.least d h1 h2 (by omega) x hx
      have h6 := b4 d h1 h2 h3 x hx
      omega
theorem rd_setG {α : Type} [Inhabited α] {l : List α} {p q : Nat} (x : α) (hp : p < l.length) : rd (l.set p x) q = if q = p then x else rd l q := by
  simp only [rd, List.getD_eq_getElem?_getD, List.getElem?_set]
  by_cases h : p = q
  · subst h; simp [hp]
  · rw [if_neg h, if_neg (fun e => h e.symm)]
theorem rd_snocG {α : Type} [Inhabited α] (l : List α) (x : α) {i : Nat} : rd (l ++ [x]) i = if i < l.length then rd l i else if i = l.length then x else default := by
  simp only [rd, List.getD_eq_getElem?_getD, List.getElem?_append]
  split
  · rfl
  · rename_i h
    by_cases e : i = l.length
    · subst e; simp
    · rw [if_neg e, List.getElem?_eq_none (by simp; omega)]; rfl
theorem Clks.step {H : List (List Event)} {f : List Int} {n : Nat} {C : List (List (List Int))} {p : Nat} (h : Clks H f C) (hP : PeersIn H) (hS : Sends H) (hR : Reach H f n) (hp : p < H.length) (hc : canCome H f p = true) :
    Clks H (goOn f p) (C.set p (rd C p ++ [newClk H C p (rd C p).length])) := by
  have hnew := (newClk_is h hP hS hR hp hc).1
  have hCl : p < C.length := by rw [h.len]; exact hp
  refine ⟨by rw [List.length_set, h.len], fun q hq => ?_, fun q hq i hi => ?_⟩
  · rw [rd_setG _ hCl, rd_goOn (by rw [hR.fok.len]; exact hp)]
    have := h.rows q hq
    split
    · rename_i e; subst e; simp; omega
    · exact this
  · rw [rd_setG _ hCl] at hi ⊢
    by_cases e : q = p
    · subst e
      rw [if_pos rfl] at hi ⊢
      rw [rd_snocG]
      rw [List.length_append, List.length_singleton] at hi
      by_cases e2 : i < (rd C q).length
      · rw [if_pos e2]; exact h.is q hq i e2
      · rw [if_neg e2, if_pos (by omega), show i = (rd C q).length by omega]; exact hnew
    · rw [if_neg e] at hi ⊢
      exact h.is q hq i hi
theorem rd_extG {α : Type} [Inhabited α] {f g : List α} (hl : f.length = g.length) (h : ∀ q, q < f.length → rd f q = rd g q) : f = g := by
  apply List.ext_getElem hl
  intro i h1 h2
  have := h i h1
  simpa [rd, h1, h2] using this
theorem Clks.eq {H : List (List Event)} {f : List Int} {C D : List (List (List Int))} (h : Clks H f C) (h' : Clks H f D) : C = D := by
  refine rd_extG (by rw [h.len, h'.len]) fun p hp => ?_
  rw [h.len] at hp
  have h1 := h.rows p hp
  have h2 := h'.rows p hp
  refine rd_extG (by omega) fun i hi => ?_
  exact (h.is p hp i hi).eq (h'.is p hp i (by omega))
theorem Clks.zero (H : List (List Event)) : Clks H (List.replicate H.length 0) (List.replicate H.length []) := by
  have e : ∀ p, rd (List.replicate H.length ([] : List (List Int))) p = [] := fun p => by
    simp only [rd, List.getD_eq_getElem?_getD, List.getElem?_replicate]
    split <;> rfl
  refine ⟨by simp, fun p _ => by rw [e, rd_zero]; rfl, fun p _ i hi => by rw [e] at hi; simp at hi⟩
theorem Clks.exists {H : List (List Event)} (hP : PeersIn H) (hS : Sends H) {f : List Int} {n : Nat} (h : Reach H f n) : ∃ C, Clks H f C := by
  induction h with
  | zero => exact ⟨_, .zero H⟩
  | step h hp hc ih =>
    obtain ⟨C, hC⟩ := ih
    exact ⟨_, hC.step hP hS h hp hc⟩
theorem full_lens {H : List (List Event)} {f : List Int} (hf : FOk H f) (h : ∀ q, q < H.length → rd f q = ((rd H q).length : Int)) : f = lensOf H :=
  rd_ext (by rw [hf.len, lensOf_len]) fun q hq => by rw [hf.len] at hq; rw [h q hq, lensOf_rd hq]
open Classical in
noncomputable def clocksOf (H : List (List Event)) : List (List (List Int)) := if h : ∃ C, Clks H (lensOf H) C then h.choose else []
theorem clocksOf_is {H : List (List Event)} (hP : PeersIn H) (hS : Sends H) (hr : inRow H = true) : Clks H (lensOf H) (clocksOf H) := by
  obtain ⟨g, h1, h2⟩ := row_all hr
  obtain ⟨C, hC⟩ := Clks.exists hP hS h1
  rw [full_lens h1.fok h2] at hC
  have h : ∃ C, Clks H (lensOf H) C := ⟨C, hC⟩
  unfold clocksOf
  rw [dif_pos h]
  exact h.choose_spec
theorem clocksOf_eq {H : List (List Event)} (hP : PeersIn H) (hS : Sends H) (hr : inRow H = true) {C : List (List (List Int))} (h : Clks H (lensOf H) C) : clocksOf H = C := (clocksOf_is hP hS hr).eq h
def hasEv (H : List (List Event)) (p i : Int) : Bool := decide (0 ≤ p ∧ p ≤ (H.length : Int) - 1) && decide (0 ≤ i ∧ i ≤ ((rd H p.toNat).length : Int) - 1)
noncomputable def clkAt (H : List (List Event)) (p i : Int) : List Int := rd (rd (clocksOf H) p.toNat) i.toNat
noncomputable def hangsB (H : List (List Event)) (p i q j : Int) : Bool := decide (rd (clkAt H p i) q.toNat > j)
def twoEv (H : List (List Event)) (p i q j : Int) : Bool := hasEv H p i && (hasEv H q j && !(decide (p = q) && decide (i = j)))
noncomputable def sideB (H : List (List Event)) (p i q j : Int) : Bool := twoEv H p i q j && (!hangsB H p i q j && !hangsB H q j p i)
theorem clkAt_is {P : List (List Ins)} {S : List State} {W : List (List Item)} {H : List (List Event)} (h : sysOk P S W H = true) {p i : Int} (he : hasEv H p i = true) : IsClk H p.toNat i.toNat (clkAt H p i) := by
  have hf := sysOk_facts h
  have hr : inRow H = true := by simp only [sysOk, Bool.and_eq_true] at h; exact h.2.2.2.2
  have hc := clocksOf_is hf.2.1 hf.2.2.1 hr
  simp only [hasEv, Bool.and_eq_true, decide_eq_true_eq] at he
  have hp : p.toNat < H.length := by omega
  have h1 := hc.rows _ hp
  rw [lensOf_rd hp] at h1
  exact hc.is _ hp _ (by omega)

def swapRow (row : List Who) (k : Nat) : List Who := (row.set k (rd row (k + 1))).set (k + 1) (rd row k)
def canSwap (row : List Who) (k : Int) : Bool := decide (0 ≤ k ∧ k ≤ (row.length : Int) - 2)
noncomputable def swapB (P : List (List Ins)) (S : List State) (W : List (List Item)) (H : List (List Event)) (row : List Who) (k : Int) : Bool :=
  rowOkB P S W H row && (canSwap row k && sideB H (rd row k.toNat).p (rd row k.toNat).i (rd row (k.toNat + 1)).p (rd row (k.toNat + 1)).i)
theorem twoEv_comm (H : List (List Event)) (p i q j : Int) : twoEv H p i q j = twoEv H q j p i := by
  unfold twoEv
  have e : (decide (p = q) && decide (i = j)) = (decide (q = p) && decide (j = i)) := by
    rw [Bool.eq_iff_iff]
    simp only [Bool.and_eq_true, decide_eq_true_eq]
    exact ⟨fun h => ⟨h.1.symm, h.2.symm⟩, fun h => ⟨h.1.symm, h.2.symm⟩⟩
  rw [e]
  cases hasEv H p i <;> cases hasEv H q j <;> rfl
theorem sideB_comm (H : List (List Event)) (p i q j : Int) : sideB H p i q j = sideB H q j p i := by
  unfold sideB
  rw [twoEv_comm, Bool.and_comm (!hangsB H p i q j)]
theorem whoOk_eq {H : List (List Event)} {f : List Int} {w : Who} : whoOk H f w = true ↔ (0 ≤ w.p ∧ w.p ≤ (H.length : Int) - 1) ∧ w.i = rd f w.p.toNat ∧ canCome H f w.p.toNat = true := by
  simp only [whoOk, inB, Bool.and_eq_true, decide_eq_true_eq]
theorem side_swap {P : List (List Ins)} {S : List State} {W : List (List Item)} {H : List (List Event)} {f : List Int} {a b : Who} (hs : sysOk P S W H = true) (hf : FOk H f) (h1 : whoOk H f a = true) (h2 : whoOk H (goOn f a.p.toNat) b = true) (hd : sideB H a.p a.i b.p b.i = true) :
    whoOk H f b = true ∧ whoOk H (goOn f b.p.toNat) a = true ∧ goOn (goOn f b.p.toNat) a.p.toNat = goOn (goOn f a.p.toNat) b.p.toNat := by
  obtain ⟨_, hP, hS, _⟩ := sysOk_facts hs
  rw [whoOk_eq] at h1 h2
  obtain ⟨a1, a2, a3⟩ := h1
  obtain ⟨b1, b2, b3⟩ := h2
  have ha : a.p.toNat < H.length := by omega
  have hb : b.p.toNat < H.length := by omega
  have hla : a.p.toNat < f.length := by rw [hf.len]; exact ha
  have hlb : b.p.toNat < f.length := by rw [hf.len]; exact hb
  have hfa := fok_goOn hf ha a3
  have ra := hf.rng _ ha
  have rb := hf.rng _ hb
  have ltb := can_lt hfa hb b3
  simp only [sideB, twoEv, hangsB, Bool.and_eq_true, Bool.not_eq_true', decide_eq_false_iff_not] at hd
  obtain ⟨⟨e1, e2, e3⟩, d1, d2⟩ := hd
  have hcb := clkAt_is hs e2
  have e2' := e2
  simp only [hasEv, Bool.and_eq_true, decide_eq_true_eq] at e2'
  have hne : a.p.toNat ≠ b.p.toNat := by
    intro e
    rw [e] at d2
    rw [hcb.own] at d2
    rw [e] at a2
    rw [rd_goOn hla, if_pos e.symm, e] at b2
    omega
  rw [rd_goOn hla, if_neg (fun e => hne e.symm)] at b2 ltb
  have hbn : b.i.toNat = (rd f b.p.toNat).toNat := by rw [b2]
  have hcan : canCome H f b.p.toNat = true := by
    rcases sender_can hP hS hf hb ltb with h5 | h5
    · exact h5.2.1
    · obtain ⟨s1, s2, s3, s4, s5⟩ := h5
      have h6 := sender_can hP hS hfa hb (by rw [rd_goOn hla, if_neg (fun e => hne e.symm)]; exact ltb)
      rw [rd_goOn hla, if_neg (fun e => hne e.symm)] at h6
      rcases h6 with h6 | h6
      · exact absurd s2 h6.2.2
      · rw [h6.2.2.2.2, decide_eq_true_eq, rd_goOn hla] at b3
        rw [s5, decide_eq_true_eq]
        split at b3
        · rename_i e
          have h7 := whole_sender hP hcb.fok hcb.whole hb (i := b.i.toNat) (by rw [hcb.own]; exact Int.le_refl _) (by rw [hbn]; exact s1)
          rw [hbn, e] at h7
          rw [e]
          omega
        · exact b3
  have hfb := fok_goOn hf hb hcan
  refine ⟨whoOk_eq.2 ⟨b1, b2, hcan⟩, whoOk_eq.2 ⟨a1, by rw [rd_goOn hlb, if_neg hne]; exact a2, ?_⟩, ?_⟩
  · refine can_mono hf hfb hP ha (by rw [rd_goOn hlb, if_neg hne]) (fun q hq => ?_) a3
    rw [rd_goOn hlb]
    split
    · rename_i e; subst e; omega
    · exact Int.le_refl _
  · refine rd_ext (by simp [goOn]) fun q hq => ?_
    rw [rd_goOn (by simp only [goOn, List.length_set]; exact hla), rd_goOn hlb, rd_goOn hlb, rd_goOn (by simp only [goOn, List.length_set]; exact hlb), rd_goOn hla, rd_goOn hla]
    by_cases c1 : q = a.p.toNat
    · subst c1
      rw [if_pos rfl, if_neg hne, if_neg hne, if_pos rfl]
    · rw [if_neg c1, if_neg c1]
      by_cases c2 : q = b.p.toNat
      · subst c2
        rw [if_pos rfl, if_pos rfl, if_neg (fun e => hne e.symm)]
      · rw [if_neg c2, if_neg c2]
theorem swap_go {P : List (List Ins)} {S : List State} {W : List (List Item)} {H : List (List Event)} (hs : sysOk P S W H = true) : ∀ (k : Nat) (row : List Who) (f : List Int), FOk H f → rowGo H row f = true → k + 1 < row.length → sideB H (rd row k).p (rd row k).i (rd row (k + 1)).p (rd row (k + 1)).i = true → rowGo H (swapRow row k) f = true
  | 0, a :: b :: r, f, hf, h, _, hd => by
    simp only [rowGo, Bool.and_eq_true] at h
    obtain ⟨h1, h2, h3⟩ := h
    obtain ⟨s1, s2, s3⟩ := side_swap hs hf h1 h2 hd
    show rowGo H (b :: a :: r) f = true
    simp only [rowGo, Bool.and_eq_true]
    exact ⟨s1, s2, by rw [s3]; exact h3⟩
  | k + 1, a :: r, f, hf, h, hl, hd => by
    simp only [rowGo, Bool.and_eq_true] at h
    have h1 := whoOk_eq.1 h.1
    have hl' : k + 1 < r.length := by simpa using hl
    have := swap_go hs k r (goOn f a.p.toNat) (fok_goOn hf (by omega) h1.2.2) h.2 hl' hd
    have e : swapRow (a :: r) (k + 1) = a :: swapRow r k := rfl
    rw [e]
    simp only [rowGo, Bool.and_eq_true]
    exact ⟨h.1, this⟩
  | 0, [], _, _, _, h, _ => by simp at h
  | 0, [a], _, _, _, h, _ => by simp at h
  | k + 1, [], _, _, _, h, _ => by simp at h
theorem swapRow_len (row : List Who) (k : Nat) : (swapRow row k).length = row.length := by simp [swapRow]
theorem swapRow_fst {row : List Who} {k : Nat} (h : k + 1 < row.length) : rd (swapRow row k) k = rd row (k + 1) := by
  unfold swapRow
  rw [rd_setG _ (by rw [List.length_set]; exact h), if_neg (by omega), rd_setG _ (by omega), if_pos rfl]
theorem swapRow_snd {row : List Who} {k : Nat} (h : k + 1 < row.length) : rd (swapRow row k) (k + 1) = rd row k := by
  unfold swapRow
  rw [rd_setG _ (by rw [List.length_set]; exact h), if_pos rfl]
theorem swap_ok {P : List (List Ins)} {S : List State} {W : List (List Item)} {H : List (List Event)} {row : List Who} {k : Int} (h : swapB P S W H row k = true) : rowOkB P S W H (swapRow row k.toNat) = true ∧ swapB P S W H (swapRow row k.toNat) k = true := by
  have h0 := h
  simp only [swapB, canSwap, Bool.and_eq_true, decide_eq_true_eq] at h
  obtain ⟨h1, h2, h3⟩ := h
  have h1' := h1
  simp only [rowOkB, Bool.and_eq_true, decide_eq_true_eq] at h1
  have hk : k.toNat + 1 < row.length := by omega
  have hgo := swap_go h1.1 k.toNat row _ (fok_zero H) h1.2.2 hk h3
  have hr : rowOkB P S W H (swapRow row k.toNat) = true := by
    simp only [rowOkB, Bool.and_eq_true, decide_eq_true_eq]
    exact ⟨h1.1, by rw [swapRow_len]; exact h1.2.1, hgo⟩
  refine ⟨hr, ?_⟩
  simp only [swapB, canSwap, Bool.and_eq_true, decide_eq_true_eq]
  refine ⟨hr, by rw [swapRow_len]; exact h2, ?_⟩
  rw [swapRow_fst hk, swapRow_snd hk, sideB_comm]
  exact h3

def rClk (c : List (List Int)) : List T := [.sl 1 (c.map rIntL)]
theorem full_rClk (x : List (List Int)) : (rClk x).all (fun t => T.full 8 t) = true := by
  simp only [rClk, List.all_cons, List.all_nil, Bool.and_true]
  refine full_map (fun y => ?_) x
  simp only [rIntL, List.all_cons, List.all_nil, Bool.and_true]
  exact full_map (fun _ => rfl) y
theorem snoc_rClk1 (l : List (List Int)) (x : List Int) : l.map rIntL ++ [[.sl 1 (x.map rI)]] = (l ++ [x]).map rIntL := by simp [rIntL]
theorem set_rClk (l : List (List (List Int))) (n : Nat) (x : List (List Int)) : (l.map rClk).set n [.sl 1 (x.map rIntL)] = (l.set n x).map rClk := by simp [rClk, List.map_set]
theorem rep_rClk (n : Nat) : List.replicate n [T.sl 1 []] = (List.replicate n ([] : List (List Int))).map rClk := by simp [rClk]
theorem gI20 {p A : Prop} (h : A) (e : p := by first | with_reducible assumption | omega | (simp only [Nat.zero_add, Nat.add_zero, Nat.sub_zero, Int.toNat_natCast, Int.toNat_zero, Int.toNat_one, List.length_map, List.length_nil, Int.reduceToNat, Nat.reduceAdd, Nat.reduceSub, Int.sub_zero, Int.reduceAdd, Int.reduceSub, Nat.sub_self, Int.toNat_natCast_add_one, marks_len, bs_len, List.length_append, List.length_cons, List.length_set, List.length_replicate, List.length_range]; first | done | omega)) : sI p A := sI.mk e h
theorem gNum20 {r r' : Nat} {F : Nat → Prop} (h : F r') (e : r = r' := by first | (simp only [Nat.zero_add, Nat.add_zero, Nat.sub_zero, Int.toNat_natCast, Int.toNat_zero, Int.toNat_one, List.length_map, List.length_nil, Int.reduceToNat, Nat.reduceAdd, Nat.reduceSub, Int.sub_zero, Int.reduceAdd, Int.reduceSub, Nat.sub_self, Int.toNat_natCast_add_one, marks_len, bs_len]; rfl) | rfl) : sN r F := sN.eq e h
theorem gRow20 {r r' : List (List T)} {F : List (List T) → Prop} (h : F r') (e : r = r' := by first | (simp only [Nat.add_zero, Nat.zero_add, Nat.reduceAdd, List.drop_zero, List.take_succ_cons, List.take_nil, List.drop_succ_cons, List.drop_nil, List.take_zero, List.nil_append, List.append_nil, List.map_nil, drop_suf, take_pre, drop_map, List.take_length, take_len_set, take_len_app, List.set_set, List.length_map, snoc_rClk1, set_rClk, rep_rClk, Int.toNat_natCast, cons_rItem, one_rIns, cons_rIns, one_rI, cons_rI, snoc_new, snoc_rItem, snoc_rInsL, snoc_rItemL, snoc_rEventL, snoc_rState, set_rWho, rep_rWho, snoc_rWho, set_rState, rep_rState, set_rInsL, rep_rInsL, set_rItemL, rep_rItemL, set_rEventL, rep_rEventL, set_rItem, rep_rItem, rep_rKept, marks_take, set_rKept, set_rIns, rep_rIns, set_rEvent, rep_rEvent, snoc_rKept, snoc_rEvent, snoc_rIns, bytesT_bs, snoc_rI, snoc_rB, snoc_rBool, set_rI, set_rBool, rep_rI, rep_rBool, map_app]; rfl) | rfl) : sR r F := sR.eq e h
theorem gRf5 {b : Bool} {A : Prop} (h : A) (e : b = true := by first | exact Nat.beq_refl _ | exact wide_map (fun _ => rfl) _ | exact full_map (fun _ => rfl) _ | exact full_map (fun x => full_rKept x) _ | exact full_map (fun x => full_rInsL x) _ | exact full_map (fun x => full_rItemL x) _ | exact full_map (fun x => full_rEventL x) _ | exact full_map (fun x => full_rState x) _ | exact full_map (fun x => full_rIntL x) _ | exact full_map (fun x => full_rClk x) _ | rfl | (simp only [full_map, wide_map]; done)) : fB b A := fB.of e h
theorem st20 {P Q : Prop} (h : Q) (e : Q → P := by with_reducible first | exact fun h => gP h | exact fun h => gN h | exact fun h => fG.not h | exact fun h => gY h | exact fun h => gF h | exact fun h => fG.yes (flat_map (fun _ => rfl) _) h | exact fun h => gS64 h | exact fun h => gU8 h | exact fun h => gI20 h | exact fun h => fE.of rfl h | exact fun h => gNum20 h | exact fun h => gSet h | exact fun h => gRd h | exact fun h => gLk h | exact fun h => gRow20 h | exact fun h => gRf5 h) : P := e h
abbrev tClk9 (C : List (List (List Int))) : Cont := .tree 9 (.sl 1 (C.map rClk))
structure CJ where
  j : Nat
  c : List Int
  g : Nat
  d : Bool
theorem ok_impl_clocks1 (k : Nat) (o c : List Int) (hl : o.length = c.length) (hn : c.length ≤ 1000) :
    callE PR C (k + 1) 202 [.h 1000000 0 0 [] 1 0 o.length, .pt 1000002 0 0 [] 0 0] [tI o, tI9 c, .box [.h 1000001 0 0 [] 1 0 c.length]] = some ⟨.tu [], [tI9 (joinL c o)], [none, some .dead, some (.box [.h 2000000 1 0 [] 1 0 c.length])]⟩ := by
  (refine fnI [] Tryz.func202 ?_; conv => whnf)
  refine loop_rule (ι := CJ) (fun z => [(1, .pt 1000002 0 0 [] 0 0), (5, .h 1000000 0 0 [] 1 0 o.length), (6, i64 o.length), (7, i64 (z.j : Nat))])
    (fun z => [(1000000, ⟨0, 0, false, tI o⟩), (1000001, ⟨0, z.g, z.d, tI9 z.c⟩), (1000002, ⟨0, 0, false, .box [.h 1000001 0 0 [] 1 0 c.length]⟩)])
    (fun z => o.length - z.j) (fun z => z.j ≤ o.length ∧ z.c.length = c.length ∧ ∀ i, i < c.length → rd z.c i = if i < z.j then max (rd c i) (rd o i) else rd c i) ⟨0, c, _, _⟩ fitOk ⟨Nat.zero_le _, rfl, fun i _ => rfl⟩ (by simp [C]; omega) ?_
  rintro ⟨j, c', g, d⟩ sl ob ⟨hj, hc', hr⟩
  dsimp only at hj hc' hr
  by_cases hjl : j < o.length
  · have hrj := hr j (by omega)
    rw [if_neg (Nat.lt_irrefl j)] at hrj
    have hm : (if rd c' j < rd o j then rd o j else rd c' j) = max (rd c j) (rd o j) := by rw [hrj]; omega
    (try dsimp only [cond_true, cond_false])
    (conv => whnf)
    repeat' ((with_reducible (first | refine sZ.eq (hm) ?_|refine st20 ?_|refine fG.split (fun _ => ?_) (fun _ => ?_)|refine fG.bool (fun _ => ?_) (fun _ => ?_)|refine gDn 3 ?_)) <;> (try (conv => whnf)))
    refine ⟨⟨⟨j + 1, c'.set j (max (rd c j) (rd o j)), _, _⟩, fitOk, ?_, ?_⟩⟩
    · refine ⟨by show j + 1 ≤ _; omega, by show (c'.set j _).length = _; rw [List.length_set]; exact hc', fun i hi => ?_⟩
      show rd (c'.set j _) i = if i < j + 1 then _ else _
      rw [rd_set _ (by omega)]
      have := hr i hi
      by_cases e : i = j
      · subst e; rw [if_pos rfl, if_pos (by omega)]
      · rw [if_neg e, this]
        by_cases e2 : i < j
        · rw [if_pos e2, if_pos (by omega)]
        · rw [if_neg e2, if_neg (by omega)]
    · show o.length - (j + 1) < o.length - j; omega
  · have hcj : c' = joinL c o := rd_ext (by rw [hc', joinL_len]) fun i hi => by
      rw [hc'] at hi
      rw [hr i hi, if_pos (by omega), joinL_rd hi]
    subst hcj
    have et : List.take c.length (joinL c o) = joinL c o := List.take_of_length_le (by omega)
    (try dsimp only [cond_true, cond_false])
    (conv => whnf)
    repeat' ((with_reducible (first | refine st20 ?_|refine fG.split (fun _ => ?_) (fun _ => ?_)|refine fG.bool (fun _ => ?_) (fun _ => ?_)|refine gDn 3 ?_)) <;> (try (conv => whnf)))
    all_goals simp only [et]
theorem firstP_is {H : List (List Event)} {f : List Int} {p : Nat} (h : firstP H f = some p) : p < H.length ∧ canCome H f p = true := by
  unfold firstP at h
  exact ⟨List.mem_range.1 (List.mem_of_find?_eq_some h), List.find?_some h⟩
theorem greedy_next {H : List (List Event)} {f : List Int} {m : Nat} {w : Who} {r : List Who} (h : greedy H m f = w :: r) : ∃ p, p < H.length ∧ canCome H f p = true ∧ w = ⟨(p : Int), rd f p⟩ ∧ r = greedy H (m - 1) (goOn f p) := by
  cases m with
  | zero => simp [greedy] at h
  | succ m =>
    simp only [greedy] at h
    cases hp : firstP H f with
    | none => rw [hp] at h; cases h
    | some p =>
      rw [hp] at h
      obtain ⟨h1, h2⟩ := firstP_is hp
      simp only [List.cons.injEq] at h
      exact ⟨p, h1, h2, h.1.symm, h.2.symm⟩
theorem joinL_zero {H : List (List Event)} {v : List Int} (hv : FOk H v) : joinL (List.replicate H.length 0) v = v := by
  refine rd_ext (by rw [joinL_len, hv.len]; simp) fun q hq => ?_
  rw [joinL_len, List.length_replicate] at hq
  rw [joinL_rd (by simpa using hq), rd_zero]
  have := (hv.rng q hq).1
  omega
structure CK where
  j : Nat
  f : List Int
  c : List (List (List Int))
  g : Nat
  d : Bool
set_option maxRecDepth 20000 in
set_option maxHeartbeats 8000000 in
theorem ok_impl_clocks (k : Nat) (P : List (List Ins)) (S : List State) (W : List (List Item)) (H : List (List Event)) (hs : sysOk P S W H = true) :
    callE PR C (k + 5) 100 [aSys 0 P S W H] [tInsSS P, tStateS S, tItemSS W, tEventSS H] = some ⟨.h 2000000 1 0 [] 1 0 (clocksOf H).length, [tClk9 (clocksOf H)], [none, none, none, none]⟩ := by
  obtain ⟨hI, hP, hS, h200⟩ := sysOk_facts hs
  have hN := hI.n
  have hHl := hI.h
  have hr : inRow H = true := by simp only [sysOk, Bool.and_eq_true] at hs; exact hs.2.2.2.2
  have hall : allEv H ≤ 1000000 := by
    have h1 := wts_bound List.length 200 H h200
    rw [← allEv_wts] at h1
    omega
  have q1 := fun k => ok_impl_rowOf k H (by omega) (fun j hj => by have := h200 j hj; omega) hP
  have hrl : (rowOf H).length = allEv H := by simpa [inRow] using hr
  have hg : (rowOf H).drop 0 = greedy H (allEv H - 0) (List.replicate H.length 0) := rfl
  generalize rowOf H = row at q1 hrl hg
  (refine fnI [ResultVar.tmp 2] Tryz.func100 ?_; conv => whnf)
  repeat' ((with_reducible (first | refine sCall.of (q1 _) ?_|refine st20 ?_|refine fG.split (fun _ => ?_) (fun _ => ?_)|refine fG.bool (fun _ => ?_) (fun _ => ?_)|refine gDn 8 ?_|refine gDn 11 ?_|refine gD 13 [(2, 9), (5, 9), (7, 9), (2, 10)] ?_)) <;> (try (conv => whnf)))
  refine loop_rule (ι := CK) (fun z => [(1, .pt 1 1 0 [] 0 0), (3, .h 12 1 0 [] 1 0 H.length), (15, .h 10015 1 0 [] 2 0 row.length), (16, i64 row.length), (17, i64 (z.j : Nat))])
    (fun z => [(1000000, ⟨0, 0, false, tInsSS P⟩), (1000001, ⟨0, 0, false, tStateS S⟩), (1000002, ⟨0, 0, false, tItemSS W⟩), (1000003, ⟨0, 0, false, tEventSS H⟩), (1, ⟨1, 0, false, bSys P S W H⟩), (12, ⟨1, z.g, z.d, tClk9 z.c⟩), (10015, ⟨1, 0, false, tWho9 row⟩)])
    (fun z => row.length - z.j) (fun z => z.j ≤ row.length ∧ Reach H z.f z.j ∧ Clks H z.f z.c ∧ row.drop z.j = greedy H (allEv H - z.j) z.f) ⟨0, List.replicate H.length 0, List.replicate H.length [], _, _⟩ fitOk ⟨Nat.zero_le _, .zero, .zero H, hg⟩ (by simp [C]; omega) ?_
  clear hg q1
  rintro ⟨j, f, c, g, d⟩ sl ob ⟨hj, hre, hc, hg⟩
  dsimp only at hj hre hc hg
  have hcl := hc.len
  by_cases hjl : j < row.length
  · rw [drop_rd hjl] at hg
    obtain ⟨p, hp, hcan, hw, hnext⟩ := greedy_next hg.symm
    have hrow := hc.rows p hp
    have hstep := hc.step hP hS hre hp hcan
    have hnew := (newClk_is hc hP hS hre hp hcan).2
    have hlt := can_lt hre.fok hp hcan
    have hlp := h200 p hp
    have hgn : row.drop (j + 1) = greedy H (allEv H - (j + 1)) (goOn f p) := by rw [hnext, Nat.sub_sub]
    obtain ⟨i, hi⟩ : ∃ i, i = (rd c p).length := ⟨_, rfl⟩
    have hfi : rd f p = (i : Int) := by omega
    rw [hfi] at hw
    have q2 := fun k => ok_impl_sender k P S W H p i hP hp (by omega) (fun j hj => by have := h200 j hj; omega)
    have hzl : (List.replicate H.length (0 : Int)).length = H.length := by simp
    rw [← hi] at hnew hstep
    have hno : 0 < i → FOk H (rd (rd c p) (i - 1)) := fun h0 => (hc.is p hp (i - 1) (by omega)).fok
    unfold newClk baseOf at hstep
    (try dsimp only [cond_true, cond_false])
    (conv => whnf)
    repeat' ((with_reducible (first | refine st20 ?_|refine gDn 8 ?_|refine gDn 11 ?_|refine gD 13 [(2, 9), (5, 9), (7, 9), (2, 10)] ?_)) <;> (try (conv => whnf)))
    generalize rd row j = w at hw ⊢
    subst hw
    (try dsimp only [cond_true, cond_false])
    by_cases i0 : 0 < i
    · have hb := hno i0
      have hbl := hb.len
      have hjz := joinL_zero hb
      rw [if_neg (show ¬ i = 0 by omega)] at hstep
      have hpi : ((i : Int) - 1).toNat = i - 1 := by omega
      rw [← hpi] at hb hbl hjz hstep
      have q3 : ∀ k, callE PR C (k + 1) 202 [.h 1000000 0 0 [] 1 0 (rd (rd c p) ((i : Int) - 1).toNat).length, .pt 1000002 0 0 [] 0 0] [tI (rd (rd c p) ((i : Int) - 1).toNat), tI9 (List.replicate H.length 0), .box [.h 1000001 0 0 [] 1 0 H.length]] = some ⟨.tu [], [tI9 (rd (rd c p) ((i : Int) - 1).toNat)], [none, some .dead, some (.box [.h 2000000 1 0 [] 1 0 H.length])]⟩ := fun k => by
        have := ok_impl_clocks1 k (rd (rd c p) ((i : Int) - 1).toNat) (List.replicate H.length 0) (by omega) (by omega)
        rw [hjz, hzl] at this
        exact this
      by_cases hsd : senderOf H p i < 0
      · rw [if_pos hsd] at hstep
        have et : List.take H.length ((rd (rd c p) ((i : Int) - 1).toNat).set p ((i : Int) + 1)) = (rd (rd c p) ((i : Int) - 1).toNat).set p ((i : Int) + 1) := List.take_of_length_le (by rw [List.length_set]; omega)
        repeat' ((with_reducible (first | refine sCall.of (q2 _) ?_|refine sCall.of (q3 _) ?_|refine gHole ?_|refine st20 ?_|refine fG.split (fun _ => ?_) (fun _ => ?_)|refine fG.bool (fun _ => ?_) (fun _ => ?_)|refine gDn 8 ?_|refine gDn 11 ?_|refine gD 13 [(2, 9), (5, 9), (7, 9), (2, 10)] ?_)) <;> (try (conv => whnf)))
        refine ⟨⟨⟨j + 1, goOn f p, c.set p (rd c p ++ [List.take H.length ((rd (rd c p) ((i : Int) - 1).toNat).set p ((i : Int) + 1))]), _, _⟩, fitOk, ?_, ?_⟩⟩
        · exact ⟨by show j + 1 ≤ _; omega, hre.step hp hcan, by show Clks H _ (c.set p (rd c p ++ [List.take H.length _])); rw [et]; exact hstep, hgn⟩
        · show row.length - (j + 1) < row.length - j; omega
      · rw [if_neg hsd] at hstep
        obtain ⟨n1, n2, n3⟩ := hnew (by omega)
        have hcq := hc.rows _ n1
        have hvq := (hc.is _ n1 (senderOf H p i).toNat (by omega)).fok.len
        have q4 : ∀ k, callE PR C (k + 1) 202 [.h 1000000 0 0 [] 1 0 (rd (rd c (rd (rd H p) i).peer.toNat) (senderOf H p i).toNat).length, .pt 1000002 0 0 [] 0 0] [tI (rd (rd c (rd (rd H p) i).peer.toNat) (senderOf H p i).toNat), tI9 (rd (rd c p) ((i : Int) - 1).toNat), .box [.h 1000001 0 0 [] 1 0 H.length]] = some ⟨.tu [], [tI9 (joinL (rd (rd c p) ((i : Int) - 1).toNat) (rd (rd c (rd (rd H p) i).peer.toNat) (senderOf H p i).toNat))], [none, some .dead, some (.box [.h 2000000 1 0 [] 1 0 H.length])]⟩ := fun k => by
          have := ok_impl_clocks1 k (rd (rd c (rd (rd H p) i).peer.toNat) (senderOf H p i).toNat) (rd (rd c p) ((i : Int) - 1).toNat) (by omega) (by omega)
          rw [hbl] at this
          exact this
        have hjl2 := joinL_len (rd (rd c p) ((i : Int) - 1).toNat) (rd (rd c (rd (rd H p) i).peer.toNat) (senderOf H p i).toNat)
        generalize joinL (rd (rd c p) ((i : Int) - 1).toNat) (rd (rd c (rd (rd H p) i).peer.toNat) (senderOf H p i).toNat) = u at *
        have et : List.take H.length (u.set p ((i : Int) + 1)) = u.set p ((i : Int) + 1) := List.take_of_length_le (by rw [List.length_set]; omega)
        repeat' ((with_reducible (first | refine sCall.of (q2 _) ?_|refine sCall.of (q3 _) ?_|refine sCall.of (q4 _) ?_|refine gHole ?_|refine st20 ?_|refine fG.split (fun _ => ?_) (fun _ => ?_)|refine fG.bool (fun _ => ?_) (fun _ => ?_)|refine gDn 8 ?_|refine gDn 11 ?_|refine gD 13 [(2, 9), (5, 9), (7, 9), (2, 10)] ?_)) <;> (try (conv => whnf)))
        refine ⟨⟨⟨j + 1, goOn f p, c.set p (rd c p ++ [List.take H.length (u.set p ((i : Int) + 1))]), _, _⟩, fitOk, ?_, ?_⟩⟩
        · exact ⟨by show j + 1 ≤ _; omega, hre.step hp hcan, by show Clks H _ (c.set p (rd c p ++ [List.take H.length _])); rw [et]; exact hstep, hgn⟩
        · show row.length - (j + 1) < row.length - j; omega
    · rw [if_pos (show i = 0 by omega)] at hstep
      have hz2 : (List.replicate H.length (0 : Int)).length = H.length := by simp
      by_cases hsd : senderOf H p i < 0
      · rw [if_pos hsd] at hstep
        have et : List.take H.length ((List.replicate H.length 0).set p ((i : Int) + 1)) = (List.replicate H.length 0).set p ((i : Int) + 1) := List.take_of_length_le (by rw [List.length_set]; omega)
        repeat' ((with_reducible (first | refine sCall.of (q2 _) ?_|refine gHole ?_|refine st20 ?_|refine fG.split (fun _ => ?_) (fun _ => ?_)|refine fG.bool (fun _ => ?_) (fun _ => ?_)|refine gDn 8 ?_|refine gDn 11 ?_|refine gD 13 [(2, 9), (5, 9), (7, 9), (2, 10)] ?_)) <;> (try (conv => whnf)))
        refine ⟨⟨⟨j + 1, goOn f p, c.set p (rd c p ++ [List.take H.length ((List.replicate H.length 0).set p ((i : Int) + 1))]), _, _⟩, fitOk, ?_, ?_⟩⟩
        · exact ⟨by show j + 1 ≤ _; omega, hre.step hp hcan, by show Clks H _ (c.set p (rd c p ++ [List.take H.length _])); rw [et]; exact hstep, hgn⟩
        · show row.length - (j + 1) < row.length - j; omega
      · rw [if_neg hsd] at hstep
        obtain ⟨n1, n2, n3⟩ := hnew (by omega)
        have hcq := hc.rows _ n1
        have hvq := (hc.is _ n1 (senderOf H p i).toNat (by omega)).fok.len
        have q4 : ∀ k, callE PR C (k + 1) 202 [.h 1000000 0 0 [] 1 0 (rd (rd c (rd (rd H p) i).peer.toNat) (senderOf H p i).toNat).length, .pt 1000002 0 0 [] 0 0] [tI (rd (rd c (rd (rd H p) i).peer.toNat) (senderOf H p i).toNat), tI9 (List.replicate H.length 0), .box [.h 1000001 0 0 [] 1 0 H.length]] = some ⟨.tu [], [tI9 (joinL (List.replicate H.length 0) (rd (rd c (rd (rd H p) i).peer.toNat) (senderOf H p i).toNat))], [none, some .dead, some (.box [.h 2000000 1 0 [] 1 0 H.length])]⟩ := fun k => by
          have := ok_impl_clocks1 k (rd (rd c (rd (rd H p) i).peer.toNat) (senderOf H p i).toNat) (List.replicate H.length 0) (by omega) (by omega)
          rw [hz2] at this
          exact this
        have hjl2 := joinL_len (List.replicate H.length 0) (rd (rd c (rd (rd H p) i).peer.toNat) (senderOf H p i).toNat)
        generalize joinL (List.replicate H.length 0) (rd (rd c (rd (rd H p) i).peer.toNat) (senderOf H p i).toNat) = u at *
        have et : List.take H.length (u.set p ((i : Int) + 1)) = u.set p ((i : Int) + 1) := List.take_of_length_le (by rw [List.length_set]; omega)
        repeat' ((with_reducible (first | refine sCall.of (q2 _) ?_|refine sCall.of (q4 _) ?_|refine gHole ?_|refine st20 ?_|refine fG.split (fun _ => ?_) (fun _ => ?_)|refine fG.bool (fun _ => ?_) (fun _ => ?_)|refine gDn 8 ?_|refine gDn 11 ?_|refine gD 13 [(2, 9), (5, 9), (7, 9), (2, 10)] ?_)) <;> (try (conv => whnf)))
        refine ⟨⟨⟨j + 1, goOn f p, c.set p (rd c p ++ [List.take H.length (u.set p ((i : Int) + 1))]), _, _⟩, fitOk, ?_, ?_⟩⟩
        · exact ⟨by show j + 1 ≤ _; omega, hre.step hp hcan, by show Clks H _ (c.set p (rd c p ++ [List.take H.length _])); rw [et]; exact hstep, hgn⟩
        · show row.length - (j + 1) < row.length - j; omega
  · have hje : j = allEv H := by omega
    rw [hje] at hre
    have hcf : c = clocksOf H := by
      have hrng := fun q hq => (hre.fok.rng q hq).2
      have hfull := full_lens hre.fok ((sum_le H f hre.fok.len hrng).2 hre.sum)
      rw [hfull] at hc
      exact (clocksOf_eq hP hS hr hc).symm
    rw [← hcf, hcl]
    (try dsimp only [cond_true, cond_false])
    (conv => whnf)
    repeat' ((with_reducible (first | refine st20 ?_|refine fG.split (fun _ => ?_) (fun _ => ?_)|refine fG.bool (fun _ => ?_) (fun _ => ?_)|refine gDn 8 ?_|refine gDn 11 ?_|refine gD 13 [(2, 9), (5, 9), (7, 9), (2, 10)] ?_)) <;> (try (conv => whnf)))
    all_goals simp only [show List.take H.length c = c from List.take_of_length_le (by omega)]

end Go.Proofs.YtipfcgbhaalcdaaGreat.Abs
namespace Go.Proofs.YtipfcgbhaalcdaaGreat.Abs
open Go Go.Proofs
set_option linter.unusedVariables false
set_option linter.unusedSimpArgs false
attribute [local irreducible] callE
structure CL7 where
  j : Nat
  l : List Int
  o : Nat
  b : Nat
set_option maxRecDepth 20000 in
theorem ok_spec_l7Join (k : Nat) (a c : List Int) (hl : c.length = a.length) (hn : a.length ≤ 1000) :
    callE PR C (k + 2) 305 [.h 1000000 0 0 [] 1 0 a.length, .h 1000001 0 0 [] 1 0 c.length] [tI a, tI c] = some ⟨.h 2000000 1 0 [] 1 0 (joinL a c).length, [tI9 (joinL a c)], [none, none]⟩ := by
  have hjl0 := joinL_len a c
  (refine fnI [ResultVar.tmp 4] Tryz.func305 ?_; conv => whnf)
  repeat' ((with_reducible (first | refine st20 ?_|refine fG.split (fun _ => ?_) (fun _ => ?_)|refine fG.bool (fun _ => ?_) (fun _ => ?_)|refine gDn 5 ?_)) <;> (try (conv => whnf)))
  refine loop_rule (ι := CL7) (fun z => [(0, .h 1000000 0 0 [] 1 0 a.length), (1, .h 1000001 0 0 [] 1 0 c.length), (5, .h z.o z.b 0 [] 1 0 z.l.length), (6, i64 (z.j : Nat))])
    (fun z => [(1000000, ⟨0, 0, false, tI a⟩), (1000001, ⟨0, 0, false, tI c⟩), (z.o, ⟨z.b, 0, false, tI9 z.l⟩)])
    (fun z => a.length - z.j) (fun z => z.j ≤ a.length ∧ z.l = (joinL a c).take z.j ∧ (z.o = 7 ∨ z.o = 25)) ⟨0, [], 7, _⟩ fitOk ⟨Nat.zero_le _, rfl, .inl rfl⟩ (by simp [C]; omega) ?_
  rintro ⟨j, l, o, b⟩ sl ob ⟨hj, hl', ho⟩
  dsimp only at hj hl' ho
  have hll : l.length = j := by rw [hl', List.length_take]; omega
  by_cases hjl : j < a.length
  · have q1 := fun k => ok_spec_l1Max k (rd a j) (rd c j)
    have hm : rd (joinL a c) j = if rd c j < rd a j then rd a j else rd c j := by
      rw [joinL_rd hjl]
      split <;> omega
    rw [← hm] at q1
    have ht : l ++ [rd (joinL a c) j] = (joinL a c).take (j + 1) := by rw [hl', ← take_rd (by omega)]
    rcases ho with rfl | rfl
    all_goals (try dsimp only [cond_true, cond_false])
    all_goals (conv => whnf)
    all_goals repeat' ((with_reducible (first | refine sCall.of (q1 _) ?_|refine st20 ?_|refine fG.split (fun _ => ?_) (fun _ => ?_)|refine fG.bool (fun _ => ?_) (fun _ => ?_)|refine gDn 5 ?_)) <;> (try (conv => whnf)))
    all_goals
      refine ⟨⟨⟨j + 1, l ++ [rd (joinL a c) j], 25, _⟩, fitOk, ?_, ?_⟩⟩
      · exact ⟨by show j + 1 ≤ _; omega, ht, .inr rfl⟩
      · show a.length - (j + 1) < a.length - j; omega
  · rw [List.take_of_length_le (by omega)] at hl'
    rw [← hl']
    rcases ho with rfl | rfl
    all_goals (try dsimp only [cond_true, cond_false])
    all_goals (conv => whnf)
    all_goals repeat' ((with_reducible (first | refine st20 ?_|refine fG.split (fun _ => ?_) (fun _ => ?_)|refine fG.bool (fun _ => ?_) (fun _ => ?_)|refine gDn 5 ?_)) <;> (try (conv => whnf)))
theorem self_sender {P : List (List Ins)} {S : List State} {W : List (List Item)} {H : List (List Event)} (hs : sysOk P S W H = true) {p i : Nat} (hp : p < H.length) (hi : i < (rd H p).length) (hk : 0 ≤ senderOf H p i) (hpe : (rd (rd H p) i).peer = (p : Int)) : senderOf H p i < (i : Int) := by
  obtain ⟨_, hP, hS, _⟩ := sysOk_facts hs
  have he : hasEv H (p : Int) (i : Int) = true := by
    simp only [hasEv, Bool.and_eq_true, decide_eq_true_eq, Int.toNat_natCast]
    omega
  have hv := clkAt_is hs he
  rw [Int.toNat_natCast, Int.toNat_natCast] at hv
  have h1 := whole_sender hP hv.fok hv.whole hp (by rw [hv.own]; exact Int.le_refl _) hk
  rw [hpe, Int.toNat_natCast, hv.own] at h1
  have h3 := sender_take hk
  have e : senderOf H p i = nth (rd H p) 2 p (cnt ((rd H p).take i) 3 p) := by
    rw [senderOf, if_pos h3, hpe, Int.toNat_natCast]
  rw [e] at h1 hk ⊢
  have n1 := (nth_lt (rd H p) 2 p (cnt ((rd H p).take i) 3 p) (i + 1)).1 ⟨hk, by omega⟩
  have e2 : cnt ((rd H p).take (i + 1)) 2 p = cnt ((rd H p).take i) 2 p := by
    simp only [cnt]
    rw [vals_snoc _ _ _ hi, if_neg (by simp only [isEv, Bool.and_eq_true, decide_eq_true_eq]; omega)]
  rw [e2] at n1
  exact ((nth_lt (rd H p) 2 p (cnt ((rd H p).take i) 3 p) i).2 n1).2
structure C7 where
  f : List Int
  n : Nat
  p : Nat
  m : Bool
  c : List (List (List Int))
  g : Nat
  d : Bool
set_option maxRecDepth 20000 in
set_option maxHeartbeats 16000000 in
theorem ok_spec_l7Clocks (k : Nat) (P : List (List Ins)) (S : List State) (W : List (List Item)) (H : List (List Event)) (hs : sysOk P S W H = true) :
    callE PR C (k + 4) 277 [aSys 0 P S W H] [tInsSS P, tStateS S, tItemSS W, tEventSS H] = some ⟨.h 2000000 1 0 [] 1 0 (clocksOf H).length, [tClk9 (clocksOf H)], [none, none, none, none]⟩ := by
  obtain ⟨hI, hP, hS, h200⟩ := sysOk_facts hs
  have hN := hI.n
  have hHl := hI.h
  have hr : inRow H = true := by simp only [sysOk, Bool.and_eq_true] at hs; exact hs.2.2.2.2
  have hall : allEv H ≤ 1000000 := by
    have h1 := wts_bound List.length 200 H h200
    rw [← allEv_wts] at h1
    omega
  have hrl : (rowOf H).length = allEv H := by simpa [inRow] using hr
  have hzl : (List.replicate H.length (0 : Int)).length = H.length := by simp
  (refine fnI [ResultVar.tmp 2] Tryz.func277 ?_; conv => whnf)
  repeat' ((with_reducible (first | refine st20 ?_|refine fG.split (fun _ => ?_) (fun _ => ?_)|refine fG.bool (fun _ => ?_) (fun _ => ?_))) <;> (try (conv => whnf)))
  refine loop_rule (ι := C7) (fun z => [(1, .pt 1 1 0 [] 0 0), (3, i64 P.length), (4, .h 15 1 0 [] 1 0 P.length), (5, bl z.m)])
    (fun z => [(1000000, ⟨0, 0, false, tInsSS P⟩), (1000001, ⟨0, 0, false, tStateS S⟩), (1000002, ⟨0, 0, false, tItemSS W⟩), (1000003, ⟨0, 0, false, tEventSS H⟩), (1, ⟨1, 0, false, bSys P S W H⟩), (15, ⟨1, z.g, z.d, tClk9 z.c⟩)])
    (fun z => 2 * (allEv H - z.n) + (bif z.m then 1 else 0)) (fun z => Reach H z.f z.n ∧ Clks H z.f z.c ∧ (z.m = false → Stuck H z.f)) ⟨List.replicate H.length 0, 0, 0, true, List.replicate P.length [], _, _⟩ fitOk ⟨.zero, by show Clks H _ (List.replicate P.length []); rw [← hHl]; exact .zero H, fun h => by cases h⟩ (by simp [C]; omega) ?_
  rintro ⟨f0, n0, _, m0, c0, g0, d0⟩ sl ob ⟨hr0, hc0, hs0⟩
  dsimp only at hr0 hc0 hs0
  have hle0 := hr0.le_all
  cases m0 with
  | false =>
    have hst := hs0 rfl
    have hn0 := row_len hP hr0 hst
    rw [hrl] at hn0
    have hcl := hc0.len
    have hcf : c0 = clocksOf H := by
      rw [← hn0] at hr0
      have hrng := fun q hq => (hr0.fok.rng q hq).2
      have hfull := full_lens hr0.fok ((sum_le H f0 hr0.fok.len hrng).2 hr0.sum)
      rw [hfull] at hc0
      exact (clocksOf_eq hP hS hr hc0).symm
    rw [← hcf, hcl, hHl]
    (try dsimp only [cond_true, cond_false])
    (conv => whnf)
    repeat' ((with_reducible (first | refine st20 ?_|refine fG.split (fun _ => ?_) (fun _ => ?_)|refine fG.bool (fun _ => ?_) (fun _ => ?_))) <;> (try (conv => whnf)))
    all_goals simp only [show List.take P.length c0 = c0 from List.take_of_length_le (by omega)]
  | true =>
    clear hs0
    (try dsimp only [cond_true, cond_false])
    (conv => whnf)
    repeat' ((with_reducible (first | refine st20 ?_|refine fG.split (fun _ => ?_) (fun _ => ?_)|refine fG.bool (fun _ => ?_) (fun _ => ?_))) <;> (try (conv => whnf)))
    refine loop_rule (ι := C7) (fun z => [(1, .pt 1 1 0 [] 0 0), (3, i64 P.length), (4, .h 15 1 0 [] 1 0 P.length), (5, bl z.m), (6, i64 (z.p : Nat))])
      (fun z => [(1000000, ⟨0, 0, false, tInsSS P⟩), (1000001, ⟨0, 0, false, tStateS S⟩), (1000002, ⟨0, 0, false, tItemSS W⟩), (1000003, ⟨0, 0, false, tEventSS H⟩), (1, ⟨1, 0, false, bSys P S W H⟩), (15, ⟨1, z.g, z.d, tClk9 z.c⟩)])
      (fun z => H.length - z.p) (fun z => z.p ≤ H.length ∧ Reach H z.f z.n ∧ Clks H z.f z.c ∧ n0 ≤ z.n ∧ (z.m = true → n0 < z.n) ∧ (z.m = false → ∀ q, q < z.p → canCome H z.f q = false))
      ⟨f0, n0, 0, false, c0, _, _⟩ fitOk ⟨Nat.zero_le _, hr0, hc0, Nat.le_refl _, (fun h => by cases h), fun _ q h => absurd h (Nat.not_lt_zero q)⟩ (by simp [C]; omega) ?_
    clear hr0 hc0 sl ob
    rintro ⟨f, n, p, m, c, g, d⟩ sl ob ⟨hp, hre, hc, hn0, hmt, hmf⟩
    dsimp only at hp hre hc hn0 hmt hmf
    have hf := hre.fok
    have hfl := hf.len
    have hle := hre.le_all
    have hcl := hc.len
    by_cases hpl : p < H.length
    · have hfp := hf.rng p hpl
      have hlp := h200 p hpl
      have hrow := hc.rows p hpl
      have e4 : (List.map rEvent (rd H p)).length = (rd H p).length := by simp
      have e5 : (List.map rIntL (rd c p)).length = (rd c p).length := by simp
      obtain ⟨i, hi⟩ : ∃ i, i = (rd c p).length := ⟨_, rfl⟩
      by_cases c1 : i = (rd H p).length
      · have hcan : canCome H f p = false := by
          have : rd f p = ((rd H p).length : Int) := by omega
          simp [canCome, this]
        (try dsimp only [cond_true, cond_false])
        (conv => whnf)
        repeat' ((with_reducible (first | refine st20 ?_|refine fG.split (fun _ => ?_) (fun _ => ?_)|refine fG.bool (fun _ => ?_) (fun _ => ?_))) <;> (try (conv => whnf)))
        refine ⟨⟨⟨f, n, p + 1, m, c, _, _⟩, fitOk, ?_, ?_⟩⟩
        · exact ⟨by show p + 1 ≤ _; omega, hre, hc, hn0, hmt, fun h => no_more (hmf h) hcan⟩
        · show H.length - (p + 1) < H.length - p; omega
      · have hlt : rd f p < ((rd H p).length : Int) := by omega
        have q2 := fun k => ok_spec_l7Sender k P S W H p i hP hpl (by omega) (fun j hj => by have := h200 j hj; omega)
        have hnoi : 0 < i → FOk H (rd (rd c p) (i - 1)) := fun h0 => (hc.is p hpl (i - 1) (by omega)).fok
        have hsc := sender_can hP hS hf hpl hlt
        rw [show (rd f p).toNat = i by omega] at hsc
        have hstep := fun hcan => hc.step hP hS hre hpl hcan
        unfold newClk baseOf at hstep
        rw [hHl] at hstep
        subst hi
        (try dsimp only [cond_true, cond_false])
        (conv => whnf)
        by_cases i0 : 0 < (rd c p).length
        · have hb := hnoi i0
          have hpi : (((rd c p).length : Int) - 1).toNat = (rd c p).length - 1 := by omega
          rw [if_neg (show ¬ (rd c p).length = 0 by omega), ← hpi] at hstep
          rw [← hpi] at hb
          have hbl := hb.len
          rcases hsc with ⟨h1, h2, h3⟩ | ⟨h1, h2, h3, h4, h5⟩
          · rw [h1, ← e5] at q2
            rw [if_pos (show senderOf H p (rd c p).length < 0 by omega)] at hstep
            have hcan := h2
            have hstep := hstep hcan
            repeat' ((with_reducible (first | refine sCall.of (q2 _) ?_|refine gHole ?_|refine st20 ?_|refine fG.split (fun _ => ?_) (fun _ => ?_)|refine fG.bool (fun _ => ?_) (fun _ => ?_))) <;> (try (conv => whnf)))
            refine ⟨⟨⟨goOn f p, n + 1, p + 1, true, c.set p (rd c p ++ [(rd (rd c p) (((rd c p).length : Int) - 1).toNat).set p (((rd c p).length : Int) + 1)]), _, _⟩, fitOk, ?_, ?_⟩⟩
            · exact ⟨by show p + 1 ≤ _; omega, hre.step hpl hcan, by show Clks H _ (c.set p (rd c p ++ [(rd (rd c p) (((rd c p).length : Int) - 1).toNat).set p (((rd c p).length : Int) + 1)])); exact hstep, by show n0 ≤ n + 1; omega, (fun _ => by show n0 < n + 1; omega), fun h => by cases h⟩
            · show H.length - (p + 1) < H.length - p; omega
          · have hcq := hc.rows _ h3
            have e6 : (List.map rIntL (rd c (rd (rd H p) (rd c p).length).peer.toNat)).length = (rd c (rd (rd H p) (rd c p).length).peer.toNat).length := by simp
            obtain ⟨s, hsd⟩ : ∃ s, s = senderOf H p (rd c p).length := ⟨_, rfl⟩
            rw [← hsd] at q2 h1 h5 hstep
            rw [← e5] at q2
            rw [if_neg (show ¬ s < 0 by omega)] at hstep
            by_cases c3 : s < rd f (rd (rd H p) (rd c p).length).peer.toNat
            · rw [decide_eq_true c3] at h5
              have hcan := h5
              have hstep := hstep hcan
              have hvq := (hc.is _ h3 s.toNat (by omega)).fok.len
              have q3 : ∀ k, callE PR C (k + 2) 305 [.h 1000000 0 0 [] 1 0 (rd (rd c p) (((rd c p).length : Int) - 1).toNat).length, .h 1000001 0 0 [] 1 0 (rd (rd c (rd (rd H p) (rd c p).length).peer.toNat) s.toNat).length] [tI (rd (rd c p) (((rd c p).length : Int) - 1).toNat), tI (rd (rd c (rd (rd H p) (rd c p).length).peer.toNat) s.toNat)] = some ⟨.h 2000000 1 0 [] 1 0 (joinL (rd (rd c p) (((rd c p).length : Int) - 1).toNat) (rd (rd c (rd (rd H p) (rd c p).length).peer.toNat) s.toNat)).length, [tI9 (joinL (rd (rd c p) (((rd c p).length : Int) - 1).toNat) (rd (rd c (rd (rd H p) (rd c p).length).peer.toNat) s.toNat))], [none, none]⟩ := fun k => by
                have := ok_spec_l7Join k (rd (rd c p) (((rd c p).length : Int) - 1).toNat) (rd (rd c (rd (rd H p) (rd c p).length).peer.toNat) s.toNat) (by omega) (by omega)
                skip
                exact this
              have hjl2 := joinL_len (rd (rd c p) (((rd c p).length : Int) - 1).toNat) (rd (rd c (rd (rd H p) (rd c p).length).peer.toNat) s.toNat)
              generalize joinL (rd (rd c p) (((rd c p).length : Int) - 1).toNat) (rd (rd c (rd (rd H p) (rd c p).length).peer.toNat) s.toNat) = u at *
              have hul : u.length = P.length := by omega
              by_cases c4 : (rd (rd H p) (rd c p).length).peer = (p : Int)
              · repeat' ((with_reducible (first | refine sCall.of (q2 _) ?_|refine sCall.of (q3 _) ?_|refine gHole ?_|refine st20 ?_|refine fG.split (fun _ => ?_) (fun _ => ?_)|refine fG.bool (fun _ => ?_) (fun _ => ?_))) <;> (try (conv => whnf)))
                refine ⟨⟨⟨goOn f p, n + 1, p + 1, true, c.set p (rd c p ++ [u.set p (((rd c p).length : Int) + 1)]), _, _⟩, fitOk, ?_, ?_⟩⟩
                · exact ⟨by show p + 1 ≤ _; omega, hre.step hpl hcan, by show Clks H _ (c.set p (rd c p ++ [u.set p (((rd c p).length : Int) + 1)])); exact hstep, by show n0 ≤ n + 1; omega, (fun _ => by show n0 < n + 1; omega), fun h => by cases h⟩
                · show H.length - (p + 1) < H.length - p; omega
              · repeat' ((with_reducible (first | refine sCall.of (q2 _) ?_|refine sCall.of (q3 _) ?_|refine gHole ?_|refine st20 ?_|refine fG.split (fun _ => ?_) (fun _ => ?_)|refine fG.bool (fun _ => ?_) (fun _ => ?_))) <;> (try (conv => whnf)))
                refine ⟨⟨⟨goOn f p, n + 1, p + 1, true, c.set p (rd c p ++ [u.set p (((rd c p).length : Int) + 1)]), _, _⟩, fitOk, ?_, ?_⟩⟩
                · exact ⟨by show p + 1 ≤ _; omega, hre.step hpl hcan, by show Clks H _ (c.set p (rd c p ++ [u.set p (((rd c p).length : Int) + 1)])); exact hstep, by show n0 ≤ n + 1; omega, (fun _ => by show n0 < n + 1; omega), fun h => by cases h⟩
                · show H.length - (p + 1) < H.length - p; omega
            · rw [decide_eq_false c3] at h5
              have hcan := h5
              have c4 : ¬ (rd (rd H p) (rd c p).length).peer = (p : Int) := fun e => by
                have := self_sender hs hpl (by omega) (by rw [← hsd]; exact h1) e
                rw [e, Int.toNat_natCast] at c3
                omega
              repeat' ((with_reducible (first | refine sCall.of (q2 _) ?_|refine gHole ?_|refine st20 ?_|refine fG.split (fun _ => ?_) (fun _ => ?_)|refine fG.bool (fun _ => ?_) (fun _ => ?_))) <;> (try (conv => whnf)))
              refine ⟨⟨⟨f, n, p + 1, m, c, _, _⟩, fitOk, ?_, ?_⟩⟩
              · exact ⟨by show p + 1 ≤ _; omega, hre, hc, hn0, hmt, fun h => no_more (hmf h) hcan⟩
              · show H.length - (p + 1) < H.length - p; omega
        · rw [if_pos (show (rd c p).length = 0 by omega)] at hstep
          have hbl : (List.replicate P.length (0 : Int)).length = P.length := by simp
          rcases hsc with ⟨h1, h2, h3⟩ | ⟨h1, h2, h3, h4, h5⟩
          · rw [h1, ← e5] at q2
            rw [if_pos (show senderOf H p (rd c p).length < 0 by omega)] at hstep
            have hcan := h2
            have hstep := hstep hcan
            have et : List.take P.length ((List.replicate P.length (0 : Int)).set p (((rd c p).length : Int) + 1)) = (List.replicate P.length (0 : Int)).set p (((rd c p).length : Int) + 1) := List.take_of_length_le (by rw [List.length_set]; omega)
            repeat' ((with_reducible (first | refine sCall.of (q2 _) ?_|refine gHole ?_|refine st20 ?_|refine fG.split (fun _ => ?_) (fun _ => ?_)|refine fG.bool (fun _ => ?_) (fun _ => ?_))) <;> (try (conv => whnf)))
            refine ⟨⟨⟨goOn f p, n + 1, p + 1, true, c.set p (rd c p ++ [List.take P.length ((List.replicate P.length (0 : Int)).set p (((rd c p).length : Int) + 1))]), _, _⟩, fitOk, ?_, ?_⟩⟩
            · exact ⟨by show p + 1 ≤ _; omega, hre.step hpl hcan, by show Clks H _ (c.set p (rd c p ++ [List.take P.length ((List.replicate P.length (0 : Int)).set p (((rd c p).length : Int) + 1))])); rw [et]; exact hstep, by show n0 ≤ n + 1; omega, (fun _ => by show n0 < n + 1; omega), fun h => by cases h⟩
            · show H.length - (p + 1) < H.length - p; omega
          · have hcq := hc.rows _ h3
            have e6 : (List.map rIntL (rd c (rd (rd H p) (rd c p).length).peer.toNat)).length = (rd c (rd (rd H p) (rd c p).length).peer.toNat).length := by simp
            obtain ⟨s, hsd⟩ : ∃ s, s = senderOf H p (rd c p).length := ⟨_, rfl⟩
            rw [← hsd] at q2 h1 h5 hstep
            rw [← e5] at q2
            rw [if_neg (show ¬ s < 0 by omega)] at hstep
            by_cases c3 : s < rd f (rd (rd H p) (rd c p).length).peer.toNat
            · rw [decide_eq_true c3] at h5
              have hcan := h5
              have hstep := hstep hcan
              have hvq := (hc.is _ h3 s.toNat (by omega)).fok.len
              have q3 : ∀ k, callE PR C (k + 2) 305 [.h 1000000 0 0 [] 1 0 (List.take P.length (List.replicate P.length (0 : Int))).length, .h 1000001 0 0 [] 1 0 (rd (rd c (rd (rd H p) (rd c p).length).peer.toNat) s.toNat).length] [tI (List.take P.length (List.replicate P.length (0 : Int))), tI (rd (rd c (rd (rd H p) (rd c p).length).peer.toNat) s.toNat)] = some ⟨.h 2000000 1 0 [] 1 0 (joinL (List.replicate P.length (0 : Int)) (rd (rd c (rd (rd H p) (rd c p).length).peer.toNat) s.toNat)).length, [tI9 (joinL (List.replicate P.length (0 : Int)) (rd (rd c (rd (rd H p) (rd c p).length).peer.toNat) s.toNat))], [none, none]⟩ := fun k => by
                rw [show List.take P.length (List.replicate P.length (0 : Int)) = List.replicate P.length 0 from List.take_of_length_le (by omega)]
                exact ok_spec_l7Join k (List.replicate P.length (0 : Int)) (rd (rd c (rd (rd H p) (rd c p).length).peer.toNat) s.toNat) (by omega) (by omega)
              have hjl2 := joinL_len (List.replicate P.length (0 : Int)) (rd (rd c (rd (rd H p) (rd c p).length).peer.toNat) s.toNat)
              generalize joinL (List.replicate P.length (0 : Int)) (rd (rd c (rd (rd H p) (rd c p).length).peer.toNat) s.toNat) = u at *
              have hul : u.length = P.length := by omega
              by_cases c4 : (rd (rd H p) (rd c p).length).peer = (p : Int)
              · repeat' ((with_reducible (first | refine sCall.of (q2 _) ?_|refine sCall.of (q3 _) ?_|refine gHole ?_|refine st20 ?_|refine fG.split (fun _ => ?_) (fun _ => ?_)|refine fG.bool (fun _ => ?_) (fun _ => ?_))) <;> (try (conv => whnf)))
                refine ⟨⟨⟨goOn f p, n + 1, p + 1, true, c.set p (rd c p ++ [u.set p (((rd c p).length : Int) + 1)]), _, _⟩, fitOk, ?_, ?_⟩⟩
                · exact ⟨by show p + 1 ≤ _; omega, hre.step hpl hcan, by show Clks H _ (c.set p (rd c p ++ [u.set p (((rd c p).length : Int) + 1)])); exact hstep, by show n0 ≤ n + 1; omega, (fun _ => by show n0 < n + 1; omega), fun h => by cases h⟩
                · show H.length - (p + 1) < H.length - p; omega
              · repeat' ((with_reducible (first | refine sCall.of (q2 _) ?_|refine sCall.of (q3 _) ?_|refine gHole ?_|refine st20 ?_|refine fG.split (fun _ => ?_) (fun _ => ?_)|refine fG.bool (fun _ => ?_) (fun _ => ?_))) <;> (try (conv => whnf)))
                refine ⟨⟨⟨goOn f p, n + 1, p + 1, true, c.set p (rd c p ++ [u.set p (((rd c p).length : Int) + 1)]), _, _⟩, fitOk, ?_, ?_⟩⟩
                · exact ⟨by show p + 1 ≤ _; omega, hre.step hpl hcan, by show Clks H _ (c.set p (rd c p ++ [u.set p (((rd c p).length : Int) + 1)])); exact hstep, by show n0 ≤ n + 1; omega, (fun _ => by show n0 < n + 1; omega), fun h => by cases h⟩
                · show H.length - (p + 1) < H.length - p; omega
            · rw [decide_eq_false c3] at h5
              have hcan := h5
              have c4 : ¬ (rd (rd H p) (rd c p).length).peer = (p : Int) := fun e => by
                have := self_sender hs hpl (by omega) (by rw [← hsd]; exact h1) e
                rw [e, Int.toNat_natCast] at c3
                omega
              repeat' ((with_reducible (first | refine sCall.of (q2 _) ?_|refine gHole ?_|refine st20 ?_|refine fG.split (fun _ => ?_) (fun _ => ?_)|refine fG.bool (fun _ => ?_) (fun _ => ?_))) <;> (try (conv => whnf)))
              refine ⟨⟨⟨f, n, p + 1, m, c, _, _⟩, fitOk, ?_, ?_⟩⟩
              · exact ⟨by show p + 1 ≤ _; omega, hre, hc, hn0, hmt, fun h => no_more (hmf h) hcan⟩
              · show H.length - (p + 1) < H.length - p; omega
    · (try dsimp only [cond_true, cond_false])
      (conv => whnf)
      repeat' ((with_reducible (first | refine st20 ?_|refine fG.split (fun _ => ?_) (fun _ => ?_)|refine fG.bool (fun _ => ?_) (fun _ => ?_))) <;> (try (conv => whnf)))
      refine ⟨⟨⟨f, n, 0, m, c, _, _⟩, fitOk, ?_, ?_⟩⟩
      · exact ⟨hre, hc, fun h q hq => hmf h q (by omega)⟩
      · show 2 * (allEv H - n) + (bif m then 1 else 0) < 2 * (allEv H - n0) + (bif true then 1 else 0)
        cases m with
        | true => have := hmt rfl; simp only [cond_true]; omega
        | false => simp only [cond_true, cond_false]; omega

end Go.Proofs.YtipfcgbhaalcdaaGreat.Abs
namespace Go.Proofs.YtipfcgbhaalcdaaGreat.Abs
open Go Go.Proofs
set_option linter.unusedVariables false
set_option linter.unusedSimpArgs false
attribute [local irreducible] callE
def evB (P : List (List Ins)) (S : List State) (W : List (List Item)) (H : List (List Event)) (p i : Int) : Bool := sysOk P S W H && hasEv H p i
theorem ok_impl_isEvent (k : Nat) (P : List (List Ins)) (S : List State) (W : List (List Item)) (H : List (List Event)) (p i : Int) (hb : SysB 10000000000 P S W H) :
    callE PR C (k + 12) 99 [aSys 0 P S W H, i64 p, i64 i] [tInsSS P, tStateS S, tItemSS W, tEventSS H] = some ⟨bl (evB P S W H p i), [], [none, none, none, none]⟩ := by
  have q1 := fun k => ok_impl_SysOk k P S W H hb
  have b1 := hb.h
  unfold evB hasEv
  cases e : sysOk P S W H with
  | false =>
    simp only [e] at q1
    (refine fnI [ResultVar.tmp 6] Tryz.func99 ?_; conv => whnf)
    repeat' ((with_reducible (first | refine sCall.of (q1 _) ?_|refine st20 ?_|refine fG.split (fun _ => ?_) (fun _ => ?_)|refine fG.bool (fun _ => ?_) (fun _ => ?_))) <;> (try (conv => whnf)))
    all_goals rfl
  | true =>
    simp only [e] at q1
    have q2 := fun k => ok_impl_in k p 0 ((H.length : Int) - 1)
    by_cases c1 : 0 ≤ p ∧ p ≤ (H.length : Int) - 1
    · rw [decide_eq_true c1] at q2 ⊢
      have b2 := hb.hh p.toNat (by omega)
      have e4 : (List.map rEvent (rd H p.toNat)).length = (rd H p.toNat).length := by simp
      have q3 := fun k => ok_impl_in k i 0 (((List.map rEvent (rd H p.toNat)).length : Int) - 1)
      rw [e4] at q3
      rw [← e4] at q3
      (refine fnI [ResultVar.tmp 6] Tryz.func99 ?_; conv => whnf)
      repeat' ((with_reducible (first | refine sCall.of (q1 _) ?_|refine sCall.of (q2 _) ?_|refine sCall.of (q3 _) ?_|refine st20 ?_|refine fG.split (fun _ => ?_) (fun _ => ?_)|refine fG.bool (fun _ => ?_) (fun _ => ?_))) <;> (try (conv => whnf)))
      all_goals simp [e4]
    · rw [decide_eq_false c1] at q2 ⊢
      (refine fnI [ResultVar.tmp 6] Tryz.func99 ?_; conv => whnf)
      repeat' ((with_reducible (first | refine sCall.of (q1 _) ?_|refine sCall.of (q2 _) ?_|refine st20 ?_|refine fG.split (fun _ => ?_) (fun _ => ?_)|refine fG.bool (fun _ => ?_) (fun _ => ?_))) <;> (try (conv => whnf)))
      all_goals rfl
theorem ok_spec_l7Has (k : Nat) (P : List (List Ins)) (S : List State) (W : List (List Item)) (H : List (List Event)) (p i : Int) (hb : SysB 10000000000 P S W H) :
    callE PR C (k + 8) 214 [aSys 0 P S W H, i64 p, i64 i] [tInsSS P, tStateS S, tItemSS W, tEventSS H] = some ⟨bl (evB P S W H p i), [], [none, none, none, none]⟩ := by
  have q1 := fun k => ok_spec_SysOk k P S W H hb
  have b1 := hb.p
  unfold evB hasEv
  cases e : sysOk P S W H with
  | false =>
    simp only [e] at q1
    (refine fnI [ResultVar.tmp 6] Tryz.func214 ?_; conv => whnf)
    repeat' ((with_reducible (first | refine sCall.of (q1 _) ?_|refine st20 ?_|refine fG.split (fun _ => ?_) (fun _ => ?_)|refine fG.bool (fun _ => ?_) (fun _ => ?_))) <;> (try (conv => whnf)))
    all_goals rfl
  | true =>
    simp only [e] at q1
    have hHl := (sysOk_facts e).1.h
    have q2 := fun k => ok_spec_l1In k p 0 ((P.length : Int) - 1)
    rw [hHl]
    by_cases c1 : 0 ≤ p ∧ p ≤ (P.length : Int) - 1
    · rw [decide_eq_true c1] at q2 ⊢
      have b2 := hb.hh p.toNat (by omega)
      have e4 : (List.map rEvent (rd H p.toNat)).length = (rd H p.toNat).length := by simp
      have q3 := fun k => ok_spec_l1In k i 0 (((List.map rEvent (rd H p.toNat)).length : Int) - 1)
      (refine fnI [ResultVar.tmp 6] Tryz.func214 ?_; conv => whnf)
      repeat' ((with_reducible (first | refine sCall.of (q1 _) ?_|refine sCall.of (q2 _) ?_|refine sCall.of (q3 _) ?_|refine st20 ?_|refine fG.split (fun _ => ?_) (fun _ => ?_)|refine fG.bool (fun _ => ?_) (fun _ => ?_))) <;> (try (conv => whnf)))
      all_goals simp [e4]
    · rw [decide_eq_false c1] at q2 ⊢
      (refine fnI [ResultVar.tmp 6] Tryz.func214 ?_; conv => whnf)
      repeat' ((with_reducible (first | refine sCall.of (q1 _) ?_|refine sCall.of (q2 _) ?_|refine st20 ?_|refine fG.split (fun _ => ?_) (fun _ => ?_)|refine fG.bool (fun _ => ?_) (fun _ => ?_))) <;> (try (conv => whnf)))
      all_goals rfl
theorem clocks_lens {P : List (List Ins)} {S : List State} {W : List (List Item)} {H : List (List Event)} (hs : sysOk P S W H = true) : (clocksOf H).length = H.length ∧ ∀ p, p < H.length → (rd (clocksOf H) p).length = (rd H p).length ∧ ∀ i, i < (rd H p).length → (rd (rd (clocksOf H) p) i).length = H.length := by
  obtain ⟨_, hP, hS, _⟩ := sysOk_facts hs
  have hr : inRow H = true := by simp only [sysOk, Bool.and_eq_true] at hs; exact hs.2.2.2.2
  have hc := clocksOf_is hP hS hr
  refine ⟨hc.len, fun p hp => ?_⟩
  have h1 := hc.rows p hp
  rw [lensOf_rd hp] at h1
  exact ⟨by omega, fun i hi => (hc.is p hp i (by omega)).fok.len⟩
noncomputable def hangB (P : List (List Ins)) (S : List State) (W : List (List Item)) (H : List (List Event)) (p i q j : Int) : Bool := sysOk P S W H && (twoEv H p i q j && hangsB H p i q j)
noncomputable def sidB (P : List (List Ins)) (S : List State) (W : List (List Item)) (H : List (List Event)) (p i q j : Int) : Bool := sysOk P S W H && sideB H p i q j
theorem evB_no {P : List (List Ins)} {S : List State} {W : List (List Item)} {H : List (List Event)} {p i q j : Int} (h : evB P S W H p i = false ∨ evB P S W H q j = false ∨ (p = q ∧ i = j)) : (sysOk P S W H && twoEv H p i q j) = false := by
  simp only [evB, twoEv] at h ⊢
  cases e : sysOk P S W H with
  | false => rfl
  | true =>
    simp only [e, Bool.true_and] at h ⊢
    rcases h with h | h | ⟨h1, h2⟩
    · rw [h]; rfl
    · rw [h]; simp
    · rw [h1, h2]; simp
theorem evB_yes {P : List (List Ins)} {S : List State} {W : List (List Item)} {H : List (List Event)} {p i q j : Int} (h1 : evB P S W H p i = true) (h2 : evB P S W H q j = true) (h3 : ¬ (p = q ∧ i = j)) : sysOk P S W H = true ∧ twoEv H p i q j = true := by
  simp only [evB, twoEv, Bool.and_eq_true, Bool.not_eq_true', Bool.and_eq_false_iff, decide_eq_false_iff_not] at h1 h2 ⊢
  exact ⟨h1.1, h1.2, h2.2, Decidable.not_and_iff_or_not.1 h3⟩
set_option maxRecDepth 20000 in
set_option maxHeartbeats 8000000 in
theorem ok_impl_Hangs (k : Nat) (P : List (List Ins)) (S : List State) (W : List (List Item)) (H : List (List Event)) (p i q j : Int) (hb : SysB 10000000000 P S W H) :
    callE PR C (k + 13) 22 [aSys 0 P S W H, i64 p, i64 i, i64 q, i64 j] [tInsSS P, tStateS S, tItemSS W, tEventSS H] = some ⟨bl (hangB P S W H p i q j), [], [none, none, none, none]⟩ := by
  have q1 := fun k => ok_impl_isEvent k P S W H p i hb
  have q2 := fun k => ok_impl_isEvent k P S W H q j hb
  cases e1 : evB P S W H p i with
  | false =>
    simp only [e1] at q1
    rw [show hangB P S W H p i q j = false by rw [hangB, ← Bool.and_assoc, evB_no (.inl e1)]; rfl]
    (refine fnI [ResultVar.tmp 10] Tryz.func22 ?_; conv => whnf)
    repeat' ((with_reducible (first | refine sCall.of (q1 _) ?_|refine st20 ?_|refine fG.split (fun _ => ?_) (fun _ => ?_)|refine fG.bool (fun _ => ?_) (fun _ => ?_))) <;> (try (conv => whnf)))
    all_goals rfl
  | true =>
    simp only [e1] at q1
    cases e2 : evB P S W H q j with
    | false =>
      simp only [e2] at q2
      rw [show hangB P S W H p i q j = false by rw [hangB, ← Bool.and_assoc, evB_no (.inr (.inl e2))]; rfl]
      (refine fnI [ResultVar.tmp 10] Tryz.func22 ?_; conv => whnf)
      repeat' ((with_reducible (first | refine sCall.of (q1 _) ?_|refine sCall.of (q2 _) ?_|refine st20 ?_|refine fG.split (fun _ => ?_) (fun _ => ?_)|refine fG.bool (fun _ => ?_) (fun _ => ?_))) <;> (try (conv => whnf)))
      all_goals rfl
    | true =>
      simp only [e2] at q2
      by_cases c : p = q ∧ i = j
      · rw [show hangB P S W H p i q j = false by rw [hangB, ← Bool.and_assoc, evB_no (.inr (.inr c))]; rfl]
        obtain ⟨c1, c2⟩ := c
        subst c1 c2
        (refine fnI [ResultVar.tmp 10] Tryz.func22 ?_; conv => whnf)
        repeat' ((with_reducible (first | refine sCall.of (q1 _) ?_|refine sCall.of (q2 _) ?_|refine st20 ?_|refine fG.split (fun _ => ?_) (fun _ => ?_)|refine fG.bool (fun _ => ?_) (fun _ => ?_))) <;> (try (conv => whnf)))
        all_goals rfl
      · obtain ⟨hs, h2⟩ := evB_yes e1 e2 c
        have h3 := h2
        simp only [twoEv, hasEv, Bool.and_eq_true, decide_eq_true_eq] at h3
        obtain ⟨l1, l2⟩ := clocks_lens hs
        have l3 := (l2 p.toNat (by omega)).1
        have l4 := (l2 p.toNat (by omega)).2 i.toNat (by omega)
        have q3 := fun k => ok_impl_clocks k P S W H hs
        rw [show hangB P S W H p i q j = decide (rd (rd (rd (clocksOf H) p.toNat) i.toNat) q.toNat > j) by rw [hangB, hs, h2]; rfl]
        generalize clocksOf H = c3 at *
        have e5 : (List.map rIntL (rd c3 p.toNat)).length = (rd c3 p.toNat).length := by simp
        by_cases d1 : p = q
        · have d2 : ¬ i = j := fun h => c ⟨d1, h⟩
          (refine fnI [ResultVar.tmp 10] Tryz.func22 ?_; conv => whnf)
          repeat' ((with_reducible (first | refine sCall.of (q1 _) ?_|refine sCall.of (q2 _) ?_|refine sCall.of (q3 _) ?_|refine st20 ?_|refine fG.split (fun _ => ?_) (fun _ => ?_)|refine fG.bool (fun _ => ?_) (fun _ => ?_))) <;> (try (conv => whnf)))
          all_goals rfl
        · (refine fnI [ResultVar.tmp 10] Tryz.func22 ?_; conv => whnf)
          repeat' ((with_reducible (first | refine sCall.of (q1 _) ?_|refine sCall.of (q2 _) ?_|refine sCall.of (q3 _) ?_|refine st20 ?_|refine fG.split (fun _ => ?_) (fun _ => ?_)|refine fG.bool (fun _ => ?_) (fun _ => ?_))) <;> (try (conv => whnf)))
          all_goals rfl
set_option maxRecDepth 20000 in
set_option maxHeartbeats 8000000 in
theorem ok_impl_Side (k : Nat) (P : List (List Ins)) (S : List State) (W : List (List Item)) (H : List (List Event)) (p i q j : Int) (hb : SysB 10000000000 P S W H) :
    callE PR C (k + 14) 113 [aSys 0 P S W H, i64 p, i64 i, i64 q, i64 j] [tInsSS P, tStateS S, tItemSS W, tEventSS H] = some ⟨bl (sidB P S W H p i q j), [], [none, none, none, none]⟩ := by
  have q1 := fun k => ok_impl_isEvent k P S W H p i hb
  have q2 := fun k => ok_impl_isEvent k P S W H q j hb
  have hno : (sysOk P S W H && twoEv H p i q j) = false → sidB P S W H p i q j = false := fun h => by rw [sidB, sideB, ← Bool.and_assoc, h]; rfl
  cases e1 : evB P S W H p i with
  | false =>
    simp only [e1] at q1
    rw [hno (evB_no (.inl e1))]
    (refine fnI [ResultVar.tmp 10] Tryz.func113 ?_; conv => whnf)
    repeat' ((with_reducible (first | refine sCall.of (q1 _) ?_|refine st20 ?_|refine fG.split (fun _ => ?_) (fun _ => ?_)|refine fG.bool (fun _ => ?_) (fun _ => ?_))) <;> (try (conv => whnf)))
    all_goals rfl
  | true =>
    simp only [e1] at q1
    cases e2 : evB P S W H q j with
    | false =>
      simp only [e2] at q2
      rw [hno (evB_no (.inr (.inl e2)))]
      (refine fnI [ResultVar.tmp 10] Tryz.func113 ?_; conv => whnf)
      repeat' ((with_reducible (first | refine sCall.of (q1 _) ?_|refine sCall.of (q2 _) ?_|refine st20 ?_|refine fG.split (fun _ => ?_) (fun _ => ?_)|refine fG.bool (fun _ => ?_) (fun _ => ?_))) <;> (try (conv => whnf)))
      all_goals rfl
    | true =>
      simp only [e2] at q2
      by_cases c : p = q ∧ i = j
      · rw [hno (evB_no (.inr (.inr c)))]
        obtain ⟨c1, c2⟩ := c
        subst c1 c2
        (refine fnI [ResultVar.tmp 10] Tryz.func113 ?_; conv => whnf)
        repeat' ((with_reducible (first | refine sCall.of (q1 _) ?_|refine sCall.of (q2 _) ?_|refine st20 ?_|refine fG.split (fun _ => ?_) (fun _ => ?_)|refine fG.bool (fun _ => ?_) (fun _ => ?_))) <;> (try (conv => whnf)))
        all_goals rfl
      · obtain ⟨hs, h2⟩ := evB_yes e1 e2 c
        have h2' := h2
        rw [twoEv_comm] at h2'
        have q3 := fun k => ok_impl_Hangs k P S W H p i q j hb
        have q4 := fun k => ok_impl_Hangs k P S W H q j p i hb
        rw [show hangB P S W H p i q j = hangsB H p i q j by rw [hangB, hs, h2]; rfl] at q3
        rw [show hangB P S W H q j p i = hangsB H q j p i by rw [hangB, hs, h2']; rfl] at q4
        rw [show sidB P S W H p i q j = (!hangsB H p i q j && !hangsB H q j p i) by rw [sidB, sideB, hs, h2]; rfl]
        generalize hangsB H p i q j = u at *
        generalize hangsB H q j p i = v at *
        by_cases d1 : p = q
        · have d2 : ¬ i = j := fun h => c ⟨d1, h⟩
          cases u <;> cases v
          all_goals (refine fnI [ResultVar.tmp 10] Tryz.func113 ?_; conv => whnf)
          all_goals repeat' ((with_reducible (first | refine sCall.of (q1 _) ?_|refine sCall.of (q2 _) ?_|refine sCall.of (q3 _) ?_|refine sCall.of (q4 _) ?_|refine st20 ?_|refine fG.split (fun _ => ?_) (fun _ => ?_)|refine fG.bool (fun _ => ?_) (fun _ => ?_))) <;> (try (conv => whnf)))
          all_goals rfl
        · cases u <;> cases v
          all_goals (refine fnI [ResultVar.tmp 10] Tryz.func113 ?_; conv => whnf)
          all_goals repeat' ((with_reducible (first | refine sCall.of (q1 _) ?_|refine sCall.of (q2 _) ?_|refine sCall.of (q3 _) ?_|refine sCall.of (q4 _) ?_|refine st20 ?_|refine fG.split (fun _ => ?_) (fun _ => ?_)|refine fG.bool (fun _ => ?_) (fun _ => ?_))) <;> (try (conv => whnf)))
          all_goals rfl
set_option maxRecDepth 20000 in
set_option maxHeartbeats 8000000 in
theorem ok_spec_Hangs (k : Nat) (P : List (List Ins)) (S : List State) (W : List (List Item)) (H : List (List Event)) (p i q j : Int) (hb : SysB 10000000000 P S W H) :
    callE PR C (k + 9) 215 [aSys 0 P S W H, i64 p, i64 i, i64 q, i64 j] [tInsSS P, tStateS S, tItemSS W, tEventSS H] = some ⟨bl (hangB P S W H p i q j), [], [none, none, none, none]⟩ := by
  have q1 := fun k => ok_spec_l7Has k P S W H p i hb
  have q2 := fun k => ok_spec_l7Has k P S W H q j hb
  cases e1 : evB P S W H p i with
  | false =>
    simp only [e1] at q1
    rw [show hangB P S W H p i q j = false by rw [hangB, ← Bool.and_assoc, evB_no (.inl e1)]; rfl]
    (refine fnI [ResultVar.tmp 10] Tryz.func215 ?_; conv => whnf)
    repeat' ((with_reducible (first | refine sCall.of (q1 _) ?_|refine st20 ?_|refine fG.split (fun _ => ?_) (fun _ => ?_)|refine fG.bool (fun _ => ?_) (fun _ => ?_))) <;> (try (conv => whnf)))
    all_goals rfl
  | true =>
    simp only [e1] at q1
    cases e2 : evB P S W H q j with
    | false =>
      simp only [e2] at q2
      rw [show hangB P S W H p i q j = false by rw [hangB, ← Bool.and_assoc, evB_no (.inr (.inl e2))]; rfl]
      (refine fnI [ResultVar.tmp 10] Tryz.func215 ?_; conv => whnf)
      repeat' ((with_reducible (first | refine sCall.of (q1 _) ?_|refine sCall.of (q2 _) ?_|refine st20 ?_|refine fG.split (fun _ => ?_) (fun _ => ?_)|refine fG.bool (fun _ => ?_) (fun _ => ?_))) <;> (try (conv => whnf)))
      all_goals rfl
    | true =>
      simp only [e2] at q2
      by_cases c : p = q ∧ i = j
      · rw [show hangB P S W H p i q j = false by rw [hangB, ← Bool.and_assoc, evB_no (.inr (.inr c))]; rfl]
        obtain ⟨c1, c2⟩ := c
        subst c1 c2
        (refine fnI [ResultVar.tmp 10] Tryz.func215 ?_; conv => whnf)
        repeat' ((with_reducible (first | refine sCall.of (q1 _) ?_|refine sCall.of (q2 _) ?_|refine st20 ?_|refine fG.split (fun _ => ?_) (fun _ => ?_)|refine fG.bool (fun _ => ?_) (fun _ => ?_))) <;> (try (conv => whnf)))
        all_goals rfl
      · obtain ⟨hs, h2⟩ := evB_yes e1 e2 c
        have h3 := h2
        simp only [twoEv, hasEv, Bool.and_eq_true, decide_eq_true_eq] at h3
        obtain ⟨l1, l2⟩ := clocks_lens hs
        have l3 := (l2 p.toNat (by omega)).1
        have l4 := (l2 p.toNat (by omega)).2 i.toNat (by omega)
        have q3 := fun k => ok_spec_l7Clocks k P S W H hs
        rw [show hangB P S W H p i q j = decide (rd (rd (rd (clocksOf H) p.toNat) i.toNat) q.toNat > j) by rw [hangB, hs, h2]; rfl]
        generalize clocksOf H = c3 at *
        have e5 : (List.map rIntL (rd c3 p.toNat)).length = (rd c3 p.toNat).length := by simp
        by_cases d1 : p = q
        · have d2 : ¬ i = j := fun h => c ⟨d1, h⟩
          (refine fnI [ResultVar.tmp 10] Tryz.func215 ?_; conv => whnf)
          repeat' ((with_reducible (first | refine sCall.of (q1 _) ?_|refine sCall.of (q2 _) ?_|refine sCall.of (q3 _) ?_|refine st20 ?_|refine fG.split (fun _ => ?_) (fun _ => ?_)|refine fG.bool (fun _ => ?_) (fun _ => ?_))) <;> (try (conv => whnf)))
          all_goals rfl
        · (refine fnI [ResultVar.tmp 10] Tryz.func215 ?_; conv => whnf)
          repeat' ((with_reducible (first | refine sCall.of (q1 _) ?_|refine sCall.of (q2 _) ?_|refine sCall.of (q3 _) ?_|refine st20 ?_|refine fG.split (fun _ => ?_) (fun _ => ?_)|refine fG.bool (fun _ => ?_) (fun _ => ?_))) <;> (try (conv => whnf)))
          all_goals rfl
set_option maxRecDepth 20000 in
set_option maxHeartbeats 8000000 in
theorem ok_spec_Side (k : Nat) (P : List (List Ins)) (S : List State) (W : List (List Item)) (H : List (List Event)) (p i q j : Int) (hb : SysB 10000000000 P S W H) :
    callE PR C (k + 10) 116 [aSys 0 P S W H, i64 p, i64 i, i64 q, i64 j] [tInsSS P, tStateS S, tItemSS W, tEventSS H] = some ⟨bl (sidB P S W H p i q j), [], [none, none, none, none]⟩ := by
  have q1 := fun k => ok_spec_l7Has k P S W H p i hb
  have q2 := fun k => ok_spec_l7Has k P S W H q j hb
  have hno : (sysOk P S W H && twoEv H p i q j) = false → sidB P S W H p i q j = false := fun h => by rw [sidB, sideB, ← Bool.and_assoc, h]; rfl
  cases e1 : evB P S W H p i with
  | false =>
    simp only [e1] at q1
    rw [hno (evB_no (.inl e1))]
    (refine fnI [ResultVar.tmp 10] Tryz.func116 ?_; conv => whnf)
    repeat' ((with_reducible (first | refine sCall.of (q1 _) ?_|refine st20 ?_|refine fG.split (fun _ => ?_) (fun _ => ?_)|refine fG.bool (fun _ => ?_) (fun _ => ?_))) <;> (try (conv => whnf)))
    all_goals rfl
  | true =>
    simp only [e1] at q1
    cases e2 : evB P S W H q j with
    | false =>
      simp only [e2] at q2
      rw [hno (evB_no (.inr (.inl e2)))]
      (refine fnI [ResultVar.tmp 10] Tryz.func116 ?_; conv => whnf)
      repeat' ((with_reducible (first | refine sCall.of (q1 _) ?_|refine sCall.of (q2 _) ?_|refine st20 ?_|refine fG.split (fun _ => ?_) (fun _ => ?_)|refine fG.bool (fun _ => ?_) (fun _ => ?_))) <;> (try (conv => whnf)))
      all_goals rfl
    | true =>
      simp only [e2] at q2
      by_cases c : p = q ∧ i = j
      · rw [hno (evB_no (.inr (.inr c)))]
        obtain ⟨c1, c2⟩ := c
        subst c1 c2
        (refine fnI [ResultVar.tmp 10] Tryz.func116 ?_; conv => whnf)
        repeat' ((with_reducible (first | refine sCall.of (q1 _) ?_|refine sCall.of (q2 _) ?_|refine st20 ?_|refine fG.split (fun _ => ?_) (fun _ => ?_)|refine fG.bool (fun _ => ?_) (fun _ => ?_))) <;> (try (conv => whnf)))
        all_goals rfl
      · obtain ⟨hs, h2⟩ := evB_yes e1 e2 c
        have h2' := h2
        rw [twoEv_comm] at h2'
        have q3 := fun k => ok_spec_Hangs k P S W H p i q j hb
        have q4 := fun k => ok_spec_Hangs k P S W H q j p i hb
        rw [show hangB P S W H p i q j = hangsB H p i q j by rw [hangB, hs, h2]; rfl] at q3
        rw [show hangB P S W H q j p i = hangsB H q j p i by rw [hangB, hs, h2']; rfl] at q4
        rw [show sidB P S W H p i q j = (!hangsB H p i q j && !hangsB H q j p i) by rw [sidB, sideB, hs, h2]; rfl]
        generalize hangsB H p i q j = u at *
        generalize hangsB H q j p i = v at *
        by_cases d1 : p = q
        · have d2 : ¬ i = j := fun h => c ⟨d1, h⟩
          cases u <;> cases v
          all_goals (refine fnI [ResultVar.tmp 10] Tryz.func116 ?_; conv => whnf)
          all_goals repeat' ((with_reducible (first | refine sCall.of (q1 _) ?_|refine sCall.of (q2 _) ?_|refine sCall.of (q3 _) ?_|refine sCall.of (q4 _) ?_|refine st20 ?_|refine fG.split (fun _ => ?_) (fun _ => ?_)|refine fG.bool (fun _ => ?_) (fun _ => ?_))) <;> (try (conv => whnf)))
          all_goals rfl
        · cases u <;> cases v
          all_goals (refine fnI [ResultVar.tmp 10] Tryz.func116 ?_; conv => whnf)
          all_goals repeat' ((with_reducible (first | refine sCall.of (q1 _) ?_|refine sCall.of (q2 _) ?_|refine sCall.of (q3 _) ?_|refine sCall.of (q4 _) ?_|refine st20 ?_|refine fG.split (fun _ => ?_) (fun _ => ?_)|refine fG.bool (fun _ => ?_) (fun _ => ?_))) <;> (try (conv => whnf)))
          all_goals rfl

theorem ok_Clone_Who (k : Nat) (l : List Who) (hl : l.length ≤ 100000000) : callE PR C (k + 1) 114 [.h 1000000 0 0 [] 2 0 l.length] [tWho l] = some ⟨.h 2000000 1 0 [] 2 0 l.length, [tWho9 l], [none]⟩ := by
  have := callE_prim (k := k) (f := 114) rfl (cloneP_run (sz := 2) (bytes := 16) (wide_map (f := rWho) (fun _ => rfl) l) (flat_map (fun _ => rfl) l) (full_map (fun _ => rfl) l) (by simp; omega))
  simpa using this
noncomputable def swapIs (P : List (List Ins)) (S : List State) (W : List (List Item)) (H : List (List Event)) (row : List Who) (k : Int) : List Who := if swapB P S W H row k = true then swapRow row k.toNat else []
set_option maxRecDepth 20000 in
set_option maxHeartbeats 8000000 in
theorem ok_impl_Swap (k : Nat) (P : List (List Ins)) (S : List State) (W : List (List Item)) (H : List (List Event)) (row : List Who) (i : Int) (hb : SysB 10000000 P S W H) (hr : row.length ≤ 10000000) :
    callE PR C (k + 15) 31 [aSys 0 P S W H, .h 1000004 0 0 [] 2 0 row.length, i64 i] [tInsSS P, tStateS S, tItemSS W, tEventSS H, tWho row] = some ⟨.tu [.h 2000000 1 0 [] 2 0 (swapIs P S W H row i).length, bl (swapB P S W H row i)], [tWho9 (swapIs P S W H row i)], [none, none, none, none, none]⟩ := by
  have q1 := fun k => ok_impl_RowOk k P S W H row (hb.mono (by decide)) (by omega)
  unfold swapIs swapB canSwap
  cases e1 : rowOkB P S W H row with
  | false =>
    simp only [e1] at q1
    (refine fnI [ResultVar.tmp 6, ResultVar.tmp 7] Tryz.func31 ?_; conv => whnf)
    repeat' ((with_reducible (first | refine sCall.of (q1 _) ?_|refine st20 ?_|refine fG.split (fun _ => ?_) (fun _ => ?_)|refine fG.bool (fun _ => ?_) (fun _ => ?_)|refine gDn 1 ?_|refine gDn 4 ?_)) <;> (try (conv => whnf)))
    all_goals rfl
  | true =>
    simp only [e1] at q1
    have hs : sysOk P S W H = true := by simp only [rowOkB, Bool.and_eq_true] at e1; exact e1.1
    have q2 := fun k => ok_impl_in k i 0 ((row.length : Int) - 2)
    by_cases c1 : 0 ≤ i ∧ i ≤ (row.length : Int) - 2
    · rw [decide_eq_true c1] at q2 ⊢
      obtain ⟨i, rfl⟩ : ∃ n : Nat, i = (n : Int) := ⟨i.toNat, by omega⟩
      rw [Int.toNat_natCast]
      have q3 := fun k => ok_impl_Side k P S W H (rd row i).p (rd row i).i (rd row (i + 1)).p (rd row (i + 1)).i (hb.mono (by decide))
      rw [show sidB P S W H (rd row i).p (rd row i).i (rd row (i + 1)).p (rd row (i + 1)).i = sideB H (rd row i).p (rd row i).i (rd row (i + 1)).p (rd row (i + 1)).i by rw [sidB, hs, Bool.true_and]] at q3
      cases e2 : sideB H (rd row i).p (rd row i).i (rd row (i + 1)).p (rd row (i + 1)).i with
      | false =>
        simp only [e2] at q3
        (refine fnI [ResultVar.tmp 6, ResultVar.tmp 7] Tryz.func31 ?_; conv => whnf)
        repeat' ((with_reducible (first | refine sCall.of (q1 _) ?_|refine sCall.of (q2 _) ?_|refine sCall.of (q3 _) ?_|refine st20 ?_|refine fG.split (fun _ => ?_) (fun _ => ?_)|refine fG.bool (fun _ => ?_) (fun _ => ?_)|refine gDn 1 ?_|refine gDn 4 ?_)) <;> (try (conv => whnf)))
        all_goals rfl
      | true =>
        simp only [e2] at q3
        have q4 := fun k => ok_Clone_Who k row (by omega)
        have et : List.take row.length ((row.set i (rd row (i + 1))).set (i + 1) (rd row i)) = (row.set i (rd row (i + 1))).set (i + 1) (rd row i) := List.take_of_length_le (by simp)
        (refine fnI [ResultVar.tmp 6, ResultVar.tmp 7] Tryz.func31 ?_; conv => whnf)
        repeat' ((with_reducible (first | refine sCall.of (q1 _) ?_|refine sCall.of (q2 _) ?_|refine sCall.of (q3 _) ?_|refine sCall.of (q4 _) ?_|refine gRdS ?_|refine st20 ?_|refine fG.split (fun _ => ?_) (fun _ => ?_)|refine fG.bool (fun _ => ?_) (fun _ => ?_)|refine gDn 1 ?_|refine gDn 4 ?_)) <;> (try (conv => whnf)))
        all_goals
          show _ = (⟨.tu [.h 2000000 1 0 [] 2 0 (swapRow row i).length, bl true], [tWho9 (swapRow row i)], [none, none, none, none, none]⟩ : Res)
          rw [swapRow_len]
          exact congrArg (fun l => (⟨.tu [.h 2000000 1 0 [] 2 0 row.length, bl true], [tWho9 l], [none, none, none, none, none]⟩ : Res)) et
    · rw [decide_eq_false c1] at q2 ⊢
      (refine fnI [ResultVar.tmp 6, ResultVar.tmp 7] Tryz.func31 ?_; conv => whnf)
      repeat' ((with_reducible (first | refine sCall.of (q1 _) ?_|refine sCall.of (q2 _) ?_|refine st20 ?_|refine fG.split (fun _ => ?_) (fun _ => ?_)|refine fG.bool (fun _ => ?_) (fun _ => ?_)|refine gDn 1 ?_|refine gDn 4 ?_)) <;> (try (conv => whnf)))
      all_goals rfl
set_option maxRecDepth 20000 in
set_option maxHeartbeats 8000000 in
theorem ok_spec_Swap (k : Nat) (P : List (List Ins)) (S : List State) (W : List (List Item)) (H : List (List Event)) (row : List Who) (i : Int) (hb : SysB 10000000 P S W H) (hr : row.length ≤ 10000000) :
    callE PR C (k + 11) 32 [aSys 0 P S W H, .h 1000004 0 0 [] 2 0 row.length, i64 i] [tInsSS P, tStateS S, tItemSS W, tEventSS H, tWho row] = some ⟨.tu [.h 2000000 1 0 [] 2 0 (swapIs P S W H row i).length, bl (swapB P S W H row i)], [tWho9 (swapIs P S W H row i)], [none, none, none, none, none]⟩ := by
  have q1 := fun k => ok_spec_RowOk k P S W H row (hb.mono (by decide)) (by omega)
  unfold swapIs swapB canSwap
  cases e1 : rowOkB P S W H row with
  | false =>
    simp only [e1] at q1
    (refine fnI [ResultVar.tmp 6, ResultVar.tmp 7] Tryz.func32 ?_; conv => whnf)
    repeat' ((with_reducible (first | refine sCall.of (q1 _) ?_|refine st20 ?_|refine fG.split (fun _ => ?_) (fun _ => ?_)|refine fG.bool (fun _ => ?_) (fun _ => ?_)|refine gDn 1 ?_)) <;> (try (conv => whnf)))
    all_goals rfl
  | true =>
    simp only [e1] at q1
    have hs : sysOk P S W H = true := by simp only [rowOkB, Bool.and_eq_true] at e1; exact e1.1
    have q2 := fun k => ok_spec_l1In k i 0 ((row.length : Int) - 2)
    by_cases c1 : 0 ≤ i ∧ i ≤ (row.length : Int) - 2
    · rw [decide_eq_true c1] at q2 ⊢
      obtain ⟨i, rfl⟩ : ∃ n : Nat, i = (n : Int) := ⟨i.toNat, by omega⟩
      rw [Int.toNat_natCast]
      have q3 := fun k => ok_spec_Side k P S W H (rd row i).p (rd row i).i (rd row (i + 1)).p (rd row (i + 1)).i (hb.mono (by decide))
      rw [show sidB P S W H (rd row i).p (rd row i).i (rd row (i + 1)).p (rd row (i + 1)).i = sideB H (rd row i).p (rd row i).i (rd row (i + 1)).p (rd row (i + 1)).i by rw [sidB, hs, Bool.true_and]] at q3
      cases e2 : sideB H (rd row i).p (rd row i).i (rd row (i + 1)).p (rd row (i + 1)).i with
      | false =>
        simp only [e2] at q3
        (refine fnI [ResultVar.tmp 6, ResultVar.tmp 7] Tryz.func32 ?_; conv => whnf)
        repeat' ((with_reducible (first | refine sCall.of (q1 _) ?_|refine sCall.of (q2 _) ?_|refine sCall.of (q3 _) ?_|refine st20 ?_|refine fG.split (fun _ => ?_) (fun _ => ?_)|refine fG.bool (fun _ => ?_) (fun _ => ?_)|refine gDn 1 ?_)) <;> (try (conv => whnf)))
        all_goals rfl
      | true =>
        simp only [e2] at q3
        have q4 := fun k => ok_Clone_Who k row (by omega)
        have et : List.take row.length ((row.set i (rd row (i + 1))).set (i + 1) (rd row i)) = (row.set i (rd row (i + 1))).set (i + 1) (rd row i) := List.take_of_length_le (by simp)
        (refine fnI [ResultVar.tmp 6, ResultVar.tmp 7] Tryz.func32 ?_; conv => whnf)
        repeat' ((with_reducible (first | refine sCall.of (q1 _) ?_|refine sCall.of (q2 _) ?_|refine sCall.of (q3 _) ?_|refine sCall.of (q4 _) ?_|refine gRdS ?_|refine st20 ?_|refine fG.split (fun _ => ?_) (fun _ => ?_)|refine fG.bool (fun _ => ?_) (fun _ => ?_)|refine gDn 1 ?_)) <;> (try (conv => whnf)))
        all_goals
          show _ = (⟨.tu [.h 2000000 1 0 [] 2 0 (swapRow row i).length, bl true], [tWho9 (swapRow row i)], [none, none, none, none, none]⟩ : Res)
          rw [swapRow_len]
          exact congrArg (fun l => (⟨.tu [.h 2000000 1 0 [] 2 0 row.length, bl true], [tWho9 l], [none, none, none, none, none]⟩ : Res)) et
    · rw [decide_eq_false c1] at q2 ⊢
      (refine fnI [ResultVar.tmp 6, ResultVar.tmp 7] Tryz.func32 ?_; conv => whnf)
      repeat' ((with_reducible (first | refine sCall.of (q1 _) ?_|refine sCall.of (q2 _) ?_|refine st20 ?_|refine fG.split (fun _ => ?_) (fun _ => ?_)|refine fG.bool (fun _ => ?_) (fun _ => ?_)|refine gDn 1 ?_)) <;> (try (conv => whnf)))
      all_goals rfl

end Go.Proofs.YtipfcgbhaalcdaaGreat.Abs
namespace Go.Proofs.YtipfcgbhaalcdaaGreat.Abs
open Go Go.Proofs
set_option linter.unusedVariables false
set_option linter.unusedSimpArgs false
attribute [local irreducible] callE
theorem swapIs_le (P : List (List Ins)) (S : List State) (W : List (List Item)) (H : List (List Event)) (row : List Who) (i : Int) : (swapIs P S W H row i).length ≤ row.length := by
  unfold swapIs
  split
  · rw [swapRow_len]; exact Nat.le_refl _
  · exact Nat.zero_le _
set_option maxRecDepth 20000 in
set_option maxHeartbeats 8000000 in
theorem ok_laws_FnExactSwap (k : Nat) (P : List (List Ins)) (S : List State) (W : List (List Item)) (H : List (List Event)) (l : List Who) (i : Int) (hb : SysB 140737488355328 P S W H) (hl : l.length ≤ 140737488355328) :
    callE PR C (k + 16) 12 [aSys 0 P S W H, .h 1000004 0 0 [] 2 0 l.length, i64 i] [tInsSS P, tStateS S, tItemSS W, tEventSS H, tWho l] = some ⟨bl true, [], [none, none, none, none, none]⟩ := by
  have q0 := fun k => ok_laws_szSys k P S W H 1048576 (by omega) (by omega) hb
  by_cases c : left 1048576 (sysSz P S W H) < 0
  · rw [left_m1 c] at q0
    (refine fnI [ResultVar.tmp 6] Tryz.func12 ?_; conv => whnf)
    repeat' ((with_reducible (first | refine sCall.of (q0 _) ?_|refine st20 ?_|refine fG.split (fun _ => ?_) (fun _ => ?_)|refine fG.bool (fun _ => ?_) (fun _ => ?_)|refine gD 14 [(0, 2)] ?_)) <;> (try (conv => whnf)))
  · obtain ⟨c1, c2⟩ := left_pos c
    have q9 := fun k => ok_laws_szWhoS k l (left 1048576 (sysSz P S W H)) (by omega) (by omega) hl
    by_cases d : left (left 1048576 (sysSz P S W H)) l.length < 0
    · rw [left_m1 d] at q9
      (refine fnI [ResultVar.tmp 6] Tryz.func12 ?_; conv => whnf)
      repeat' ((with_reducible (first | refine sCall.of (q0 _) ?_|refine sCall.of (q9 _) ?_|refine st20 ?_|refine fG.split (fun _ => ?_) (fun _ => ?_)|refine fG.bool (fun _ => ?_) (fun _ => ?_)|refine gD 14 [(0, 2)] ?_)) <;> (try (conv => whnf)))
    · obtain ⟨d1, d2⟩ := left_pos d
      have hB : SysB 1048576 P S W H := sysB_of (by omega)
      have hw := sysW_le P S W H
      have hl' : l.length ≤ 1048576 := by omega
      have q1 := fun k => ok_laws_toSys k P S W H (hB.mono (by decide))
      have q2 := fun k => ok_laws_eqSys k P S W H (hB.mono (by decide))
      have q3 := fun k => ok_impl_Swap k P S W H l i (hB.mono (by decide)) (by omega)
      have q4 := fun k => ok_spec_Swap k P S W H l i (hB.mono (by decide)) (by omega)
      have q6 := fun k => ok_laws_markSys k P S W H 1 hB (by omega) (by omega)
      have q10 := fun k => ok_laws_toWhoS k l (by omega)
      have q11 := fun k => ok_laws_eqWhoS k l (by omega)
      have q12 := fun k => ok_laws_markWhoS9 k l (1 + sysW P S W H) (by omega) (by omega) (by omega)
      have e1 : (mkP 1 P).length = P.length := marks_len _ _ _ _
      have e2 : (mkS 1 P S).length = S.length := marks_len _ _ _ _
      have e3 : (mkW 1 P S W).length = W.length := marks_len _ _ _ _
      have e4 : (mkH 1 P S W H).length = H.length := marks_len _ _ _ _
      have hR := swapIs_le P S W H l i
      generalize swapIs P S W H l i = R at q3 q4 hR
      generalize swapB P S W H l i = t at q3 q4
      have q5 := fun k => ok_laws_eqWhoS k R (by omega)
      have q7 := fun k => ok_laws_markWhoS9 k R 1 (by omega) (by omega) (by omega)
      have q8 := fun k => ok_laws_heldWhoS k (marks mWho wWho 1 R) R 1 (by omega) (by omega) (by omega) rfl
      simp only [marks_len] at q8
      clear hb hB c
      cases t
      all_goals
        (refine fnI [ResultVar.tmp 6] Tryz.func12 ?_; conv => whnf)
        repeat' ((with_reducible (first | refine sCall.of (q0 _) ?_|refine sCall.of (q1 _) ?_|refine sCall.of (q2 _) ?_|refine sCall.of (q3 _) ?_|refine sCall.of (q4 _) ?_|refine sCall.of (q5 _) ?_|refine sCall.of (q6 _) ?_|refine sCall.of (q7 _) ?_|refine sCall.of (q8 _) ?_|refine sCall.of (q9 _) ?_|refine sCall.of (q10 _) ?_|refine sCall.of (q11 _) ?_|refine sCall.of (q12 _) ?_|refine st20 ?_|refine fG.split (fun _ => ?_) (fun _ => ?_)|refine fG.bool (fun _ => ?_) (fun _ => ?_)|refine gD 14 [(0, 2)] ?_)) <;> (try (conv => whnf)))

def DSysRow (r : Res) : Prop := ∃ (P : List (List Ins)) (S : List State) (W : List (List Item)) (H : List (List Event)) (l : List Who), SysB 2000000 P S W H ∧ l.length ≤ 1000 ∧ r = ⟨.tu [nSys 0 P S W H, .h 2000004 1 0 [] 2 0 l.length], [tInsSS9 P, tStateS9 S, tItemSS9 W, tEventSS9 H, tWho9 l], [none]⟩
theorem sCall.sysRow {x : Option Res} {F : Res → Prop} (e : Told x DSysRow) (h : ∀ (P : List (List Ins)) (S : List State) (W : List (List Item)) (H : List (List Event)) (l : List Who), SysB 2000000 P S W H → l.length ≤ 1000 → F ⟨.tu [nSys 0 P S W H, .h 2000004 1 0 [] 2 0 l.length], [tInsSS9 P, tStateS9 S, tItemSS9 W, tEventSS9 H, tWho9 l], [none]⟩) : sCall x F :=
  sCall.ex e fun r hr => by obtain ⟨P, S, W, H, l, h1, h2, rfl⟩ := hr; exact h P S W H l h1 h2
set_option maxRecDepth 20000 in
theorem ok_spec_l13Draw (k : Nat) (b : List Int) (hb : Bytes b) : Told (callE PR C (k + 13) 111 [.h 1000000 0 0 [] 1 0 b.length] [tB b]) DSysRow := by
  have hbl := hb.len
  have z0 : (0 : Int) ≤ 0 := Int.le_refl 0
  have z1 : (0 : Int) ≤ b.length := by omega
  (refine callE_w [ResultVar.cell 2 29, ResultVar.tmp 3] rfl Tryz.func111 rfl (by decide +kernel) rfl (by simp) ?_; (conv => whnf))
  repeat' ((with_reducible (first | refine sCall.newCur (ok_spec_l1New _ b hb.len hb.num) (fun _ => ?_)|refine st20 ?_|refine fG.split (fun _ => ?_) (fun _ => ?_)|refine fG.bool (fun _ => ?_) (fun _ => ?_)|refine gD 3 [(0, 3)] ?_)) <;> (try (conv => whnf)))
  rename_i h
  repeat' ((with_reducible (first | refine sCall.dsys (ok_spec_l6Draw _ b 0 h hb z0 z1) (fun _ _ _ _ _ _ _ _ _ => ?_)|refine st20 ?_|refine fG.split (fun _ => ?_) (fun _ => ?_)|refine fG.bool (fun _ => ?_) (fun _ => ?_)|refine gD 3 [(0, 3)] ?_)) <;> (try (conv => whnf)))
  rename_i P S W H i1 h1 hB a1 a2
  repeat' ((with_reducible (first | refine sCall.drow (ok_spec_l13DrawRow _ _ _ _ _ _ _ _ hb hB) (fun _ _ _ _ _ _ => ?_)|refine st20 ?_|refine fG.split (fun _ => ?_) (fun _ => ?_)|refine fG.bool (fun _ => ?_) (fun _ => ?_)|refine gD 3 [(0, 3)] ?_)) <;> (try (conv => whnf)))
  exact ⟨_, _, _, _, _, hB, by assumption, rfl⟩
def DSysRowK (r : Res) : Prop := ∃ (P : List (List Ins)) (S : List State) (W : List (List Item)) (H : List (List Event)) (l : List Who) (n : Int), SysB 2000000 P S W H ∧ l.length ≤ 1000 ∧ r = ⟨.tu [nSys 0 P S W H, .h 2000004 1 0 [] 2 0 l.length, i64 n], [tInsSS9 P, tStateS9 S, tItemSS9 W, tEventSS9 H, tWho9 l], [none]⟩
theorem sCall.sysRowK {x : Option Res} {F : Res → Prop} (e : Told x DSysRowK) (h : ∀ (P : List (List Ins)) (S : List State) (W : List (List Item)) (H : List (List Event)) (l : List Who) (n : Int), SysB 2000000 P S W H → l.length ≤ 1000 → F ⟨.tu [nSys 0 P S W H, .h 2000004 1 0 [] 2 0 l.length, i64 n], [tInsSS9 P, tStateS9 S, tItemSS9 W, tEventSS9 H, tWho9 l], [none]⟩) : sCall x F :=
  sCall.ex e fun r hr => by obtain ⟨P, S, W, H, l, n, h1, h2, rfl⟩ := hr; exact h P S W H l n h1 h2
set_option maxRecDepth 20000 in
theorem ok_spec_DrawSwap (k : Nat) (b : List Int) (hb : Bytes b) : Told (callE PR C (k + 14) 30 [.h 1000000 0 0 [] 1 0 b.length] [tB b]) DSysRowK := by
  have hbl := hb.len
  have z0 : (0 : Int) ≤ 0 := Int.le_refl 0
  have z1 : (0 : Int) ≤ b.length := by omega
  (refine callE_w [ResultVar.cell 2 29, ResultVar.tmp 3, ResultVar.tmp 4] rfl Tryz.func30 rfl (by decide +kernel) rfl (by simp) ?_; (conv => whnf))
  repeat' ((with_reducible (first | refine sCall.sysRow (ok_spec_l13Draw _ _ hb) (fun _ _ _ _ _ _ _ => ?_)|refine st20 ?_|refine fG.split (fun _ => ?_) (fun _ => ?_)|refine fG.bool (fun _ => ?_) (fun _ => ?_)|refine gD 3 [(0, 6), (0, 8)] ?_)) <;> (try (conv => whnf)))
  rename_i P S W H l hB hl
  repeat' ((with_reducible (first | refine sCall.newCur (ok_spec_l1New _ b hb.len hb.num) (fun _ => ?_)|refine sCall.cur (ok_Below _ _ _ _ _ hb) (fun _ _ _ _ _ _ _ => ?_)|refine st20 ?_|refine fG.split (fun _ => ?_) (fun _ => ?_)|refine fG.bool (fun _ => ?_) (fun _ => ?_)|refine sZ.eq (i64_and255 _) ?_|refine sZ.eq (i64_and30 _) ?_|refine sZ.all (fun _ => ?_)|refine sW.all (fun _ => ?_)|refine gD 3 [(0, 6), (0, 8)] ?_)) <;> (try (conv => whnf)))
  all_goals exact ⟨_, _, _, _, _, _, hB, hl, rfl⟩
set_option maxRecDepth 20000 in
set_option maxHeartbeats 8000000 in
theorem ok_laws_FnSwapped (k : Nat) (b : List Int) (hl : b.length ≤ 140737488355328) (hv : ∀ v ∈ b, 0 ≤ v ∧ v < 256) :
    callE PR C (k + 30) 5 [.h 1000000 0 0 [] 1 0 b.length] [tB b] = some ⟨bl true, [], [none]⟩ := by
  have q0 := fun k => ok_laws_big k b
  by_cases c0 : 1048576 < (b.length : Int)
  · rw [decide_eq_true c0] at q0
    (refine fnI [ResultVar.tmp 2] Tryz.func5 ?_; conv => whnf)
    repeat' ((with_reducible (first | refine sCall.of (q0 _) ?_|refine st20 ?_|refine fG.split (fun _ => ?_) (fun _ => ?_)|refine fG.bool (fun _ => ?_) (fun _ => ?_)|refine gDn 11 ?_)) <;> (try (conv => whnf)))
  · rw [decide_eq_false c0] at q0
    have hb : Bytes b := ⟨by omega, hv⟩
    (refine fnI [ResultVar.tmp 2] Tryz.func5 ?_; conv => whnf)
    repeat' ((with_reducible (first | refine sCall.of (q0 _) ?_|refine sCall.sysRowK (ok_spec_DrawSwap _ _ hb) (fun _ _ _ _ _ _ _ _ => ?_)|refine st20 ?_|refine fG.split (fun _ => ?_) (fun _ => ?_)|refine fG.bool (fun _ => ?_) (fun _ => ?_)|refine gDn 11 ?_)) <;> (try (conv => whnf)))
    rename_i P S W H l n hB hl2
    have q1 := fun k => ok_impl_Swap k P S W H l n (hB.mono (by decide)) (by omega)
    have q2 := fun k => ok_spec_Swap k P S W H l n (hB.mono (by decide)) (by omega)
    cases e : swapB P S W H l n with
    | false =>
      rw [show swapIs P S W H l n = [] by rw [swapIs, e]; rfl, e] at q1 q2
      repeat' ((with_reducible (first | refine sCall.of (q1 _) ?_|refine sCall.of (q2 _) ?_|refine st20 ?_|refine fG.split (fun _ => ?_) (fun _ => ?_)|refine fG.bool (fun _ => ?_) (fun _ => ?_)|refine gDn 11 ?_)) <;> (try (conv => whnf)))
      all_goals rfl
    | true =>
      obtain ⟨h1, h2⟩ := swap_ok e
      have h3 := e
      simp only [swapB, canSwap, Bool.and_eq_true, decide_eq_true_eq] at h3
      have hk : n.toNat + 1 < l.length := by omega
      have f1 := swapRow_fst hk
      have f2 := swapRow_snd hk
      have g1 := swapRow_fst (row := swapRow l n.toNat) (k := n.toNat) (by rw [swapRow_len]; exact hk)
      rw [f2] at g1
      have n1 := swapRow_len l n.toNat
      have n2 := swapRow_len (swapRow l n.toNat) n.toNat
      rw [show swapIs P S W H l n = swapRow l n.toNat by rw [swapIs, e]; rfl, e] at q1 q2
      have q3 := fun k => ok_impl_Swap k P S W H (swapRow l n.toNat) n (hB.mono (by decide)) (by omega)
      have q4 := fun k => ok_impl_RowOk k P S W H (swapRow l n.toNat) (hB.mono (by decide)) (by omega)
      rw [show swapIs P S W H (swapRow l n.toNat) n = swapRow (swapRow l n.toNat) n.toNat by rw [swapIs, h2]; rfl, h2] at q3
      rw [h1] at q4
      clear h1 h2 e
      generalize swapRow (swapRow l n.toNat) n.toNat = R2 at *
      generalize swapRow l n.toNat = R at *
      obtain ⟨n, rfl⟩ : ∃ m : Nat, n = (m : Int) := ⟨n.toNat, by omega⟩
      rw [Int.toNat_natCast] at *
      repeat' ((with_reducible (first | refine sCall.of (q1 _) ?_|refine sCall.of (q2 _) ?_|refine sCall.of (q3 _) ?_|refine sCall.of (q4 _) ?_|refine st20 ?_|refine fG.split (fun _ => ?_) (fun _ => ?_)|refine fG.bool (fun _ => ?_) (fun _ => ?_)|refine gDn 11 ?_)) <;> (try (conv => whnf)))
      all_goals first | rfl | (simp [f1, f2, g1]; done) | (exfalso; simp_all; done)

end Go.Proofs.YtipfcgbhaalcdaaGreat.Abs
namespace Go.Proofs.YtipfcgbhaalcdaaGreat.Abs
open Go
set_option linter.unusedVariables false

def Opens (P : Program) (t : TypeId) (n : Nat) (M : List T → Prop) : Prop :=
  ∀ (H : Type) (enc : TypeId × Value → H) (w : World) (base : Nat) (sp : Nat → Bool) (held : Bool) (fuel : Nat) (cs : List Value) (x : DataW H × List MemPlace),
    DataW.trod enc P w base sp held fuel t cs = some x → (∀ m ∈ x.1.weights P t, m ≤ reachBytes) →
      cs.length = n ∧ ∃ ts : List T, ts.length = n ∧ M ts ∧ ∀ (i : Nat) v t', cs[i]? = some v → ts[i]? = some t' → Ow (fun k => k < w.heap.size) w 0 v t' none_
theorem Opens.mono {P : Program} {t : TypeId} {n : Nat} {M M' : List T → Prop} (h : Opens P t n M) (hm : ∀ ts, M ts → M' ts) : Opens P t n M' := by
  intro H enc w base sp held fuel cs x hx hw
  obtain ⟨h1, ts, h2, h3, h4⟩ := h H enc w base sp held fuel cs x hx hw
  exact ⟨h1, ts, h2, hm _ h3, h4⟩
theorem one_ow {w : World} {v0 : Value} {t0 : T} (h : Ow (fun k => k < w.heap.size) w 0 v0 t0 none_) : ∀ (i : Nat) v t', [v0][i]? = some v → [t0][i]? = some t' → Ow (fun k => k < w.heap.size) w 0 v t' none_ := by
  rintro (_ | i) v t' h1 h2
  · simp at h1 h2; subst h1; subst h2; exact h
  · simp at h1
theorem Opens.int {P : Program} {t : TypeId} {k : IntKind} (ht : P.underlying t = some (.int k)) : Opens P t 1 (fun ts => ∃ n, (Lit.int k n).wf = true ∧ ts = [.v (.int k n)]) := by
  intro H enc w base sp held fuel cs x hx hw
  obtain ⟨n, rfl, rfl, h⟩ := DataW.trod_int ht hx
  exact ⟨rfl, _, rfl, ⟨n, h, rfl⟩, one_ow (.v rfl)⟩
theorem Opens.bool {P : Program} {t : TypeId} (ht : P.underlying t = some .bool) : Opens P t 1 (fun ts => ∃ b, ts = [.v (.bool b)]) := by
  intro H enc w base sp held fuel cs x hx hw
  obtain ⟨b, rfl, rfl⟩ := DataW.trod_bool ht hx
  exact ⟨rfl, _, rfl, ⟨b, rfl⟩, one_ow (.v rfl)⟩
theorem Opens.str {P : Program} {t : TypeId} (ht : P.underlying t = some .string) : Opens P t 1 (fun ts => ∃ s : ByteArray, s.size ≤ reachBytes ∧ ts = [.v (.string s)]) := by
  intro H enc w base sp held fuel cs x hx hw
  obtain ⟨s, rfl, rfl, h⟩ := DataW.trod_string ht hx
  refine ⟨rfl, _, rfl, ⟨s, ?_, rfl⟩, one_ow (.v rfl)⟩
  have := hw s.data.toList.length (by simp [DataW.weights])
  simpa using this
def Parts (P : Program) : List Field → Nat → Nat → (List T → Prop) → Prop
  | [], _, n, M => n = 0 ∧ M []
  | f :: r, off, n, M => f.offset = off ∧ ∃ n1 n2 M1 M2, P.cellsOf f.type = n1 ∧ Opens P f.type n1 M1 ∧ Parts P r (off + n1) n2 M2 ∧ n = n1 + n2 ∧ ∀ a b, M1 a → M2 b → M (a ++ b)
theorem weights_part {P : Program} {H : Type} {ts : List TypeId} : ∀ {ds : List (DataW H)} {R : Nat}, (∀ m ∈ DataW.weightsEach P ts ds, m ≤ R) → ∀ (j : Nat) t d, ts[j]? = some t → ds[j]? = some d → ∀ m ∈ d.weights P t, m ≤ R :=
  fun h j t d ht hd m hm => h m (DataW.weights_mem_each ht hd m hm)
theorem Parts.opens {P : Program} {H : Type} {enc : TypeId × Value → H} {w : World} {base : Nat} {sp : Nat → Bool} {held : Bool} {fuel : Nat} {cs : List Value} : ∀ {fs : List Field} {off n : Nat} {M : List T → Prop}, Parts P fs off n M → off + n = cs.length →
    (∀ f ∈ fs, ∃ x, DataW.trod enc P w base sp held fuel f.type ((cs.drop f.offset).take (P.cellsOf f.type)) = some x ∧ (∀ m ∈ x.1.weights P f.type, m ≤ reachBytes)) →
    ∃ ts : List T, ts.length = n ∧ M ts ∧ ∀ (i : Nat) v t', cs[off + i]? = some v → ts[i]? = some t' → Ow (fun k => k < w.heap.size) w 0 v t' none_ := by
  intro fs
  induction fs with
  | nil =>
    intro off n M h hl _
    exact ⟨[], h.1.symm, h.2, fun i v t' _ h2 => by simp at h2⟩
  | cons f r ih =>
    intro off n M h hl hx
    obtain ⟨rfl, n1, n2, M1, M2, h1, h2, h3, rfl, h4⟩ := h
    obtain ⟨x, hx1, hx2⟩ := hx f (by simp)
    rw [h1] at hx1
    obtain ⟨k1, t1, k2, k3, k4⟩ := h2 H enc w base sp held fuel _ x hx1 hx2
    obtain ⟨t2, q1, q2, q3⟩ := ih h3 (by omega) fun g hg => hx g (by simp [hg])
    refine ⟨t1 ++ t2, by simp [k2, q1], h4 _ _ k3 q2, fun i v t' hv ht' => ?_⟩
    by_cases hi : i < n1
    · rw [List.getElem?_append_left (by omega)] at ht'
      exact k4 i v t' (by rw [List.getElem?_take, if_pos hi, List.getElem?_drop]; exact hv) ht'
    · rw [List.getElem?_append_right (by omega), k2] at ht'
      exact q3 (i - n1) v t' (by rw [show f.offset + n1 + (i - n1) = f.offset + i by omega]; exact hv) ht'
theorem Opens.struct {P : Program} {t : TypeId} {fs : Array Field} {n : Nat} {M : List T → Prop} (ht : P.underlying t = some (.struct fs)) (hc : P.cellsOf t = n) (hp : Parts P fs.toList 0 n M) : Opens P t n M := by
  intro H enc w base sp held fuel cs x hx hw
  obtain ⟨xs, m, _, rfl, hl, hlen, hf⟩ := DataW.trod_struct ht hx
  have hl' : cs.length = n := hl.trans hc
  obtain ⟨ts, h1, h2, h3⟩ := hp.opens (enc := enc) (w := w) (base := base) (sp := sp) (held := held) (fuel := m) (cs := cs) (by omega) (by
    intro f hfm
    obtain ⟨i, hi⟩ := List.getElem?_of_mem hfm
    have hi' : fs[i]? = some f := by simpa using hi
    have hlt : i < xs.length := by rw [hlen]; exact (Array.getElem?_eq_some_iff.1 hi').1
    have hy : xs[i]? = some xs[i] := List.getElem?_eq_getElem hlt
    refine ⟨xs[i], (hf i f hi').trans hy, ?_⟩
    refine weights_part (ts := fs.toList.map (·.type)) (ds := xs.map (·.1)) ?_ i f.type xs[i].1 (by simp [hi']) (by rw [List.getElem?_map, hy]; rfl)
    intro q hq
    refine hw q ?_
    simpa [DataW.weights, ht] using hq)
  exact ⟨hl', ts, h1, h2, fun i v t' hv ht' => h3 i v t' (by simpa using hv) ht'⟩
def IntsM (n : Nat) (ts : List T) : Prop := ∃ zs : List Int, zs.length = n ∧ ts = zs.map fun z => T.v (.int .i64 z)
theorem Parts.nil {P : Program} {off : Nat} : Parts P [] off 0 (IntsM 0) := ⟨rfl, [], rfl, rfl⟩
theorem Parts.int {P : Program} {f : Field} {r : List Field} {off n : Nat} (ho : f.offset = off) (hc : P.cellsOf f.type = 1) (ht : P.underlying f.type = some (.int .i64)) (h : Parts P r (off + 1) n (IntsM n)) :
    Parts P (f :: r) off (1 + n) (IntsM (1 + n)) := by
  refine ⟨ho, 1, n, _, _, hc, Opens.int ht, h, rfl, ?_⟩
  rintro a b ⟨z, _, rfl⟩ ⟨zs, hz, rfl⟩
  exact ⟨z :: zs, by simp [hz]; omega, rfl⟩
def Ms : List (List T → Prop) → List T → Prop
  | [], ts => ts = []
  | M :: r, ts => ∃ a b, ts = a ++ b ∧ M a ∧ Ms r b
theorem Parts.mnil {P : Program} {off : Nat} : Parts P [] off 0 (Ms []) := ⟨rfl, rfl⟩
theorem Parts.mcons {P : Program} {f : Field} {r : List Field} {off n1 n : Nat} {M : List T → Prop} {l : List (List T → Prop)} (ho : f.offset = off) (hc : P.cellsOf f.type = n1) (ht : Opens P f.type n1 M) (h : Parts P r (off + n1) n (Ms l)) :
    Parts P (f :: r) off (n1 + n) (Ms (M :: l)) :=
  ⟨ho, n1, n, _, _, hc, ht, h, rfl, fun a b ha hb => ⟨a, b, rfl, ha, hb⟩⟩

theorem rows_map {α : Type} {f : α → List T} {p : α → Prop} {rows : List (List T)} (h : ∀ r ∈ rows, ∃ x, p x ∧ r = f x) : ∃ l : List α, rows = l.map f ∧ ∀ x ∈ l, p x := by
  induction rows with
  | nil => exact ⟨[], rfl, by simp⟩
  | cons r rows ih =>
    obtain ⟨x, hx, rfl⟩ := h r (by simp)
    obtain ⟨l, rfl, hl⟩ := ih fun q hq => h q (by simp [hq])
    exact ⟨x :: l, rfl, by simpa using ⟨hx, hl⟩⟩
theorem weights_all {P : Program} {H : Type} {e : TypeId} {d : DataW H} : ∀ {l : List (DataW H)}, d ∈ l → ∀ m ∈ d.weights P e, m ∈ DataW.weightsAll P e l
  | a :: r, hd, m, hm => by
    simp only [DataW.weightsAll, List.mem_append]
    rcases List.mem_cons.1 hd with rfl | hd
    · exact .inl hm
    · exact .inr (weights_all hd m hm)
theorem Opens.slice {P : Program} {t e : TypeId} {sz B : Nat} {M : List T → Prop} (ht : P.underlying t = some (.slice e)) (hc : P.cellsOf e = sz) (hB : P.bytesOf e = B) (hsz : 0 < sz) (hE : Opens P e sz M) :
    Opens P t 1 (fun ts => ∃ rows, ts = [.sl sz rows] ∧ (∀ x ∈ rows, M x) ∧ rows.length * B ≤ reachBytes) := by
  intro H enc w base sp held fuel cs0 x hx hw
  rcases DataW.trod_slice ht hx with ⟨rfl, _⟩ | ⟨a, len, cap, elems, rest, n, _, rfl, rfl, _, hl, _, hlen, hel, _⟩
  · exact ⟨rfl, _, rfl, ⟨[], rfl, by simp, by simp⟩, one_ow .nil⟩
  · have hw1 : (elems.length + rest.length) * B ≤ reachBytes := by
      have := hw ((elems.length + rest.length) * P.bytesOf e) (by simp [DataW.weights, ht])
      rwa [hB] at this
    have hcell : ∀ i : Nat, ∃ q : List Value × List T, i < len → q.1.length = sz ∧ q.2.length = sz ∧ M q.2 ∧ (∀ j, j < sz → w.cell? ((a.add (i * sz)).add j) = q.1[j]?) ∧
        ∀ (j : Nat) v t', q.1[j]? = some v → q.2[j]? = some t' → Ow (fun k => k < w.heap.size) w 0 v t' none_ := by
      intro i
      by_cases hi : i < len
      · have hy : elems[i]? = some (elems[i]'(by omega)) := List.getElem?_eq_getElem (by omega)
        have h1 := hel i hi
        rw [hy, hc, Option.bind_eq_some_iff] at h1
        obtain ⟨cs, hcs, htr⟩ := h1
        obtain ⟨k1, ts, k2, k3, k4⟩ := hE H enc w base sp held n cs _ htr (by
          intro m hm
          refine hw m ?_
          have := weights_all (P := P) (e := e) (l := elems.map (·.1)) (List.mem_map_of_mem (List.getElem_mem (by omega : i < elems.length))) m hm
          simp [DataW.weights, ht, this])
        obtain ⟨_, g1, g2⟩ := World.cells?_some hcs
        exact ⟨(cs, ts), fun _ => ⟨k1, k2, k3, g2, k4⟩⟩
      · exact ⟨([], []), fun h => absurd h hi⟩
    obtain ⟨c, hc2⟩ := Classical.axiomOfChoice hcell
    have hblk : 0 < len → a.block < w.heap.size := by
      intro h0
      obtain ⟨k1, k2, k3, k4, k5⟩ := hc2 0 h0
      have h1 := k4 0 hsz
      have h2 : (c 0).1[0]? = some ((c 0).1[0]'(by omega)) := List.getElem?_eq_getElem (by omega)
      rw [h2] at h1
      by_cases hlt : a.block < w.heap.size
      · exact hlt
      · unfold World.cell? at h1
        rw [add_block, add_block, Array.getElem?_eq_none (by omega)] at h1
        simp at h1
    have hat : ∀ i j t', cellT ((List.range len).map fun i => (c i).2) i j = some t' → i < len ∧ (c i).2[j]? = some t' := by
      intro i j t' h'
      unfold cellT at h'
      rw [List.getElem?_map] at h'
      by_cases hi : i < len
      · have hr : (List.range len)[i]? = some i := by simp [hi]
        rw [hr] at h'
        exact ⟨hi, by simpa using h'⟩
      · have hr : (List.range len)[i]? = none := by simp; omega
        rw [hr] at h'
        simp at h'
    refine ⟨rfl, [.sl sz ((List.range len).map fun i => (c i).2)], rfl, ⟨_, rfl, ?_, ?_⟩, one_ow ?_⟩
    · intro x hx
      obtain ⟨i, hi, rfl⟩ := List.mem_map.1 hx
      exact (hc2 i (List.mem_range.1 hi)).2.2.1
    · rw [List.length_map, List.length_range]
      exact Nat.le_trans (Nat.mul_le_mul_right _ (by omega)) hw1
    · have hro := Ow.ro (Z := fun k => k < w.heap.size) (w := w) (a := a) (c := cap) (rows := (List.range len).map fun i => (c i).2) (sz := sz) (fun i j => (c i).1.getD j undef) (by simpa using hl)
        (by
          intro r hr
          obtain ⟨i, hi, rfl⟩ := List.mem_map.1 hr
          exact (hc2 i (List.mem_range.1 hi)).2.1) (fun hne => hblk (by
            rcases Nat.eq_zero_or_pos len with h0 | h0
            · subst h0; exact absurd rfl hne
            · exact h0))
        (by
          intro i j t' h'
          obtain ⟨hi, hj⟩ := hat i j t' h'
          obtain ⟨k1, k2, k3, k4, k5⟩ := hc2 i hi
          have hj' : j < sz := by rw [← k2]; exact (List.getElem?_eq_some_iff.1 hj).1
          rw [← Addr.add_add, k4 j hj', List.getElem?_eq_getElem (by omega)]
          simp [List.getD, show j < (c i).1.length by omega])
        (by
          intro i j t' h'
          obtain ⟨hi, hj⟩ := hat i j t' h'
          obtain ⟨k1, k2, k3, k4, k5⟩ := hc2 i hi
          have hj' : j < sz := by rw [← k2]; exact (List.getElem?_eq_some_iff.1 hj).1
          refine k5 j _ t' ?_ hj
          rw [List.getElem?_eq_getElem (by omega)]
          simp [List.getD, show j < (c i).1.length by omega])
      simpa using hro
theorem Opens.one {P : Program} {t : TypeId} {M : List T → Prop} (h : Opens P t 1 M) {H : Type} {enc : TypeId × Value → H} {w : World} {base : Nat} {sp : Nat → Bool} {held : Bool} {v : Value} {d : DataW H} {ps : List MemPlace}
    (hv : v.cells.toList = [v]) (hd : DataW.Trod enc P w base sp held t v d ps) (hw : ∀ m ∈ d.weights P t, m ≤ reachBytes) : ∃ t', M [t'] ∧ Ow (fun k => k < w.heap.size) w 0 v t' none_ := by
  obtain ⟨fuel, hf⟩ := hd
  rw [hv] at hf
  obtain ⟨_, ts, h1, h2, h3⟩ := h H enc w base sp held fuel _ _ hf hw
  obtain ⟨t', rfl⟩ := List.length_eq_one_iff.1 h1
  exact ⟨t', h2, h3 0 v t' rfl rfl⟩
end Go.Proofs.YtipfcgbhaalcdaaGreat.Abs
namespace Go.Proofs.YtipfcgbhaalcdaaGreat.Abs
open Go Go.RowKit
set_option linter.unusedVariables false

theorem Ow.slice_inv {Z : Fp} {w : World} {v : Value} {sz : Nat} {rows : List (List T)} {F : Fp} {l : Nat} (h : Ow Z w l v (.sl sz rows) F) :
    (v = .slice none 0 0 ∧ rows = []) ∨ ∃ a c, v = .slice (some a) rows.length c ∧ rows.length ≤ c := by
  cases h with
  | nil => exact .inl ⟨rfl, rfl⟩
  | ro xs hc hs hz hx ht => exact .inr ⟨_, _, rfl, hc⟩
  | own xs F hb hfr hc hoff hmax hs hx ht hF hnb hd => exact .inr ⟨_, _, rfl, hc⟩
theorem arg_slice {Z : Fp} {w : World} {ob : Objs} {ρ : Nat → Value} {o sz : Nat} {rows : List (List T)} {v : Value} (h1 : ob o = ⟨0, 0, false, .tree 0 (.sl sz rows)⟩) (h2 : ρ o = v) (h3 : Ow Z w 0 v (.sl sz rows) none_) :
    AVR w ob ρ (.h o 0 0 [] sz 0 rows.length) v := by
  have hin := h3.slice_inv
  refine .h ?_ ?_ fun _ => ?_
  · rw [h1]; exact ⟨Nat.le_refl _, fun _ h => absurd rfl h⟩
  · rcases hin with ⟨rfl, rfl⟩ | ⟨a, c, rfl, hc⟩
    · exact ⟨none, 0, rfl, Nat.le_refl _, fun _ => rfl⟩
    · exact ⟨some a, c, rfl, hc, fun h => by cases h⟩
  · rw [h1, h2]
    refine ⟨fun cells h => by (dsimp only at h; cases h), fun lvl t hc => ?_⟩
    dsimp only at hc
    cases hc
    refine ⟨v, rows, .here, by omega, ?_⟩
    rcases hin with ⟨rfl, rfl⟩ | ⟨a, c, rfl, hc⟩
    · exact .inl ⟨rfl, rfl, rfl, rfl⟩
    · refine .inr ⟨a, rows.length, c, 0, c, rfl, ?_, hc, by omega, Nat.le_refl _, fun _ => rfl⟩
      rw [Nat.zero_mul]
      cases a with
      | mk b off s => cases s <;> simp [Addr.add]
theorem FnOk.outside {P : Program} {W : World} {f : FuncId} {args : List AV} {conts : List Cont} {r : Res} (h : FnOk P f args conts r) (vals : List Value)
    (ho : ∀ (i : Nat) c, conts[i]? = some c → ∃ t v, c = .tree 0 t ∧ vals[i]? = some v ∧ Ow (fun k => k < W.heap.size) W 0 v t none_) (vs : Array Value) (hs : vs.size = args.length)
    (hA : ∀ (i : Nat) x, args[i]? = some x → AVR W (obIn conts) (fun o => vals.getD (o - 1000000) undef) x (vs.getD i undef)) :
    Calls P f vs W (fun e w' => ∃ v, e = .returned v ∧ Below W.heap.size W w' ∧ ∃ ob' ρ', AVR w' ob' ρ' r.v v) := by
  have hI : OInv W none_ (obIn conts) W (fun o => vals.getD (o - 1000000) undef) (fun _ => none_) (fun k => k < W.heap.size) := by
    refine ⟨Keep.refl _ _, fun k hk _ => hk, fun k hk => hk, fun o k hk => hk.elim, fun o o' k hk => hk.elim, fun o k hk => hk.elim, fun o => ?_⟩
    unfold ObOk
    by_cases h1 : 1000000 ≤ o
    · simp only [obIn, h1, if_true]
      cases hc : conts[o - 1000000]? with
      | none =>
        have e : conts.getD (o - 1000000) .dead = .dead := by simp [List.getD, hc]
        rw [e]
        exact fun k hk => hk
      | some c =>
        obtain ⟨t, v, rfl, hv, how⟩ := ho _ _ hc
        have e : conts.getD (o - 1000000) .dead = .tree 0 t := by simp [List.getD, hc]
        have e2 : vals.getD (o - 1000000) undef = v := by simp [List.getD, hv]
        rw [e, e2]
        exact how
    · simp only [obIn, h1, if_false]
      exact fun k hk => hk
  have hr := h.run W none_ _ _ _ vs hI (fun k _ hk => hk) hs hA
  intro cs
  obtain ⟨e, w', fr, hR, hC, hfn, hl⟩ := hr cs
  refine ⟨e, w', fr, ?_, hC, hfn, hl⟩
  cases e with
  | returned v =>
    obtain ⟨ρ', φ', Z', hst, hav⟩ := hR
    exact ⟨v, rfl, ⟨hst.inv.keep.os, hst.inv.keep.tape, hst.inv.keep.output, hst.inv.keep.size, fun k hk => hst.inv.keep.block k hk id⟩, _, _, hav⟩
  | _ => exact hR.elim
theorem AVR.bool_inv {w : World} {ob : Objs} {ρ : Nat → Value} {b : Bool} {v : Value} (h : AVR w ob ρ (.s (.bool b)) v) : v = .bool b := by
  cases h; rfl
end Go.Proofs.YtipfcgbhaalcdaaGreat.Abs
