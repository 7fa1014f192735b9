/- Part 6 of the words by which the law is followed: an interpreter over data trees, proved of the machine, and what functions of this program come to by it. No condition. -/
import Derived.Test.YtlobpiebphnkiaaGreatJD5
namespace Go.Proofs.YtlobpiebphnkiaaGreat.Abs
open Go Go.Proofs
set_option linter.unusedVariables false
set_option linter.unusedSimpArgs false
attribute [local irreducible] callE
theorem sW.eq {k : IntKind} {n r : Int} {F : Int → Prop} (e : k.wrap n = r) (h : F r) : sW k n F := ⟨by rw [e]; exact h⟩

theorem cnt_take_le (es : List Event) (x y : Int) (m : Nat) : cnt (es.take m) x y ≤ cnt es x y := by
  have h := cnt_take es x y (a := m) (b := max m es.length) (Nat.le_max_left _ _)
  rwa [List.take_of_length_le (l := es) (Nat.le_max_right _ _)] at h
theorem nth_nonneg (es : List Event) (x y : Int) (c : Nat) : 0 ≤ nth es x y c ↔ c < cnt es x y := by
  constructor
  · intro h
    have h1 := (nth_lt es x y c ((nth es x y c).toNat + 1)).1 ⟨h, by omega⟩
    have := cnt_take_le es x y ((nth es x y c).toNat + 1)
    omega
  · intro h
    exact ((nth_lt es x y c es.length).2 (by rw [List.take_length]; exact h)).1
theorem nth_len {es : List Event} {x y : Int} {c : Nat} (h : 0 ≤ nth es x y c) : nth es x y c < (es.length : Int) :=
  ((nth_lt es x y c es.length).2 (by rw [List.take_length]; exact (nth_nonneg es x y c).1 h)).2
theorem nth_neg {es : List Event} {x y : Int} {c : Nat} (h : ¬ 0 ≤ nth es x y c) : nth es x y c = -1 := by
  rcases nthGo_lt.nthGo_ge x y es 0 c with e | e
  · exact e
  · exact absurd (by simpa [nth] using e) h
theorem nthGo_take (x y : Int) : ∀ (es : List Event) (i c m : Nat), c < cnt (es.take m) x y → nthGo x y (es.take m) i c = nthGo x y es i c
  | [], i, c, m, h => by simp [cnt, vals] at h
  | e :: es, i, c, 0, h => by simp [cnt, vals] at h
  | e :: es, i, c, m + 1, h => by
    rw [List.take_succ_cons, cnt_cons] at h
    rw [List.take_succ_cons]
    unfold nthGo
    by_cases he : isEv x y e = true
    · rw [if_pos he] at h
      simp only [he, if_true]
      cases c with
      | zero => simp
      | succ c =>
        rw [if_neg (by omega), if_neg (by omega), show (((c + 1 : Nat) : Int) - 1) = (c : Int) by omega]
        exact nthGo_take x y es (i + 1) c m (by omega)
    · rw [if_neg he] at h
      simp only [he, if_false]
      exact nthGo_take x y es (i + 1) c m (by omega)
theorem nth_take {es : List Event} {x y : Int} {c m : Nat} (h : c < cnt (es.take m) x y) : nth (es.take m) x y c = nth es x y c := nthGo_take x y es 0 c m h
def sentC (H : List (List Event)) (c : List Int) (a b : Nat) : Nat := cnt ((rd H a).take (rd c a).toNat) 2 b
def tookC (H : List (List Event)) (c : List Int) (a b : Nat) : Nat := cnt ((rd H b).take (rd c b).toNat) 3 a
def lacks (H : List (List Event)) (c : List Int) (a b : Nat) : Int := nth ((rd H b).take (rd c b).toNat) 3 a (sentC H c a b)
def wholeB (H : List (List Event)) (c : List Int) : Bool := allBelow H.length fun a => allBelow H.length fun b => decide (lacks H c a b < 0)
theorem lacks_iff (H : List (List Event)) (c : List Int) (a b : Nat) : 0 ≤ lacks H c a b ↔ sentC H c a b < tookC H c a b := nth_nonneg _ _ _ _
theorem wholeB_eq {H : List (List Event)} {c : List Int} : wholeB H c = true ↔ ∀ a b, a < H.length → b < H.length → tookC H c a b ≤ sentC H c a b := by
  simp only [wholeB, allBelow_eq, decide_eq_true_eq]
  constructor
  · intro h a b ha hb
    have h1 := h a ha b hb
    have := lacks_iff H c a b
    omega
  · intro h a ha b hb
    have h1 := h a b ha hb
    have := lacks_iff H c a b
    omega
theorem lacks_whole {H : List (List Event)} (c : List Int) (a b : Nat) : lacks H c a b = (if tookC H c a b ≤ sentC H c a b then -1 else nth (rd H b) 3 a (sentC H c a b)) := by
  by_cases h : tookC H c a b ≤ sentC H c a b
  · rw [if_pos h]
    exact nth_neg (by have := lacks_iff H c a b; unfold lacks at this; omega)
  · rw [if_neg h]
    exact nth_take (by unfold tookC at h; omega)
theorem rd_set {d : List Int} {b q : Nat} (x : Int) (hb : b < d.length) : rd (d.set b x) q = if q = b then x else rd d q := by
  simp only [rd, List.getD_eq_getElem?_getD, List.getElem?_set]
  by_cases h : b = q
  · subst h; simp [hb]
  · rw [if_neg h, if_neg (fun e => h e.symm)]
theorem sum_put : ∀ (f : List Int) (p : Nat) (x : Int), p < f.length → (f.set p x).sum = f.sum - rd f p + x
  | a :: f, 0, x, _ => by simp [rd]; omega
  | a :: f, p + 1, x, h => by
    have := sum_put f p x (by simpa using h)
    simp only [List.set_cons_succ, List.sum_cons]
    rw [show rd (a :: f) (p + 1) = rd f p from rfl, this]
    omega
theorem lacks_lt {H : List (List Event)} {d : List Int} {a b : Nat} (hf : FOk H d) (hb : b < H.length) (hi : 0 ≤ lacks H d a b) : lacks H d a b < rd d b := by
  have h1 := nth_len hi
  have h2 := hf.rng b hb
  simp only [List.length_take] at h1
  unfold lacks
  omega
inductive Closes (H : List (List Event)) (c : List Int) : List Int → Prop where
  | refl : Closes H c c
  | step {d : List Int} {a b : Nat} (h : Closes H c d) (ha : a < H.length) (hb : b < H.length) (hi : 0 ≤ lacks H d a b) : Closes H c (d.set b (lacks H d a b))
theorem Closes.fok {H : List (List Event)} {c d : List Int} (h : Closes H c d) (hc : FOk H c) : FOk H d := by
  induction h with
  | refl => exact hc
  | @step d a b h ha hb hi ih =>
    have h1 := lacks_lt ih hb hi
    refine ⟨by simp [ih.len], fun q hq => ?_⟩
    rw [rd_set _ (by rw [ih.len]; exact hb)]
    have h2 := ih.rng q hq
    split
    · rename_i e; subst e; omega
    · exact h2
theorem Closes.under {H : List (List Event)} {c d : List Int} (h : Closes H c d) (hc : FOk H c) : ∀ q, q < H.length → rd d q ≤ rd c q := by
  induction h with
  | refl => intro q _; exact Int.le_refl _
  | @step d a b h ha hb hi ih =>
    intro q hq
    have hf := h.fok hc
    have h1 := lacks_lt hf hb hi
    rw [rd_set _ (by rw [hf.len]; exact hb)]
    have h2 := ih q hq
    split
    · rename_i e; subst e; omega
    · exact h2
open Classical in
noncomputable def closeOf (H : List (List Event)) (c : List Int) : List Int := if h : ∃ d, Closes H c d ∧ wholeB H d = true then h.choose else c
def cutH (H : List (List Event)) (c : List Int) : List (List Event) := (List.range H.length).map fun p => (rd H p).take (rd c p).toNat
theorem cutH_len (H : List (List Event)) (c : List Int) : (cutH H c).length = H.length := by simp [cutH]
theorem rd_range {α : Type} [Inhabited α] {n p : Nat} (f : Nat → α) (h : p < n) : rd ((List.range n).map f) p = f p := by simp [rd, h]
theorem rd_cutH {H : List (List Event)} {c : List Int} {p : Nat} (hp : p < H.length) : rd (cutH H c) p = (rd H p).take (rd c p).toNat := rd_range _ hp
theorem rd_take {α : Type} [Inhabited α] {l : List α} {n i : Nat} (h : i < n) : rd (l.take n) i = rd l i := by simp [rd, h, List.getElem?_take]
theorem Reach.cut_le {H : List (List Event)} {c g f : List Int} {n : Nat} (h : Reach H g n) (hP : PeersIn H) (hc : FOk H c) (hw : wholeB H c = true) (hf : FOk (cutH H c) f) (hs : Stuck (cutH H c) f) : ∀ q, q < H.length → rd g q ≤ rd f q ∨ rd c q ≤ rd f q := by
  have hfr : ∀ q, q < H.length → 0 ≤ rd f q ∧ rd f q ≤ rd c q ∧ ((rd (cutH H c) q).length : Int) = rd c q := fun q hq => by
    have h1 := hf.rng q (by rw [cutH_len]; exact hq)
    have h2 := hc.rng q hq
    rw [rd_cutH hq, List.length_take] at h1 ⊢
    omega
  induction h with
  | zero => intro q hq; rw [rd_zero]; exact .inl (hfr q hq).1
  | @step g n p h hp hcn ih =>
    have hg := h.fok
    intro q hq
    rw [rd_goOn (by rw [hg.len]; exact hp)]
    split
    · rename_i e; subst e
      have hq1 := hfr q hq
      rcases ih q hq with h1 | h1
      · by_cases h2 : rd c q ≤ rd f q
        · exact .inr h2
        · by_cases h3 : rd g q < rd f q
          · exact .inl (by omega)
          · exfalso
            have e1 : rd g q = rd f q := by omega
            have hno := hs q (by rw [cutH_len]; exact hq)
            have : canCome (cutH H c) f q = true := by
              unfold canCome at hcn ⊢
              rw [e1] at hcn
              have hct : ((rd H q).take (rd c q).toNat).take (rd f q).toNat = (rd H q).take (rd f q).toNat := by rw [List.take_take, Nat.min_eq_left (by omega)]
              have hlq := hc.rng q hq
              rw [rd_cutH hq] at hq1 ⊢
              rw [rd_take (by omega), hct]
              simp only [Bool.and_eq_true, Bool.not_eq_true', Bool.and_eq_false_iff, decide_eq_true_eq, decide_eq_false_iff_not] at hcn ⊢
              refine ⟨by omega, ?_⟩
              rcases hcn.2 with h4 | h4
              · exact .inl h4
              · by_cases hk : (rd (rd H q) (rd f q).toNat).kind = 3
                · right
                  have hpe := hP q hq (rd f q).toNat (by omega) hk
                  have hev : isEv 3 (rd (rd H q) (rd f q).toNat).peer (rd (rd H q) (rd f q).toNat) = true := by simp [isEv, hk]
                  generalize (rd (rd H q) (rd f q).toNat).peer = z at hpe h4 hev ⊢
                  have hz : z.toNat < H.length := by omega
                  have hzr := hfr _ hz
                  rw [rd_cutH hz]
                  rcases ih _ hz with h5 | h5
                  · rw [List.take_take, Nat.min_eq_left (by omega)]
                    have := cnt_take (rd H z.toNat) 2 q (a := (rd g z.toNat).toNat) (b := (rd f z.toNat).toNat) (by omega)
                    omega
                  · have e2 : ((rd H z.toNat).take (rd c z.toNat).toNat).take (rd f z.toNat).toNat = (rd H z.toNat).take (rd c z.toNat).toNat := List.take_of_length_le (by rw [List.length_take]; omega)
                    rw [e2]
                    have h6 := wholeB_eq.1 hw z.toNat q hz hq
                    have h7 : cnt ((rd H q).take ((rd f q).toNat + 1)) 3 z = cnt ((rd H q).take (rd f q).toNat) 3 z + 1 := by
                      simp only [cnt]
                      rw [vals_snoc _ _ _ (by omega), if_pos hev]
                      simp
                    have h8 := cnt_take (rd H q) 3 z (a := (rd f q).toNat + 1) (b := (rd c q).toNat) (by omega)
                    simp only [tookC, sentC] at h6
                    rw [show ((z.toNat : Nat) : Int) = z by omega] at h6
                    omega
                · exact .inl hk
            rw [this] at hno
            cases hno
      · exact .inr h1
    · exact ih q hq
theorem sum_all : ∀ (H : List (List Event)) (f : List Int), f.length = H.length → (∀ q, q < H.length → rd f q = ((rd H q).length : Int)) → f.sum = (allEv H : Int)
  | [], [], _, _ => by simp [allEv]
  | h :: H, a :: f, hl, hr => by
    have h1 := sum_all H f (by simpa using hl) fun q hq => hr (q + 1) (by simp; omega)
    have h0 := hr 0 (by simp)
    have e0 : rd (a :: f) 0 = a := rfl
    have e1 : rd (h :: H) 0 = h := rfl
    rw [e0, e1] at h0
    have es : (allEv (h :: H) : Int) = h.length + allEv H := by simp [allEv]
    rw [es, List.sum_cons]
    omega
theorem cut_inRow {H : List (List Event)} {c : List Int} (hP : PeersIn H) (hc : FOk H c) (hw : wholeB H c = true) (hr : inRow H = true) : inRow (cutH H c) = true := by
  simp only [inRow, decide_eq_true_eq] at hr ⊢
  obtain ⟨g, k, h1, h2, h3⟩ := greedy_reach (H := H) (allEv H) .zero (by omega)
  obtain ⟨f, m, h4, h5, h6⟩ := greedy_reach (H := cutH H c) (allEv (cutH H c)) .zero (by omega)
  have e1 : k = allEv H := by unfold rowOf at hr; omega
  have hg := (sum_le H g h1.fok.len fun q hq => (h1.fok.rng q hq).2).2 (by rw [h1.sum, e1])
  have hle := h1.cut_le hP hc hw h4.fok h5
  have hf := sum_all (cutH H c) f h4.fok.len fun q hq => by
    have h7 := h4.fok.rng q hq
    rw [cutH_len] at hq
    have h8 := hle q hq
    have h9 := hg q hq
    have h10 := hc.rng q hq
    rw [rd_cutH hq, List.length_take] at h7 ⊢
    omega
  rw [h4.sum] at hf
  unfold rowOf
  omega

theorem comes_num {l : List Ins} {s : State} {e : Event} (hs : SOk l.length s) (hi : IOk l.length (rd l s.at_.toNat)) (hc : comes e (next l s) = true) (hk : e.kind = 2) : -1000000000 ≤ e.v ∧ e.v ≤ 1000000000 := by
  by_cases h6 : (rd l s.at_.toNat).op = 6
  · have hn : next l s = ⟨2, (rd l s.at_.toNat).n, rd s.regs (rd l s.at_.toNat).a.toNat⟩ := by simp [next, h6]
    have ha := hi.a
    have := hs.nums (rd l s.at_.toNat).a.toNat (by omega)
    rw [hn, comes_other (by simp)] at hc
    simp at hc
    rw [hc.2.2]
    exact this
  · exfalso
    by_cases h7 : (rd l s.at_.toNat).op = 7
    · have hn : next l s = ⟨3, (rd l s.at_.toNat).n, 0⟩ := by simp [next, h7]
      rw [hn, comes_take] at hc
      omega
    · by_cases h8 : (rd l s.at_.toNat).op = 8
      · have hn : next l s = ⟨4, 0, rd s.regs (rd l s.at_.toNat).a.toNat⟩ := by simp [next, h8]
        rw [hn, comes_other (by simp)] at hc
        simp at hc
        omega
      · have hn : next l s = ⟨1, 0, 0⟩ := by simp [next, h6, h7, h8]
        rw [hn, comes_other (by simp)] at hc
        simp at hc
        omega
theorem replay_num {l : List Ins} (hi : ∀ i, i < l.length → IOk l.length (rd l i)) : ∀ (es : List Event) {s s' : State}, SOk l.length s → replay l s es = some s' → ∀ e ∈ es, e.kind = 2 → -1000000000 ≤ e.v ∧ e.v ≤ 1000000000
  | [], _, _, _, _ => by simp
  | e :: es, s, s', hs, h => by
    rw [replay] at h
    split at h
    · rename_i hc
      have h0 := hs.at0
      have h1 := hs.at1
      have hx := hi s.at_.toNat (by omega)
      intro x hx'
      rcases List.mem_cons.1 hx' with rfl | hm
      · exact comes_num hs hx hc.2
      · exact replay_num hi es (did_ok hs hx hc.2) h x hm
    · cases h
theorem replayAll_num {l : List Ins} {es : List Event} (h : (replayAll l es).isSome = true) : ∀ e ∈ es, e.kind = 2 → -1000000000 ≤ e.v ∧ e.v ≤ 1000000000 := by
  have h3 := replay_take h es.length
  rw [List.take_length] at h3
  have h4 := replayAll_some h
  exact replay_num (fun i hi => progOk_iok h4.1 hi) es (newState_ok (progOk_len h4.1).1) h3.1
def stsOf (P : List (List Ins)) (H : List (List Event)) : List State := (List.range P.length).map fun p => stOf (replayAll (rd P p) (rd H p))
def leftOf (H : List (List Event)) (a b : Nat) : List Int := (vals (rd H a) 2 b).drop (vals (rd H b) 3 a).length
def wayOf (l : List Int) : List Item := l.map fun v => ⟨false, v⟩
def waysOf (H : List (List Event)) (n : Nat) : List (List Item) := (List.range (n * n)).map fun i => wayOf (leftOf H (i / n) (i % n))
def waysFit (H : List (List Event)) (n : Nat) : Bool := allBelow n fun a => allBelow n fun b => decide ((leftOf H a b).length ≤ 12)
theorem place_div {n a b : Nat} (hb : b < n) : (a * n + b) / n = a ∧ (a * n + b) % n = b := by
  rw [Nat.add_comm, Nat.add_mul_div_right _ _ (by omega), Nat.add_mul_mod_self_right, Nat.div_eq_of_lt hb, Nat.mod_eq_of_lt hb]
  omega
theorem rd_waysOf {H : List (List Event)} {n a b : Nat} (ha : a < n) (hb : b < n) : rd (waysOf H n) (a * n + b) = wayOf (leftOf H a b) := by
  unfold waysOf
  rw [rd_range _ (place_lt ha hb), (place_div (a := a) hb).1, (place_div (a := a) hb).2]
theorem numbers_wayOf (l : List Int) : numbersOf (wayOf l) = l := by
  induction l with
  | nil => rfl
  | cons a l ih =>
    simp only [numbersOf, wayOf, List.map_cons] at ih ⊢
    rw [List.filter_cons]
    simp [ih]
theorem vals_of_take (es : List Event) (x y : Int) (k : Nat) : vals (es.take k) x y = (vals es x y).take (vals (es.take k) x y).length := by
  have e : vals es x y = vals (es.take k) x y ++ vals (es.drop k) x y := by
    conv => lhs; rw [← List.take_append_drop k es]
    simp only [vals, List.filter_append, List.map_append]
  rw [e, List.take_left]
theorem vals_num {es : List Event} {y : Int} (h : ∀ e ∈ es, e.kind = 2 → -1000000000 ≤ e.v ∧ e.v ≤ 1000000000) : ∀ v ∈ vals es 2 y, -1000000000 ≤ v ∧ v ≤ 1000000000 := by
  intro v hv
  simp only [vals, List.mem_map, List.mem_filter, isEv, Bool.and_eq_true, decide_eq_true_eq] at hv
  obtain ⟨e, ⟨h1, h2, _⟩, rfl⟩ := hv
  exact h e h1 h2
theorem wayOk_wayOf {l : List Int} (h : ∀ v ∈ l, -1000000000 ≤ v ∧ v ≤ 1000000000) : wayOk (wayOf l) = decide (l.length ≤ 12) := by
  have : (wayOf l).all itemOk = true := by
    simp only [List.all_eq_true, wayOf, List.mem_map]
    rintro _ ⟨v, hv, rfl⟩
    have := h v hv
    simp [itemOk, numOk, this]
  unfold wayOk
  rw [this, Bool.and_true]
  simp [wayOf]
theorem replayAll_cut {l : List Ins} {es : List Event} (h : (replayAll l es).isSome = true) (k : Nat) : (replayAll l (es.take k)).isSome = true := by
  have h1 := (replay_take h k).1
  obtain ⟨h2, h3⟩ := replayAll_some h
  have e : replayAll l (es.take k) = replay l newState (es.take k) := by unfold replayAll; rw [if_pos ⟨h2, by rw [List.length_take]; omega⟩]
  rw [e, h1]; rfl
theorem left_fits {V X N : List Int} {t s : Nat} (h : X ++ N = V) (ht : t ≤ X.length) (hs : t ≤ s) : X.take t ++ (V.take s).drop t = V.take s := by
  subst h
  have e : X.take t = ((X ++ N).take s).take t := by
    rw [List.take_take, Nat.min_eq_left hs, List.take_append_of_le_length ht]
  rw [e]
  exact List.take_append_drop _ _
theorem cut_fits {P : List (List Ins)} {W : List (List Item)} {H : List (List Event)} {c : List Int} {a b n : Nat} (hn : H.length = n) (ha : a < n) (hb : b < n) (h : fits n W H a b = true) (hw : wholeB H c = true) : fits n (waysOf (cutH H c) n) (cutH H c) a b = true := by
  simp only [fits, decide_eq_true_eq] at h ⊢
  rw [rd_waysOf ha hb, numbers_wayOf, leftOf, rd_cutH (by omega), rd_cutH (by omega)]
  have h1 := wholeB_eq.1 hw a b (by omega) (by omega)
  have e1 := vals_of_take (rd H b) 3 a (rd c b).toNat
  have e2 := vals_of_take (rd H a) 2 b (rd c a).toNat
  simp only [tookC, sentC, cnt] at h1
  have h2 : (vals ((rd H b).take (rd c b).toNat) 3 a).length ≤ (vals (rd H b) 3 a).length := cnt_take_le (rd H b) 3 a _
  generalize (vals ((rd H b).take (rd c b).toNat) 3 a).length = t at *
  generalize (vals ((rd H a).take (rd c a).toNat) 2 b).length = s at *
  rw [e1, e2]
  exact left_fits h h2 h1
theorem cut_sysOk {P : List (List Ins)} {S : List State} {W : List (List Item)} {H : List (List Event)} {c : List Int} (h : sysOk P S W H = true) (hc : FOk H c) (hw : wholeB H c = true) :
    sysOk P (stsOf P (cutH H c)) (waysOf (cutH H c) P.length) (cutH H c) = waysFit (cutH H c) P.length := by
  simp only [sysOk, sizesOk, inB, Bool.and_eq_true, decide_eq_true_eq, allBelow_eq] at h
  obtain ⟨⟨a1, a2, a3, a4⟩, b1, b2, b3, b4⟩ := h
  have hP := (peersIn_of (by omega) a3 b2).1
  have e1 : sizesOk P (stsOf P (cutH H c)) (waysOf (cutH H c) P.length) (cutH H c) = true := by
    simp [sizesOk, inB, stsOf, waysOf, cutH_len, a3]; omega
  have e2 : allBelow P.length (procOk P (stsOf P (cutH H c)) (cutH H c)) = true := by
    rw [allBelow_eq]
    intro p hp
    have h1 := b2 p hp
    simp only [procOk, Bool.and_eq_true] at h1 ⊢
    refine ⟨h1.1, ?_, ?_⟩
    · have h2 := h1.2.1
      simp only [peersOk, List.all_eq_true] at h2 ⊢
      rw [rd_cutH (by omega)]
      intro e he
      exact h2 e (List.mem_of_mem_take he)
    · have h2 := h1.2.2
      simp only [stoodAs, Bool.and_eq_true, decide_eq_true_eq] at h2 ⊢
      refine ⟨?_, ?_⟩
      · rw [rd_cutH (by omega)]; exact replayAll_cut h2.1 _
      · exact (rd_range (fun p => stOf (replayAll (rd P p) (rd (cutH H c) p))) hp).symm
  have e3 : (allBelow P.length fun a => allBelow P.length fun b => fits P.length (waysOf (cutH H c) P.length) (cutH H c) a b) = true := by
    simp only [allBelow_eq]
    intro a ha b hb
    exact cut_fits (P := P) a3 ha hb (b3 a ha b hb) hw
  have e4 := cut_inRow hP hc hw b4
  unfold sysOk
  rw [e1, e2, e3, e4, Bool.true_and, Bool.true_and, Bool.and_true, Bool.and_true]
  rw [ways_all (n := P.length) (by simp [waysOf])]
  unfold waysFit
  rw [Bool.eq_iff_iff]
  simp only [allBelow_eq]
  have hk : ∀ a, a < P.length → ∀ b, b < P.length → wayOk (rd (waysOf (cutH H c) P.length) (a * P.length + b)) = decide ((leftOf (cutH H c) a b).length ≤ 12) := by
    intro a ha b hb
    rw [rd_waysOf ha hb]
    apply wayOk_wayOf
    intro v hv
    unfold leftOf at hv
    have hv := List.mem_of_mem_drop hv
    rw [rd_cutH (by omega)] at hv
    have h1 := b2 a ha
    simp only [procOk, Bool.and_eq_true, stoodAs] at h1
    exact vals_num (fun e he => replayAll_num h1.2.2.1 e (List.mem_of_mem_take he)) v hv
  constructor
  · intro h a ha b hb; rw [← hk a ha b hb]; exact h a ha b hb
  · intro h a ha b hb; rw [hk a ha b hb]; exact h a ha b hb

theorem ok_impl_cutOk (k : Nat) (P : List (List Ins)) (S : List State) (W : List (List Item)) (H : List (List Event)) (c : List Int) (hc : FOk H c) (hl : ∀ j : Nat, j < H.length → (rd H j).length ≤ 1000000000) (hn : H.length ≤ 1000) :
    callE PR C (k + 2) 247 [aSys 0 P S W H, .h 1000004 0 0 [] 1 0 c.length] [tInsSS P, tStateS S, tItemSS W, tEventSS H, tI c] = some ⟨bl true, [], [none, none, none, none, none]⟩ := by
  have hcl := hc.len
  (refine fnI [ResultVar.tmp 4] Tryz.func247 ?_; conv => whnf)
  repeat' ((with_reducible (first | refine st14 ?_|refine fG.split (fun _ => ?_) (fun _ => ?_)|refine fG.bool (fun _ => ?_) (fun _ => ?_))) <;> (try (conv => whnf)))
  refine loop_rule (ι := Nat) (fun j => [(2, .pt 2 1 0 [] 0 0), (13, .h 1000004 0 0 [] 1 0 c.length), (14, i64 c.length), (15, i64 (j : Nat))])
    (fun _ => [(1000000, ⟨0, 0, false, tInsSS P⟩), (1000001, ⟨0, 0, false, tStateS S⟩), (1000002, ⟨0, 0, false, tItemSS W⟩), (1000003, ⟨0, 0, false, tEventSS H⟩), (1000004, ⟨0, 0, false, tI c⟩), (2, ⟨1, 0, false, bSys P S W H⟩)])
    (fun j => c.length - j) (fun j => j ≤ c.length) 0 fitOk (Nat.zero_le _) (by simp [C]; omega) ?_
  rintro j sl ob hj
  (try dsimp only [cond_true, cond_false])
  (conv => whnf)
  by_cases hjl : j < c.length
  · have hr := hc.rng j (by omega)
    have hlj := hl j (by omega)
    have e4 : (List.map rEvent (rd H j)).length = (rd H j).length := by simp
    have q := fun k => ok_impl_in k (rd c j) 0 ((List.map rEvent (rd H j)).length : Int)
    rw [decide_eq_true (by omega)] at q
    repeat' ((with_reducible (first | refine sCall.of (q _) ?_|refine st14 ?_|refine fG.split (fun _ => ?_) (fun _ => ?_)|refine fG.bool (fun _ => ?_) (fun _ => ?_))) <;> (try (conv => whnf)))
    refine ⟨⟨j + 1, fitOk, ?_, ?_⟩⟩
    · show j + 1 ≤ _; omega
    · show c.length - (j + 1) < c.length - j; omega
  · repeat' ((with_reducible (first | refine st14 ?_|refine fG.split (fun _ => ?_) (fun _ => ?_)|refine fG.bool (fun _ => ?_) (fun _ => ?_))) <;> (try (conv => whnf)))
theorem ok_impl_lacks (k : Nat) (P : List (List Ins)) (S : List State) (W : List (List Item)) (H : List (List Event)) (c : List Int) (a b : Nat) (hc : FOk H c) (ha : a < H.length) (hb : b < H.length) (hl : ∀ j : Nat, j < H.length → (rd H j).length ≤ 1000000000) (hn : H.length ≤ 1000) :
    callE PR C (k + 4) 229 [aSys 0 P S W H, .h 1000004 0 0 [] 1 0 c.length, i64 (a : Nat), i64 (b : Nat)] [tInsSS P, tStateS S, tItemSS W, tEventSS H, tI c] = some ⟨i64 (lacks H c a b), [], [none, none, none, none, none]⟩ := by
  unfold lacks sentC
  have hcl := hc.len
  have ra := hc.rng a ha
  have rb := hc.rng b hb
  have la := hl a ha
  have lb := hl b hb
  have ea : (List.map rEvent (rd H a)).length = (rd H a).length := by simp
  have eb : (List.map rEvent (rd H b)).length = (rd H b).length := by simp
  have hcn := cnt_le ((rd H a).take (rd c a).toNat) 2 b
  rw [List.length_take] at hcn
  have q1 := fun k => ok_impl_Count k ((rd H a).take (rd c a).toNat) 2 b (by simp; omega)
  have q2 := fun k => ok_impl_Nth k ((rd H b).take (rd c b).toNat) 3 a (cnt ((rd H a).take (rd c a).toNat) 2 b : Nat) (by simp; omega) (by omega) (by omega)
  (refine fnI [ResultVar.tmp 8] Tryz.func229 ?_; conv => whnf)
  repeat' ((with_reducible (first | refine sCall.of (q1 _) ?_|refine sCall.of (q2 _) ?_|refine st14 ?_|refine fG.split (fun _ => ?_) (fun _ => ?_)|refine fG.bool (fun _ => ?_) (fun _ => ?_)|refine gDn 1 ?_|refine gDn 2 ?_)) <;> (try (conv => whnf)))
theorem ok_spec_l8Over (k : Nat) (P : List (List Ins)) (S : List State) (W : List (List Item)) (H : List (List Event)) (c : List Int) (a b : Nat) (hc : FOk H c) (ha : a < H.length) (hb : b < H.length) (hl : ∀ j : Nat, j < H.length → (rd H j).length ≤ 1000000000) (hn : H.length ≤ 1000) :
    callE PR C (k + 3) 183 [aSys 0 P S W H, .h 1000004 0 0 [] 1 0 c.length, i64 (a : Nat), i64 (b : Nat)] [tInsSS P, tStateS S, tItemSS W, tEventSS H, tI c] = some ⟨i64 (lacks H c a b), [], [none, none, none, none, none]⟩ := by
  rw [lacks_whole]
  unfold sentC tookC
  have hcl := hc.len
  have ra := hc.rng a ha
  have rb := hc.rng b hb
  have la := hl a ha
  have lb := hl b hb
  have ea : (List.map rEvent (rd H a)).length = (rd H a).length := by simp
  have eb : (List.map rEvent (rd H b)).length = (rd H b).length := by simp
  have hcn := cnt_le ((rd H a).take (rd c a).toNat) 2 b
  rw [List.length_take] at hcn
  have q1 := fun k => ok_spec_Count k ((rd H a).take (rd c a).toNat) 2 b (by simp; omega)
  have q2 := fun k => ok_spec_Count k ((rd H b).take (rd c b).toNat) 3 a (by simp; omega)
  have q3 := fun k => ok_spec_Nth k (rd H b) 3 a (cnt ((rd H a).take (rd c a).toNat) 2 b : Nat) (by omega) (by omega) (by omega)
  generalize cnt ((rd H a).take (rd c a).toNat) 2 b = s at *
  generalize cnt ((rd H b).take (rd c b).toNat) 3 a = t at *
  by_cases hts : t ≤ s
  · rw [if_pos hts]
    (refine fnI [ResultVar.tmp 8] Tryz.func183 ?_; conv => whnf)
    repeat' ((with_reducible (first | refine sCall.of (q1 _) ?_|refine sCall.of (q2 _) ?_|refine st14 ?_|refine fG.split (fun _ => ?_) (fun _ => ?_)|refine fG.bool (fun _ => ?_) (fun _ => ?_)|refine gDn 1 ?_|refine gDn 2 ?_)) <;> (try (conv => whnf)))
  · rw [if_neg hts]
    (refine fnI [ResultVar.tmp 8] Tryz.func183 ?_; conv => whnf)
    repeat' ((with_reducible (first | refine sCall.of (q1 _) ?_|refine sCall.of (q2 _) ?_|refine sCall.of (q3 _) ?_|refine st14 ?_|refine fG.split (fun _ => ?_) (fun _ => ?_)|refine fG.bool (fun _ => ?_) (fun _ => ?_)|refine gDn 1 ?_|refine gDn 2 ?_)) <;> (try (conv => whnf)))
theorem wholeB_no {H : List (List Event)} {c : List Int} {a b : Nat} (ha : a < H.length) (hb : b < H.length) (h : 0 ≤ lacks H c a b) : wholeB H c = false :=
  allBelow_no (f := fun a => allBelow H.length fun b => decide (lacks H c a b < 0)) ha (allBelow_no (f := fun b => decide (lacks H c a b < 0)) hb (decide_eq_false (by omega)))
theorem wholeB_yes {H : List (List Event)} {c : List Int} (h : ∀ a, a < H.length → ∀ b, b < H.length → ¬ 0 ≤ lacks H c a b) : wholeB H c = true :=
  allBelow_yes fun a ha => allBelow_yes fun b hb => decide_eq_true (by have := h a ha b hb; omega)
theorem ok_impl_whole (k : Nat) (P : List (List Ins)) (S : List State) (W : List (List Item)) (H : List (List Event)) (c : List Int) (hc : FOk H c) (hl : ∀ j : Nat, j < H.length → (rd H j).length ≤ 1000000000) (hn : H.length ≤ 1000) :
    callE PR C (k + 5) 228 [aSys 0 P S W H, .h 1000004 0 0 [] 1 0 c.length] [tInsSS P, tStateS S, tItemSS W, tEventSS H, tI c] = some ⟨bl (wholeB H c), [], [none, none, none, none, none]⟩ := by
  have hcl := hc.len
  (refine fnI [ResultVar.tmp 4] Tryz.func228 ?_; conv => whnf)
  repeat' ((with_reducible (first | refine st14 ?_|refine fG.split (fun _ => ?_) (fun _ => ?_)|refine fG.bool (fun _ => ?_) (fun _ => ?_))) <;> (try (conv => whnf)))
  refine loop_rule (ι := Nat) (fun a => [(1, .h 1000004 0 0 [] 1 0 c.length), (2, .pt 2 1 0 [] 0 0), (8, i64 c.length), (9, i64 (a : Nat))])
    (fun _ => [(1000000, ⟨0, 0, false, tInsSS P⟩), (1000001, ⟨0, 0, false, tStateS S⟩), (1000002, ⟨0, 0, false, tItemSS W⟩), (1000003, ⟨0, 0, false, tEventSS H⟩), (1000004, ⟨0, 0, false, tI c⟩), (2, ⟨1, 0, false, bSys P S W H⟩)])
    (fun a => c.length - a) (fun a => a ≤ c.length ∧ ∀ x, x < a → ∀ b, b < H.length → ¬ 0 ≤ lacks H c x b) 0 fitOk ⟨Nat.zero_le _, fun x h => absurd h (Nat.not_lt_zero x)⟩ (by simp [C]; omega) ?_
  rintro a sl ob ⟨ha, hall⟩
  (try dsimp only [cond_true, cond_false])
  (conv => whnf)
  by_cases hal : a < c.length
  · repeat' ((with_reducible (first | refine st14 ?_|refine fG.split (fun _ => ?_) (fun _ => ?_)|refine fG.bool (fun _ => ?_) (fun _ => ?_))) <;> (try (conv => whnf)))
    refine loop_rule (ι := Nat) (fun b => [(1, .h 1000004 0 0 [] 1 0 c.length), (2, .pt 2 1 0 [] 0 0), (5, i64 (a : Nat)), (8, i64 c.length), (9, i64 (a : Nat)), (13, i64 c.length), (14, i64 (b : Nat))])
      (fun _ => [(1000000, ⟨0, 0, false, tInsSS P⟩), (1000001, ⟨0, 0, false, tStateS S⟩), (1000002, ⟨0, 0, false, tItemSS W⟩), (1000003, ⟨0, 0, false, tEventSS H⟩), (1000004, ⟨0, 0, false, tI c⟩), (2, ⟨1, 0, false, bSys P S W H⟩)])
      (fun b => c.length - b) (fun b => b ≤ c.length ∧ ∀ x, x < b → ¬ 0 ≤ lacks H c a x) 0 fitOk ⟨Nat.zero_le _, fun x h => absurd h (Nat.not_lt_zero x)⟩ (by simp [C]; omega) ?_
    clear sl ob
    rintro b sl ob ⟨hb, hbl⟩
    (try dsimp only [cond_true, cond_false])
    (conv => whnf)
    by_cases hbb : b < c.length
    · have q := fun k => ok_impl_lacks k P S W H c a b hc (by omega) (by omega) hl hn
      by_cases hi : 0 ≤ lacks H c a b
      · rw [wholeB_no (by omega) (by omega) hi]
        repeat' ((with_reducible (first | refine sCall.of (q _) ?_|refine st14 ?_|refine fG.split (fun _ => ?_) (fun _ => ?_)|refine fG.bool (fun _ => ?_) (fun _ => ?_))) <;> (try (conv => whnf)))
      · repeat' ((with_reducible (first | refine sCall.of (q _) ?_|refine st14 ?_|refine fG.split (fun _ => ?_) (fun _ => ?_)|refine fG.bool (fun _ => ?_) (fun _ => ?_))) <;> (try (conv => whnf)))
        refine ⟨⟨b + 1, fitOk, ?_, ?_⟩⟩
        · exact ⟨by show b + 1 ≤ _; omega, fun x hx => by rcases Nat.lt_succ_iff_lt_or_eq.1 hx with h | h; exact hbl x h; rw [h]; exact hi⟩
        · show c.length - (b + 1) < c.length - b; omega
    · repeat' ((with_reducible (first | refine st14 ?_|refine fG.split (fun _ => ?_) (fun _ => ?_)|refine fG.bool (fun _ => ?_) (fun _ => ?_))) <;> (try (conv => whnf)))
      refine ⟨⟨a + 1, fitOk, ?_, ?_⟩⟩
      · exact ⟨by show a + 1 ≤ _; omega, fun x hx y hy => by rcases Nat.lt_succ_iff_lt_or_eq.1 hx with h | h; exact hall x h y hy; rw [h]; exact hbl y (by omega)⟩
      · show c.length - (a + 1) < c.length - a; omega
  · rw [wholeB_yes fun x hx y hy => hall x (by omega) y hy]
    repeat' ((with_reducible (first | refine st14 ?_|refine fG.split (fun _ => ?_) (fun _ => ?_)|refine fG.bool (fun _ => ?_) (fun _ => ?_))) <;> (try (conv => whnf)))
theorem ok_spec_l8Whole (k : Nat) (P : List (List Ins)) (S : List State) (W : List (List Item)) (H : List (List Event)) (c : List Int) (hc : FOk H c) (hl : ∀ j : Nat, j < H.length → (rd H j).length ≤ 1000000000) (hn : H.length ≤ 1000) :
    callE PR C (k + 4) 182 [aSys 0 P S W H, .h 1000004 0 0 [] 1 0 c.length] [tInsSS P, tStateS S, tItemSS W, tEventSS H, tI c] = some ⟨bl (wholeB H c), [], [none, none, none, none, none]⟩ := by
  have hcl := hc.len
  (refine fnI [ResultVar.tmp 4] Tryz.func182 ?_; conv => whnf)
  repeat' ((with_reducible (first | refine st14 ?_|refine fG.split (fun _ => ?_) (fun _ => ?_)|refine fG.bool (fun _ => ?_) (fun _ => ?_))) <;> (try (conv => whnf)))
  refine loop_rule (ι := Nat) (fun a => [(1, .h 1000004 0 0 [] 1 0 c.length), (2, .pt 2 1 0 [] 0 0), (5, i64 (a : Nat))])
    (fun _ => [(1000000, ⟨0, 0, false, tInsSS P⟩), (1000001, ⟨0, 0, false, tStateS S⟩), (1000002, ⟨0, 0, false, tItemSS W⟩), (1000003, ⟨0, 0, false, tEventSS H⟩), (1000004, ⟨0, 0, false, tI c⟩), (2, ⟨1, 0, false, bSys P S W H⟩)])
    (fun a => c.length - a) (fun a => a ≤ c.length ∧ ∀ x, x < a → ∀ b, b < H.length → ¬ 0 ≤ lacks H c x b) 0 fitOk ⟨Nat.zero_le _, fun x h => absurd h (Nat.not_lt_zero x)⟩ (by simp [C]; omega) ?_
  rintro a sl ob ⟨ha, hall⟩
  (try dsimp only [cond_true, cond_false])
  (conv => whnf)
  by_cases hal : a < c.length
  · repeat' ((with_reducible (first | refine st14 ?_|refine fG.split (fun _ => ?_) (fun _ => ?_)|refine fG.bool (fun _ => ?_) (fun _ => ?_))) <;> (try (conv => whnf)))
    refine loop_rule (ι := Nat) (fun b => [(1, .h 1000004 0 0 [] 1 0 c.length), (2, .pt 2 1 0 [] 0 0), (5, i64 (a : Nat)), (6, i64 (b : Nat))])
      (fun _ => [(1000000, ⟨0, 0, false, tInsSS P⟩), (1000001, ⟨0, 0, false, tStateS S⟩), (1000002, ⟨0, 0, false, tItemSS W⟩), (1000003, ⟨0, 0, false, tEventSS H⟩), (1000004, ⟨0, 0, false, tI c⟩), (2, ⟨1, 0, false, bSys P S W H⟩)])
      (fun b => c.length - b) (fun b => b ≤ c.length ∧ ∀ x, x < b → ¬ 0 ≤ lacks H c a x) 0 fitOk ⟨Nat.zero_le _, fun x h => absurd h (Nat.not_lt_zero x)⟩ (by simp [C]; omega) ?_
    clear sl ob
    rintro b sl ob ⟨hb, hbl⟩
    (try dsimp only [cond_true, cond_false])
    (conv => whnf)
    by_cases hbb : b < c.length
    · have q := fun k => ok_spec_l8Over k P S W H c a b hc (by omega) (by omega) hl hn
      by_cases hi : 0 ≤ lacks H c a b
      · rw [wholeB_no (by omega) (by omega) hi]
        repeat' ((with_reducible (first | refine sCall.of (q _) ?_|refine st14 ?_|refine fG.split (fun _ => ?_) (fun _ => ?_)|refine fG.bool (fun _ => ?_) (fun _ => ?_))) <;> (try (conv => whnf)))
      · repeat' ((with_reducible (first | refine sCall.of (q _) ?_|refine st14 ?_|refine fG.split (fun _ => ?_) (fun _ => ?_)|refine fG.bool (fun _ => ?_) (fun _ => ?_))) <;> (try (conv => whnf)))
        refine ⟨⟨b + 1, fitOk, ?_, ?_⟩⟩
        · exact ⟨by show b + 1 ≤ _; omega, fun x hx => by rcases Nat.lt_succ_iff_lt_or_eq.1 hx with h | h; exact hbl x h; rw [h]; exact hi⟩
        · show c.length - (b + 1) < c.length - b; omega
    · repeat' ((with_reducible (first | refine st14 ?_|refine fG.split (fun _ => ?_) (fun _ => ?_)|refine fG.bool (fun _ => ?_) (fun _ => ?_))) <;> (try (conv => whnf)))
      refine ⟨⟨a + 1, fitOk, ?_, ?_⟩⟩
      · exact ⟨by show a + 1 ≤ _; omega, fun x hx y hy => by rcases Nat.lt_succ_iff_lt_or_eq.1 hx with h | h; exact hall x h y hy; rw [h]; exact hbl y (by omega)⟩
      · show c.length - (a + 1) < c.length - a; omega
  · rw [wholeB_yes fun x hx y hy => hall x (by omega) y hy]
    repeat' ((with_reducible (first | refine st14 ?_|refine fG.split (fun _ => ?_) (fun _ => ?_)|refine fG.bool (fun _ => ?_) (fun _ => ?_))) <;> (try (conv => whnf)))
theorem ok_impl_CutOk (k : Nat) (P : List (List Ins)) (S : List State) (W : List (List Item)) (H : List (List Event)) (c : List Int) (hb : SysB 10000000000 P S W H) (e : sysOk P S W H = true) (hc : FOk H c) :
    callE PR C (k + 12) 227 [aSys 0 P S W H, .h 1000004 0 0 [] 1 0 c.length] [tInsSS P, tStateS S, tItemSS W, tEventSS H, tI c] = some ⟨bl true, [], [none, none, none, none, none]⟩ := by
  have q1 := fun k => ok_impl_SysOk k P S W H hb
  simp only [e] at q1
  obtain ⟨hI, hP, hS, h200⟩ := sysOk_facts e
  have hN := hI.n
  have hHl := hI.h
  have q2 := fun k => ok_impl_cutOk k P S W H c hc (fun j hj => by have := h200 j hj; omega) (by omega)
  (refine fnI [ResultVar.tmp 4] Tryz.func227 ?_; conv => whnf)
  repeat' ((with_reducible (first | refine sCall.of (q1 _) ?_|refine sCall.of (q2 _) ?_|refine st14 ?_|refine fG.split (fun _ => ?_) (fun _ => ?_)|refine fG.bool (fun _ => ?_) (fun _ => ?_))) <;> (try (conv => whnf)))
theorem ok_impl_Whole (k : Nat) (P : List (List Ins)) (S : List State) (W : List (List Item)) (H : List (List Event)) (c : List Int) (hb : SysB 10000000000 P S W H) (e : sysOk P S W H = true) (hc : FOk H c) :
    callE PR C (k + 13) 184 [aSys 0 P S W H, .h 1000004 0 0 [] 1 0 c.length] [tInsSS P, tStateS S, tItemSS W, tEventSS H, tI c] = some ⟨bl (wholeB H c), [], [none, none, none, none, none]⟩ := by
  have q1 := fun k => ok_impl_CutOk k P S W H c hb e hc
  obtain ⟨hI, hP, hS, h200⟩ := sysOk_facts e
  have hN := hI.n
  have hHl := hI.h
  have q2 := fun k => ok_impl_whole k P S W H c hc (fun j hj => by have := h200 j hj; omega) (by omega)
  (refine fnI [ResultVar.tmp 4] Tryz.func184 ?_; conv => whnf)
  repeat' ((with_reducible (first | refine sCall.of (q1 _) ?_|refine sCall.of (q2 _) ?_|refine st14 ?_|refine fG.split (fun _ => ?_) (fun _ => ?_)|refine fG.bool (fun _ => ?_) (fun _ => ?_))) <;> (try (conv => whnf)))
def lensOf (H : List (List Event)) : List Int := H.map fun h => (h.length : Int)
def Prog (H : List (List Event)) (d d' : List Int) (a b : Nat) : Prop := d'.sum < d.sum ∨ (d' = d ∧ (∀ x, x < a → ∀ y, y < H.length → ¬ 0 ≤ lacks H d x y) ∧ ∀ y, y < b → ¬ 0 ≤ lacks H d a y)
theorem Prog.zero (H : List (List Event)) (d : List Int) : Prog H d d 0 0 := .inr ⟨rfl, fun x h => absurd h (Nat.not_lt_zero x), fun x h => absurd h (Nat.not_lt_zero x)⟩
theorem Prog.yes {H : List (List Event)} {d d' : List Int} {a b : Nat} (h : Prog H d d' a b) (hf : FOk H d') (hb : b < H.length) (hi : 0 ≤ lacks H d' a b) : Prog H d (d'.set b (lacks H d' a b)) a (b + 1) := by
  have h1 := lacks_lt hf hb hi
  have h2 := sum_put d' b (lacks H d' a b) (by rw [hf.len]; exact hb)
  left
  rcases h with h | ⟨rfl, _⟩ <;> omega
theorem Prog.row {H : List (List Event)} {d d' : List Int} {a b : Nat} (h : Prog H d d' a b) (hb : H.length ≤ b) : Prog H d d' (a + 1) 0 := by
  rcases h with h | ⟨rfl, h1, h2⟩
  · exact .inl h
  · refine .inr ⟨rfl, fun x hx y hy => ?_, fun x h => absurd h (Nat.not_lt_zero x)⟩
    rcases Nat.lt_succ_iff_lt_or_eq.1 hx with h | h
    · exact h1 x h y hy
    · rw [h]; exact h2 y (by omega)
theorem Prog.end {H : List (List Event)} {d d' : List Int} {a b : Nat} (h : Prog H d d' a b) (ha : H.length ≤ a) (hw : wholeB H d = false) : d'.sum < d.sum := by
  rcases h with h | ⟨rfl, h1, h2⟩
  · exact h
  · rw [wholeB_yes fun x hx y hy => h1 x (by omega) y hy] at hw; cases hw
structure CL where
  n : Nat
  d : List Int
  g : Nat
  dd : Bool
structure CL2 where
  a : Nat
  d : List Int
  g : Nat
  dd : Bool
end Go.Proofs.YtlobpiebphnkiaaGreat.Abs
namespace Go.Proofs.YtlobpiebphnkiaaGreat.Abs
open Go Go.Proofs
set_option linter.unusedVariables false
set_option linter.unusedSimpArgs false
attribute [local irreducible] callE
theorem snoc_rInsL (l : List (List Ins)) (x : List Ins) : l.map rInsL ++ [[.sl 5 (x.map rIns)]] = (l ++ [x]).map rInsL := by simp [rInsL]
theorem snoc_rItemL (l : List (List Item)) (x : List Item) : l.map rItemL ++ [[.sl 2 (x.map rItem)]] = (l ++ [x]).map rItemL := by simp [rItemL]
theorem snoc_rEventL (l : List (List Event)) (x : List Event) : l.map rEventL ++ [[.sl 3 (x.map rEvent)]] = (l ++ [x]).map rEventL := by simp [rEventL]
theorem snoc_rState (l : List State) (a c : Int) (r o : List Int) : l.map rState ++ [[.v (.int .i64 a), .sl 1 (r.map rI), .sl 1 (o.map rI), .v (.int .i64 c)]] = (l ++ [(⟨a, r, o, c⟩ : State)]).map rState := by simp [rState]
theorem gI15 {p A : Prop} (h : A) (e : p := by first | with_reducible assumption | omega | (simp only [Nat.zero_add, Nat.add_zero, Nat.sub_zero, Int.toNat_natCast, Int.toNat_zero, Int.toNat_one, List.length_map, List.length_nil, Int.reduceToNat, Nat.reduceAdd, Nat.reduceSub, Int.sub_zero, Int.reduceAdd, Int.reduceSub, Nat.sub_self, Int.toNat_natCast_add_one, marks_len, bs_len, List.length_append, List.length_cons, List.length_set, List.length_replicate, List.length_range]; first | done | omega)) : sI p A := sI.mk e h
theorem gNum15 {r r' : Nat} {F : Nat → Prop} (h : F r') (e : r = r' := by first | (simp only [Nat.zero_add, Nat.add_zero, Nat.sub_zero, Int.toNat_natCast, Int.toNat_zero, Int.toNat_one, List.length_map, List.length_nil, Int.reduceToNat, Nat.reduceAdd, Nat.reduceSub, Int.sub_zero, Int.reduceAdd, Int.reduceSub, Nat.sub_self, Int.toNat_natCast_add_one, marks_len, bs_len]; rfl) | rfl) : sN r F := sN.eq e h
theorem gRow15 {r r' : List (List T)} {F : List (List T) → Prop} (h : F r') (e : r = r' := by first | (simp only [Nat.add_zero, Nat.zero_add, Nat.reduceAdd, List.drop_zero, List.take_succ_cons, List.take_nil, List.drop_succ_cons, List.drop_nil, List.take_zero, List.nil_append, List.append_nil, List.map_nil, drop_suf, take_pre, drop_map, List.take_length, take_len_set, take_len_app, List.set_set, List.length_map, snoc_rInsL, snoc_rItemL, snoc_rEventL, snoc_rState, set_rWho, rep_rWho, snoc_rWho, set_rState, rep_rState, set_rInsL, rep_rInsL, set_rItemL, rep_rItemL, set_rEventL, rep_rEventL, set_rItem, rep_rItem, rep_rKept, marks_take, set_rKept, set_rIns, rep_rIns, set_rEvent, rep_rEvent, snoc_rKept, snoc_rEvent, snoc_rIns, bytesT_bs, snoc_rI, snoc_rB, snoc_rBool, set_rI, set_rBool, rep_rI, rep_rBool, map_app]; rfl) | rfl) : sR r F := sR.eq e h
theorem st15 {P Q : Prop} (h : Q) (e : Q → P := by with_reducible first | exact fun h => gP h | exact fun h => gN h | exact fun h => fG.not h | exact fun h => gY h | exact fun h => gF h | exact fun h => fG.yes (flat_map (fun _ => rfl) _) h | exact fun h => gS64 h | exact fun h => gU8 h | exact fun h => gI15 h | exact fun h => fE.of rfl h | exact fun h => gNum15 h | exact fun h => gSet h | exact fun h => gRd h | exact fun h => gLk h | exact fun h => gRow15 h | exact fun h => gRf4 h) : P := e h
theorem ok_Clone_Ins (k : Nat) (l : List Ins) (hl : l.length ≤ 100000000000) : callE PR C (k + 1) 172 [.h 1000000 0 0 [] 5 0 l.length] [tIns l] = some ⟨.h 2000000 1 0 [] 5 0 l.length, [tIns9 l], [none]⟩ := by
  have := callE_prim (k := k) (f := 172) rfl (cloneP_run (sz := 5) (bytes := 40) (wide_map (f := rIns) (fun _ => rfl) l) (flat_map (fun _ => rfl) l) (full_map (fun _ => rfl) l) (by simp; omega))
  simpa using this
theorem ok_Clone_Event (k : Nat) (l : List Event) (hl : l.length ≤ 100000000000) : callE PR C (k + 1) 175 [.h 1000000 0 0 [] 3 0 l.length] [tEvent l] = some ⟨.h 2000000 1 0 [] 3 0 l.length, [tEvent9 l], [none]⟩ := by
  have := callE_prim (k := k) (f := 175) rfl (cloneP_run (sz := 3) (bytes := 24) (wide_map (f := rEvent) (fun _ => rfl) l) (flat_map (fun _ => rfl) l) (full_map (fun _ => rfl) l) (by simp; omega))
  simpa using this
structure CS (α : Type) where
  j : Nat
  l : List α
  v : AV
  b : Nat
  g : Nat
  d : Bool
  c : Cont
  dd : Bool
def Grown {α : Type} (o sz : Nat) (t : List α → Cont) (X : List α) (z : CS α) : Prop := z.l = X.take z.j ∧ ((z.j = 0 ∧ z.v = .nl sz ∧ z.b = 0 ∧ z.g = 0 ∧ z.d = false ∧ z.c = .dead) ∨ (0 < z.j ∧ z.v = .h o z.b 0 [] sz 0 z.l.length ∧ z.c = t z.l))
structure SysN (P : List (List Ins)) (S : List State) (W : List (List Item)) (H : List (List Event)) : Prop where
  p : 0 < P.length
  s : 0 < S.length
  w : 0 < W.length
  h : 0 < H.length
theorem SysIs.some {P : List (List Ins)} {S : List State} {W : List (List Item)} {H : List (List Event)} (h : SysIs P S W H) : SysN P S W H := by
  have h1 := h.n
  have h2 := h.s
  have h3 := h.h
  have h4 := h.w
  exact ⟨by omega, by omega, by rw [h4]; exact Nat.mul_pos (by omega) (by omega), by omega⟩
structure CL4Ins where
  j : Nat
  l : List (List Ins)
  o : Nat
  b : Nat
theorem ok_spec_l4Ins (k : Nat) (l : List (List Ins)) (hl : l.length ≤ 100000000000) (hx : ∀ j : Nat, j < l.length → (rd l j).length ≤ 100000000000) :
    callE PR C (k + 1) 169 [.h 1000000 0 0 [] 1 0 l.length] [tInsSS l] = some ⟨.h 2000000 1 0 [] 1 0 l.length, [tInsSS9 l], [none]⟩ := by
  (refine fnI [ResultVar.tmp 2] Tryz.func169 ?_; conv => whnf)
  repeat' ((with_reducible (first | refine st15 ?_|refine fG.split (fun _ => ?_) (fun _ => ?_)|refine fG.bool (fun _ => ?_) (fun _ => ?_))) <;> (try (conv => whnf)))
  refine loop_rule (ι := CL4Ins) (fun z => [(0, .h 1000000 0 0 [] 1 0 l.length), (3, .h z.o z.b 0 [] 1 0 z.l.length), (4, i64 (z.j : Nat))])
    (fun z => [(1000000, ⟨0, 0, false, tInsSS l⟩), (z.o, ⟨z.b, 0, false, tInsSS9 z.l⟩)])
    (fun z => l.length - z.j) (fun z => z.j ≤ l.length ∧ z.l = l.take z.j ∧ (z.o = 5 ∨ z.o = 20)) ⟨0, [], 5, _⟩ fitOk ⟨Nat.zero_le _, rfl, .inl rfl⟩ (by simp [C]; omega) ?_
  rintro ⟨j, out, o, b⟩ sl ob ⟨hj, hout, ho⟩
  dsimp only at hj hout ho
  have hle : out.length ≤ l.length := by rw [hout]; simp; omega
  by_cases hjl : j < l.length
  · have hxj := hx j hjl
    rcases ho with rfl | rfl
    all_goals (try dsimp only [cond_true, cond_false])
    all_goals (conv => whnf)
    all_goals repeat' ((with_reducible (first | refine st15 ?_|refine fG.split (fun _ => ?_) (fun _ => ?_)|refine fG.bool (fun _ => ?_) (fun _ => ?_))) <;> (try (conv => whnf)))
    all_goals
      refine ⟨⟨⟨j + 1, out ++ [rd l j], 20, _⟩, fitOk, ?_, ?_⟩⟩
      · exact ⟨by show j + 1 ≤ _; omega, by show out ++ [rd l j] = _; rw [take_rd hjl, hout], .inr rfl⟩
      · show l.length - (j + 1) < l.length - j; omega
  · rw [List.take_of_length_le (by omega)] at hout
    subst hout
    rcases ho with rfl | rfl
    all_goals (try dsimp only [cond_true, cond_false])
    all_goals (conv => whnf)
    all_goals repeat' ((with_reducible (first | refine st15 ?_|refine fG.split (fun _ => ?_) (fun _ => ?_)|refine fG.bool (fun _ => ?_) (fun _ => ?_))) <;> (try (conv => whnf)))
    all_goals rfl
structure CL4Event where
  j : Nat
  l : List (List Event)
  o : Nat
  b : Nat
end Go.Proofs.YtlobpiebphnkiaaGreat.Abs
namespace Go.Proofs.YtlobpiebphnkiaaGreat.Abs
open Go Go.Proofs
set_option linter.unusedVariables false
set_option linter.unusedSimpArgs false
attribute [local irreducible] callE
theorem drop_min (l : List Int) (t : Nat) : l.drop t = l.drop (min t l.length) := by
  rcases Nat.le_total t l.length with h | h
  · rw [Nat.min_eq_left h]
  · rw [Nat.min_eq_right h, List.drop_eq_nil_of_le h, List.drop_eq_nil_of_le (Nat.le_refl _)]
theorem rd_drop (l : List Int) (t j : Nat) : rd (l.drop t) j = rd l (t + j) := by simp [rd]
theorem gHole {α : Type} {l : List α} {n : Nat} {x : α} {F : α → Prop} (h : F x) (e : n < l.length := by first | omega | (simp only [List.length_map]; omega)) : fO (l.set n x)[n]? F := fO.of (by simp [e]) h
theorem snoc_rItem (l : List Item) (b : Bool) (x : Int) : l.map rItem ++ [[.v (.bool b), .v (.int .i64 x)]] = (l ++ [(⟨b, x⟩ : Item)]).map rItem := by simp [rItem]
theorem fill_self {α : Type} [Inhabited α] (l : List α) (j : Nat) (h : j < l.length) : (fill l j).set j default = fill l j := by
  apply List.ext_getElem?
  intro i
  simp only [fill, List.getElem?_set, List.getElem?_append, List.length_take, List.getElem?_take, List.getElem?_replicate, List.length_append, List.length_replicate]
  by_cases e : j = i
  · subst e
    simp [h, Nat.min_eq_left (Nat.le_of_lt h)]
  · simp [e]
theorem gI16 {p A : Prop} (h : A) (e : p := by first | with_reducible assumption | omega | (simp only [Nat.zero_add, Nat.add_zero, Nat.sub_zero, Int.toNat_natCast, Int.toNat_zero, Int.toNat_one, List.length_map, List.length_nil, Int.reduceToNat, Nat.reduceAdd, Nat.reduceSub, Int.sub_zero, Int.reduceAdd, Int.reduceSub, Nat.sub_self, Int.toNat_natCast_add_one, marks_len, bs_len, List.length_append, List.length_cons, List.length_set, List.length_replicate, List.length_range]; first | done | omega)) : sI p A := sI.mk e h
theorem gNum16 {r r' : Nat} {F : Nat → Prop} (h : F r') (e : r = r' := by first | (simp only [Nat.zero_add, Nat.add_zero, Nat.sub_zero, Int.toNat_natCast, Int.toNat_zero, Int.toNat_one, List.length_map, List.length_nil, Int.reduceToNat, Nat.reduceAdd, Nat.reduceSub, Int.sub_zero, Int.reduceAdd, Int.reduceSub, Nat.sub_self, Int.toNat_natCast_add_one, marks_len, bs_len]; rfl) | rfl) : sN r F := sN.eq e h
theorem gRow16 {r r' : List (List T)} {F : List (List T) → Prop} (h : F r') (e : r = r' := by first | (simp only [Nat.add_zero, Nat.zero_add, Nat.reduceAdd, List.drop_zero, List.take_succ_cons, List.take_nil, List.drop_succ_cons, List.drop_nil, List.take_zero, List.nil_append, List.append_nil, List.map_nil, drop_suf, take_pre, drop_map, List.take_length, take_len_set, take_len_app, List.set_set, List.length_map, snoc_rItem, snoc_rInsL, snoc_rItemL, snoc_rEventL, snoc_rState, set_rWho, rep_rWho, snoc_rWho, set_rState, rep_rState, set_rInsL, rep_rInsL, set_rItemL, rep_rItemL, set_rEventL, rep_rEventL, set_rItem, rep_rItem, rep_rKept, marks_take, set_rKept, set_rIns, rep_rIns, set_rEvent, rep_rEvent, snoc_rKept, snoc_rEvent, snoc_rIns, bytesT_bs, snoc_rI, snoc_rB, snoc_rBool, set_rI, set_rBool, rep_rI, rep_rBool, map_app]; rfl) | rfl) : sR r F := sR.eq e h
theorem st16 {P Q : Prop} (h : Q) (e : Q → P := by with_reducible first | exact fun h => gP h | exact fun h => gN h | exact fun h => fG.not h | exact fun h => gY h | exact fun h => gF h | exact fun h => fG.yes (flat_map (fun _ => rfl) _) h | exact fun h => gS64 h | exact fun h => gU8 h | exact fun h => gI16 h | exact fun h => fE.of rfl h | exact fun h => gNum16 h | exact fun h => gSet h | exact fun h => gRd h | exact fun h => gLk h | exact fun h => gRow16 h | exact fun h => gRf4 h) : P := e h
def procsOk (P : List (List Ins)) (H : List (List Event)) : Bool := allBelow P.length fun p => (replayAll (rd P p) (rd H p)).isSome && peersOk (rd H p) P.length
def ofOk (P : List (List Ins)) (H : List (List Event)) : Bool := procsOk P H && sysOk P (stsOf P H) (waysOf H P.length) H
structure SB where
  j : Nat
  lp : List (List Ins)
  ls : List State
  lh : List (List Event)
  v0 : AV
  v1 : AV
  v3 : AV
  b0 : Nat
  b1 : Nat
  b3 : Nat
  c0 : Cont
  c1 : Cont
  c3 : Cont
  dd : Bool
def SB.ok (P : List (List Ins)) (H : List (List Event)) (n0 n1 n3 : Nat) (z : SB) : Prop :=
  (z.lp = P.take z.j ∧ z.ls = (stsOf P H).take z.j ∧ z.lh = H.take z.j) ∧
  ((z.j = 0 ∧ (z.v0 = .nl 1 ∧ z.v1 = .nl 4 ∧ z.v3 = .nl 1) ∧ (z.b0 = 0 ∧ z.b1 = 0 ∧ z.b3 = 0) ∧ (z.c0 = .dead ∧ z.c1 = .dead ∧ z.c3 = .dead)) ∨
   (0 < z.j ∧ (z.v0 = .h n0 z.b0 0 [] 1 0 z.lp.length ∧ z.v1 = .h n1 z.b1 0 [] 4 0 z.ls.length ∧ z.v3 = .h n3 z.b3 0 [] 1 0 z.lh.length) ∧ (z.c0 = tInsSS9 z.lp ∧ z.c1 = tStateS9 z.ls ∧ z.c3 = tEventSS9 z.lh)))
theorem stsOf_len (P : List (List Ins)) (H : List (List Event)) : (stsOf P H).length = P.length := by simp [stsOf]
theorem stsOf_rd {P : List (List Ins)} {H : List (List Event)} {p : Nat} (hp : p < P.length) : rd (stsOf P H) p = stOf (replayAll (rd P p) (rd H p)) := rd_range _ hp
theorem waysOf_len (H : List (List Event)) (n : Nat) : (waysOf H n).length = n * n := by simp [waysOf]
theorem ofB {P : List (List Ins)} {H : List (List Event)} (hn1 : 1 ≤ P.length) (hp : P.length ≤ 4) (hh : H.length = P.length) (hx : ∀ j : Nat, j < P.length → (rd P j).length ≤ 1000000000) (hy : ∀ j : Nat, j < H.length → (rd H j).length ≤ 1000000000) (h : procsOk P H = true) :
    SysB 10000000000 P (stsOf P H) (waysOf H P.length) H := by
  have hnn : P.length * P.length ≤ 4 * 4 := Nat.mul_le_mul hp hp
  refine ⟨by omega, fun j hj => by have := hx j hj; omega, by rw [stsOf_len]; omega, fun j hj => ?_, by rw [waysOf_len]; omega, fun j hj => ?_, by omega, fun j hj => by have := hy j hj; omega⟩
  · rw [stsOf_len] at hj
    rw [stsOf_rd hj]
    have h1 := allBelow_eq.1 h j hj
    rw [Bool.and_eq_true] at h1
    have h2 := replay_take h1.1 (rd H j).length
    rw [List.take_length] at h2
    have h3 := h2.2.regs
    have h4 := h2.2.out
    omega
  · rw [waysOf_len] at hj
    have hm : j / P.length < H.length := by rw [hh]; exact Nat.div_lt_of_lt_mul (by omega)
    have h1 := hy (j / P.length) hm
    have h2 := vals_le (rd H (j / P.length)) 2 (j % P.length : Nat)
    show (rd (waysOf H P.length) j).length ≤ _
    unfold waysOf
    rw [rd_range _ hj]
    simp only [wayOf, leftOf, List.length_map, List.length_drop]
    omega
structure WB where
  a : Nat
  w : List (List Item)
  g : Nat
  d : Bool
structure WI where
  j : Nat
  w : List (List Item)
  g : Nat
  d : Bool
  bb : Nat
set_option maxRecDepth 20000 in
set_option maxHeartbeats 8000000 in
theorem ok_impl_systemOf (k : Nat) (P : List (List Ins)) (H : List (List Event)) (hn1 : 1 ≤ P.length) (hp : P.length ≤ 4) (hh : H.length = P.length) (hx : ∀ j : Nat, j < P.length → (rd P j).length ≤ 1000000000) (hy : ∀ j : Nat, j < H.length → (rd H j).length ≤ 1000000000) :
    callE PR C (k + 12) 185 [.h 1000000 0 0 [] 1 0 P.length, .h 1000001 0 0 [] 1 0 H.length] [tInsSS P, tEventSS H] =
      some (if ofOk P H = true then ⟨.tu [nSys 0 P (stsOf P H) (waysOf H P.length) H, bl true], [tInsSS9 P, tStateS9 (stsOf P H), tItemSS9 (waysOf H P.length), tEventSS9 H], [none, none]⟩ else ⟨.tu [nSys 0 [] [] [] [], bl false], [tInsSS9 [], tStateS9 [], tItemSS9 [], tEventSS9 []], [none, none]⟩) := by
  have hnn : P.length * P.length ≤ 4 * 4 := Nat.mul_le_mul hp hp
  have w1 : IntKind.i64.wrap ((P.length : Int) * (P.length : Int)) = ((P.length * P.length : Nat) : Int) := by
    rw [show (P.length : Int) * (P.length : Int) = ((P.length * P.length : Nat) : Int) by simp]; exact wrap_i64 _ (by omega) (by omega)
  have hTl := waysOf_len H P.length
  have hsl := stsOf_len P H
  (refine fnI [ResultVar.cell 4 42, ResultVar.tmp 5] Tryz.func185 ?_; conv => whnf)
  repeat' ((with_reducible (first | refine sW.eq (w1) ?_|refine st16 ?_|refine fG.split (fun _ => ?_) (fun _ => ?_)|refine fG.bool (fun _ => ?_) (fun _ => ?_)|refine gD 9 [(1, 3), (1, 4)] ?_|refine gD 11 [(1, 6), (1, 7)] ?_|refine gD 24 [(1, 18), (8, 18), (15, 18), (1, 19)] ?_)) <;> (try (conv => whnf)))
  refine loop_rule (ι := SB) (fun z => [(1, .h 1000001 0 0 [] 1 0 H.length), (4, .pt 4 1 0 [] 0 0), (6, i64 P.length), (7, .pt 7 1 0 [] 0 0), (25, .h 1000000 0 0 [] 1 0 P.length), (26, i64 P.length), (27, i64 (z.j : Nat))])
    (fun z => [(1000000, ⟨0, 0, false, tInsSS P⟩), (1000001, ⟨0, 0, false, tEventSS H⟩), (4, ⟨1, 0, false, .box [.nl 1, .nl 4, .nl 1, .nl 1]⟩), (7, ⟨1, 0, z.dd, .box [z.v0, z.v1, .h 23 1 0 [] 1 0 (P.length * P.length), z.v3]⟩), (23, ⟨1, 0, false, tItemSS9 (List.replicate (P.length * P.length) default)⟩), (58, ⟨z.b0, 0, false, z.c0⟩), (64, ⟨z.b1, 0, false, z.c1⟩), (74, ⟨z.b3, 0, false, z.c3⟩)])
    (fun z => P.length - z.j) (fun z => z.j ≤ P.length ∧ (∀ q, q < z.j → ((replayAll (rd P q) (rd H q)).isSome && peersOk (rd H q) P.length) = true) ∧ SB.ok P H 58 64 74 z)
    ⟨0, [], [], [], .nl 1, .nl 4, .nl 1, 0, 0, 0, .dead, .dead, .dead, _⟩ fitOk ⟨Nat.zero_le _, fun q h => absurd h (Nat.not_lt_zero q), ⟨rfl, rfl, rfl⟩, .inl ⟨rfl, ⟨rfl, rfl, rfl⟩, ⟨rfl, rfl, rfl⟩, ⟨rfl, rfl, rfl⟩⟩⟩ (by simp [C]; omega) ?_
  rintro ⟨j, lp, ls, lh, v0, v1, v3, b0, b1, b3, c0, c1, c3, dd⟩ sl ob ⟨hj, hok, ⟨hlp, hls, hlh⟩, hg⟩
  dsimp only at hj hok hlp hls hlh hg
  by_cases hjl : j < P.length
  · have hxj := hx j hjl
    have hyj := hy j (by omega)
    have q1 := fun k => ok_impl_Replay' k (rd P j) (rd H j) (by omega) (by omega)
    have q2 := fun k => ok_impl_peersOk k (rd H j) P.length (by omega) (by omega) (by omega)
    have q3 := fun k => ok_Clone_Ins k (rd P j) (by omega)
    have q4 := fun k => ok_Clone_Event k (rd H j) (by omega)
    have er : rd (stsOf P H) j = stOf (replayAll (rd P j) (rd H j)) := stsOf_rd hjl
    cases hb : ((replayAll (rd P j) (rd H j)).isSome && peersOk (rd H j) P.length) with
    | false =>
      have e0 : ofOk P H = false := by
        unfold ofOk procsOk
        rw [allBelow_no (f := fun p => (replayAll (rd P p) (rd H p)).isSome && peersOk (rd H p) P.length) hjl hb, Bool.false_and]
      rw [e0]
      cases hb1 : (replayAll (rd P j) (rd H j)).isSome with
      | false =>
        simp only [hb1] at q1
        rcases hg with ⟨e1, ⟨f1, f2, f3⟩, ⟨f4, f5, f6⟩, ⟨f7, f8, f9⟩⟩ | ⟨h0, ⟨f1, f2, f3⟩, ⟨f7, f8, f9⟩⟩
        all_goals subst f1 f2 f3 f7 f8 f9
        all_goals (try dsimp only [cond_true, cond_false])
        all_goals (conv => whnf)
        all_goals repeat' ((with_reducible (first | refine sCall.of (q1 _) ?_|refine st16 ?_|refine fG.split (fun _ => ?_) (fun _ => ?_)|refine fG.bool (fun _ => ?_) (fun _ => ?_)|refine gD 9 [(1, 3), (1, 4)] ?_|refine gD 11 [(1, 6), (1, 7)] ?_|refine gD 24 [(1, 18), (8, 18), (15, 18), (1, 19)] ?_)) <;> (try (conv => whnf)))
        all_goals rfl
      | true =>
        rw [hb1, Bool.true_and] at hb
        simp only [hb1] at q1
        simp only [hb] at q2
        rcases hg with ⟨e1, ⟨f1, f2, f3⟩, ⟨f4, f5, f6⟩, ⟨f7, f8, f9⟩⟩ | ⟨h0, ⟨f1, f2, f3⟩, ⟨f7, f8, f9⟩⟩
        all_goals subst f1 f2 f3 f7 f8 f9
        all_goals (try dsimp only [cond_true, cond_false])
        all_goals (conv => whnf)
        all_goals repeat' ((with_reducible (first | refine sCall.of (q1 _) ?_|refine sCall.of (q2 _) ?_|refine st16 ?_|refine fG.split (fun _ => ?_) (fun _ => ?_)|refine fG.bool (fun _ => ?_) (fun _ => ?_)|refine gD 9 [(1, 3), (1, 4)] ?_|refine gD 11 [(1, 6), (1, 7)] ?_|refine gD 24 [(1, 18), (8, 18), (15, 18), (1, 19)] ?_)) <;> (try (conv => whnf)))
        all_goals rfl
    | true =>
      rw [Bool.and_eq_true] at hb
      simp only [hb.1] at q1
      simp only [hb.2] at q2
      rw [← er] at q1
      have hok' : ∀ q, q < j + 1 → ((replayAll (rd P q) (rd H q)).isSome && peersOk (rd H q) P.length) = true := fun q hq => by
        rcases Nat.lt_succ_iff_lt_or_eq.1 hq with h | h
        · exact hok q h
        · rw [h, hb.1, hb.2]; rfl
      have hst := (hb.1)
      rcases hg with ⟨e1, ⟨f1, f2, f3⟩, ⟨f4, f5, f6⟩, ⟨f7, f8, f9⟩⟩ | ⟨h0, ⟨f1, f2, f3⟩, ⟨f7, f8, f9⟩⟩
      · subst e1 f1 f2 f3 f4 f5 f6 f7 f8 f9 hlp hls hlh
        (try dsimp only [cond_true, cond_false])
        (conv => whnf)
        repeat' ((with_reducible (first | refine sCall.of (q1 _) ?_|refine sCall.of (q2 _) ?_|refine sCall.of (q3 _) ?_|refine sCall.of (q4 _) ?_|refine st16 ?_|refine fG.split (fun _ => ?_) (fun _ => ?_)|refine fG.bool (fun _ => ?_) (fun _ => ?_)|refine gD 9 [(1, 3), (1, 4)] ?_|refine gD 11 [(1, 6), (1, 7)] ?_|refine gD 24 [(1, 18), (8, 18), (15, 18), (1, 19)] ?_)) <;> (try (conv => whnf)))
        refine ⟨⟨⟨0 + 1, [rd P 0], [rd (stsOf P H) 0], [rd H 0], _, _, _, _, _, _, _, _, _, _⟩, fitOk, ?_, ?_⟩⟩
        · exact ⟨by show 0 + 1 ≤ _; omega, hok', ⟨by show _ = P.take (0 + 1); rw [take_rd hjl]; rfl, by show _ = (stsOf P H).take (0 + 1); rw [take_rd (by omega)]; rfl, by show _ = H.take (0 + 1); rw [take_rd (by omega)]; rfl⟩, .inr ⟨Nat.one_pos, ⟨rfl, rfl, rfl⟩, ⟨rfl, rfl, rfl⟩⟩⟩
        · show P.length - (0 + 1) < P.length - 0; omega
      · have l0 : lp.length = j := by rw [hlp]; simp; omega
        have l1 : ls.length = j := by rw [hls]; simp; omega
        have l3 : lh.length = j := by rw [hlh]; simp; omega
        subst f1 f2 f3 f7 f8 f9
        (try dsimp only [cond_true, cond_false])
        (conv => whnf)
        repeat' ((with_reducible (first | refine sCall.of (q1 _) ?_|refine sCall.of (q2 _) ?_|refine sCall.of (q3 _) ?_|refine sCall.of (q4 _) ?_|refine st16 ?_|refine fG.split (fun _ => ?_) (fun _ => ?_)|refine fG.bool (fun _ => ?_) (fun _ => ?_)|refine gD 9 [(1, 3), (1, 4)] ?_|refine gD 11 [(1, 6), (1, 7)] ?_|refine gD 24 [(1, 18), (8, 18), (15, 18), (1, 19)] ?_)) <;> (try (conv => whnf)))
        refine ⟨⟨⟨j + 1, lp ++ [rd P j], ls ++ [rd (stsOf P H) j], lh ++ [rd H j], _, _, _, _, _, _, _, _, _, _⟩, fitOk, ?_, ?_⟩⟩
        · exact ⟨by show j + 1 ≤ _; omega, hok', ⟨by show _ = P.take (j + 1); rw [take_rd hjl, hlp], by show _ = (stsOf P H).take (j + 1); rw [take_rd (by omega), hls], by show _ = H.take (j + 1); rw [take_rd (by omega), hlh]⟩, .inr ⟨Nat.succ_pos j, ⟨rfl, rfl, rfl⟩, ⟨rfl, rfl, rfl⟩⟩⟩
        · show P.length - (j + 1) < P.length - j; omega
  · have hpo : procsOk P H = true := allBelow_yes fun q hq => hok q (by omega)
    rw [List.take_of_length_le (by omega)] at hlp hls hlh
    rcases hg with ⟨e1, ⟨f1, f2, f3⟩, ⟨f4, f5, f6⟩, ⟨f7, f8, f9⟩⟩ | ⟨h0, ⟨f1, f2, f3⟩, ⟨f7, f8, f9⟩⟩
    · exfalso; omega
    · rw [hlp] at f1 f7
      rw [hls] at f2 f8
      rw [hlh] at f3 f9
      subst f1 f2 f3 f7 f8 f9
      clear hlp hls hlh hok
      (try dsimp only [cond_true, cond_false])
      (conv => whnf)
      repeat' ((with_reducible (first | refine st16 ?_|refine fG.split (fun _ => ?_) (fun _ => ?_)|refine fG.bool (fun _ => ?_) (fun _ => ?_)|refine gD 9 [(1, 3), (1, 4)] ?_|refine gD 11 [(1, 6), (1, 7)] ?_|refine gD 24 [(1, 18), (8, 18), (15, 18), (1, 19)] ?_)) <;> (try (conv => whnf)))
      refine loop_rule (ι := WB) (fun z => [(4, .pt 4 1 0 [] 0 0), (6, i64 P.length), (7, .pt 7 1 0 [] 0 0), (77, i64 P.length), (78, i64 (z.a : Nat))])
        (fun z => [(1000000, ⟨0, 0, false, tInsSS P⟩), (1000001, ⟨0, 0, false, tEventSS H⟩), (4, ⟨1, 0, false, .box [.nl 1, .nl 4, .nl 1, .nl 1]⟩), (7, ⟨1, 0, dd, .box [.h 58 b0 0 [] 1 0 P.length, .h 64 b1 0 [] 4 0 (stsOf P H).length, .h 23 1 0 [] 1 0 (P.length * P.length), .h 74 b3 0 [] 1 0 H.length]⟩), (23, ⟨1, z.g, z.d, tItemSS9 z.w⟩), (58, ⟨b0, 0, false, tInsSS9 P⟩), (64, ⟨b1, 0, false, tStateS9 (stsOf P H)⟩), (74, ⟨b3, 0, false, tEventSS9 H⟩)])
        (fun z => P.length - z.a) (fun z => z.a ≤ P.length ∧ z.w = fill (waysOf H P.length) (z.a * P.length)) ⟨0, List.replicate (P.length * P.length) default, _, _⟩ fitOk ⟨Nat.zero_le _, by show _ = fill _ (0 * P.length); rw [Nat.zero_mul, fill_zero, hTl]⟩ (by simp [C]; omega) ?_
      clear sl ob
      rintro ⟨a, w, g, d⟩ sl ob ⟨ha, hw⟩
      dsimp only at ha hw
      (try dsimp only [cond_true, cond_false])
      (conv => whnf)
      by_cases hal : a < P.length
      · repeat' ((with_reducible (first | refine st16 ?_|refine fG.split (fun _ => ?_) (fun _ => ?_)|refine fG.bool (fun _ => ?_) (fun _ => ?_)|refine gD 9 [(1, 3), (1, 4)] ?_|refine gD 11 [(1, 6), (1, 7)] ?_|refine gD 24 [(1, 18), (8, 18), (15, 18), (1, 19)] ?_)) <;> (try (conv => whnf)))
        refine loop_rule (ι := WB) (fun z => [(4, .pt 4 1 0 [] 0 0), (6, i64 P.length), (7, .pt 7 1 0 [] 0 0), (12, i64 (a : Nat)), (77, i64 P.length), (78, i64 (a : Nat)), (81, i64 P.length), (82, i64 (z.a : Nat))])
          (fun z => [(1000000, ⟨0, 0, false, tInsSS P⟩), (1000001, ⟨0, 0, false, tEventSS H⟩), (4, ⟨1, 0, false, .box [.nl 1, .nl 4, .nl 1, .nl 1]⟩), (7, ⟨1, 0, dd, .box [.h 58 b0 0 [] 1 0 P.length, .h 64 b1 0 [] 4 0 (stsOf P H).length, .h 23 1 0 [] 1 0 (P.length * P.length), .h 74 b3 0 [] 1 0 H.length]⟩), (23, ⟨1, z.g, z.d, tItemSS9 z.w⟩), (58, ⟨b0, 0, false, tInsSS9 P⟩), (64, ⟨b1, 0, false, tStateS9 (stsOf P H)⟩), (74, ⟨b3, 0, false, tEventSS9 H⟩)])
          (fun z => P.length - z.a) (fun z => z.a ≤ P.length ∧ z.w = fill (waysOf H P.length) (a * P.length + z.a)) ⟨0, w, _, _⟩ fitOk ⟨Nat.zero_le _, hw⟩ (by simp [C]; omega) ?_
        clear sl ob hw w g d
        rintro ⟨b, w, g, d⟩ sl ob ⟨hb, hw⟩
        dsimp only at hb hw
        (try dsimp only [cond_true, cond_false])
        (conv => whnf)
        by_cases hbl : b < P.length
        · have hya := hy a (by omega)
          have hyb := hy b (by omega)
          have hva := vals_le (rd H a) 2 b
          have hcb := vals_le (rd H b) 3 a
          have q5 := fun k => ok_impl_Values k (rd H a) 2 b (by omega)
          have q6 := fun k => ok_impl_Count k (rd H b) 3 a (by omega)
          have hL : leftOf H a b = (vals (rd H a) 2 b).drop (min (cnt (rd H b) 3 a) (vals (rd H a) 2 b).length) := drop_min _ _
          have hcnt : cnt (rd H b) 3 a = (vals (rd H b) 3 a).length := rfl
          have hmin : (if ((vals (rd H a) 2 b).length : Int) < (cnt (rd H b) 3 a : Int) then ((vals (rd H a) 2 b).length : Int) else (cnt (rd H b) 3 a : Int)) = ((min (cnt (rd H b) 3 a) (vals (rd H a) 2 b).length : Nat) : Int) := by
            split <;> omega
          have htl : min (cnt (rd H b) 3 a) (vals (rd H a) 2 b).length ≤ (vals (rd H a) 2 b).length := Nat.min_le_right _ _
          generalize vals (rd H a) 2 b = sent at *
          generalize cnt (rd H b) 3 a = took at *
          generalize min took sent.length = tk at *
          have hpl := place_lt hal hbl
          have hT : rd (waysOf H P.length) (a * P.length + b) = wayOf (leftOf H a b) := rd_waysOf hal hbl
          have wm : IntKind.i64.wrap ((a : Int) * (P.length : Int)) = ((a * P.length : Nat) : Int) := by
            rw [show (a : Int) * (P.length : Int) = ((a * P.length : Nat) : Int) by simp]; exact wrap_i64 _ (by omega) (by omega)
          have wa : IntKind.i64.wrap (((a * P.length : Nat) : Int) + (b : Int)) = ((a * P.length + b : Nat) : Int) := by rw [wrap_i64 _ (by omega) (by omega)]; simp
          generalize ham : a * P.length = am at *
          generalize hix : am + b = ix at *
          repeat' ((with_reducible (first | refine sCall.of (q5 _) ?_|refine sCall.of (q6 _) ?_|refine sZ.eq (hmin) ?_|refine st16 ?_|refine fG.split (fun _ => ?_) (fun _ => ?_)|refine fG.bool (fun _ => ?_) (fun _ => ?_)|refine gD 9 [(1, 3), (1, 4)] ?_|refine gD 11 [(1, 6), (1, 7)] ?_|refine gD 24 [(1, 18), (8, 18), (15, 18), (1, 19)] ?_)) <;> (try (conv => whnf)))
          refine loop_rule (ι := WI) (fun z => [(4, .pt 4 1 0 [] 0 0), (6, i64 P.length), (7, .pt 7 1 0 [] 0 0), (12, i64 (a : Nat)), (13, i64 (b : Nat)), (77, i64 P.length), (78, i64 (a : Nat)), (81, i64 P.length), (82, i64 (b : Nat)), (104, .h 10091 z.bb 0 [] 1 tk (sent.length - tk)), (105, i64 (sent.length - tk : Nat)), (106, i64 (z.j : Nat))])
            (fun z => [(1000000, ⟨0, 0, false, tInsSS P⟩), (1000001, ⟨0, 0, false, tEventSS H⟩), (4, ⟨1, 0, false, .box [.nl 1, .nl 4, .nl 1, .nl 1]⟩), (7, ⟨1, 0, dd, .box [.h 58 b0 0 [] 1 0 P.length, .h 64 b1 0 [] 4 0 (stsOf P H).length, .h 23 1 0 [] 1 0 (P.length * P.length), .h 74 b3 0 [] 1 0 H.length]⟩), (23, ⟨1, z.g, z.d, tItemSS9 z.w⟩), (58, ⟨b0, 0, false, tInsSS9 P⟩), (64, ⟨b1, 0, false, tStateS9 (stsOf P H)⟩), (74, ⟨b3, 0, false, tEventSS9 H⟩), (10091, ⟨z.bb, 0, false, tI9 sent⟩)])
            (fun z => sent.length - tk - z.j) (fun z => z.j ≤ sent.length - tk ∧ z.w = (fill (waysOf H P.length) ix).set ix (wayOf ((leftOf H a b).take z.j))) ⟨0, w, _, _, _⟩ fitOk ⟨Nat.zero_le _, by show w = (fill _ ix).set ix default; rw [fill_self _ _ (by omega)]; exact hw⟩ (by simp [C]; omega) ?_
          clear sl ob hw w g d
          rintro ⟨j, w, g, d, bb⟩ sl ob ⟨hj, hw⟩
          dsimp only at hj hw
          have hwl : w.length = P.length * P.length := by rw [hw, List.length_set, fill_len, hTl]
          have hll : (leftOf H a b).length = sent.length - tk := by rw [hL, List.length_drop]
          (try dsimp only [cond_true, cond_false])
          (conv => whnf)
          by_cases hjl : j < sent.length - tk
          · have hwx : rd w ix = wayOf ((leftOf H a b).take j) := by rw [hw]; simp [rd, fill_len, hTl, hpl]
            have hwxl : (rd w ix).length = j := by rw [hwx]; simp [wayOf]; omega
            have hnx : rd (leftOf H a b) j = rd sent (tk + j) := by rw [hL, rd_drop]
            repeat' ((with_reducible (first | refine sW.eq (wm) ?_|refine sW.eq (wa) ?_|refine gHole ?_|refine st16 ?_|refine fG.split (fun _ => ?_) (fun _ => ?_)|refine fG.bool (fun _ => ?_) (fun _ => ?_)|refine gD 9 [(1, 3), (1, 4)] ?_|refine gD 11 [(1, 6), (1, 7)] ?_|refine gD 24 [(1, 18), (8, 18), (15, 18), (1, 19)] ?_)) <;> (try (conv => whnf)))
            refine ⟨⟨⟨j + 1, w.set ix (rd w ix ++ [⟨false, rd sent (tk + j)⟩]), _, _, _⟩, fitOk, ?_, ?_⟩⟩
            · exact ⟨by show j + 1 ≤ _; omega, by show w.set ix _ = _; rw [hwx, hw, List.set_set, take_rd (by omega), hnx]; simp [wayOf]⟩
            · show sent.length - tk - (j + 1) < sent.length - tk - j; omega
          · repeat' ((with_reducible (first | refine st16 ?_|refine fG.split (fun _ => ?_) (fun _ => ?_)|refine fG.bool (fun _ => ?_) (fun _ => ?_)|refine gD 9 [(1, 3), (1, 4)] ?_|refine gD 11 [(1, 6), (1, 7)] ?_|refine gD 24 [(1, 18), (8, 18), (15, 18), (1, 19)] ?_)) <;> (try (conv => whnf)))
            refine ⟨⟨⟨b + 1, w, _, _⟩, fitOk, ?_, ?_⟩⟩
            · refine ⟨by show b + 1 ≤ _; omega, ?_⟩
              show w = fill _ (am + (b + 1))
              rw [hw, List.take_of_length_le (by omega), ← hT, fill_set _ _ (by omega), ← Nat.add_assoc, hix]
            · show P.length - (b + 1) < P.length - b; omega
        · repeat' ((with_reducible (first | refine st16 ?_|refine fG.split (fun _ => ?_) (fun _ => ?_)|refine fG.bool (fun _ => ?_) (fun _ => ?_)|refine gD 9 [(1, 3), (1, 4)] ?_|refine gD 11 [(1, 6), (1, 7)] ?_|refine gD 24 [(1, 18), (8, 18), (15, 18), (1, 19)] ?_)) <;> (try (conv => whnf)))
          refine ⟨⟨⟨a + 1, w, _, _⟩, fitOk, ?_, ?_⟩⟩
          · exact ⟨by show a + 1 ≤ _; omega, by show w = fill _ ((a + 1) * P.length); rw [hw, Nat.add_mul, Nat.one_mul, show b = P.length by omega]⟩
          · show P.length - (a + 1) < P.length - a; omega
      · have hwT : w = waysOf H P.length := by rw [hw, show a = P.length by omega, ← hTl, fill_all]
        subst hwT
        have et : List.take (P.length * P.length) (waysOf H P.length) = waysOf H P.length := List.take_of_length_le (by omega)
        have q7 : ∀ k, callE PR C (k + 11) 66 [.ag [.h 1000000 0 0 [] 1 0 P.length, .h 1000001 0 0 [] 4 0 (stsOf P H).length, .h 1000002 0 0 [] 1 0 (List.take (P.length * P.length) (waysOf H P.length)).length, .h 1000003 0 0 [] 1 0 H.length]] [tInsSS P, tStateS (stsOf P H), tItemSS (List.take (P.length * P.length) (waysOf H P.length)), tEventSS H] = some ⟨bl (sysOk P (stsOf P H) (waysOf H P.length) H), [], [none, none, none, none]⟩ := by
          intro k
          rw [et]
          exact ok_impl_SysOk k P (stsOf P H) (waysOf H P.length) H (ofB hn1 hp hh hx hy hpo)
        have e0 : ofOk P H = sysOk P (stsOf P H) (waysOf H P.length) H := by unfold ofOk; rw [hpo, Bool.true_and]
        rw [e0]
        cases e : sysOk P (stsOf P H) (waysOf H P.length) H with
        | false =>
          simp only [e] at q7
          repeat' ((with_reducible (first | refine sCall.of (q7 _) ?_|refine st16 ?_|refine fG.split (fun _ => ?_) (fun _ => ?_)|refine fG.bool (fun _ => ?_) (fun _ => ?_)|refine gD 9 [(1, 3), (1, 4)] ?_|refine gD 11 [(1, 6), (1, 7)] ?_|refine gD 24 [(1, 18), (8, 18), (15, 18), (1, 19)] ?_)) <;> (try (conv => whnf)))
          all_goals rfl
        | true =>
          simp only [e] at q7
          repeat' ((with_reducible (first | refine sCall.of (q7 _) ?_|refine st16 ?_|refine fG.split (fun _ => ?_) (fun _ => ?_)|refine fG.bool (fun _ => ?_) (fun _ => ?_)|refine gD 9 [(1, 3), (1, 4)] ?_|refine gD 11 [(1, 6), (1, 7)] ?_|refine gD 24 [(1, 18), (8, 18), (15, 18), (1, 19)] ?_)) <;> (try (conv => whnf)))
          simp only [et, if_true, nSys, hTl] <;> rfl

end Go.Proofs.YtlobpiebphnkiaaGreat.Abs
namespace Go.Proofs.YtlobpiebphnkiaaGreat.Abs
open Go Go.Proofs
set_option linter.unusedVariables false
set_option linter.unusedSimpArgs false
attribute [local irreducible] callE
theorem cut_ofOk {P : List (List Ins)} {S : List State} {W : List (List Item)} {H : List (List Event)} {c : List Int} (h : sysOk P S W H = true) (hc : FOk H c) (hw : wholeB H c = true) : ofOk P (cutH H c) = waysFit (cutH H c) P.length := by
  unfold ofOk
  rw [cut_sysOk h hc hw]
  simp only [sysOk, sizesOk, inB, Bool.and_eq_true, decide_eq_true_eq, allBelow_eq] at h
  obtain ⟨⟨a1, a2, a3, a4⟩, b1, b2, b3, b4⟩ := h
  have : procsOk P (cutH H c) = true := by
    unfold procsOk
    rw [allBelow_eq]
    intro p hp
    have h1 := b2 p hp
    simp only [procOk, Bool.and_eq_true, stoodAs] at h1 ⊢
    rw [rd_cutH (by omega)]
    refine ⟨replayAll_cut h1.2.2.1 _, ?_⟩
    have h2 := h1.2.1
    simp only [peersOk, List.all_eq_true] at h2 ⊢
    intro e he
    exact h2 e (List.mem_of_mem_take he)
  rw [this, Bool.true_and]
def zeroRes (b : List (Option Cont)) : Res := ⟨.tu [nSys 0 [] [] [] [], bl false], [tInsSS9 [], tStateS9 [], tItemSS9 [], tEventSS9 []], b⟩
def atRes (P : List (List Ins)) (H : List (List Event)) (b : List (Option Cont)) : Res := ⟨.tu [nSys 0 P (stsOf P H) (waysOf H P.length) H, bl true], [tInsSS9 P, tStateS9 (stsOf P H), tItemSS9 (waysOf H P.length), tEventSS9 H], b⟩
structure AT where
  j : Nat
  l : List (List Event)
  o : Nat
  b : Nat
  lv : Nat
set_option maxHeartbeats 4000000 in
theorem ok_impl_At (k : Nat) (P : List (List Ins)) (S : List State) (W : List (List Item)) (H : List (List Event)) (c : List Int) (hb : SysB 1000000000 P S W H) (e : sysOk P S W H = true) (hc : FOk H c) :
    callE PR C (k + 14) 96 [aSys 0 P S W H, .h 1000004 0 0 [] 1 0 c.length] [tInsSS P, tStateS S, tItemSS W, tEventSS H, tI c] =
      some (if wholeB H c = true ∧ waysFit (cutH H c) P.length = true then atRes P (cutH H c) [none, none, none, none, none] else zeroRes [none, none, none, none, none]) := by
  have q1 := fun k => ok_impl_Whole k P S W H c (hb.mono (by decide)) e hc
  cases hw : wholeB H c with
  | false =>
    simp only [hw] at q1
    rw [if_neg (by simp)]
    (refine fnI [ResultVar.cell 4 42, ResultVar.tmp 5] Tryz.func96 ?_; conv => whnf)
    repeat' ((with_reducible (first | refine sCall.of (q1 _) ?_|refine st16 ?_|refine fG.split (fun _ => ?_) (fun _ => ?_)|refine fG.bool (fun _ => ?_) (fun _ => ?_))) <;> (try (conv => whnf)))
    all_goals rfl
  | true =>
    simp only [hw] at q1
    obtain ⟨hI, hP, hS, h200⟩ := sysOk_facts e
    have hN := hI.n
    have hHl := hI.h
    have hcl := hc.len
    have hcut := cutH_len H c
    have q2 := fun k => ok_impl_systemOf k P (cutH H c) hN.1 hN.2 (by omega) (fun j hj => hb.pp j hj) (fun j hj => by
      rw [cutH_len] at hj
      rw [rd_cutH hj, List.length_take]
      have := h200 j hj
      omega)
    rw [cut_ofOk e hc hw] at q2
    (refine fnI [ResultVar.cell 4 42, ResultVar.tmp 5] Tryz.func96 ?_; conv => whnf)
    repeat' ((with_reducible (first | refine sCall.of (q1 _) ?_|refine st16 ?_|refine fG.split (fun _ => ?_) (fun _ => ?_)|refine fG.bool (fun _ => ?_) (fun _ => ?_))) <;> (try (conv => whnf)))
    refine loop_rule (ι := AT) (fun z => [(2, .pt 2 1 0 [] 0 0), (4, .pt 4 1 0 [] 0 0), (6, .h z.o z.b 0 [] 1 0 z.l.length), (15, .h 1000004 0 0 [] 1 0 c.length), (16, i64 c.length), (17, i64 (z.j : Nat))])
      (fun z => [(1000000, ⟨0, 0, false, tInsSS P⟩), (1000001, ⟨0, 0, false, tStateS S⟩), (1000002, ⟨0, 0, false, tItemSS W⟩), (1000003, ⟨0, 0, false, tEventSS H⟩), (1000004, ⟨0, 0, false, tI c⟩), (2, ⟨1, 0, false, bSys P S W H⟩), (4, ⟨1, 0, false, .box [.nl 1, .nl 4, .nl 1, .nl 1]⟩), (z.o, ⟨z.b, 0, false, .tree z.lv (.sl 1 (z.l.map rEventL))⟩)])
      (fun z => c.length - z.j) (fun z => z.j ≤ c.length ∧ z.l = (cutH H c).take z.j ∧ (z.o = 14 ∧ z.lv = 9 ∨ z.o = 31 ∧ z.lv = 1)) ⟨0, [], 14, _, 9⟩ fitOk ⟨Nat.zero_le _, rfl, .inl ⟨rfl, rfl⟩⟩ (by simp [C]; omega) ?_
    clear q1
    rintro ⟨j, out, o, b, lv⟩ sl ob ⟨hj, hout, ho⟩
    dsimp only at hj hout ho
    have hle : out.length ≤ H.length := by rw [hout]; simp; omega
    by_cases hjl : j < c.length
    · have hr := hc.rng j (by omega)
      have hlj := h200 j (by omega)
      have e4 : (List.map rEvent (rd H j)).length = (rd H j).length := by simp
      rcases ho with ⟨rfl, rfl⟩ | ⟨rfl, rfl⟩
      all_goals (try dsimp only [cond_true, cond_false])
      all_goals (conv => whnf)
      all_goals repeat' ((with_reducible (first | refine st16 ?_|refine fG.split (fun _ => ?_) (fun _ => ?_)|refine fG.bool (fun _ => ?_) (fun _ => ?_))) <;> (try (conv => whnf)))
      all_goals
        refine ⟨⟨⟨j + 1, out ++ [(rd H j).take (rd c j).toNat], 31, _, 1⟩, fitOk, ?_, ?_⟩⟩
        · exact ⟨by show j + 1 ≤ _; omega, by show _ = (cutH H c).take (j + 1); rw [take_rd (by omega), hout, rd_cutH (by omega)], .inr ⟨rfl, rfl⟩⟩
        · show c.length - (j + 1) < c.length - j; omega
    · rw [List.take_of_length_le (by omega)] at hout
      subst hout
      cases hf : waysFit (cutH H c) P.length
      all_goals simp only [hf, if_true, Bool.false_eq_true, if_false, and_false, and_self] at q2 ⊢
      all_goals rcases ho with ⟨rfl, rfl⟩ | ⟨rfl, rfl⟩
      all_goals (try dsimp only [cond_true, cond_false])
      all_goals (conv => whnf)
      all_goals repeat' ((with_reducible (first | refine sCall.of (q2 _) ?_|refine st16 ?_|refine fG.split (fun _ => ?_) (fun _ => ?_)|refine fG.bool (fun _ => ?_) (fun _ => ?_))) <;> (try (conv => whnf)))
      all_goals rfl

theorem waysFit_no {H : List (List Event)} {n a b : Nat} (ha : a < n) (hb : b < n) (h : ¬ (leftOf H a b).length ≤ 12) : waysFit H n = false :=
  allBelow_no (f := fun a => allBelow n fun b => decide ((leftOf H a b).length ≤ 12)) ha (allBelow_no (f := fun b => decide ((leftOf H a b).length ≤ 12)) hb (decide_eq_false h))
theorem waysFit_yes {H : List (List Event)} {n : Nat} (h : ∀ a, a < n → ∀ b, b < n → (leftOf H a b).length ≤ 12) : waysFit H n = true :=
  allBelow_yes fun a ha => allBelow_yes fun b hb => decide_eq_true (h a ha b hb)
set_option maxRecDepth 20000 in
set_option maxHeartbeats 8000000 in
theorem ok_spec_l8At (k : Nat) (P : List (List Ins)) (S : List State) (W : List (List Item)) (H : List (List Event)) (c : List Int) (hb : SysB 1000000000 P S W H) (e : sysOk P S W H = true) (hc : FOk H c) (hw : wholeB H c = true) :
    callE PR C (k + 8) 94 [aSys 0 P S W H, .h 1000004 0 0 [] 1 0 c.length] [tInsSS P, tStateS S, tItemSS W, tEventSS H, tI c] =
      some (if waysFit (cutH H c) P.length = true then atRes P (cutH H c) [none, none, none, none, none] else zeroRes [none, none, none, none, none]) := by
  obtain ⟨hI, hP, hS, h200⟩ := sysOk_facts e
  have hN := hI.n
  have hHl := hI.h
  have hcl := hc.len
  have hcut := cutH_len H c
  have hnn : P.length * P.length ≤ 4 * 4 := Nat.mul_le_mul hN.2 hN.2
  have w1 : IntKind.i64.wrap ((P.length : Int) * (P.length : Int)) = ((P.length * P.length : Nat) : Int) := by
    rw [show (P.length : Int) * (P.length : Int) = ((P.length * P.length : Nat) : Int) by simp]; exact wrap_i64 _ (by omega) (by omega)
  have hTl := waysOf_len (cutH H c) P.length
  have hsl := stsOf_len P (cutH H c)
  have q0 := fun k => ok_spec_l4Ins k P (by omega) (fun j hj => by have := hb.pp j hj; omega)
  have hwh : ∀ a b, a < P.length → b < P.length → (vals (rd (cutH H c) b) 3 a).length ≤ (vals (rd (cutH H c) a) 2 b).length := fun a b ha hb => by
    have := wholeB_eq.1 hw a b (by omega) (by omega)
    rw [rd_cutH (by omega), rd_cutH (by omega)]
    exact this
  have h2c : ∀ j : Nat, j < P.length → (rd (cutH H c) j).length ≤ 200 := fun j hj => by
    rw [rd_cutH (by omega), List.length_take]
    have := h200 j (by omega)
    omega
  (refine fnI [ResultVar.cell 4 42, ResultVar.tmp 5] Tryz.func94 ?_; conv => whnf)
  repeat' ((with_reducible (first | refine sCall.of (q0 _) ?_|refine sW.eq (w1) ?_|refine st16 ?_|refine fG.split (fun _ => ?_) (fun _ => ?_)|refine fG.bool (fun _ => ?_) (fun _ => ?_)|refine gD 2 [(1, 6), (2, 6), (1, 8), (2, 8), (6, 8)] ?_|refine gD 6 [(0, 2), (0, 5), (0, 9)] ?_|refine gD 21 [(1, 21), (8, 21), (15, 21), (1, 22)] ?_)) <;> (try (conv => whnf)))
  refine loop_rule (ι := SB) (fun z => [(1, .h 1000004 0 0 [] 1 0 c.length), (2, .pt 2 1 0 [] 0 0), (4, .pt 4 1 0 [] 0 0), (6, i64 P.length), (7, .pt 7 1 0 [] 0 0), (8, i64 (z.j : Nat))])
    (fun z => [(1000000, ⟨0, 0, false, tInsSS P⟩), (1000001, ⟨0, 0, false, tStateS S⟩), (1000002, ⟨0, 0, false, tItemSS W⟩), (1000003, ⟨0, 0, false, tEventSS H⟩), (1000004, ⟨0, 0, false, tI c⟩), (2, ⟨1, 0, false, bSys P S W H⟩), (4, ⟨1, 0, false, .box [.nl 1, .nl 4, .nl 1, .nl 1]⟩), (7, ⟨1, 0, z.dd, .box [.h 10022 1 0 [] 1 0 P.length, z.v1, .h 26 1 0 [] 1 0 (P.length * P.length), z.v3]⟩), (10022, ⟨1, 0, false, tInsSS9 P⟩), (26, ⟨1, 0, false, tItemSS9 (List.replicate (P.length * P.length) default)⟩), (65, ⟨z.b1, 0, false, z.c1⟩), (59, ⟨z.b3, 0, false, z.c3⟩)])
    (fun z => P.length - z.j) (fun z => z.j ≤ P.length ∧ SB.ok P (cutH H c) 58 65 59 z)
    ⟨0, [], [], [], .nl 1, .nl 4, .nl 1, 0, 0, 0, .dead, .dead, .dead, _⟩ fitOk ⟨Nat.zero_le _, ⟨rfl, rfl, rfl⟩, .inl ⟨rfl, ⟨rfl, rfl, rfl⟩, ⟨rfl, rfl, rfl⟩, ⟨rfl, rfl, rfl⟩⟩⟩ (by simp [C]; omega) ?_
  rintro ⟨j, lp, ls, lh, v0, v1, v3, b0, b1, b3, c0, c1, c3, dd⟩ sl ob ⟨hj, ⟨hlp, hls, hlh⟩, hg⟩
  dsimp only at hj hlp hls hlh hg
  by_cases hjl : j < P.length
  · have hxj := hb.pp j hjl
    have hyj := h200 j (by omega)
    have hr := hc.rng j (by omega)
    have e4 : (List.map rEvent (rd H j)).length = (rd H j).length := by simp
    have e5 : (List.take (rd c j).toNat (rd H j)).length ≤ (rd H j).length := by simp; omega
    have q1 := fun k => ok_spec_Replay' k (rd P j) (rd (cutH H c) j) (by omega) (by have := h2c j hjl; omega)
    have er : rd (stsOf P (cutH H c)) j = stOf (replayAll (rd P j) (rd (cutH H c) j)) := stsOf_rd hjl
    rw [← er] at q1
    rw [rd_cutH (show j < H.length by omega)] at q1
    have ec : (rd H j).take (rd c j).toNat = rd (cutH H c) j := (rd_cutH (by omega)).symm
    rcases hg with ⟨e1, ⟨f1, f2, f3⟩, ⟨f4, f5, f6⟩, ⟨f7, f8, f9⟩⟩ | ⟨h0, ⟨f1, f2, f3⟩, ⟨f7, f8, f9⟩⟩
    · subst e1 f1 f2 f3 f4 f5 f6 f7 f8 f9 hlp hls hlh
      (try dsimp only [cond_true, cond_false])
      (conv => whnf)
      repeat' ((with_reducible (first | refine sCall.of (q1 _) ?_|refine st16 ?_|refine fG.split (fun _ => ?_) (fun _ => ?_)|refine fG.bool (fun _ => ?_) (fun _ => ?_)|refine gD 2 [(1, 6), (2, 6), (1, 8), (2, 8), (6, 8)] ?_|refine gD 6 [(0, 2), (0, 5), (0, 9)] ?_|refine gD 21 [(1, 21), (8, 21), (15, 21), (1, 22)] ?_)) <;> (try (conv => whnf)))
      refine ⟨⟨⟨0 + 1, [rd P 0], [rd (stsOf P (cutH H c)) 0], [(rd H 0).take (rd c 0).toNat], .h 58 0 0 [] 1 0 1, _, _, 0, _, _, tInsSS9 [rd P 0], _, _, _⟩, fitOk, ?_, ?_⟩⟩
      · exact ⟨by show 0 + 1 ≤ _; omega, ⟨by show _ = P.take (0 + 1); rw [take_rd hjl]; rfl, by show _ = (stsOf P (cutH H c)).take (0 + 1); rw [take_rd (by omega)]; rfl, by show _ = (cutH H c).take (0 + 1); rw [take_rd (by omega), ← ec]; rfl⟩, .inr ⟨Nat.one_pos, ⟨rfl, rfl, rfl⟩, ⟨rfl, rfl, rfl⟩⟩⟩
      · show P.length - (0 + 1) < P.length - 0; omega
    · have l1 : ls.length = j := by rw [hls]; simp; omega
      have l3 : lh.length = j := by rw [hlh]; simp; omega
      subst f1 f2 f3 f7 f8 f9
      (try dsimp only [cond_true, cond_false])
      (conv => whnf)
      repeat' ((with_reducible (first | refine sCall.of (q1 _) ?_|refine st16 ?_|refine fG.split (fun _ => ?_) (fun _ => ?_)|refine fG.bool (fun _ => ?_) (fun _ => ?_)|refine gD 2 [(1, 6), (2, 6), (1, 8), (2, 8), (6, 8)] ?_|refine gD 6 [(0, 2), (0, 5), (0, 9)] ?_|refine gD 21 [(1, 21), (8, 21), (15, 21), (1, 22)] ?_)) <;> (try (conv => whnf)))
      refine ⟨⟨⟨j + 1, lp ++ [rd P j], ls ++ [rd (stsOf P (cutH H c)) j], lh ++ [(rd H j).take (rd c j).toNat], .h 58 0 0 [] 1 0 (lp ++ [rd P j]).length, _, _, 0, _, _, tInsSS9 (lp ++ [rd P j]), _, _, _⟩, fitOk, ?_, ?_⟩⟩
      · exact ⟨by show j + 1 ≤ _; omega, ⟨by show _ = P.take (j + 1); rw [take_rd hjl, hlp], by show _ = (stsOf P (cutH H c)).take (j + 1); rw [take_rd (by omega), hls], by show _ = (cutH H c).take (j + 1); rw [take_rd (by omega), hlh, ← ec]⟩, .inr ⟨Nat.succ_pos j, ⟨rfl, rfl, rfl⟩, ⟨rfl, rfl, rfl⟩⟩⟩
      · show P.length - (j + 1) < P.length - j; omega
  · rw [List.take_of_length_le (by omega)] at hls hlh
    rcases hg with ⟨e1, ⟨f1, f2, f3⟩, ⟨f4, f5, f6⟩, ⟨f7, f8, f9⟩⟩ | ⟨h0, ⟨f1, f2, f3⟩, ⟨f7, f8, f9⟩⟩
    · exfalso; omega
    · rw [hls] at f2 f8
      rw [hlh] at f3 f9
      subst f1 f2 f3 f7 f8 f9
      clear hlp hls hlh
      generalize cutH H c = H' at *
      (try dsimp only [cond_true, cond_false])
      (conv => whnf)
      repeat' ((with_reducible (first | refine st16 ?_|refine fG.split (fun _ => ?_) (fun _ => ?_)|refine fG.bool (fun _ => ?_) (fun _ => ?_)|refine gD 2 [(1, 6), (2, 6), (1, 8), (2, 8), (6, 8)] ?_|refine gD 6 [(0, 2), (0, 5), (0, 9)] ?_|refine gD 21 [(1, 21), (8, 21), (15, 21), (1, 22)] ?_)) <;> (try (conv => whnf)))
      refine loop_rule (ι := WB) (fun z => [(4, .pt 4 1 0 [] 0 0), (6, i64 P.length), (7, .pt 7 1 0 [] 0 0), (12, i64 (z.a : Nat))])
        (fun z => [(1000000, ⟨0, 0, false, tInsSS P⟩), (1000001, ⟨0, 0, false, tStateS S⟩), (1000002, ⟨0, 0, false, tItemSS W⟩), (1000003, ⟨0, 0, false, tEventSS H⟩), (1000004, ⟨0, 0, false, tI c⟩), (4, ⟨1, 0, false, .box [.nl 1, .nl 4, .nl 1, .nl 1]⟩), (7, ⟨1, 0, dd, .box [.h 10022 1 0 [] 1 0 P.length, .h 65 b1 0 [] 4 0 (stsOf P H').length, .h 26 1 0 [] 1 0 (P.length * P.length), .h 59 b3 0 [] 1 0 H'.length]⟩), (10022, ⟨1, 0, false, tInsSS9 P⟩), (26, ⟨1, z.g, z.d, tItemSS9 z.w⟩), (65, ⟨b1, 0, false, tStateS9 (stsOf P H')⟩), (59, ⟨b3, 0, false, tEventSS9 H'⟩)])
        (fun z => P.length - z.a) (fun z => z.a ≤ P.length ∧ z.w = fill (waysOf H' P.length) (z.a * P.length) ∧ ∀ x, x < z.a → ∀ y, y < P.length → (leftOf H' x y).length ≤ 12) ⟨0, List.replicate (P.length * P.length) default, _, _⟩ fitOk ⟨Nat.zero_le _, by show _ = fill _ (0 * P.length); rw [Nat.zero_mul, fill_zero, hTl], fun x h => absurd h (Nat.not_lt_zero x)⟩ (by simp [C]; omega) ?_
      clear sl ob
      rintro ⟨a, w, g, d⟩ sl ob ⟨ha, hw', hfa⟩
      dsimp only at ha hw' hfa
      (try dsimp only [cond_true, cond_false])
      (conv => whnf)
      by_cases hal : a < P.length
      · repeat' ((with_reducible (first | refine st16 ?_|refine fG.split (fun _ => ?_) (fun _ => ?_)|refine fG.bool (fun _ => ?_) (fun _ => ?_)|refine gD 2 [(1, 6), (2, 6), (1, 8), (2, 8), (6, 8)] ?_|refine gD 6 [(0, 2), (0, 5), (0, 9)] ?_|refine gD 21 [(1, 21), (8, 21), (15, 21), (1, 22)] ?_)) <;> (try (conv => whnf)))
        refine loop_rule (ι := WB) (fun z => [(4, .pt 4 1 0 [] 0 0), (6, i64 P.length), (7, .pt 7 1 0 [] 0 0), (12, i64 (a : Nat)), (13, i64 (z.a : Nat))])
          (fun z => [(1000000, ⟨0, 0, false, tInsSS P⟩), (1000001, ⟨0, 0, false, tStateS S⟩), (1000002, ⟨0, 0, false, tItemSS W⟩), (1000003, ⟨0, 0, false, tEventSS H⟩), (1000004, ⟨0, 0, false, tI c⟩), (4, ⟨1, 0, false, .box [.nl 1, .nl 4, .nl 1, .nl 1]⟩), (7, ⟨1, 0, dd, .box [.h 10022 1 0 [] 1 0 P.length, .h 65 b1 0 [] 4 0 (stsOf P H').length, .h 26 1 0 [] 1 0 (P.length * P.length), .h 59 b3 0 [] 1 0 H'.length]⟩), (10022, ⟨1, 0, false, tInsSS9 P⟩), (26, ⟨1, z.g, z.d, tItemSS9 z.w⟩), (65, ⟨b1, 0, false, tStateS9 (stsOf P H')⟩), (59, ⟨b3, 0, false, tEventSS9 H'⟩)])
          (fun z => P.length - z.a) (fun z => z.a ≤ P.length ∧ z.w = fill (waysOf H' P.length) (a * P.length + z.a) ∧ ∀ y, y < z.a → (leftOf H' a y).length ≤ 12) ⟨0, w, _, _⟩ fitOk ⟨Nat.zero_le _, hw', fun x h => absurd h (Nat.not_lt_zero x)⟩ (by simp [C]; omega) ?_
        clear sl ob hw' w g d
        rintro ⟨b, w, g, d⟩ sl ob ⟨hb', hw', hfb⟩
        dsimp only at hb' hw' hfb
        (try dsimp only [cond_true, cond_false])
        (conv => whnf)
        by_cases hbl : b < P.length
        · have hya := h2c a hal
          have hyb := h2c b hbl
          have hva := vals_le (rd H' a) 2 b
          have q5 := fun k => ok_spec_Values k (rd H' a) 2 b (by omega)
          have q6 := fun k => ok_spec_Count k (rd H' b) 3 a (by omega)
          have hL : leftOf H' a b = (vals (rd H' a) 2 b).drop (cnt (rd H' b) 3 a) := rfl
          have htl : cnt (rd H' b) 3 a ≤ (vals (rd H' a) 2 b).length := hwh a b hal hbl
          generalize vals (rd H' a) 2 b = sent at *
          generalize cnt (rd H' b) 3 a = tk at *
          have hpl := place_lt hal hbl
          have hT : rd (waysOf H' P.length) (a * P.length + b) = wayOf (leftOf H' a b) := rd_waysOf hal hbl
          have hll : (leftOf H' a b).length = sent.length - tk := by rw [hL, List.length_drop]
          have wm : IntKind.i64.wrap ((a : Int) * (P.length : Int)) = ((a * P.length : Nat) : Int) := by
            rw [show (a : Int) * (P.length : Int) = ((a * P.length : Nat) : Int) by simp]; exact wrap_i64 _ (by omega) (by omega)
          have wa : IntKind.i64.wrap (((a * P.length : Nat) : Int) + (b : Int)) = ((a * P.length + b : Nat) : Int) := by rw [wrap_i64 _ (by omega) (by omega)]; simp
          generalize ham : a * P.length = am at *
          generalize hix : am + b = ix at *
          repeat' ((with_reducible (first | refine sCall.of (q5 _) ?_|refine sCall.of (q6 _) ?_|refine st16 ?_|refine fG.split (fun _ => ?_) (fun _ => ?_)|refine fG.bool (fun _ => ?_) (fun _ => ?_)|refine gD 2 [(1, 6), (2, 6), (1, 8), (2, 8), (6, 8)] ?_|refine gD 6 [(0, 2), (0, 5), (0, 9)] ?_|refine gD 21 [(1, 21), (8, 21), (15, 21), (1, 22)] ?_)) <;> (try (conv => whnf)))
          refine loop_rule (ι := WI) (fun z => [(4, .pt 4 1 0 [] 0 0), (6, i64 P.length), (7, .pt 7 1 0 [] 0 0), (12, i64 (a : Nat)), (13, i64 (b : Nat)), (14, .h 10083 z.bb 0 [] 1 0 sent.length), (15, i64 (tk : Nat)), (16, i64 (z.j : Nat))])
            (fun z => [(1000000, ⟨0, 0, false, tInsSS P⟩), (1000001, ⟨0, 0, false, tStateS S⟩), (1000002, ⟨0, 0, false, tItemSS W⟩), (1000003, ⟨0, 0, false, tEventSS H⟩), (1000004, ⟨0, 0, false, tI c⟩), (4, ⟨1, 0, false, .box [.nl 1, .nl 4, .nl 1, .nl 1]⟩), (7, ⟨1, 0, dd, .box [.h 10022 1 0 [] 1 0 P.length, .h 65 b1 0 [] 4 0 (stsOf P H').length, .h 26 1 0 [] 1 0 (P.length * P.length), .h 59 b3 0 [] 1 0 H'.length]⟩), (10022, ⟨1, 0, false, tInsSS9 P⟩), (26, ⟨1, z.g, z.d, tItemSS9 z.w⟩), (65, ⟨b1, 0, false, tStateS9 (stsOf P H')⟩), (59, ⟨b3, 0, false, tEventSS9 H'⟩), (10083, ⟨z.bb, 0, false, tI9 sent⟩)])
            (fun z => sent.length - z.j) (fun z => tk ≤ z.j ∧ z.j ≤ sent.length ∧ z.w = (fill (waysOf H' P.length) ix).set ix (wayOf ((leftOf H' a b).take (z.j - tk)))) ⟨tk, w, _, _, _⟩ fitOk ⟨Nat.le_refl _, htl, by show w = (fill _ ix).set ix (wayOf (List.take (tk - tk) _)); rw [Nat.sub_self]; show w = (fill _ ix).set ix default; rw [fill_self _ _ (by omega)]; exact hw'⟩ (by simp [C]; omega) ?_
          clear sl ob hw' w g d
          rintro ⟨j', w, g, d, bb⟩ sl ob ⟨hj0, hj', hw'⟩
          dsimp only at hj0 hj' hw'
          have hwl : w.length = P.length * P.length := by rw [hw', List.length_set, fill_len, hTl]
          (try dsimp only [cond_true, cond_false])
          (conv => whnf)
          by_cases hjl' : j' < sent.length
          · have hwx : rd w ix = wayOf ((leftOf H' a b).take (j' - tk)) := by rw [hw']; simp [rd, fill_len, hTl, hpl]
            have hwxl : (rd w ix).length = j' - tk := by rw [hwx]; simp [wayOf]; omega
            have hnx : rd (leftOf H' a b) (j' - tk) = rd sent j' := by rw [hL, rd_drop, show tk + (j' - tk) = j' by omega]
            repeat' ((with_reducible (first | refine sW.eq (wm) ?_|refine sW.eq (wa) ?_|refine gHole ?_|refine st16 ?_|refine fG.split (fun _ => ?_) (fun _ => ?_)|refine fG.bool (fun _ => ?_) (fun _ => ?_)|refine gD 2 [(1, 6), (2, 6), (1, 8), (2, 8), (6, 8)] ?_|refine gD 6 [(0, 2), (0, 5), (0, 9)] ?_|refine gD 21 [(1, 21), (8, 21), (15, 21), (1, 22)] ?_)) <;> (try (conv => whnf)))
            refine ⟨⟨⟨j' + 1, w.set ix (rd w ix ++ [⟨false, rd sent j'⟩]), _, _, _⟩, fitOk, ?_, ?_⟩⟩
            · exact ⟨by show tk ≤ j' + 1; omega, by show j' + 1 ≤ _; omega, by show w.set ix _ = (fill _ ix).set ix (wayOf (List.take (j' + 1 - tk) _)); rw [hwx, hw', List.set_set, show j' + 1 - tk = (j' - tk) + 1 by omega, take_rd (by omega), hnx]; simp [wayOf]⟩
            · show sent.length - (j' + 1) < sent.length - j'; omega
          · rw [List.take_of_length_le (by omega)] at hw'
            by_cases hf : (leftOf H' a b).length ≤ 12
            · repeat' ((with_reducible (first | refine st16 ?_|refine fG.split (fun _ => ?_) (fun _ => ?_)|refine fG.bool (fun _ => ?_) (fun _ => ?_)|refine gD 2 [(1, 6), (2, 6), (1, 8), (2, 8), (6, 8)] ?_|refine gD 6 [(0, 2), (0, 5), (0, 9)] ?_|refine gD 21 [(1, 21), (8, 21), (15, 21), (1, 22)] ?_)) <;> (try (conv => whnf)))
              refine ⟨⟨⟨b + 1, w, _, _⟩, fitOk, ?_, ?_⟩⟩
              · refine ⟨by show b + 1 ≤ _; omega, ?_, fun y hy => by rcases Nat.lt_succ_iff_lt_or_eq.1 hy with h | h; exact hfb y h; rw [h]; exact hf⟩
                show w = fill _ (am + (b + 1))
                rw [hw', ← hT, fill_set _ _ (by omega), ← Nat.add_assoc, hix]
              · show P.length - (b + 1) < P.length - b; omega
            · rw [waysFit_no hal hbl hf]
              repeat' ((with_reducible (first | refine st16 ?_|refine fG.split (fun _ => ?_) (fun _ => ?_)|refine fG.bool (fun _ => ?_) (fun _ => ?_)|refine gD 2 [(1, 6), (2, 6), (1, 8), (2, 8), (6, 8)] ?_|refine gD 6 [(0, 2), (0, 5), (0, 9)] ?_|refine gD 21 [(1, 21), (8, 21), (15, 21), (1, 22)] ?_)) <;> (try (conv => whnf)))
              all_goals rfl
        · repeat' ((with_reducible (first | refine st16 ?_|refine fG.split (fun _ => ?_) (fun _ => ?_)|refine fG.bool (fun _ => ?_) (fun _ => ?_)|refine gD 2 [(1, 6), (2, 6), (1, 8), (2, 8), (6, 8)] ?_|refine gD 6 [(0, 2), (0, 5), (0, 9)] ?_|refine gD 21 [(1, 21), (8, 21), (15, 21), (1, 22)] ?_)) <;> (try (conv => whnf)))
          refine ⟨⟨⟨a + 1, w, _, _⟩, fitOk, ?_, ?_⟩⟩
          · refine ⟨by show a + 1 ≤ _; omega, by show w = fill _ ((a + 1) * P.length); rw [hw', Nat.add_mul, Nat.one_mul, show b = P.length by omega], fun x hx y hy => ?_⟩
            rcases Nat.lt_succ_iff_lt_or_eq.1 hx with h | h
            · exact hfa x h y hy
            · rw [h]; exact hfb y (by omega)
          · show P.length - (a + 1) < P.length - a; omega
      · have hwT : w = waysOf H' P.length := by rw [hw', show a = P.length by omega, ← hTl, fill_all]
        subst hwT
        have et : List.take (P.length * P.length) (waysOf H' P.length) = waysOf H' P.length := List.take_of_length_le (by omega)
        rw [waysFit_yes fun x hx y hy => hfa x (by omega) y hy]
        repeat' ((with_reducible (first | refine st16 ?_|refine fG.split (fun _ => ?_) (fun _ => ?_)|refine fG.bool (fun _ => ?_) (fun _ => ?_)|refine gD 2 [(1, 6), (2, 6), (1, 8), (2, 8), (6, 8)] ?_|refine gD 6 [(0, 2), (0, 5), (0, 9)] ?_|refine gD 21 [(1, 21), (8, 21), (15, 21), (1, 22)] ?_)) <;> (try (conv => whnf)))
        simp only [et, if_true, atRes, nSys, hTl] <;> rfl

end Go.Proofs.YtlobpiebphnkiaaGreat.Abs
namespace Go.Proofs.YtlobpiebphnkiaaGreat.Abs
open Go Go.Proofs
set_option linter.unusedVariables false
set_option linter.unusedSimpArgs false
attribute [local irreducible] callE
def hasCut (H : List (List Event)) (p i : Int) : Bool := decide (0 ≤ p ∧ p ≤ (H.length : Int) - 1) && decide (0 ≤ i ∧ i ≤ ((rd H p.toNat).length : Int))
noncomputable def backCutOf (H : List (List Event)) (p i : Int) : List Int := closeOf H ((lensOf H).set p.toNat i)
def atSys (P : List (List Ins)) (H : List (List Event)) : Sys := ⟨P, stsOf P H, waysOf H P.length, H⟩
noncomputable def backIs (P : List (List Ins)) (S : List State) (W : List (List Item)) (H : List (List Event)) (p i : Int) : Sys × Int :=
  if sysOk P S W H = true then (if hasCut H p i = true then (if waysFit (cutH H (backCutOf H p i)) P.length = true then (atSys P (cutH H (backCutOf H p i)), 0) else (⟨P, S, W, H⟩, 3)) else (⟨P, S, W, H⟩, 2)) else (⟨[], [], [], []⟩, 1)
def sysRes (X : Sys) (n : Int) (b : List (Option Cont)) : Res := ⟨.tu [nSys 0 X.progs X.states X.ways X.hist, i64 n], [tInsSS9 X.progs, tStateS9 X.states, tItemSS9 X.ways, tEventSS9 X.hist], b⟩
noncomputable def undoneIs (P : List (List Ins)) (S : List State) (W : List (List Item)) (H : List (List Event)) (p i : Int) : List Int := if (backIs P S W H p i).2 = 0 then (List.range H.length).map fun q => ((rd H q).length : Int) - ((rd (backIs P S W H p i).1.hist q).length : Int) else []
def lastOf (H : List (List Event)) (p : Int) : Int := if 0 ≤ p ∧ p ≤ (H.length : Int) - 1 then ((rd H p.toNat).length : Int) - 1 else -1
end Go.Proofs.YtlobpiebphnkiaaGreat.Abs
namespace Go.Proofs.YtlobpiebphnkiaaGreat.Abs
open Go Go.Proofs
set_option linter.unusedVariables false
set_option linter.unusedSimpArgs false
attribute [local irreducible] callE
theorem ok_laws_markIntS9 (k : Nat) (l : List Int) (m : Int) (hl : l.length ≤ 100000000000) (h0 : 0 ≤ m) (h1 : m ≤ 100000000000) : callE PR C (k + 1) 29 [.h 1000000 0 0 [] 1 0 l.length, i64 m] [tI9 l] = some ⟨i64 (m + l.length), [], [some (tI9 (marksI m l))]⟩ := by
  (refine fnI [ResultVar.tmp 4] Tryz.func29 ?_; conv => whnf)
  repeat' ((with_reducible (first | refine st16 ?_|refine fG.split (fun _ => ?_) (fun _ => ?_)|refine fG.bool (fun _ => ?_) (fun _ => ?_))) <;> (try (conv => whnf)))
  refine loop_rule (ι := TM Int) (fun x => [(0, .h 1000000 0 0 [] 1 0 l.length), (1, i64 x.m), (5, i64 (x.j : Nat))])
    (fun x => [(1000000, ⟨0, x.g, x.d, tI9 x.l⟩)])
    (fun x => l.length - x.j) (fun x => x.j ≤ l.length ∧ x.l = half mInt wInt m l x.j ∧ x.m = m + x.j) ⟨0, m, l, 0, false⟩ fitOk ⟨Nat.zero_le _, (half_zero _ _ m l).symm, by simp⟩ (by simp [C]; omega) ?_
  rintro ⟨j, n, out, g, d⟩ sl ob ⟨hj, hout, hn⟩
  dsimp only at hj hout hn
  have hlen : out.length = l.length := by rw [hout, half_len]
  (try dsimp only [cond_true, cond_false])
  (conv => whnf)
  repeat' ((with_reducible (first | refine st16 ?_|refine fG.split (fun _ => ?_) (fun _ => ?_)|refine fG.bool (fun _ => ?_) (fun _ => ?_))) <;> (try (conv => whnf)))
  case' refine_1 h =>
    refine ⟨⟨⟨j + 1, n + 1, out.set j n, _, _⟩, fitOk, ?_, ?_⟩⟩
    · refine ⟨by show j + 1 ≤ _; omega, ?_, by show _ = _; push_cast; omega⟩
      show _ = _
      rw [← half_set _ _ m l j (by omega), hout, hn]
      simp only [wts_wInt, List.length_take, mInt, show min j l.length = j by omega]
    · show l.length - (j + 1) < l.length - j; omega
  case refine_2 h =>
    have : j = l.length := by omega
    rw [hout, hn, this, half_all]
def mItem (m : Int) (x : Item) : Item := ⟨decide (m.tmod 3 = 0), m + 1⟩
def wItem (x : Item) : Nat := 2
theorem wts_wItem (l : List Item) : wts wItem l = 2 * l.length := wts_const 2 l
def mWho (m : Int) (x : Who) : Who := ⟨m, m + 1⟩
def wWho (x : Who) : Nat := 2
theorem ok_laws_markInsS8 (k : Nat) (l : List Ins) (m : Int) (hl : l.length ≤ 100000000000) (h0 : 0 ≤ m) (h1 : m ≤ 100000000000) : callE PR C (k + 1) 166 [(.h 1000000 0 0 [] 5 0 l.length), i64 m] [(.tree 8 (.sl 5 (l.map rIns)))] = some ⟨i64 (m + 5 * l.length), [], [some (.tree 8 (.sl 5 ((marks mIns wIns m l).map rIns)))]⟩ := by
  (refine fnI [ResultVar.tmp 4] Tryz.func166 ?_; conv => whnf)
  repeat' ((with_reducible (first | refine st16 ?_|refine fG.split (fun _ => ?_) (fun _ => ?_)|refine fG.bool (fun _ => ?_) (fun _ => ?_))) <;> (try (conv => whnf)))
  refine loop_rule (ι := TM Ins) (fun x => [(0, (.h 1000000 0 0 [] 5 0 l.length)), (1, i64 x.m), (5, i64 (x.j : Nat))])
    (fun x => [(1000000, ⟨0, x.g, x.d, .tree 8 (.sl 5 (x.l.map rIns))⟩)])
    (fun x => l.length - x.j) (fun x => x.j ≤ l.length ∧ x.l = half mIns wIns m l x.j ∧ x.m = m + 5 * x.j) ⟨0, m, l, 0, false⟩ fitOk ⟨Nat.zero_le _, (half_zero _ _ m l).symm, by simp⟩ (by simp [C]; omega) ?_
  rintro ⟨j, n, out, g, d⟩ sl ob ⟨hj, hout, hn⟩
  dsimp only at hj hout hn
  have hlen : out.length = l.length := by rw [hout, half_len]
  have hz : n.tmod 3 = n.tmod 3 := rfl
  (try dsimp only [cond_true, cond_false])
  (conv => whnf)
  repeat' ((with_reducible (first | refine sZ.eq (hz) ?_|refine st16 ?_|refine fG.split (fun _ => ?_) (fun _ => ?_)|refine fG.bool (fun _ => ?_) (fun _ => ?_))) <;> (try (conv => whnf)))
  case' refine_1 h =>
    refine ⟨⟨⟨j + 1, n + 1 + 1 + 1 + 1 + 1, out.set j (mIns n (rd out j)), _, _⟩, fitOk, ?_, ?_⟩⟩
    · refine ⟨by show j + 1 ≤ _; omega, ?_, by show _ = _; push_cast; omega⟩
      show _ = _
      rw [← half_set _ _ m l j (by omega), hout, hn]
      simp only [wts_wIns, List.length_take, mIns, show min j l.length = j by omega, Int.natCast_mul]
      rfl
    · show l.length - (j + 1) < l.length - j; omega
  case refine_2 h =>
    have : j = l.length := by omega
    rw [hout, hn, this, half_all]
theorem ok_laws_markItemS8 (k : Nat) (l : List Item) (m : Int) (hl : l.length ≤ 100000000000) (h0 : 0 ≤ m) (h1 : m ≤ 100000000000) : callE PR C (k + 1) 167 [(.h 1000000 0 0 [] 2 0 l.length), i64 m] [(.tree 8 (.sl 2 (l.map rItem)))] = some ⟨i64 (m + 2 * l.length), [], [some (.tree 8 (.sl 2 ((marks mItem wItem m l).map rItem)))]⟩ := by
  (refine fnI [ResultVar.tmp 4] Tryz.func167 ?_; conv => whnf)
  repeat' ((with_reducible (first | refine st16 ?_|refine fG.split (fun _ => ?_) (fun _ => ?_)|refine fG.bool (fun _ => ?_) (fun _ => ?_))) <;> (try (conv => whnf)))
  refine loop_rule (ι := TM Item) (fun x => [(0, (.h 1000000 0 0 [] 2 0 l.length)), (1, i64 x.m), (5, i64 (x.j : Nat))])
    (fun x => [(1000000, ⟨0, x.g, x.d, .tree 8 (.sl 2 (x.l.map rItem))⟩)])
    (fun x => l.length - x.j) (fun x => x.j ≤ l.length ∧ x.l = half mItem wItem m l x.j ∧ x.m = m + 2 * x.j) ⟨0, m, l, 0, false⟩ fitOk ⟨Nat.zero_le _, (half_zero _ _ m l).symm, by simp⟩ (by simp [C]; omega) ?_
  rintro ⟨j, n, out, g, d⟩ sl ob ⟨hj, hout, hn⟩
  dsimp only at hj hout hn
  have hlen : out.length = l.length := by rw [hout, half_len]
  have hz : n.tmod 3 = n.tmod 3 := rfl
  (try dsimp only [cond_true, cond_false])
  (conv => whnf)
  repeat' ((with_reducible (first | refine sZ.eq (hz) ?_|refine st16 ?_|refine fG.split (fun _ => ?_) (fun _ => ?_)|refine fG.bool (fun _ => ?_) (fun _ => ?_))) <;> (try (conv => whnf)))
  case' refine_1 h =>
    refine ⟨⟨⟨j + 1, n + 1 + 1, out.set j (mItem n (rd out j)), _, _⟩, fitOk, ?_, ?_⟩⟩
    · refine ⟨by show j + 1 ≤ _; omega, ?_, by show _ = _; push_cast; omega⟩
      show _ = _
      rw [← half_set _ _ m l j (by omega), hout, hn]
      simp only [wts_wItem, List.length_take, mItem, show min j l.length = j by omega, Int.natCast_mul]
      rfl
    · show l.length - (j + 1) < l.length - j; omega
  case refine_2 h =>
    have : j = l.length := by omega
    rw [hout, hn, this, half_all]
theorem ok_laws_markEventS8 (k : Nat) (l : List Event) (m : Int) (hl : l.length ≤ 100000000000) (h0 : 0 ≤ m) (h1 : m ≤ 100000000000) : callE PR C (k + 1) 168 [(.h 1000000 0 0 [] 3 0 l.length), i64 m] [(.tree 8 (.sl 3 (l.map rEvent)))] = some ⟨i64 (m + 3 * l.length), [], [some (.tree 8 (.sl 3 ((marks mEvent wEvent m l).map rEvent)))]⟩ := by
  (refine fnI [ResultVar.tmp 4] Tryz.func168 ?_; conv => whnf)
  repeat' ((with_reducible (first | refine st16 ?_|refine fG.split (fun _ => ?_) (fun _ => ?_)|refine fG.bool (fun _ => ?_) (fun _ => ?_))) <;> (try (conv => whnf)))
  refine loop_rule (ι := TM Event) (fun x => [(0, (.h 1000000 0 0 [] 3 0 l.length)), (1, i64 x.m), (5, i64 (x.j : Nat))])
    (fun x => [(1000000, ⟨0, x.g, x.d, .tree 8 (.sl 3 (x.l.map rEvent))⟩)])
    (fun x => l.length - x.j) (fun x => x.j ≤ l.length ∧ x.l = half mEvent wEvent m l x.j ∧ x.m = m + 3 * x.j) ⟨0, m, l, 0, false⟩ fitOk ⟨Nat.zero_le _, (half_zero _ _ m l).symm, by simp⟩ (by simp [C]; omega) ?_
  rintro ⟨j, n, out, g, d⟩ sl ob ⟨hj, hout, hn⟩
  dsimp only at hj hout hn
  have hlen : out.length = l.length := by rw [hout, half_len]
  have hz : n.tmod 3 = n.tmod 3 := rfl
  (try dsimp only [cond_true, cond_false])
  (conv => whnf)
  repeat' ((with_reducible (first | refine sZ.eq (hz) ?_|refine st16 ?_|refine fG.split (fun _ => ?_) (fun _ => ?_)|refine fG.bool (fun _ => ?_) (fun _ => ?_))) <;> (try (conv => whnf)))
  case' refine_1 h =>
    refine ⟨⟨⟨j + 1, n + 1 + 1 + 1, out.set j (mEvent n (rd out j)), _, _⟩, fitOk, ?_, ?_⟩⟩
    · refine ⟨by show j + 1 ≤ _; omega, ?_, by show _ = _; push_cast; omega⟩
      show _ = _
      rw [← half_set _ _ m l j (by omega), hout, hn]
      simp only [wts_wEvent, List.length_take, mEvent, show min j l.length = j by omega, Int.natCast_mul]
      rfl
    · show l.length - (j + 1) < l.length - j; omega
  case refine_2 h =>
    have : j = l.length := by omega
    rw [hout, hn, this, half_all]
def mInsL (m : Int) (x : List Ins) : List Ins := marks mIns wIns m x
def wInsL (x : List Ins) : Nat := 5 * x.length
theorem ok_laws_markInsSS (k : Nat) (l : List (List Ins)) (m : Int) (hl : l.length ≤ 100000000000) (h0 : 0 ≤ m) (h1 : m + wts wInsL l ≤ 10000000000) (hx : ∀ j : Nat, j < l.length → (rd l j).length ≤ 10000000000) :
    callE PR C (k + 2) 84 [.h 1000000 0 0 [] 1 0 l.length, i64 m] [.tree 9 (.sl 1 (l.map rInsL))] = some ⟨i64 (m + wts wInsL l), [], [some (.tree 9 (.sl 1 ((marks mInsL wInsL m l).map rInsL)))]⟩ := by
  (refine fnI [ResultVar.tmp 4] Tryz.func84 ?_; conv => whnf)
  repeat' ((with_reducible (first | refine st16 ?_|refine fG.split (fun _ => ?_) (fun _ => ?_)|refine fG.bool (fun _ => ?_) (fun _ => ?_))) <;> (try (conv => whnf)))
  refine loop_rule (ι := TM (List Ins)) (fun x => [(0, .h 1000000 0 0 [] 1 0 l.length), (1, i64 x.m), (5, i64 (x.j : Nat))])
    (fun x => [(1000000, ⟨0, x.g, x.d, .tree 9 (.sl 1 (x.l.map rInsL))⟩)])
    (fun x => l.length - x.j) (fun x => x.j ≤ l.length ∧ x.l = half mInsL wInsL m l x.j ∧ x.m = m + wts wInsL (l.take x.j)) ⟨0, m, l, 0, false⟩ fitOk ⟨Nat.zero_le _, (half_zero _ _ m l).symm, by simp [wts]⟩ (by simp [C]; omega) ?_
  rintro ⟨j, n, out, g, d⟩ sl ob ⟨hj, hout, hn⟩
  dsimp only at hj hout hn
  have hlen : out.length = l.length := by rw [hout, half_len]
  have hn1 : n ≤ 10000000000 := by have := wts_le wInsL l j; omega
  have hn0 : 0 ≤ n := by omega
  have hrd : j < l.length → rd out j = rd l j := fun h => by rw [hout]; exact half_rd _ _ m l j h
  (try dsimp only [cond_true, cond_false])
  (conv => whnf)
  by_cases hjl : j < l.length
  · have hx1 : (rd out j).length ≤ 10000000000 := by rw [hrd hjl]; exact hx j hjl
    have hq : ∀ k, callE PR C (k + 1) 166 [.h 1000000 0 0 [] 5 0 ((rd out j).map rIns).length, i64 n] [.tree 8 (.sl 5 ((rd out j).map rIns))] = some ⟨i64 (n + 5 * (rd out j).length), [], [some (.tree 8 (.sl 5 ((marks mIns wIns n (rd out j)).map rIns)))]⟩ := by
      intro k
      rw [List.length_map]
      exact ok_laws_markInsS8 k (rd out j) n (by omega) (by omega) (by omega)
    repeat' ((with_reducible (first | refine sCall.of (hq _) ?_|refine st16 ?_|refine fG.split (fun _ => ?_) (fun _ => ?_)|refine fG.bool (fun _ => ?_) (fun _ => ?_))) <;> (try (conv => whnf)))
    refine ⟨⟨⟨j + 1, n + 5 * (rd out j).length, out.set j (mInsL n (rd out j)), _, _⟩, fitOk, ?_, ?_⟩⟩
    · have e := wts_take wInsL l j hjl
      refine ⟨by show j + 1 ≤ _; omega, ?_, ?_⟩
      · show _ = _
        rw [← half_set _ _ m l j hjl, hrd hjl, hout, hn]
      · show _ = _
        rw [e, hrd hjl]
        simp only [wInsL]
        omega
    · show l.length - (j + 1) < l.length - j; omega
  · have : j = l.length := by omega
    repeat' ((with_reducible (first | refine st16 ?_|refine fG.split (fun _ => ?_) (fun _ => ?_)|refine fG.bool (fun _ => ?_) (fun _ => ?_))) <;> (try (conv => whnf)))
    rw [hout, hn, this, half_all, List.take_length]
def mItemL (m : Int) (x : List Item) : List Item := marks mItem wItem m x
def wItemL (x : List Item) : Nat := 2 * x.length
theorem ok_laws_markItemSS (k : Nat) (l : List (List Item)) (m : Int) (hl : l.length ≤ 100000000000) (h0 : 0 ≤ m) (h1 : m + wts wItemL l ≤ 10000000000) (hx : ∀ j : Nat, j < l.length → (rd l j).length ≤ 10000000000) :
    callE PR C (k + 2) 86 [.h 1000000 0 0 [] 1 0 l.length, i64 m] [.tree 9 (.sl 1 (l.map rItemL))] = some ⟨i64 (m + wts wItemL l), [], [some (.tree 9 (.sl 1 ((marks mItemL wItemL m l).map rItemL)))]⟩ := by
  (refine fnI [ResultVar.tmp 4] Tryz.func86 ?_; conv => whnf)
  repeat' ((with_reducible (first | refine st16 ?_|refine fG.split (fun _ => ?_) (fun _ => ?_)|refine fG.bool (fun _ => ?_) (fun _ => ?_))) <;> (try (conv => whnf)))
  refine loop_rule (ι := TM (List Item)) (fun x => [(0, .h 1000000 0 0 [] 1 0 l.length), (1, i64 x.m), (5, i64 (x.j : Nat))])
    (fun x => [(1000000, ⟨0, x.g, x.d, .tree 9 (.sl 1 (x.l.map rItemL))⟩)])
    (fun x => l.length - x.j) (fun x => x.j ≤ l.length ∧ x.l = half mItemL wItemL m l x.j ∧ x.m = m + wts wItemL (l.take x.j)) ⟨0, m, l, 0, false⟩ fitOk ⟨Nat.zero_le _, (half_zero _ _ m l).symm, by simp [wts]⟩ (by simp [C]; omega) ?_
  rintro ⟨j, n, out, g, d⟩ sl ob ⟨hj, hout, hn⟩
  dsimp only at hj hout hn
  have hlen : out.length = l.length := by rw [hout, half_len]
  have hn1 : n ≤ 10000000000 := by have := wts_le wItemL l j; omega
  have hn0 : 0 ≤ n := by omega
  have hrd : j < l.length → rd out j = rd l j := fun h => by rw [hout]; exact half_rd _ _ m l j h
  (try dsimp only [cond_true, cond_false])
  (conv => whnf)
  by_cases hjl : j < l.length
  · have hx1 : (rd out j).length ≤ 10000000000 := by rw [hrd hjl]; exact hx j hjl
    have hq : ∀ k, callE PR C (k + 1) 167 [.h 1000000 0 0 [] 2 0 ((rd out j).map rItem).length, i64 n] [.tree 8 (.sl 2 ((rd out j).map rItem))] = some ⟨i64 (n + 2 * (rd out j).length), [], [some (.tree 8 (.sl 2 ((marks mItem wItem n (rd out j)).map rItem)))]⟩ := by
      intro k
      rw [List.length_map]
      exact ok_laws_markItemS8 k (rd out j) n (by omega) (by omega) (by omega)
    repeat' ((with_reducible (first | refine sCall.of (hq _) ?_|refine st16 ?_|refine fG.split (fun _ => ?_) (fun _ => ?_)|refine fG.bool (fun _ => ?_) (fun _ => ?_))) <;> (try (conv => whnf)))
    refine ⟨⟨⟨j + 1, n + 2 * (rd out j).length, out.set j (mItemL n (rd out j)), _, _⟩, fitOk, ?_, ?_⟩⟩
    · have e := wts_take wItemL l j hjl
      refine ⟨by show j + 1 ≤ _; omega, ?_, ?_⟩
      · show _ = _
        rw [← half_set _ _ m l j hjl, hrd hjl, hout, hn]
      · show _ = _
        rw [e, hrd hjl]
        simp only [wItemL]
        omega
    · show l.length - (j + 1) < l.length - j; omega
  · have : j = l.length := by omega
    repeat' ((with_reducible (first | refine st16 ?_|refine fG.split (fun _ => ?_) (fun _ => ?_)|refine fG.bool (fun _ => ?_) (fun _ => ?_))) <;> (try (conv => whnf)))
    rw [hout, hn, this, half_all, List.take_length]
def mEventL (m : Int) (x : List Event) : List Event := marks mEvent wEvent m x
def wEventL (x : List Event) : Nat := 3 * x.length
theorem ok_laws_markEventSS (k : Nat) (l : List (List Event)) (m : Int) (hl : l.length ≤ 100000000000) (h0 : 0 ≤ m) (h1 : m + wts wEventL l ≤ 10000000000) (hx : ∀ j : Nat, j < l.length → (rd l j).length ≤ 10000000000) :
    callE PR C (k + 2) 87 [.h 1000000 0 0 [] 1 0 l.length, i64 m] [.tree 9 (.sl 1 (l.map rEventL))] = some ⟨i64 (m + wts wEventL l), [], [some (.tree 9 (.sl 1 ((marks mEventL wEventL m l).map rEventL)))]⟩ := by
  (refine fnI [ResultVar.tmp 4] Tryz.func87 ?_; conv => whnf)
  repeat' ((with_reducible (first | refine st16 ?_|refine fG.split (fun _ => ?_) (fun _ => ?_)|refine fG.bool (fun _ => ?_) (fun _ => ?_))) <;> (try (conv => whnf)))
  refine loop_rule (ι := TM (List Event)) (fun x => [(0, .h 1000000 0 0 [] 1 0 l.length), (1, i64 x.m), (5, i64 (x.j : Nat))])
    (fun x => [(1000000, ⟨0, x.g, x.d, .tree 9 (.sl 1 (x.l.map rEventL))⟩)])
    (fun x => l.length - x.j) (fun x => x.j ≤ l.length ∧ x.l = half mEventL wEventL m l x.j ∧ x.m = m + wts wEventL (l.take x.j)) ⟨0, m, l, 0, false⟩ fitOk ⟨Nat.zero_le _, (half_zero _ _ m l).symm, by simp [wts]⟩ (by simp [C]; omega) ?_
  rintro ⟨j, n, out, g, d⟩ sl ob ⟨hj, hout, hn⟩
  dsimp only at hj hout hn
  have hlen : out.length = l.length := by rw [hout, half_len]
  have hn1 : n ≤ 10000000000 := by have := wts_le wEventL l j; omega
  have hn0 : 0 ≤ n := by omega
  have hrd : j < l.length → rd out j = rd l j := fun h => by rw [hout]; exact half_rd _ _ m l j h
  (try dsimp only [cond_true, cond_false])
  (conv => whnf)
  by_cases hjl : j < l.length
  · have hx1 : (rd out j).length ≤ 10000000000 := by rw [hrd hjl]; exact hx j hjl
    have hq : ∀ k, callE PR C (k + 1) 168 [.h 1000000 0 0 [] 3 0 ((rd out j).map rEvent).length, i64 n] [.tree 8 (.sl 3 ((rd out j).map rEvent))] = some ⟨i64 (n + 3 * (rd out j).length), [], [some (.tree 8 (.sl 3 ((marks mEvent wEvent n (rd out j)).map rEvent)))]⟩ := by
      intro k
      rw [List.length_map]
      exact ok_laws_markEventS8 k (rd out j) n (by omega) (by omega) (by omega)
    repeat' ((with_reducible (first | refine sCall.of (hq _) ?_|refine st16 ?_|refine fG.split (fun _ => ?_) (fun _ => ?_)|refine fG.bool (fun _ => ?_) (fun _ => ?_))) <;> (try (conv => whnf)))
    refine ⟨⟨⟨j + 1, n + 3 * (rd out j).length, out.set j (mEventL n (rd out j)), _, _⟩, fitOk, ?_, ?_⟩⟩
    · have e := wts_take wEventL l j hjl
      refine ⟨by show j + 1 ≤ _; omega, ?_, ?_⟩
      · show _ = _
        rw [← half_set _ _ m l j hjl, hrd hjl, hout, hn]
      · show _ = _
        rw [e, hrd hjl]
        simp only [wEventL]
        omega
    · show l.length - (j + 1) < l.length - j; omega
  · have : j = l.length := by omega
    repeat' ((with_reducible (first | refine st16 ?_|refine fG.split (fun _ => ?_) (fun _ => ?_)|refine fG.bool (fun _ => ?_) (fun _ => ?_))) <;> (try (conv => whnf)))
    rw [hout, hn, this, half_all, List.take_length]

theorem wts_mul {α : Type} (n : Nat) (l : List (List α)) : wts (fun x => n * x.length) l = n * wts List.length l := by
  induction l with
  | nil => rfl
  | cons a l ih => simp only [wts] at ih ⊢; rw [ih, Nat.mul_add]
def mState (m : Int) (x : State) : State := ⟨m, marksI (m + 1) x.regs, marksI (m + 1 + x.regs.length) x.out, m + 1 + x.regs.length + x.out.length⟩
def wState (x : State) : Nat := 2 + x.regs.length + x.out.length
theorem wts_wState (l : List State) : wts wState l = 2 * l.length + wts wSt l := by
  induction l with
  | nil => rfl
  | cons a l ih => simp only [wts, List.length_cons, wState, wSt] at ih ⊢; omega
set_option maxHeartbeats 4000000 in
theorem ok_laws_markStateS (k : Nat) (l : List State) (m : Int) (hl : l.length ≤ 100000000000) (h0 : 0 ≤ m) (h1 : m + wts wState l ≤ 10000000000) (hx : ∀ j : Nat, j < l.length → (rd l j).regs.length ≤ 10000000000 ∧ (rd l j).out.length ≤ 10000000000) :
    callE PR C (k + 2) 85 [.h 1000000 0 0 [] 4 0 l.length, i64 m] [tStateS9 l] = some ⟨i64 (m + wts wState l), [], [some (tStateS9 (marks mState wState m l))]⟩ := by
  (refine fnI [ResultVar.tmp 4] Tryz.func85 ?_; conv => whnf)
  repeat' ((with_reducible (first | refine st16 ?_|refine fG.split (fun _ => ?_) (fun _ => ?_)|refine fG.bool (fun _ => ?_) (fun _ => ?_))) <;> (try (conv => whnf)))
  refine loop_rule (ι := TM State) (fun x => [(0, .h 1000000 0 0 [] 4 0 l.length), (1, i64 x.m), (5, i64 (x.j : Nat))])
    (fun x => [(1000000, ⟨0, x.g, x.d, tStateS9 x.l⟩)])
    (fun x => l.length - x.j) (fun x => x.j ≤ l.length ∧ x.l = half mState wState m l x.j ∧ x.m = m + wts wState (l.take x.j)) ⟨0, m, l, 0, false⟩ fitOk ⟨Nat.zero_le _, (half_zero _ _ m l).symm, by simp [wts]⟩ (by simp [C]; omega) ?_
  rintro ⟨j, n, out, g, d⟩ sl ob ⟨hj, hout, hn⟩
  dsimp only at hj hout hn
  have hlen : out.length = l.length := by rw [hout, half_len]
  have hn1 : n ≤ 10000000000 := by have := wts_le wState l j; omega
  have hn0 : 0 ≤ n := by omega
  have hrd : j < l.length → rd out j = rd l j := fun h => by rw [hout]; exact half_rd _ _ m l j h
  have hx' : j < l.length → (rd out j).regs.length ≤ 10000000000 ∧ (rd out j).out.length ≤ 10000000000 := fun h => by rw [hrd h]; exact hx j h
  (try dsimp only [cond_true, cond_false])
  (conv => whnf)
  by_cases hjl : j < l.length
  · have hx1 := (hx' hjl).1
    have hx2 := (hx' hjl).2
    have hq1 := fun k => ok_laws_markIntS' k (rd out j).regs (n + 1) (by omega) (by omega) (by omega)
    have hq2 := fun k => ok_laws_markIntS' k (rd out j).out (n + 1 + (rd out j).regs.length) (by omega) (by omega) (by omega)
    repeat' ((with_reducible (first | refine sCall.of (hq1 _) ?_|refine sCall.of (hq2 _) ?_|refine st16 ?_|refine fG.split (fun _ => ?_) (fun _ => ?_)|refine fG.bool (fun _ => ?_) (fun _ => ?_))) <;> (try (conv => whnf)))
    refine ⟨⟨⟨j + 1, n + 1 + (rd out j).regs.length + (rd out j).out.length + 1, out.set j (mState n (rd out j)), _, _⟩, fitOk, ?_, ?_⟩⟩
    · have e := wts_take wState l j hjl
      refine ⟨by show j + 1 ≤ _; omega, ?_, ?_⟩
      · show _ = _
        rw [← half_set _ _ m l j hjl, hrd hjl, hout, hn]
      · show _ = _
        rw [e, hrd hjl]
        simp only [wState]
        omega
    · show l.length - (j + 1) < l.length - j; omega
  · have : j = l.length := by omega
    repeat' ((with_reducible (first | refine st16 ?_|refine fG.split (fun _ => ?_) (fun _ => ?_)|refine fG.bool (fun _ => ?_) (fun _ => ?_))) <;> (try (conv => whnf)))
    rw [hout, hn, this, half_all, List.take_length]
def sysW (P : List (List Ins)) (S : List State) (W : List (List Item)) (H : List (List Event)) : Nat := wts wInsL P + (wts wState S + (wts wItemL W + wts wEventL H))
theorem sysW_le (P : List (List Ins)) (S : List State) (W : List (List Item)) (H : List (List Event)) : sysW P S W H ≤ 5 * sysSz P S W H := by
  have h1 : wts wInsL P = 5 * wts List.length P := wts_mul 5 P
  have h2 := wts_wState S
  have h3 : wts wItemL W = 2 * wts List.length W := wts_mul 2 W
  have h4 : wts wEventL H = 3 * wts List.length H := wts_mul 3 H
  unfold sysW sysSz
  omega
def mkP (m : Int) (P : List (List Ins)) : List (List Ins) := marks mInsL wInsL m P
def mkS (m : Int) (P : List (List Ins)) (S : List State) : List State := marks mState wState (m + wts wInsL P) S
def mkW (m : Int) (P : List (List Ins)) (S : List State) (W : List (List Item)) : List (List Item) := marks mItemL wItemL (m + wts wInsL P + wts wState S) W
def mkH (m : Int) (P : List (List Ins)) (S : List State) (W : List (List Item)) (H : List (List Event)) : List (List Event) := marks mEventL wEventL (m + wts wInsL P + wts wState S + wts wItemL W) H
theorem ok_laws_markSys (k : Nat) (P : List (List Ins)) (S : List State) (W : List (List Item)) (H : List (List Event)) (m : Int) (hb : SysB 1048576 P S W H) (h0 : 0 ≤ m) (h1 : m + sysW P S W H ≤ 1000000000) :
    callE PR C (k + 3) 28 [aSys 0 P S W H, i64 m] [tInsSS9 P, tStateS9 S, tItemSS9 W, tEventSS9 H] = some ⟨i64 (m + sysW P S W H), [], [some (tInsSS9 (mkP m P)), some (tStateS9 (mkS m P S)), some (tItemSS9 (mkW m P S W)), some (tEventSS9 (mkH m P S W H))]⟩ := by
  rw [show m + ((sysW P S W H : Nat) : Int) = m + wts wInsL P + wts wState S + wts wItemL W + wts wEventL H by simp only [sysW]; omega]
  unfold sysW at h1
  unfold mkP mkS mkW mkH
  have b1 := hb.p
  have b2 := hb.s
  have b3 := hb.w
  have b4 := hb.h
  have q1 := fun k => ok_laws_markInsSS k P m (by omega) h0 (by omega) (fun j hj => by have := hb.pp j hj; omega)
  have q2 := fun k => ok_laws_markStateS k S (m + wts wInsL P) (by omega) (by omega) (by omega) (fun j hj => by have := hb.ss j hj; omega)
  have q3 := fun k => ok_laws_markItemSS k W (m + wts wInsL P + wts wState S) (by omega) (by omega) (by omega) (fun j hj => by have := hb.ww j hj; omega)
  have q4 := fun k => ok_laws_markEventSS k H (m + wts wInsL P + wts wState S + wts wItemL W) (by omega) (by omega) (by omega) (fun j hj => by have := hb.hh j hj; omega)
  have e1 := marks_len mInsL wInsL P m
  have e2 := marks_len mState wState S (m + wts wInsL P)
  have e3 := marks_len mItemL wItemL W (m + wts wInsL P + wts wState S)
  have e4 := marks_len mEventL wEventL H (m + wts wInsL P + wts wState S + wts wItemL W)
  (refine fnI [ResultVar.tmp 4] Tryz.func28 ?_; conv => whnf)
  repeat' ((with_reducible (first | refine sCall.of (q1 _) ?_|refine sCall.of (q2 _) ?_|refine sCall.of (q3 _) ?_|refine sCall.of (q4 _) ?_|refine st16 ?_|refine fG.split (fun _ => ?_) (fun _ => ?_)|refine fG.bool (fun _ => ?_) (fun _ => ?_))) <;> (try (conv => whnf)))

theorem gBeq {a b : Bool} {A B : Prop} (h : B) (e : a = b := by with_reducible assumption) : fG (!(a == b)) A B := by subst e; cases a <;> exact h
theorem ok_laws_heldInsS (k : Nat) (x l : List Ins) (m : Int) (hl : l.length ≤ 1000000000) (h0 : 0 ≤ m) (h1 : m ≤ 10000000000) (e : x = marks mIns wIns m l) : callE PR C (k + 1) 188 [.h 1000000 0 0 [] 5 0 x.length, i64 m] [.tree 0 (.sl 5 (x.map rIns))] = some ⟨i64 (m + 5 * l.length), [], [none]⟩ := by
  have hxl : x.length = l.length := by rw [e, marks_len]
  (refine fnI [ResultVar.tmp 4] Tryz.func188 ?_; conv => whnf)
  repeat' ((with_reducible (first | refine st16 ?_|refine fG.split (fun _ => ?_) (fun _ => ?_)|refine fG.bool (fun _ => ?_) (fun _ => ?_))) <;> (try (conv => whnf)))
  refine loop_rule (ι := TH) (fun z => [(0, .h 1000000 0 0 [] 5 0 x.length), (1, i64 z.m), (5, i64 (z.j : Nat))])
    (fun z => [(1000000, ⟨0, 0, false, .tree 0 (.sl 5 (x.map rIns))⟩)])
    (fun z => l.length - z.j) (fun z => z.j ≤ l.length ∧ z.m = m + 5 * z.j) ⟨0, m⟩ fitOk ⟨Nat.zero_le _, by simp⟩ (by simp [C]; omega) ?_
  rintro ⟨j, n⟩ sl ob ⟨hj, hn⟩
  dsimp only at hj hn
  (try dsimp only [cond_true, cond_false])
  (conv => whnf)
  by_cases hjl : j < l.length
  · have hr : rd x j = mIns n (rd l j) := by
      rw [e, marks_rd _ _ _ _ _ hjl, wts_wIns, List.length_take, hn]
      rw [show min j l.length = j by omega]
      simp
    have hr1 : (rd x j).op = n := by rw [hr]; rfl
    have hr2 : (rd x j).r = n + 1 := by rw [hr]; rfl
    have hr3 : (rd x j).a = n + 1 + 1 := by rw [hr]; rfl
    have hr4 : (rd x j).b = n + 1 + 1 + 1 := by rw [hr]; rfl
    have hr5 : (rd x j).n = n + 1 + 1 + 1 + 1 := by rw [hr]; rfl
    clear hr e
    repeat' ((with_reducible (first | refine st16 ?_|refine fG.split (fun _ => ?_) (fun _ => ?_)|refine fG.bool (fun _ => ?_) (fun _ => ?_))) <;> (try (conv => whnf)))
    refine ⟨⟨⟨j + 1, n + 1 + 1 + 1 + 1 + 1⟩, fitOk, ?_, ?_⟩⟩
    · exact ⟨by show j + 1 ≤ _; omega, by show _ = _; push_cast; omega⟩
    · show l.length - (j + 1) < l.length - j; omega
  · have : j = l.length := by omega
    repeat' ((with_reducible (first | refine st16 ?_|refine fG.split (fun _ => ?_) (fun _ => ?_)|refine fG.bool (fun _ => ?_) (fun _ => ?_))) <;> (try (conv => whnf)))
    rw [hn, this]
theorem ok_laws_heldItemS (k : Nat) (x l : List Item) (m : Int) (hl : l.length ≤ 1000000000) (h0 : 0 ≤ m) (h1 : m ≤ 10000000000) (e : x = marks mItem wItem m l) : callE PR C (k + 1) 189 [.h 1000000 0 0 [] 2 0 x.length, i64 m] [.tree 0 (.sl 2 (x.map rItem))] = some ⟨i64 (m + 2 * l.length), [], [none]⟩ := by
  have hxl : x.length = l.length := by rw [e, marks_len]
  (refine fnI [ResultVar.tmp 4] Tryz.func189 ?_; conv => whnf)
  repeat' ((with_reducible (first | refine st16 ?_|refine fG.split (fun _ => ?_) (fun _ => ?_)|refine fG.bool (fun _ => ?_) (fun _ => ?_))) <;> (try (conv => whnf)))
  refine loop_rule (ι := TH) (fun z => [(0, .h 1000000 0 0 [] 2 0 x.length), (1, i64 z.m), (5, i64 (z.j : Nat))])
    (fun z => [(1000000, ⟨0, 0, false, .tree 0 (.sl 2 (x.map rItem))⟩)])
    (fun z => l.length - z.j) (fun z => z.j ≤ l.length ∧ z.m = m + 2 * z.j) ⟨0, m⟩ fitOk ⟨Nat.zero_le _, by simp⟩ (by simp [C]; omega) ?_
  rintro ⟨j, n⟩ sl ob ⟨hj, hn⟩
  dsimp only at hj hn
  (try dsimp only [cond_true, cond_false])
  (conv => whnf)
  by_cases hjl : j < l.length
  · have hr : rd x j = mItem n (rd l j) := by
      rw [e, marks_rd _ _ _ _ _ hjl, wts_wItem, List.length_take, hn]
      rw [show min j l.length = j by omega]
      simp
    have hr1 : (rd x j).mark = decide (Int.tmod (n) 3 = 0) := by rw [hr]; rfl
    have hr2 : (rd x j).v = n + 1 := by rw [hr]; rfl
    clear hr e
    have hz : n.tmod 3 = n.tmod 3 := rfl
    repeat' ((with_reducible (first | refine sZ.eq (hz) ?_|refine gBeq ?_|refine st16 ?_|refine fG.split (fun _ => ?_) (fun _ => ?_)|refine fG.bool (fun _ => ?_) (fun _ => ?_))) <;> (try (conv => whnf)))
    refine ⟨⟨⟨j + 1, n + 1 + 1⟩, fitOk, ?_, ?_⟩⟩
    · exact ⟨by show j + 1 ≤ _; omega, by show _ = _; push_cast; omega⟩
    · show l.length - (j + 1) < l.length - j; omega
  · have : j = l.length := by omega
    repeat' ((with_reducible (first | refine st16 ?_|refine fG.split (fun _ => ?_) (fun _ => ?_)|refine fG.bool (fun _ => ?_) (fun _ => ?_))) <;> (try (conv => whnf)))
    rw [hn, this]
theorem ok_laws_heldEventS (k : Nat) (x l : List Event) (m : Int) (hl : l.length ≤ 1000000000) (h0 : 0 ≤ m) (h1 : m ≤ 10000000000) (e : x = marks mEvent wEvent m l) : callE PR C (k + 1) 190 [.h 1000000 0 0 [] 3 0 x.length, i64 m] [.tree 0 (.sl 3 (x.map rEvent))] = some ⟨i64 (m + 3 * l.length), [], [none]⟩ := by
  have hxl : x.length = l.length := by rw [e, marks_len]
  (refine fnI [ResultVar.tmp 4] Tryz.func190 ?_; conv => whnf)
  repeat' ((with_reducible (first | refine st16 ?_|refine fG.split (fun _ => ?_) (fun _ => ?_)|refine fG.bool (fun _ => ?_) (fun _ => ?_))) <;> (try (conv => whnf)))
  refine loop_rule (ι := TH) (fun z => [(0, .h 1000000 0 0 [] 3 0 x.length), (1, i64 z.m), (5, i64 (z.j : Nat))])
    (fun z => [(1000000, ⟨0, 0, false, .tree 0 (.sl 3 (x.map rEvent))⟩)])
    (fun z => l.length - z.j) (fun z => z.j ≤ l.length ∧ z.m = m + 3 * z.j) ⟨0, m⟩ fitOk ⟨Nat.zero_le _, by simp⟩ (by simp [C]; omega) ?_
  rintro ⟨j, n⟩ sl ob ⟨hj, hn⟩
  dsimp only at hj hn
  (try dsimp only [cond_true, cond_false])
  (conv => whnf)
  by_cases hjl : j < l.length
  · have hr : rd x j = mEvent n (rd l j) := by
      rw [e, marks_rd _ _ _ _ _ hjl, wts_wEvent, List.length_take, hn]
      rw [show min j l.length = j by omega]
      simp
    have hr1 : (rd x j).kind = n := by rw [hr]; rfl
    have hr2 : (rd x j).peer = n + 1 := by rw [hr]; rfl
    have hr3 : (rd x j).v = n + 1 + 1 := by rw [hr]; rfl
    clear hr e
    repeat' ((with_reducible (first | refine st16 ?_|refine fG.split (fun _ => ?_) (fun _ => ?_)|refine fG.bool (fun _ => ?_) (fun _ => ?_))) <;> (try (conv => whnf)))
    refine ⟨⟨⟨j + 1, n + 1 + 1 + 1⟩, fitOk, ?_, ?_⟩⟩
    · exact ⟨by show j + 1 ≤ _; omega, by show _ = _; push_cast; omega⟩
    · show l.length - (j + 1) < l.length - j; omega
  · have : j = l.length := by omega
    repeat' ((with_reducible (first | refine st16 ?_|refine fG.split (fun _ => ?_) (fun _ => ?_)|refine fG.bool (fun _ => ?_) (fun _ => ?_))) <;> (try (conv => whnf)))
    rw [hn, this]
theorem ok_laws_heldInsSS (k : Nat) (x l : List (List Ins)) (m : Int) (hl : l.length ≤ 1000000000) (h0 : 0 ≤ m) (h1 : m + wts wInsL l ≤ 10000000000) (hx : ∀ j : Nat, j < l.length → (rd l j).length ≤ 1000000000) (e : x = marks mInsL wInsL m l) :
    callE PR C (k + 2) 98 [.h 1000000 0 0 [] 1 0 x.length, i64 m] [.tree 0 (.sl 1 (x.map rInsL))] = some ⟨i64 (m + wts wInsL l), [], [none]⟩ := by
  have hxl : x.length = l.length := by rw [e, marks_len]
  (refine fnI [ResultVar.tmp 4] Tryz.func98 ?_; conv => whnf)
  repeat' ((with_reducible (first | refine st16 ?_|refine fG.split (fun _ => ?_) (fun _ => ?_)|refine fG.bool (fun _ => ?_) (fun _ => ?_))) <;> (try (conv => whnf)))
  refine loop_rule (ι := TH) (fun z => [(0, .h 1000000 0 0 [] 1 0 x.length), (1, i64 z.m), (5, i64 (z.j : Nat))])
    (fun z => [(1000000, ⟨0, 0, false, .tree 0 (.sl 1 (x.map rInsL))⟩)])
    (fun z => l.length - z.j) (fun z => z.j ≤ l.length ∧ z.m = m + wts wInsL (l.take z.j)) ⟨0, m⟩ fitOk ⟨Nat.zero_le _, by simp [wts]⟩ (by simp [C]; omega) ?_
  rintro ⟨j, n⟩ sl ob ⟨hj, hn⟩
  dsimp only at hj hn
  have hn1 : n ≤ 10000000000 := by have := wts_le wInsL l j; omega
  (try dsimp only [cond_true, cond_false])
  (conv => whnf)
  by_cases hjl : j < l.length
  · have hr : rd x j = marks mIns wIns n (rd l j) := by rw [e, marks_rd _ _ _ _ _ hjl, hn]; rfl
    have hln : (rd x j).length = (rd l j).length := by rw [hr, marks_len]
    have hw := wts_take wInsL l j hjl
    have hw2 := wts_le wInsL l (j + 1)
    have hwj : wInsL (rd l j) = 5 * (rd l j).length := rfl
    have hq := fun k => ok_laws_heldInsS k (rd x j) (rd l j) n (hx j hjl) (by omega) hn1 hr
    clear hr e
    repeat' ((with_reducible (first | refine sCall.of (hq _) ?_|refine st16 ?_|refine fG.split (fun _ => ?_) (fun _ => ?_)|refine fG.bool (fun _ => ?_) (fun _ => ?_))) <;> (try (conv => whnf)))
    refine ⟨⟨⟨j + 1, n + 5 * (rd l j).length⟩, fitOk, ?_, ?_⟩⟩
    · exact ⟨by show j + 1 ≤ _; omega, by show _ = _; rw [hw, hwj]; push_cast; omega⟩
    · show l.length - (j + 1) < l.length - j; omega
  · have : j = l.length := by omega
    repeat' ((with_reducible (first | refine st16 ?_|refine fG.split (fun _ => ?_) (fun _ => ?_)|refine fG.bool (fun _ => ?_) (fun _ => ?_))) <;> (try (conv => whnf)))
    rw [hn, this, List.take_length]
theorem ok_laws_heldItemSS (k : Nat) (x l : List (List Item)) (m : Int) (hl : l.length ≤ 1000000000) (h0 : 0 ≤ m) (h1 : m + wts wItemL l ≤ 10000000000) (hx : ∀ j : Nat, j < l.length → (rd l j).length ≤ 1000000000) (e : x = marks mItemL wItemL m l) :
    callE PR C (k + 2) 100 [.h 1000000 0 0 [] 1 0 x.length, i64 m] [.tree 0 (.sl 1 (x.map rItemL))] = some ⟨i64 (m + wts wItemL l), [], [none]⟩ := by
  have hxl : x.length = l.length := by rw [e, marks_len]
  (refine fnI [ResultVar.tmp 4] Tryz.func100 ?_; conv => whnf)
  repeat' ((with_reducible (first | refine st16 ?_|refine fG.split (fun _ => ?_) (fun _ => ?_)|refine fG.bool (fun _ => ?_) (fun _ => ?_))) <;> (try (conv => whnf)))
  refine loop_rule (ι := TH) (fun z => [(0, .h 1000000 0 0 [] 1 0 x.length), (1, i64 z.m), (5, i64 (z.j : Nat))])
    (fun z => [(1000000, ⟨0, 0, false, .tree 0 (.sl 1 (x.map rItemL))⟩)])
    (fun z => l.length - z.j) (fun z => z.j ≤ l.length ∧ z.m = m + wts wItemL (l.take z.j)) ⟨0, m⟩ fitOk ⟨Nat.zero_le _, by simp [wts]⟩ (by simp [C]; omega) ?_
  rintro ⟨j, n⟩ sl ob ⟨hj, hn⟩
  dsimp only at hj hn
  have hn1 : n ≤ 10000000000 := by have := wts_le wItemL l j; omega
  (try dsimp only [cond_true, cond_false])
  (conv => whnf)
  by_cases hjl : j < l.length
  · have hr : rd x j = marks mItem wItem n (rd l j) := by rw [e, marks_rd _ _ _ _ _ hjl, hn]; rfl
    have hln : (rd x j).length = (rd l j).length := by rw [hr, marks_len]
    have hw := wts_take wItemL l j hjl
    have hw2 := wts_le wItemL l (j + 1)
    have hwj : wItemL (rd l j) = 2 * (rd l j).length := rfl
    have hq := fun k => ok_laws_heldItemS k (rd x j) (rd l j) n (hx j hjl) (by omega) hn1 hr
    clear hr e
    repeat' ((with_reducible (first | refine sCall.of (hq _) ?_|refine st16 ?_|refine fG.split (fun _ => ?_) (fun _ => ?_)|refine fG.bool (fun _ => ?_) (fun _ => ?_))) <;> (try (conv => whnf)))
    refine ⟨⟨⟨j + 1, n + 2 * (rd l j).length⟩, fitOk, ?_, ?_⟩⟩
    · exact ⟨by show j + 1 ≤ _; omega, by show _ = _; rw [hw, hwj]; push_cast; omega⟩
    · show l.length - (j + 1) < l.length - j; omega
  · have : j = l.length := by omega
    repeat' ((with_reducible (first | refine st16 ?_|refine fG.split (fun _ => ?_) (fun _ => ?_)|refine fG.bool (fun _ => ?_) (fun _ => ?_))) <;> (try (conv => whnf)))
    rw [hn, this, List.take_length]
theorem ok_laws_heldEventSS (k : Nat) (x l : List (List Event)) (m : Int) (hl : l.length ≤ 1000000000) (h0 : 0 ≤ m) (h1 : m + wts wEventL l ≤ 10000000000) (hx : ∀ j : Nat, j < l.length → (rd l j).length ≤ 1000000000) (e : x = marks mEventL wEventL m l) :
    callE PR C (k + 2) 101 [.h 1000000 0 0 [] 1 0 x.length, i64 m] [.tree 0 (.sl 1 (x.map rEventL))] = some ⟨i64 (m + wts wEventL l), [], [none]⟩ := by
  have hxl : x.length = l.length := by rw [e, marks_len]
  (refine fnI [ResultVar.tmp 4] Tryz.func101 ?_; conv => whnf)
  repeat' ((with_reducible (first | refine st16 ?_|refine fG.split (fun _ => ?_) (fun _ => ?_)|refine fG.bool (fun _ => ?_) (fun _ => ?_))) <;> (try (conv => whnf)))
  refine loop_rule (ι := TH) (fun z => [(0, .h 1000000 0 0 [] 1 0 x.length), (1, i64 z.m), (5, i64 (z.j : Nat))])
    (fun z => [(1000000, ⟨0, 0, false, .tree 0 (.sl 1 (x.map rEventL))⟩)])
    (fun z => l.length - z.j) (fun z => z.j ≤ l.length ∧ z.m = m + wts wEventL (l.take z.j)) ⟨0, m⟩ fitOk ⟨Nat.zero_le _, by simp [wts]⟩ (by simp [C]; omega) ?_
  rintro ⟨j, n⟩ sl ob ⟨hj, hn⟩
  dsimp only at hj hn
  have hn1 : n ≤ 10000000000 := by have := wts_le wEventL l j; omega
  (try dsimp only [cond_true, cond_false])
  (conv => whnf)
  by_cases hjl : j < l.length
  · have hr : rd x j = marks mEvent wEvent n (rd l j) := by rw [e, marks_rd _ _ _ _ _ hjl, hn]; rfl
    have hln : (rd x j).length = (rd l j).length := by rw [hr, marks_len]
    have hw := wts_take wEventL l j hjl
    have hw2 := wts_le wEventL l (j + 1)
    have hwj : wEventL (rd l j) = 3 * (rd l j).length := rfl
    have hq := fun k => ok_laws_heldEventS k (rd x j) (rd l j) n (hx j hjl) (by omega) hn1 hr
    clear hr e
    repeat' ((with_reducible (first | refine sCall.of (hq _) ?_|refine st16 ?_|refine fG.split (fun _ => ?_) (fun _ => ?_)|refine fG.bool (fun _ => ?_) (fun _ => ?_))) <;> (try (conv => whnf)))
    refine ⟨⟨⟨j + 1, n + 3 * (rd l j).length⟩, fitOk, ?_, ?_⟩⟩
    · exact ⟨by show j + 1 ≤ _; omega, by show _ = _; rw [hw, hwj]; push_cast; omega⟩
    · show l.length - (j + 1) < l.length - j; omega
  · have : j = l.length := by omega
    repeat' ((with_reducible (first | refine st16 ?_|refine fG.split (fun _ => ?_) (fun _ => ?_)|refine fG.bool (fun _ => ?_) (fun _ => ?_))) <;> (try (conv => whnf)))
    rw [hn, this, List.take_length]
set_option maxHeartbeats 4000000 in
theorem ok_laws_heldStateS (k : Nat) (x l : List State) (m : Int) (hl : l.length ≤ 1000000000) (h0 : 0 ≤ m) (h1 : m + wts wState l ≤ 10000000000) (hx : ∀ j : Nat, j < l.length → (rd l j).regs.length ≤ 1000000000 ∧ (rd l j).out.length ≤ 1000000000) (e : x = marks mState wState m l) :
    callE PR C (k + 2) 99 [.h 1000000 0 0 [] 4 0 x.length, i64 m] [tStateS x] = some ⟨i64 (m + wts wState l), [], [none]⟩ := by
  have hxl : x.length = l.length := by rw [e, marks_len]
  (refine fnI [ResultVar.tmp 4] Tryz.func99 ?_; conv => whnf)
  repeat' ((with_reducible (first | refine st16 ?_|refine fG.split (fun _ => ?_) (fun _ => ?_)|refine fG.bool (fun _ => ?_) (fun _ => ?_))) <;> (try (conv => whnf)))
  refine loop_rule (ι := TH) (fun z => [(0, .h 1000000 0 0 [] 4 0 x.length), (1, i64 z.m), (5, i64 (z.j : Nat))])
    (fun z => [(1000000, ⟨0, 0, false, tStateS x⟩)])
    (fun z => l.length - z.j) (fun z => z.j ≤ l.length ∧ z.m = m + wts wState (l.take z.j)) ⟨0, m⟩ fitOk ⟨Nat.zero_le _, by simp [wts]⟩ (by simp [C]; omega) ?_
  rintro ⟨j, n⟩ sl ob ⟨hj, hn⟩
  dsimp only at hj hn
  have hn1 : n ≤ 10000000000 := by have := wts_le wState l j; omega
  (try dsimp only [cond_true, cond_false])
  (conv => whnf)
  by_cases hjl : j < l.length
  · have hx1 := (hx j hjl).1
    have hx2 := (hx j hjl).2
    have hw := wts_take wState l j hjl
    have hw2 := wts_le wState l (j + 1)
    have er : rd x j = mState n (rd l j) := by rw [e, hn]; exact marks_rd _ _ m l j hjl
    have e2 : (rd x j).at_ = n := by rw [er]; rfl
    have e3 : (rd x j).regs = marksI (n + 1) (rd l j).regs := by rw [er]; rfl
    have e4 : (rd x j).out = marksI (n + 1 + (rd x j).regs.length) (rd l j).out := by rw [e3, marksI_len, er]; rfl
    have l1 : (rd x j).regs.length = (rd l j).regs.length := by rw [e3, marksI_len]
    have l2 : (rd x j).out.length = (rd l j).out.length := by rw [e4, marksI_len]
    have e5 : (rd x j).code = n + 1 + (rd x j).regs.length + (rd x j).out.length := by rw [l1, l2, er]; rfl
    have hwj : wState (rd l j) = 2 + (rd x j).regs.length + (rd x j).out.length := by rw [l1, l2]; rfl
    have hq1 := fun k => ok_laws_heldIntS k (rd x j).regs (n + 1) (by omega) (by omega) (by omega) (fun i hi => by rw [e3] at hi ⊢; exact marksI_rd _ _ i hi)
    have hq2 := fun k => ok_laws_heldIntS k (rd x j).out (n + 1 + (rd x j).regs.length) (by omega) (by omega) (by omega) (fun i hi => by rw [e4] at hi ⊢; exact marksI_rd _ _ i hi)
    clear e3 e4 er e
    repeat' ((with_reducible (first | refine sCall.of (hq1 _) ?_|refine sCall.of (hq2 _) ?_|refine st16 ?_|refine fG.split (fun _ => ?_) (fun _ => ?_)|refine fG.bool (fun _ => ?_) (fun _ => ?_))) <;> (try (conv => whnf)))
    refine ⟨⟨⟨j + 1, n + 1 + (rd x j).regs.length + (rd x j).out.length + 1⟩, fitOk, ?_, ?_⟩⟩
    · exact ⟨by show j + 1 ≤ _; omega, by show _ = _; rw [hw, hwj]; push_cast; omega⟩
    · show l.length - (j + 1) < l.length - j; omega
  · have : j = l.length := by omega
    repeat' ((with_reducible (first | refine st16 ?_|refine fG.split (fun _ => ?_) (fun _ => ?_)|refine fG.bool (fun _ => ?_) (fun _ => ?_))) <;> (try (conv => whnf)))
    rw [hn, this, List.take_length]
theorem ok_laws_heldSys (k : Nat) (P : List (List Ins)) (S : List State) (W : List (List Item)) (H : List (List Event)) (P' : List (List Ins)) (S' : List State) (W' : List (List Item)) (H' : List (List Event)) (m : Int) (hb : SysB 1000000000 P S W H) (h0 : 0 ≤ m) (h1 : m + sysW P S W H ≤ 10000000000)
    (e1 : P' = mkP m P) (e2 : S' = mkS m P S) (e3 : W' = mkW m P S W) (e4 : H' = mkH m P S W H) :
    callE PR C (k + 3) 37 [aSys 0 P' S' W' H', i64 m] [tInsSS P', tStateS S', tItemSS W', tEventSS H'] = some ⟨i64 (m + sysW P S W H), [], [none, none, none, none]⟩ := by
  rw [show m + ((sysW P S W H : Nat) : Int) = m + wts wInsL P + wts wState S + wts wItemL W + wts wEventL H by simp only [sysW]; omega]
  unfold sysW at h1
  have b1 := hb.p
  have b2 := hb.s
  have b3 := hb.w
  have b4 := hb.h
  have q1 := fun k => ok_laws_heldInsSS k P' P m (by omega) h0 (by omega) hb.pp e1
  have q2 := fun k => ok_laws_heldStateS k S' S (m + wts wInsL P) (by omega) (by omega) (by omega) hb.ss e2
  have q3 := fun k => ok_laws_heldItemSS k W' W (m + wts wInsL P + wts wState S) (by omega) (by omega) (by omega) hb.ww e3
  have q4 := fun k => ok_laws_heldEventSS k H' H (m + wts wInsL P + wts wState S + wts wItemL W) (by omega) (by omega) (by omega) hb.hh e4
  clear e1 e2 e3 e4
  (refine fnI [ResultVar.tmp 4] Tryz.func37 ?_; conv => whnf)
  repeat' ((with_reducible (first | refine sCall.of (q1 _) ?_|refine sCall.of (q2 _) ?_|refine sCall.of (q3 _) ?_|refine sCall.of (q4 _) ?_|refine st16 ?_|refine fG.split (fun _ => ?_) (fun _ => ?_)|refine fG.bool (fun _ => ?_) (fun _ => ?_))) <;> (try (conv => whnf)))

end Go.Proofs.YtlobpiebphnkiaaGreat.Abs
namespace Go.Proofs.YtlobpiebphnkiaaGreat.Abs
open Go Go.Proofs
set_option linter.unusedVariables false
set_option linter.unusedSimpArgs false
attribute [local irreducible] callE
structure SysG (X : Sys) : Prop where
  b : SysB 1048576 X.progs X.states X.ways X.hist
  w : sysW X.progs X.states X.ways X.hist ≤ 500000000
theorem sysG_empty : SysG ⟨[], [], [], []⟩ := by
  refine ⟨⟨by simp, fun j hj => by simp at hj, by simp, fun j hj => by simp at hj, by simp, fun j hj => by simp at hj, by simp, fun j hj => by simp at hj⟩, by simp [sysW, wts]⟩
theorem sysG_of {X : Sys} (hB : SysB 1048576 X.progs X.states X.ways X.hist) (n1 : X.progs.length ≤ 4) (n2 : X.states.length ≤ 4) (n3 : X.ways.length ≤ 16) (n4 : X.hist.length ≤ 4) : SysG X := by
  refine ⟨hB, ?_⟩
  have h1 := wts_bound wInsL 5242880 X.progs fun j hj => by have := hB.pp j hj; unfold wInsL; omega
  have h2 := wts_bound wState 2097154 X.states fun j hj => by have := hB.ss j hj; unfold wState; omega
  have h3 := wts_bound wItemL 2097152 X.ways fun j hj => by have := hB.ww j hj; unfold wItemL; omega
  have h4 := wts_bound wEventL 3145728 X.hist fun j hj => by have := hB.hh j hj; unfold wEventL; omega
  unfold sysW
  omega
theorem atSys_G {P : List (List Ins)} {S : List State} {W : List (List Item)} {H : List (List Event)} {c : List Int} (hB : SysB 1048576 P S W H) (e : sysOk P S W H = true) (hc : FOk H c) (hw : wholeB H c = true) (hf : waysFit (cutH H c) P.length = true) : SysG (atSys P (cutH H c)) := by
  obtain ⟨hI, hP, hS, h200⟩ := sysOk_facts e
  have hN := hI.n
  have hHl := hI.h
  have hs : sysOk P (stsOf P (cutH H c)) (waysOf (cutH H c) P.length) (cutH H c) = true := by rw [cut_sysOk e hc hw, hf]
  have hnn : P.length * P.length ≤ 4 * 4 := Nat.mul_le_mul hN.2 hN.2
  have hl := stsOf_len P (cutH H c)
  have hl2 := waysOf_len (cutH H c) P.length
  have hl3 := cutH_len H c
  have hs' := hs
  simp only [sysOk, Bool.and_eq_true, allBelow_eq, List.all_eq_true] at hs'
  refine sysG_of ⟨hB.p, hB.pp, ?_, fun j hj => ?_, ?_, fun j hj => ?_, ?_, fun j hj => ?_⟩ hN.2 ?_ ?_ ?_
  · show (stsOf P (cutH H c)).length ≤ _; omega
  · have hj : j < (stsOf P (cutH H c)).length := hj
    have h1 := hs'.2.2.1 j (by omega)
    simp only [procOk, Bool.and_eq_true] at h1
    have h2 := (stood_evOk h1.2.2).2.1
    have h3 := h2.regs
    have h4 := h2.out
    show (rd (stsOf P (cutH H c)) j).regs.length ≤ _ ∧ (rd (stsOf P (cutH H c)) j).out.length ≤ _
    omega
  · show (waysOf (cutH H c) P.length).length ≤ _; omega
  · have h1 := hs'.2.1 (rd (waysOf (cutH H c) P.length) j) (rd_mem hj)
    simp only [wayOk, Bool.and_eq_true, decide_eq_true_eq] at h1
    show (rd (waysOf (cutH H c) P.length) j).length ≤ _
    omega
  · show (cutH H c).length ≤ _; omega
  · have hj : j < (cutH H c).length := hj
    show (rd (cutH H c) j).length ≤ _
    rw [rd_cutH (by omega), List.length_take]
    have := h200 j (by omega)
    omega
  · show (stsOf P (cutH H c)).length ≤ _; omega
  · show (waysOf (cutH H c) P.length).length ≤ _; omega
  · show (cutH H c).length ≤ _; omega
end Go.Proofs.YtlobpiebphnkiaaGreat.Abs
namespace Go.Proofs.YtlobpiebphnkiaaGreat.Abs
open Go Go.Proofs
set_option linter.unusedVariables false
set_option linter.unusedSimpArgs false
attribute [local irreducible] callE
abbrev tBool (l : List Bool) : Cont := .tree 0 (.sl 1 (l.map rBool))
abbrev tBool9 (l : List Bool) : Cont := .tree 9 (.sl 1 (l.map rBool))
abbrev tIntSS (l : List (List Int)) : Cont := .tree 0 (.sl 1 (l.map rIntL))
abbrev tIntSS9 (l : List (List Int)) : Cont := .tree 9 (.sl 1 (l.map rIntL))
theorem set_rIntL (l : List (List Int)) (n : Nat) (x : List Int) : (l.map rIntL).set n [.sl 1 (x.map rI)] = (l.set n x).map rIntL := by simp [rIntL, List.map_set]
theorem rep_rIntL (n : Nat) : List.replicate n [T.sl 1 []] = (List.replicate n (default : List Int)).map rIntL := by simp [rIntL, default, instInhabitedList]
theorem gI17 {p A : Prop} (h : A) (e : p := by first | with_reducible assumption | omega | (simp only [Nat.zero_add, Nat.add_zero, Nat.sub_zero, Int.toNat_natCast, Int.toNat_zero, Int.toNat_one, List.length_map, List.length_nil, Int.reduceToNat, Nat.reduceAdd, Nat.reduceSub, Int.sub_zero, Int.reduceAdd, Int.reduceSub, Nat.sub_self, Int.toNat_natCast_add_one, marks_len, bs_len, List.length_append, List.length_cons, List.length_set, List.length_replicate, List.length_range]; first | done | omega)) : sI p A := sI.mk e h
theorem gNum17 {r r' : Nat} {F : Nat → Prop} (h : F r') (e : r = r' := by first | (simp only [Nat.zero_add, Nat.add_zero, Nat.sub_zero, Int.toNat_natCast, Int.toNat_zero, Int.toNat_one, List.length_map, List.length_nil, Int.reduceToNat, Nat.reduceAdd, Nat.reduceSub, Int.sub_zero, Int.reduceAdd, Int.reduceSub, Nat.sub_self, Int.toNat_natCast_add_one, marks_len, bs_len]; rfl) | rfl) : sN r F := sN.eq e h
theorem gRow17 {r r' : List (List T)} {F : List (List T) → Prop} (h : F r') (e : r = r' := by first | (simp only [Nat.add_zero, Nat.zero_add, Nat.reduceAdd, List.drop_zero, List.take_succ_cons, List.take_nil, List.drop_succ_cons, List.drop_nil, List.take_zero, List.nil_append, List.append_nil, List.map_nil, drop_suf, take_pre, drop_map, List.take_length, take_len_set, take_len_app, List.set_set, List.length_map, set_rIntL, rep_rIntL, snoc_rItem, snoc_rInsL, snoc_rItemL, snoc_rEventL, snoc_rState, set_rWho, rep_rWho, snoc_rWho, set_rState, rep_rState, set_rInsL, rep_rInsL, set_rItemL, rep_rItemL, set_rEventL, rep_rEventL, set_rItem, rep_rItem, rep_rKept, marks_take, set_rKept, set_rIns, rep_rIns, set_rEvent, rep_rEvent, snoc_rKept, snoc_rEvent, snoc_rIns, bytesT_bs, snoc_rI, snoc_rB, snoc_rBool, set_rI, set_rBool, rep_rI, rep_rBool, map_app]; rfl) | rfl) : sR r F := sR.eq e h
theorem gRf5 {b : Bool} {A : Prop} (h : A) (e : b = true := by first | exact Nat.beq_refl _ | exact wide_map (fun _ => rfl) _ | exact full_map (fun _ => rfl) _ | exact full_map (fun x => full_rKept x) _ | exact full_map (fun x => full_rInsL x) _ | exact full_map (fun x => full_rItemL x) _ | exact full_map (fun x => full_rEventL x) _ | exact full_map (fun x => full_rState x) _ | exact full_map (fun x => full_rIntL x) _ | exact full_map (fun x => full_rIntL x) _ | rfl | (simp only [full_map, wide_map]; done)) : fB b A := fB.of e h
theorem st17 {P Q : Prop} (h : Q) (e : Q → P := by with_reducible first | exact fun h => gP h | exact fun h => gN h | exact fun h => fG.not h | exact fun h => gY h | exact fun h => gF h | exact fun h => fG.yes (flat_map (fun _ => rfl) _) h | exact fun h => gS64 h | exact fun h => gU8 h | exact fun h => gI17 h | exact fun h => fE.of rfl h | exact fun h => gNum17 h | exact fun h => gSet h | exact fun h => gRd h | exact fun h => gLk h | exact fun h => gRow17 h | exact fun h => gRf5 h) : P := e h
abbrev aLive (j : Nat) (P : List (List Ins)) (S : List State) (W : List (List Item)) (H : List (List Event)) (on : Bool) (cut : List Int) (opn : List Bool) (kept : List (List Int)) : AV :=
  .ag [.h (1000000 + j) 0 0 [] 1 0 P.length, .h (1000001 + j) 0 0 [] 4 0 S.length, .h (1000002 + j) 0 0 [] 1 0 W.length, .h (1000003 + j) 0 0 [] 1 0 H.length, bl on, .h (1000004 + j) 0 0 [] 1 0 cut.length, .h (1000005 + j) 0 0 [] 1 0 opn.length, .h (1000006 + j) 0 0 [] 1 0 kept.length]
abbrev nLive (j : Nat) (P : List (List Ins)) (S : List State) (W : List (List Item)) (H : List (List Event)) (on : Bool) (cut : List Int) (opn : List Bool) (kept : List (List Int)) : AV :=
  .ag [.h (2000000 + j) 1 0 [] 1 0 P.length, .h (2000001 + j) 1 0 [] 4 0 S.length, .h (2000002 + j) 1 0 [] 1 0 W.length, .h (2000003 + j) 1 0 [] 1 0 H.length, bl on, .h (2000004 + j) 1 0 [] 1 0 cut.length, .h (2000005 + j) 1 0 [] 1 0 opn.length, .h (2000006 + j) 1 0 [] 1 0 kept.length]
abbrev aShot (j : Nat) (on : Bool) (cut : List Int) (opn : List Bool) (kept : List (List Int)) : AV :=
  .ag [bl on, .h (1000000 + j) 0 0 [] 1 0 cut.length, .h (1000001 + j) 0 0 [] 1 0 opn.length, .h (1000002 + j) 0 0 [] 1 0 kept.length]
abbrev nShot (j : Nat) (on : Bool) (cut : List Int) (opn : List Bool) (kept : List (List Int)) : AV :=
  .ag [bl on, .h (2000000 + j) 1 0 [] 1 0 cut.length, .h (2000001 + j) 1 0 [] 1 0 opn.length, .h (2000002 + j) 1 0 [] 1 0 kept.length]
theorem ok_laws_szBoolS (k : Nat) (l : List Bool) (m : Int) (h0 : 0 ≤ m) (h1 : m ≤ 1048576) (hl : l.length ≤ 140737488355328) : callE PR C (k + 1) 129 [.h 1000000 0 0 [] 1 0 l.length, i64 m] [tBool l] = some ⟨i64 (left m l.length), [], [none]⟩ := by
  (refine fnI [ResultVar.tmp 4] Tryz.func129 ?_; conv => whnf)
  repeat' ((with_reducible (first | refine st17 ?_|refine fG.split (fun _ => ?_) (fun _ => ?_)|refine fG.bool (fun _ => ?_) (fun _ => ?_))) <;> (try (conv => whnf)))
  all_goals (simp only [left, *, if_true, if_false]; done)
theorem ok_laws_toBoolS (k : Nat) (l : List Bool) (hl : l.length ≤ 100000000000) : callE PR C (k + 1) 138 [.h 1000000 0 0 [] 1 0 l.length] [tBool l] = some ⟨.h 2000000 1 0 [] 1 0 l.length, [tBool9 l], [none]⟩ := by
  (refine fnI [ResultVar.tmp 2] Tryz.func138 ?_; conv => whnf)
  repeat' ((with_reducible (first | refine st17 ?_|refine fG.split (fun _ => ?_) (fun _ => ?_)|refine fG.bool (fun _ => ?_) (fun _ => ?_))) <;> (try (conv => whnf)))
  refine loop_rule (ι := TL Bool) (fun x => [(0, .h 1000000 0 0 [] 1 0 l.length), (3, .h 7 1 0 [] 1 0 l.length), (4, i64 (x.j : Nat))])
    (fun x => [(1000000, ⟨0, 0, false, tBool l⟩), (7, ⟨1, x.g, x.d, tBool9 x.l⟩)])
    (fun x => l.length - x.j) (fun x => x.j ≤ l.length ∧ x.l = fill l x.j) ⟨0, List.replicate l.length false, 0, false⟩ fitOk ⟨Nat.zero_le _, (fill_zero l).symm⟩ (by simp [C]; omega) ?_
  rintro ⟨j, out, g, d⟩ sl ob ⟨hj, hout⟩
  dsimp only at hj hout
  have hlen : out.length = l.length := by rw [hout, fill_len]
  (try dsimp only [cond_true, cond_false])
  (conv => whnf)
  repeat' ((with_reducible (first | refine st17 ?_|refine fG.split (fun _ => ?_) (fun _ => ?_)|refine fG.bool (fun _ => ?_) (fun _ => ?_))) <;> (try (conv => whnf)))
  case' refine_1 h =>
    refine ⟨⟨⟨j + 1, out.set j (rd l j), _, _⟩, fitOk, ?_, ?_⟩⟩
    · exact ⟨by show j + 1 ≤ _; omega, by show _ = _; rw [hout]; exact fill_set l j (by omega)⟩
    · show l.length - (j + 1) < l.length - j; omega
  case refine_2 h =>
    have : j = l.length := by omega
    rw [hout, this, fill_all, List.take_length]
theorem ok_laws_eqBoolS (k : Nat) (l : List Bool) (hl : l.length ≤ 100000000000) : callE PR C (k + 1) 150 [.h 1000000 0 0 [] 1 0 l.length, .h 1000001 0 0 [] 1 0 l.length] [tBool l, tBool l] = some ⟨bl true, [], [none, none]⟩ := by
  (refine fnI [ResultVar.tmp 4] Tryz.func150 ?_; conv => whnf)
  repeat' ((with_reducible (first | refine st17 ?_|refine fG.split (fun _ => ?_) (fun _ => ?_)|refine fG.bool (fun _ => ?_) (fun _ => ?_)|refine gDn 6 ?_)) <;> (try (conv => whnf)))
  refine loop_rule (ι := Nat) (fun j => [(0, .h 1000000 0 0 [] 1 0 l.length), (1, .h 1000001 0 0 [] 1 0 l.length), (5, i64 (j : Nat))])
    (fun x => [(1000000, ⟨0, 0, false, tBool l⟩), (1000001, ⟨0, 0, false, tBool l⟩)])
    (fun j => l.length - j) (fun j => j ≤ l.length) 0 fitOk (Nat.zero_le _) (by simp [C]; omega) ?_
  rintro j sl ob hj
  (try dsimp only [cond_true, cond_false])
  (conv => whnf)
  by_cases hjl : j < l.length
  · cases e : rd l j
    all_goals
      repeat' ((with_reducible (first | refine st17 ?_|refine fG.split (fun _ => ?_) (fun _ => ?_)|refine fG.bool (fun _ => ?_) (fun _ => ?_)|refine gDn 6 ?_)) <;> (try (conv => whnf)))
      all_goals first
        | (exfalso; simp_all; done)
        | (refine ⟨⟨j + 1, fitOk, ?_, ?_⟩⟩
           · show j + 1 ≤ _; omega
           · show l.length - (j + 1) < l.length - j; omega)
  · repeat' ((with_reducible (first | refine st17 ?_|refine fG.split (fun _ => ?_) (fun _ => ?_)|refine fG.bool (fun _ => ?_) (fun _ => ?_)|refine gDn 6 ?_)) <;> (try (conv => whnf)))
theorem ok_laws_szIntSS (k : Nat) (l : List (List Int)) (m : Int) (h0 : 0 ≤ m) (h1 : m ≤ 1048576) (hl : l.length ≤ 140737488355328) (hx : ∀ j : Nat, j < l.length → (rd l j).length ≤ 140737488355328) :
    callE PR C (k + 2) 130 [(.h 1000000 0 0 [] 1 0 l.length), i64 m] [(.tree 0 (.sl 1 (l.map rIntL)))] = some ⟨i64 (left m (l.length + wts List.length l : Nat)), [], [none]⟩ := by
  by_cases c1 : m - l.length < 0
  · rw [show left m (l.length + wts List.length l : Nat) = -1 from by unfold left; rw [if_pos (by omega)]]
    (refine fnI [ResultVar.tmp 4] Tryz.func130 ?_; conv => whnf)
    repeat' ((with_reducible (first | refine st17 ?_|refine fG.split (fun _ => ?_) (fun _ => ?_)|refine fG.bool (fun _ => ?_) (fun _ => ?_))) <;> (try (conv => whnf)))
  · (refine fnI [ResultVar.tmp 4] Tryz.func130 ?_; conv => whnf)
    repeat' ((with_reducible (first | refine st17 ?_|refine fG.split (fun _ => ?_) (fun _ => ?_)|refine fG.bool (fun _ => ?_) (fun _ => ?_))) <;> (try (conv => whnf)))
    refine loop_rule (ι := TH) (fun x => [(0, (.h 1000000 0 0 [] 1 0 l.length)), (1, i64 x.m), (5, i64 (x.j : Nat))])
      (fun x => [(1000000, ⟨0, 0, false, (.tree 0 (.sl 1 (l.map rIntL)))⟩)])
      (fun x => l.length - x.j) (fun x => x.j ≤ l.length ∧ x.m = m - l.length - wts List.length (l.take x.j) ∧ 0 ≤ x.m) ⟨0, m - l.length⟩ fitOk ⟨Nat.zero_le _, by simp [wts], by show 0 ≤ m - (l.length : Int); omega⟩ (by simp [C]; omega) ?_
    rintro ⟨j, n⟩ sl ob ⟨hj, hn, hn0⟩
    dsimp only at hj hn hn0
    have hn1 : n ≤ 1048576 := by omega
    (try dsimp only [cond_true, cond_false])
    (conv => whnf)
    by_cases hjl : j < l.length
    · have hxj := hx j hjl
      have e := wts_take List.length l j hjl
      have e2 := wts_le List.length l (j + 1)
      have hq := fun k => ok_laws_szIntS k (rd l j) n hn0 hn1 hxj
      (try simp only [List.length_map] at e)
      by_cases c2 : n - ((rd l j).length : Int) < 0
      · have e3 : left n ((rd l j).length : Int) = -1 := by unfold left; rw [if_pos c2]
        rw [e3] at hq
        rw [show left m (l.length + wts List.length l : Nat) = -1 from by unfold left; rw [if_pos (by omega)]]
        repeat' ((with_reducible (first | refine sCall.of (hq _) ?_|refine st17 ?_|refine fG.split (fun _ => ?_) (fun _ => ?_)|refine fG.bool (fun _ => ?_) (fun _ => ?_))) <;> (try (conv => whnf)))
      · have e3 : left n ((rd l j).length : Int) = n - ((rd l j).length : Int) := by unfold left; rw [if_neg c2]
        rw [e3] at hq
        repeat' ((with_reducible (first | refine sCall.of (hq _) ?_|refine st17 ?_|refine fG.split (fun _ => ?_) (fun _ => ?_)|refine fG.bool (fun _ => ?_) (fun _ => ?_))) <;> (try (conv => whnf)))
        refine ⟨⟨⟨j + 1, n - ((rd l j).length : Int)⟩, fitOk, ?_, ?_⟩⟩
        · refine ⟨by show j + 1 ≤ _; omega, ?_, by show (0 : Int) ≤ n - ((rd l j).length : Int); omega⟩
          show n - ((rd l j).length : Int) = m - l.length - (wts List.length (l.take (j + 1)) : Nat)
          omega
        · show l.length - (j + 1) < l.length - j; omega
    · have hjj : j = l.length := by omega
      rw [hjj, List.take_length] at hn
      rw [show left m (l.length + wts List.length l : Nat) = n from by unfold left; rw [if_neg (by omega)]; omega]
      repeat' ((with_reducible (first | refine st17 ?_|refine fG.split (fun _ => ?_) (fun _ => ?_)|refine fG.bool (fun _ => ?_) (fun _ => ?_))) <;> (try (conv => whnf)))
theorem ok_laws_toIntSS (k : Nat) (l : List (List Int)) (hl : l.length ≤ 100000000000) (hx : ∀ j : Nat, j < l.length → (rd l j).length ≤ 100000000000) : callE PR C (k + 2) 139 [(.h 1000000 0 0 [] 1 0 l.length)] [(.tree 0 (.sl 1 (l.map rIntL)))] = some ⟨.h 2000000 1 0 [] 1 0 l.length, [(.tree 9 (.sl 1 (l.map rIntL)))], [none]⟩ := by
  (refine fnI [ResultVar.tmp 2] Tryz.func139 ?_; conv => whnf)
  repeat' ((with_reducible (first | refine st17 ?_|refine fG.split (fun _ => ?_) (fun _ => ?_)|refine fG.bool (fun _ => ?_) (fun _ => ?_))) <;> (try (conv => whnf)))
  refine loop_rule (ι := TL (List Int)) (fun x => [(0, (.h 1000000 0 0 [] 1 0 l.length)), (3, .h 7 1 0 [] 1 0 l.length), (4, i64 (x.j : Nat))])
    (fun x => [(1000000, ⟨0, 0, false, (.tree 0 (.sl 1 (l.map rIntL)))⟩), (7, ⟨1, x.g, x.d, .tree 9 (.sl 1 (x.l.map rIntL))⟩)])
    (fun x => l.length - x.j) (fun x => x.j ≤ l.length ∧ x.l = fill l x.j) ⟨0, List.replicate l.length default, 0, false⟩ fitOk ⟨Nat.zero_le _, (fill_zero l).symm⟩ (by simp [C]; omega) ?_
  rintro ⟨j, out, g, d⟩ sl ob ⟨hj, hout⟩
  dsimp only at hj hout
  have hlen : out.length = l.length := by rw [hout, fill_len]
  (try dsimp only [cond_true, cond_false])
  (conv => whnf)
  by_cases hjl : j < l.length
  · have hxj := hx j hjl
    have hq := fun k => ok_laws_toIntS k (rd l j) hxj
    repeat' ((with_reducible (first | refine sCall.of (hq _) ?_|refine st17 ?_|refine fG.split (fun _ => ?_) (fun _ => ?_)|refine fG.bool (fun _ => ?_) (fun _ => ?_))) <;> (try (conv => whnf)))
    refine ⟨⟨⟨j + 1, out.set j (rd l j), _, _⟩, fitOk, ?_, ?_⟩⟩
    · exact ⟨by show j + 1 ≤ _; omega, by show _ = _; rw [hout]; exact fill_set l j (by omega)⟩
    · show l.length - (j + 1) < l.length - j; omega
  · have : j = l.length := by omega
    repeat' ((with_reducible (first | refine st17 ?_|refine fG.split (fun _ => ?_) (fun _ => ?_)|refine fG.bool (fun _ => ?_) (fun _ => ?_))) <;> (try (conv => whnf)))
    rw [hout, this, fill_all, List.take_length]
theorem ok_laws_eqIntSS (k : Nat) (l : List (List Int)) (hl : l.length ≤ 100000000000) (hx : ∀ j : Nat, j < l.length → (rd l j).length ≤ 100000000000) : callE PR C (k + 2) 151 [(.h 1000000 0 0 [] 1 0 l.length), (.h 1000001 0 0 [] 1 0 l.length)] [(.tree 0 (.sl 1 (l.map rIntL))), (.tree 0 (.sl 1 (l.map rIntL)))] = some ⟨bl true, [], [none, none]⟩ := by
  (refine fnI [ResultVar.tmp 4] Tryz.func151 ?_; conv => whnf)
  repeat' ((with_reducible (first | refine st17 ?_|refine fG.split (fun _ => ?_) (fun _ => ?_)|refine fG.bool (fun _ => ?_) (fun _ => ?_)|refine gDn 6 ?_)) <;> (try (conv => whnf)))
  refine loop_rule (ι := Nat) (fun j => [(0, (.h 1000000 0 0 [] 1 0 l.length)), (1, (.h 1000001 0 0 [] 1 0 l.length)), (5, i64 (j : Nat))])
    (fun x => [(1000000, ⟨0, 0, false, (.tree 0 (.sl 1 (l.map rIntL)))⟩), (1000001, ⟨0, 0, false, (.tree 0 (.sl 1 (l.map rIntL)))⟩)])
    (fun j => l.length - j) (fun j => j ≤ l.length) 0 fitOk (Nat.zero_le _) (by simp [C]; omega) ?_
  rintro j sl ob hj
  (try dsimp only [cond_true, cond_false])
  (conv => whnf)
  by_cases hjl : j < l.length
  · have hxj := hx j hjl
    have hq := fun k => ok_laws_eqIntS k (rd l j) hxj
    repeat' ((with_reducible (first | refine sCall.of (hq _) ?_|refine st17 ?_|refine fG.split (fun _ => ?_) (fun _ => ?_)|refine fG.bool (fun _ => ?_) (fun _ => ?_)|refine gDn 6 ?_)) <;> (try (conv => whnf)))
    refine ⟨⟨j + 1, fitOk, ?_, ?_⟩⟩
    · show j + 1 ≤ _; omega
    · show l.length - (j + 1) < l.length - j; omega
  · repeat' ((with_reducible (first | refine st17 ?_|refine fG.split (fun _ => ?_) (fun _ => ?_)|refine fG.bool (fun _ => ?_) (fun _ => ?_)|refine gDn 6 ?_)) <;> (try (conv => whnf)))
structure ShotB (B : Nat) (cut : List Int) (opn : List Bool) (kept : List (List Int)) : Prop where
  c : cut.length ≤ B
  o : opn.length ≤ B
  k : kept.length ≤ B
  kk : ∀ j : Nat, j < kept.length → (rd kept j).length ≤ B
def shotSz (cut : List Int) (opn : List Bool) (kept : List (List Int)) : Nat := cut.length + (opn.length + (kept.length + wts List.length kept))
theorem shotB_of {B : Nat} {cut : List Int} {opn : List Bool} {kept : List (List Int)} (h : shotSz cut opn kept ≤ B) : ShotB B cut opn kept := by
  unfold shotSz at h
  refine ⟨by omega, by omega, by omega, fun j hj => ?_⟩
  have := wts_one List.length kept j hj
  omega
theorem ShotB.mono {B B' : Nat} {cut : List Int} {opn : List Bool} {kept : List (List Int)} (h : ShotB B cut opn kept) (hb : B ≤ B') : ShotB B' cut opn kept :=
  ⟨by have := h.c; omega, by have := h.o; omega, by have := h.k; omega, fun j hj => by have := h.kk j hj; omega⟩
theorem left_add {m : Int} {a b : Nat} (h : ¬ left m a < 0) : left (left m a) b = left m ((a + b : Nat)) := by
  obtain ⟨h1, h2⟩ := left_pos h
  rw [h1]
  unfold left
  by_cases c : m - a - (b : Int) < 0
  · rw [if_pos c, if_pos (by omega)]
  · rw [if_neg c, if_neg (by omega)]; omega
theorem left_any {m : Int} {a b : Nat} (h : left m a < 0) (h0 : 0 ≤ m) : left m ((a + b : Nat)) = -1 := by
  unfold left at h ⊢
  split at h <;> rw [if_pos (by omega)]
theorem ok_laws_szShot (k : Nat) (on : Bool) (cut : List Int) (opn : List Bool) (kept : List (List Int)) (m : Int) (h0 : 0 ≤ m) (h1 : m ≤ 1048576) (hb : ShotB 140737488355328 cut opn kept) :
    callE PR C (k + 3) 61 [aShot 0 on cut opn kept, i64 m] [tI cut, tBool opn, tIntSS kept] = some ⟨i64 (left m (shotSz cut opn kept)), [], [none, none, none]⟩ := by
  have q1 := fun k => ok_laws_szIntS k cut m h0 h1 hb.c
  unfold shotSz
  generalize hk : kept.length + wts List.length kept = kk
  by_cases c1 : left m cut.length < 0
  · rw [left_any c1 h0]
    rw [left_m1 c1] at q1
    (refine fnI [ResultVar.tmp 4] Tryz.func61 ?_; conv => whnf)
    repeat' ((with_reducible (first | refine sCall.of (q1 _) ?_|refine st17 ?_|refine fG.split (fun _ => ?_) (fun _ => ?_)|refine fG.bool (fun _ => ?_) (fun _ => ?_))) <;> (try (conv => whnf)))
  · obtain ⟨d1, d2⟩ := left_pos c1
    rw [← left_add c1]
    have q2 := fun k => ok_laws_szBoolS k opn (left m cut.length) (by omega) (by omega) hb.o
    by_cases c2 : left (left m cut.length) opn.length < 0
    · rw [left_any c2 (by omega)]
      rw [left_m1 c2] at q2
      (refine fnI [ResultVar.tmp 4] Tryz.func61 ?_; conv => whnf)
      repeat' ((with_reducible (first | refine sCall.of (q1 _) ?_|refine sCall.of (q2 _) ?_|refine st17 ?_|refine fG.split (fun _ => ?_) (fun _ => ?_)|refine fG.bool (fun _ => ?_) (fun _ => ?_))) <;> (try (conv => whnf)))
    · obtain ⟨d3, d4⟩ := left_pos c2
      rw [← left_add c2]
      have q3 := fun k => ok_laws_szIntSS k kept (left (left m cut.length) opn.length) (by omega) (by omega) hb.k hb.kk
      rw [hk] at q3
      by_cases c3 : left (left (left m cut.length) opn.length) kk < 0
      · rw [left_m1 c3] at q3 ⊢
        (refine fnI [ResultVar.tmp 4] Tryz.func61 ?_; conv => whnf)
        repeat' ((with_reducible (first | refine sCall.of (q1 _) ?_|refine sCall.of (q2 _) ?_|refine sCall.of (q3 _) ?_|refine st17 ?_|refine fG.split (fun _ => ?_) (fun _ => ?_)|refine fG.bool (fun _ => ?_) (fun _ => ?_))) <;> (try (conv => whnf)))
      · obtain ⟨d5, d6⟩ := left_pos c3
        (refine fnI [ResultVar.tmp 4] Tryz.func61 ?_; conv => whnf)
        repeat' ((with_reducible (first | refine sCall.of (q1 _) ?_|refine sCall.of (q2 _) ?_|refine sCall.of (q3 _) ?_|refine st17 ?_|refine fG.split (fun _ => ?_) (fun _ => ?_)|refine fG.bool (fun _ => ?_) (fun _ => ?_))) <;> (try (conv => whnf)))
theorem ok_laws_szLive (k : Nat) (P : List (List Ins)) (S : List State) (W : List (List Item)) (H : List (List Event)) (on : Bool) (cut : List Int) (opn : List Bool) (kept : List (List Int)) (m : Int) (h0 : 0 ≤ m) (h1 : m ≤ 1048576) (hb : SysB 140737488355328 P S W H) (hs : ShotB 140737488355328 cut opn kept) :
    callE PR C (k + 5) 15 [aLive 0 P S W H on cut opn kept, i64 m] [tInsSS P, tStateS S, tItemSS W, tEventSS H, tI cut, tBool opn, tIntSS kept] = some ⟨i64 (left m ((sysSz P S W H + shotSz cut opn kept : Nat))), [], [none, none, none, none, none, none, none]⟩ := by
  have q1 := fun k => ok_laws_szSys k P S W H m h0 h1 hb
  by_cases c1 : left m (sysSz P S W H) < 0
  · rw [left_any c1 h0]
    rw [left_m1 c1] at q1
    (refine fnI [ResultVar.tmp 4] Tryz.func15 ?_; conv => whnf)
    repeat' ((with_reducible (first | refine sCall.of (q1 _) ?_|refine st17 ?_|refine fG.split (fun _ => ?_) (fun _ => ?_)|refine fG.bool (fun _ => ?_) (fun _ => ?_))) <;> (try (conv => whnf)))
  · obtain ⟨d1, d2⟩ := left_pos c1
    rw [← left_add c1]
    have q2 := fun k => ok_laws_szShot k on cut opn kept (left m (sysSz P S W H)) (by omega) (by omega) hs
    by_cases c2 : left (left m (sysSz P S W H)) (shotSz cut opn kept) < 0
    · rw [left_m1 c2] at q2 ⊢
      (refine fnI [ResultVar.tmp 4] Tryz.func15 ?_; conv => whnf)
      repeat' ((with_reducible (first | refine sCall.of (q1 _) ?_|refine sCall.of (q2 _) ?_|refine st17 ?_|refine fG.split (fun _ => ?_) (fun _ => ?_)|refine fG.bool (fun _ => ?_) (fun _ => ?_))) <;> (try (conv => whnf)))
    · obtain ⟨d3, d4⟩ := left_pos c2
      (refine fnI [ResultVar.tmp 4] Tryz.func15 ?_; conv => whnf)
      repeat' ((with_reducible (first | refine sCall.of (q1 _) ?_|refine sCall.of (q2 _) ?_|refine st17 ?_|refine fG.split (fun _ => ?_) (fun _ => ?_)|refine fG.bool (fun _ => ?_) (fun _ => ?_))) <;> (try (conv => whnf)))
set_option maxRecDepth 10000 in
theorem ok_laws_toShot (k : Nat) (on : Bool) (cut : List Int) (opn : List Bool) (kept : List (List Int)) (hb : ShotB 100000000000 cut opn kept) :
    callE PR C (k + 3) 65 [aShot 0 on cut opn kept] [tI cut, tBool opn, tIntSS kept] = some ⟨nShot 0 on cut opn kept, [tI9 cut, tBool9 opn, tIntSS9 kept], [none, none, none]⟩ := by
  have q1 := fun k => ok_laws_toIntS k cut hb.c
  have q2 := fun k => ok_laws_toBoolS k opn hb.o
  have q3 := fun k => ok_laws_toIntSS k kept hb.k hb.kk
  (refine fnI [ResultVar.cell 2 43] Tryz.func65 ?_; conv => whnf)
  repeat' ((with_reducible (first | refine sCall.of (q1 _) ?_|refine sCall.of (q2 _) ?_|refine sCall.of (q3 _) ?_|refine st17 ?_|refine fG.split (fun _ => ?_) (fun _ => ?_)|refine fG.bool (fun _ => ?_) (fun _ => ?_))) <;> (try (conv => whnf)))
set_option maxRecDepth 10000 in
theorem ok_laws_eqShot (k : Nat) (on : Bool) (cut : List Int) (opn : List Bool) (kept : List (List Int)) (hb : ShotB 100000000000 cut opn kept) :
    callE PR C (k + 3) 69 [aShot 0 on cut opn kept, aShot 3 on cut opn kept] [tI cut, tBool opn, tIntSS kept, tI cut, tBool opn, tIntSS kept] = some ⟨bl true, [], [none, none, none, none, none, none]⟩ := by
  have q1 := fun k => ok_laws_eqIntS k cut hb.c
  have q2 := fun k => ok_laws_eqBoolS k opn hb.o
  have q3 := fun k => ok_laws_eqIntSS k kept hb.k hb.kk
  cases on
  all_goals
    (refine fnI [ResultVar.tmp 4] Tryz.func69 ?_; conv => whnf)
    repeat' ((with_reducible (first | refine sCall.of (q1 _) ?_|refine sCall.of (q2 _) ?_|refine sCall.of (q3 _) ?_|refine st17 ?_|refine fG.split (fun _ => ?_) (fun _ => ?_)|refine fG.bool (fun _ => ?_) (fun _ => ?_))) <;> (try (conv => whnf)))
set_option maxRecDepth 20000 in
theorem ok_laws_toLive (k : Nat) (P : List (List Ins)) (S : List State) (W : List (List Item)) (H : List (List Event)) (on : Bool) (cut : List Int) (opn : List Bool) (kept : List (List Int)) (hb : SysB 100000000000 P S W H) (hs : ShotB 100000000000 cut opn kept) :
    callE PR C (k + 5) 17 [aLive 0 P S W H on cut opn kept] [tInsSS P, tStateS S, tItemSS W, tEventSS H, tI cut, tBool opn, tIntSS kept] = some ⟨nLive 0 P S W H on cut opn kept, [tInsSS9 P, tStateS9 S, tItemSS9 W, tEventSS9 H, tI9 cut, tBool9 opn, tIntSS9 kept], [none, none, none, none, none, none, none]⟩ := by
  have q1 := fun k => ok_laws_toSys k P S W H hb
  have q2 := fun k => ok_laws_toShot k on cut opn kept hs
  (refine fnI [ResultVar.cell 2 45] Tryz.func17 ?_; conv => whnf)
  repeat' ((with_reducible (first | refine sCall.of (q1 _) ?_|refine sCall.of (q2 _) ?_|refine st17 ?_|refine fG.split (fun _ => ?_) (fun _ => ?_)|refine fG.bool (fun _ => ?_) (fun _ => ?_))) <;> (try (conv => whnf)))
set_option maxRecDepth 20000 in
theorem ok_laws_eqLive (k : Nat) (P : List (List Ins)) (S : List State) (W : List (List Item)) (H : List (List Event)) (on : Bool) (cut : List Int) (opn : List Bool) (kept : List (List Int)) (hb : SysB 100000000000 P S W H) (hs : ShotB 100000000000 cut opn kept) :
    callE PR C (k + 5) 19 [aLive 0 P S W H on cut opn kept, aLive 7 P S W H on cut opn kept] [tInsSS P, tStateS S, tItemSS W, tEventSS H, tI cut, tBool opn, tIntSS kept, tInsSS P, tStateS S, tItemSS W, tEventSS H, tI cut, tBool opn, tIntSS kept] = some ⟨bl true, [], [none, none, none, none, none, none, none, none, none, none, none, none, none, none]⟩ := by
  have q1 := fun k => ok_laws_eqSys k P S W H hb
  have q2 := fun k => ok_laws_eqShot k on cut opn kept hs
  (refine fnI [ResultVar.tmp 4] Tryz.func19 ?_; conv => whnf)
  repeat' ((with_reducible (first | refine sCall.of (q1 _) ?_|refine sCall.of (q2 _) ?_|refine st17 ?_|refine fG.split (fun _ => ?_) (fun _ => ?_)|refine fG.bool (fun _ => ?_) (fun _ => ?_))) <;> (try (conv => whnf)))

def markedB (w : List Item) : Bool := w.any (·.mark)
def marksB (W : List (List Item)) : Bool := W.any markedB
theorem ok_impl_marked11 (k : Nat) (x : Item) : callE PR C (k + 1) 149 [.ag [bl x.mark, i64 x.v]] [] = some ⟨bl x.mark, [], []⟩ := by
  (refine fnI [ResultVar.tmp 2] Tryz.func149 ?_; conv => whnf)
  repeat' ((with_reducible (first | refine st17 ?_|refine fG.split (fun _ => ?_) (fun _ => ?_)|refine fG.bool (fun _ => ?_) (fun _ => ?_))) <;> (try (conv => whnf)))
theorem ok_IndexFunc_Mark (k : Nat) (w : List Item) (hw : w.length ≤ 100000000000) :
    callE PR C (k + 2) 217 [.h 1000000 0 0 [] 2 0 w.length, .fn 149 []] [tItem w] = some ⟨i64 (idxP (·.mark) w), [], [none]⟩ := by
  (refine fnI [ResultVar.tmp 4] Tryz.func217 ?_; conv => whnf)
  refine loop_rule (ι := Nat) (fun i => [(0, .h 1000000 0 0 [] 2 0 w.length), (1, .fn 149 []), (7, i64 w.length), (8, i64 (i : Nat))]) (fun i => [(1000000, ⟨0, 0, false, tItem w⟩)])
    (fun i => w.length - i) (fun i => i ≤ w.length ∧ w.findIdx? (·.mark) = ((w.drop i).findIdx? (·.mark)).map (· + i)) 0 fitOk (by simp) (by simp [C]; omega) ?_
  rintro i sl ob ⟨hi, hall⟩
  (conv => whnf)
  repeat' ((with_reducible (first | refine sCall.of (ok_impl_marked11 _ _) ?_|refine st17 ?_|refine fG.split (fun _ => ?_) (fun _ => ?_)|refine fG.bool (fun _ => ?_) (fun _ => ?_))) <;> (try (conv => whnf)))
  case refine_1.refine_2 h hx =>
    refine ⟨⟨i + 1, fitOk, ?_, ?_⟩⟩
    · exact ⟨by show i + 1 ≤ _; omega, findIdx_step (by omega) hall hx⟩
    · show w.length - (i + 1) < w.length - i; omega
  case refine_1.refine_1 h hx => rw [findIdx_here (by omega) hall hx]
  case refine_2 h => rw [findIdx_none (by omega) hall]
theorem ok_ContainsFunc_Mark (k : Nat) (w : List Item) (hw : w.length ≤ 100000000000) :
    callE PR C (k + 3) 148 [.h 1000000 0 0 [] 2 0 w.length, .fn 149 []] [tItem w] = some ⟨bl (markedB w), [], [none]⟩ := by
  unfold markedB
  rw [← idxP_any]
  (refine fnI [ResultVar.tmp 4] Tryz.func148 ?_; conv => whnf)
  repeat' ((with_reducible (first | refine sCall.of (ok_IndexFunc_Mark _ _ hw) ?_|refine st17 ?_|refine fG.split (fun _ => ?_) (fun _ => ?_)|refine fG.bool (fun _ => ?_) (fun _ => ?_))) <;> (try (conv => whnf)))
theorem ok_impl_marked1 (k : Nat) (w : List Item) (hw : w.length ≤ 100000000000) : callE PR C (k + 4) 147 [.h 1000000 0 0 [] 2 0 w.length] [tItem w] = some ⟨bl (markedB w), [], [none]⟩ := by
  (refine fnI [ResultVar.tmp 2] Tryz.func147 ?_; conv => whnf)
  repeat' ((with_reducible (first | refine sCall.of (ok_ContainsFunc_Mark _ _ hw) ?_|refine st17 ?_|refine fG.split (fun _ => ?_) (fun _ => ?_)|refine fG.bool (fun _ => ?_) (fun _ => ?_))) <;> (try (conv => whnf)))
theorem ok_IndexFunc_Marks (k : Nat) (W : List (List Item)) (hW : W.length ≤ 100000000000) (hx : ∀ j : Nat, j < W.length → (rd W j).length ≤ 100000000000) :
    callE PR C (k + 5) 207 [.h 1000000 0 0 [] 1 0 W.length, .fn 147 []] [tItemSS W] = some ⟨i64 (idxP markedB W), [], [none]⟩ := by
  (refine fnI [ResultVar.tmp 4] Tryz.func207 ?_; conv => whnf)
  refine loop_rule (ι := Nat) (fun i => [(0, .h 1000000 0 0 [] 1 0 W.length), (1, .fn 147 []), (7, i64 W.length), (8, i64 (i : Nat))]) (fun i => [(1000000, ⟨0, 0, false, tItemSS W⟩)])
    (fun i => W.length - i) (fun i => i ≤ W.length ∧ W.findIdx? markedB = ((W.drop i).findIdx? markedB).map (· + i)) 0 fitOk (by simp) (by simp [C]; omega) ?_
  rintro i sl ob ⟨hi, hall⟩
  (conv => whnf)
  by_cases hil : i < W.length
  · have hxi := hx i hil
    have q1 := fun k => ok_impl_marked1 k (rd W i) hxi
    cases e : markedB (rd W i)
    all_goals simp only [e] at q1
    · repeat' ((with_reducible (first | refine sCall.of (q1 _) ?_|refine st17 ?_|refine fG.split (fun _ => ?_) (fun _ => ?_)|refine fG.bool (fun _ => ?_) (fun _ => ?_))) <;> (try (conv => whnf)))
      all_goals first
        | (exfalso; simp_all; done)
        | (refine ⟨⟨i + 1, fitOk, ?_, ?_⟩⟩
           · exact ⟨by show i + 1 ≤ _; omega, findIdx_step (by omega) hall e⟩
           · show W.length - (i + 1) < W.length - i; omega)
    · rw [findIdx_here (by omega) hall e]
      repeat' ((with_reducible (first | refine sCall.of (q1 _) ?_|refine st17 ?_|refine fG.split (fun _ => ?_) (fun _ => ?_)|refine fG.bool (fun _ => ?_) (fun _ => ?_))) <;> (try (conv => whnf)))
  · rw [findIdx_none (by omega) hall]
    repeat' ((with_reducible (first | refine st17 ?_|refine fG.split (fun _ => ?_) (fun _ => ?_)|refine fG.bool (fun _ => ?_) (fun _ => ?_))) <;> (try (conv => whnf)))
theorem ok_ContainsFunc_Marks (k : Nat) (W : List (List Item)) (hW : W.length ≤ 100000000000) (hx : ∀ j : Nat, j < W.length → (rd W j).length ≤ 100000000000) :
    callE PR C (k + 6) 140 [.h 1000000 0 0 [] 1 0 W.length, .fn 147 []] [tItemSS W] = some ⟨bl (marksB W), [], [none]⟩ := by
  unfold marksB
  rw [← idxP_any]
  (refine fnI [ResultVar.tmp 4] Tryz.func140 ?_; conv => whnf)
  repeat' ((with_reducible (first | refine sCall.of (ok_IndexFunc_Marks _ _ hW hx) ?_|refine st17 ?_|refine fG.split (fun _ => ?_) (fun _ => ?_)|refine fG.bool (fun _ => ?_) (fun _ => ?_))) <;> (try (conv => whnf)))
theorem ok_impl_marked (k : Nat) (P : List (List Ins)) (S : List State) (W : List (List Item)) (H : List (List Event)) (hb : SysB 10000000000 P S W H) :
    callE PR C (k + 7) 68 [aSys 0 P S W H] [tInsSS P, tStateS S, tItemSS W, tEventSS H] = some ⟨bl (marksB W), [], [none, none, none, none]⟩ := by
  have hw := hb.w
  have hx := hb.ww
  (refine fnI [ResultVar.tmp 2] Tryz.func68 ?_; conv => whnf)
  have q1 := fun k => ok_ContainsFunc_Marks k W (by omega) (fun j hj => by have := hx j hj; omega)
  repeat' ((with_reducible (first | refine sCall.of (q1 _) ?_|refine st17 ?_|refine fG.split (fun _ => ?_) (fun _ => ?_)|refine fG.bool (fun _ => ?_) (fun _ => ?_))) <;> (try (conv => whnf)))
theorem any_no {α : Type} [Inhabited α] {f : α → Bool} {l : List α} (h : ∀ i, i < l.length → f (rd l i) = false) : l.any f = false := by
  rw [List.any_eq_false]
  intro x hx
  obtain ⟨i, hi, rfl⟩ := List.mem_iff_getElem.1 hx
  have := h i hi
  rw [rd_at hi] at this
  simp [this]
theorem any_yes {α : Type} [Inhabited α] {f : α → Bool} {l : List α} {i : Nat} (h : i < l.length) (e : f (rd l i) = true) : l.any f = true := by
  rw [List.any_eq_true]
  exact ⟨_, rd_mem h, e⟩
theorem ok_spec_l11Marks (k : Nat) (P : List (List Ins)) (S : List State) (W : List (List Item)) (H : List (List Event)) (hb : SysB 10000000000 P S W H) :
    callE PR C (k + 1) 64 [aSys 0 P S W H] [tInsSS P, tStateS S, tItemSS W, tEventSS H] = some ⟨bl (marksB W), [], [none, none, none, none]⟩ := by
  have hw := hb.w
  have hx := hb.ww
  (refine fnI [ResultVar.tmp 2] Tryz.func64 ?_; conv => whnf)
  repeat' ((with_reducible (first | refine st17 ?_|refine fG.split (fun _ => ?_) (fun _ => ?_)|refine fG.bool (fun _ => ?_) (fun _ => ?_))) <;> (try (conv => whnf)))
  refine loop_rule (ι := Nat) (fun j => [(1, .pt 1 1 0 [] 0 0), (3, i64 (j : Nat))])
    (fun _ => [(1000000, ⟨0, 0, false, tInsSS P⟩), (1000001, ⟨0, 0, false, tStateS S⟩), (1000002, ⟨0, 0, false, tItemSS W⟩), (1000003, ⟨0, 0, false, tEventSS H⟩), (1, ⟨1, 0, false, bSys P S W H⟩)])
    (fun j => W.length - j) (fun j => j ≤ W.length ∧ ∀ q, q < j → markedB (rd W q) = false) 0 fitOk ⟨Nat.zero_le _, fun q h => absurd h (Nat.not_lt_zero q)⟩ (by simp [C]; omega) ?_
  rintro j sl ob ⟨hj, hno⟩
  (try dsimp only [cond_true, cond_false])
  (conv => whnf)
  by_cases hjl : j < W.length
  · have hxj := hx j hjl
    have e4 : (List.map rItem (rd W j)).length = (rd W j).length := by simp
    repeat' ((with_reducible (first | refine st17 ?_|refine fG.split (fun _ => ?_) (fun _ => ?_)|refine fG.bool (fun _ => ?_) (fun _ => ?_))) <;> (try (conv => whnf)))
    refine loop_rule (ι := Nat) (fun i => [(1, .pt 1 1 0 [] 0 0), (3, i64 (j : Nat)), (4, i64 (i : Nat))])
      (fun _ => [(1000000, ⟨0, 0, false, tInsSS P⟩), (1000001, ⟨0, 0, false, tStateS S⟩), (1000002, ⟨0, 0, false, tItemSS W⟩), (1000003, ⟨0, 0, false, tEventSS H⟩), (1, ⟨1, 0, false, bSys P S W H⟩)])
      (fun i => (rd W j).length - i) (fun i => i ≤ (rd W j).length ∧ ∀ q, q < i → (rd (rd W j) q).mark = false) 0 fitOk ⟨Nat.zero_le _, fun q h => absurd h (Nat.not_lt_zero q)⟩ (by simp [C]; omega) ?_
    clear sl ob
    rintro i sl ob ⟨hi, hni⟩
    (try dsimp only [cond_true, cond_false])
    (conv => whnf)
    by_cases hil : i < (rd W j).length
    · cases e : (rd (rd W j) i).mark
      · repeat' ((with_reducible (first | refine st17 ?_|refine fG.split (fun _ => ?_) (fun _ => ?_)|refine fG.bool (fun _ => ?_) (fun _ => ?_))) <;> (try (conv => whnf)))
        all_goals first
          | (exfalso; simp_all; done)
          | (refine ⟨⟨i + 1, fitOk, ?_, ?_⟩⟩
             · exact ⟨by show i + 1 ≤ _; omega, fun q hq => by rcases Nat.lt_succ_iff_lt_or_eq.1 hq with h | h; exact hni q h; rw [h]; exact e⟩
             · show (rd W j).length - (i + 1) < (rd W j).length - i; omega)
      · rw [show marksB W = true from any_yes hjl (by unfold markedB; exact any_yes hil e)]
        repeat' ((with_reducible (first | refine st17 ?_|refine fG.split (fun _ => ?_) (fun _ => ?_)|refine fG.bool (fun _ => ?_) (fun _ => ?_))) <;> (try (conv => whnf)))
        all_goals (exfalso; simp_all; done)
    · repeat' ((with_reducible (first | refine st17 ?_|refine fG.split (fun _ => ?_) (fun _ => ?_)|refine fG.bool (fun _ => ?_) (fun _ => ?_))) <;> (try (conv => whnf)))
      refine ⟨⟨j + 1, fitOk, ?_, ?_⟩⟩
      · exact ⟨by show j + 1 ≤ _; omega, fun q hq => by rcases Nat.lt_succ_iff_lt_or_eq.1 hq with h | h; exact hno q h; rw [h]; exact any_no fun i hi => hni i (by omega)⟩
      · show W.length - (j + 1) < W.length - j; omega
  · rw [show marksB W = false from any_no fun q hq => hno q (by omega)]
    repeat' ((with_reducible (first | refine st17 ?_|refine fG.split (fun _ => ?_) (fun _ => ?_)|refine fG.bool (fun _ => ?_) (fun _ => ?_))) <;> (try (conv => whnf)))

end Go.Proofs.YtlobpiebphnkiaaGreat.Abs
namespace Go.Proofs.YtlobpiebphnkiaaGreat.Abs
open Go Go.Proofs
set_option linter.unusedVariables false
set_option linter.unusedSimpArgs false
attribute [local irreducible] callE
def cutOk (H : List (List Event)) (cut : List Int) (opn : List Bool) (kept : List (List Int)) (n p : Nat) : Bool :=
  inB (rd cut p) (-1) (rd H p).length && (decide (0 ≤ rd cut p) || allBelow n fun a => !(rd opn (a * n + p)) && decide ((rd kept (a * n + p)).length = 0))
def shotLens (n : Nat) (cut : List Int) (opn : List Bool) (kept : List (List Int)) : Bool := decide (cut.length = n) && (decide (opn.length = n * n) && decide (kept.length = n * n))
def drawnB (cut : List Int) : Bool := cut.any fun c => decide (0 ≤ c)
def liveOk (P : List (List Ins)) (S : List State) (W : List (List Item)) (H : List (List Event)) (on : Bool) (cut : List Int) (opn : List Bool) (kept : List (List Int)) : Bool :=
  sysOk P S W H && (shotLens P.length cut opn kept && (allBelow P.length (cutOk H cut opn kept P.length) && (decide (on = drawnB cut) && (on || !marksB W))))
theorem liveOk_lens {P : List (List Ins)} {S : List State} {W : List (List Item)} {H : List (List Event)} {on : Bool} {cut : List Int} {opn : List Bool} {kept : List (List Int)} (h : shotLens P.length cut opn kept = false) : liveOk P S W H on cut opn kept = false := by simp [liveOk, h]
theorem liveOk_cut {P : List (List Ins)} {S : List State} {W : List (List Item)} {H : List (List Event)} {on : Bool} {cut : List Int} {opn : List Bool} {kept : List (List Int)} {p : Nat} (hp : p < P.length) (h : cutOk H cut opn kept P.length p = false) : liveOk P S W H on cut opn kept = false := by simp [liveOk, allBelow_no hp h]
theorem drawn_take {cut : List Int} {j : Nat} (h : j < cut.length) : drawnB (cut.take (j + 1)) = (drawnB (cut.take j) || decide (0 ≤ rd cut j)) := by
  rw [show cut.take (j + 1) = cut.take j ++ [rd cut j] by rw [List.take_add_one]; simp [rd, h]]
  simp [drawnB]
abbrev bLive (P : List (List Ins)) (S : List State) (W : List (List Item)) (H : List (List Event)) (on : Bool) (cut : List Int) (opn : List Bool) (kept : List (List Int)) : Cont :=
  .box [.h 1000000 0 0 [] 1 0 P.length, .h 1000001 0 0 [] 4 0 S.length, .h 1000002 0 0 [] 1 0 W.length, .h 1000003 0 0 [] 1 0 H.length, bl on, .h 1000004 0 0 [] 1 0 cut.length, .h 1000005 0 0 [] 1 0 opn.length, .h 1000006 0 0 [] 1 0 kept.length]
structure LV where
  j : Nat
  s : Bool
set_option maxHeartbeats 8000000 in
set_option maxRecDepth 10000 in
theorem ok_impl_LiveOk (k : Nat) (P : List (List Ins)) (S : List State) (W : List (List Item)) (H : List (List Event)) (on : Bool) (cut : List Int) (opn : List Bool) (kept : List (List Int)) (hb : SysB 10000000000 P S W H) (hs : ShotB 10000000000 cut opn kept) :
    callE PR C (k + 12) 18 [aLive 0 P S W H on cut opn kept] [tInsSS P, tStateS S, tItemSS W, tEventSS H, tI cut, tBool opn, tIntSS kept] = some ⟨bl (liveOk P S W H on cut opn kept), [], [none, none, none, none, none, none, none]⟩ := by
  have b1 := hb.p
  have s1 := hs.c
  have s2 := hs.o
  have s3 := hs.k
  have q1 := fun k => ok_impl_SysOk k P S W H hb
  cases e : sysOk P S W H with
  | false =>
    simp only [e] at q1
    rw [show liveOk P S W H on cut opn kept = false by simp [liveOk, e]]
    (refine fnI [ResultVar.tmp 2] Tryz.func18 ?_; conv => whnf)
    repeat' ((with_reducible (first | refine sCall.of (q1 _) ?_|refine st17 ?_|refine fG.split (fun _ => ?_) (fun _ => ?_)|refine fG.bool (fun _ => ?_) (fun _ => ?_))) <;> (try (conv => whnf)))
  | true =>
    simp only [e] at q1
    obtain ⟨hI, hP, hS, h200⟩ := sysOk_facts e
    have hN := hI.n
    have hHl := hI.h
    have hnn : P.length * P.length ≤ 4 * 4 := Nat.mul_le_mul (by omega) (by omega)
    have w1 : IntKind.i64.wrap ((P.length : Int) * (P.length : Int)) = ((P.length * P.length : Nat) : Int) := by
      rw [show (P.length : Int) * (P.length : Int) = ((P.length * P.length : Nat) : Int) by simp]; exact wrap_i64 _ (by omega) (by omega)
    by_cases d1 : cut.length = P.length
    · by_cases d2 : opn.length = P.length * P.length
      · by_cases d3 : kept.length = P.length * P.length
        · have hL : shotLens P.length cut opn kept = true := by simp [shotLens, d1, d2, d3]
          (refine fnI [ResultVar.tmp 2] Tryz.func18 ?_; conv => whnf)
          repeat' ((with_reducible (first | refine sCall.of (q1 _) ?_|refine sW.eq (w1) ?_|refine st17 ?_|refine fG.split (fun _ => ?_) (fun _ => ?_)|refine fG.bool (fun _ => ?_) (fun _ => ?_))) <;> (try (conv => whnf)))
          refine loop_rule (ι := LV) (fun z => [(1, .pt 1 1 0 [] 0 0), (3, i64 P.length), (4, bl z.s), (46, .h 1000004 0 0 [] 1 0 cut.length), (47, i64 cut.length), (48, i64 (z.j : Nat))])
            (fun _ => [(1000000, ⟨0, 0, false, tInsSS P⟩), (1000001, ⟨0, 0, false, tStateS S⟩), (1000002, ⟨0, 0, false, tItemSS W⟩), (1000003, ⟨0, 0, false, tEventSS H⟩), (1000004, ⟨0, 0, false, tI cut⟩), (1000005, ⟨0, 0, false, tBool opn⟩), (1000006, ⟨0, 0, false, tIntSS kept⟩), (1, ⟨1, 0, false, bLive P S W H on cut opn kept⟩)])
            (fun z => cut.length - z.j) (fun z => z.j ≤ cut.length ∧ z.s = drawnB (cut.take z.j) ∧ ∀ q, q < z.j → cutOk H cut opn kept P.length q = true) ⟨0, false⟩ fitOk ⟨Nat.zero_le _, by simp [drawnB], fun q h => absurd h (Nat.not_lt_zero q)⟩ (by simp [C]; omega) ?_
          rintro ⟨p, s⟩ sl ob ⟨hj, hs', hpr⟩
          dsimp only at hj hs' hpr
          (try dsimp only [cond_true, cond_false])
          (conv => whnf)
          by_cases hpl : p < cut.length
          · have e4 : (List.map rEvent (rd H p)).length = (rd H p).length := by simp
            have h2 := h200 p (by omega)
            have q2 := fun k => ok_impl_in k (rd cut p) (-1) ((List.map rEvent (rd H p)).length : Int)
            have hdt := drawn_take hpl
            rw [← hs'] at hdt
            by_cases c1 : -1 ≤ rd cut p ∧ rd cut p ≤ ((List.map rEvent (rd H p)).length : Int)
            · rw [decide_eq_true c1] at q2
              rw [e4] at c1
              by_cases c2 : 0 ≤ rd cut p
              · have hc : cutOk H cut opn kept P.length p = true := by simp [cutOk, inB, c1, c2]
                have hpr2 : ∀ q, q < p + 1 → cutOk H cut opn kept P.length q = true := fun q hq => by rcases Nat.lt_succ_iff_lt_or_eq.1 hq with h | h; exact hpr q h; rw [h]; exact hc
                cases s
                all_goals
                  repeat' ((with_reducible (first | refine sCall.of (q2 _) ?_|refine st17 ?_|refine fG.split (fun _ => ?_) (fun _ => ?_)|refine fG.bool (fun _ => ?_) (fun _ => ?_))) <;> (try (conv => whnf)))
                  refine loop_rule (ι := Nat) (fun a => [(1, .pt 1 1 0 [] 0 0), (3, i64 P.length), (4, bl (drawnB (List.take (p + 1) cut))), (5, i64 (p : Nat)), (6, i64 (rd cut p)), (46, .h 1000004 0 0 [] 1 0 cut.length), (47, i64 cut.length), (48, i64 (p : Nat)), (68, i64 P.length), (69, i64 (a : Nat))])
                    (fun _ => [(1000000, ⟨0, 0, false, tInsSS P⟩), (1000001, ⟨0, 0, false, tStateS S⟩), (1000002, ⟨0, 0, false, tItemSS W⟩), (1000003, ⟨0, 0, false, tEventSS H⟩), (1000004, ⟨0, 0, false, tI cut⟩), (1000005, ⟨0, 0, false, tBool opn⟩), (1000006, ⟨0, 0, false, tIntSS kept⟩), (1, ⟨1, 0, false, bLive P S W H on cut opn kept⟩)])
                    (fun a => P.length - a) (fun a => a ≤ P.length) 0 (by rw [hdt]; exact fitOk) (Nat.zero_le _) (by simp [C]; omega) ?_
                  clear sl ob
                  rintro a sl ob ha
                  (try dsimp only [cond_true, cond_false])
                  (conv => whnf)
                  by_cases hal : a < P.length
                  · repeat' ((with_reducible (first | refine st17 ?_|refine fG.split (fun _ => ?_) (fun _ => ?_)|refine fG.bool (fun _ => ?_) (fun _ => ?_))) <;> (try (conv => whnf)))
                    refine ⟨⟨a + 1, fitOk, ?_, ?_⟩⟩
                    · show a + 1 ≤ _; omega
                    · show P.length - (a + 1) < P.length - a; omega
                  · repeat' ((with_reducible (first | refine st17 ?_|refine fG.split (fun _ => ?_) (fun _ => ?_)|refine fG.bool (fun _ => ?_) (fun _ => ?_))) <;> (try (conv => whnf)))
                    refine ⟨⟨⟨p + 1, drawnB (List.take (p + 1) cut)⟩, fitOk, ?_, ?_⟩⟩
                    · exact ⟨by show p + 1 ≤ _; omega, rfl, hpr2⟩
                    · show cut.length - (p + 1) < cut.length - p; omega
              · cases s
                all_goals
                  repeat' ((with_reducible (first | refine sCall.of (q2 _) ?_|refine st17 ?_|refine fG.split (fun _ => ?_) (fun _ => ?_)|refine fG.bool (fun _ => ?_) (fun _ => ?_))) <;> (try (conv => whnf)))
                  refine loop_rule (ι := Nat) (fun a => [(1, .pt 1 1 0 [] 0 0), (3, i64 P.length), (4, bl (drawnB (List.take (p + 1) cut))), (5, i64 (p : Nat)), (6, i64 (rd cut p)), (46, .h 1000004 0 0 [] 1 0 cut.length), (47, i64 cut.length), (48, i64 (p : Nat)), (68, i64 P.length), (69, i64 (a : Nat))])
                    (fun _ => [(1000000, ⟨0, 0, false, tInsSS P⟩), (1000001, ⟨0, 0, false, tStateS S⟩), (1000002, ⟨0, 0, false, tItemSS W⟩), (1000003, ⟨0, 0, false, tEventSS H⟩), (1000004, ⟨0, 0, false, tI cut⟩), (1000005, ⟨0, 0, false, tBool opn⟩), (1000006, ⟨0, 0, false, tIntSS kept⟩), (1, ⟨1, 0, false, bLive P S W H on cut opn kept⟩)])
                    (fun a => P.length - a) (fun a => a ≤ P.length ∧ ∀ b, b < a → (!(rd opn (b * P.length + p)) && decide ((rd kept (b * P.length + p)).length = 0)) = true) 0 (by rw [hdt]; exact fitOk) ⟨Nat.zero_le _, fun q h => absurd h (Nat.not_lt_zero q)⟩ (by simp [C]; omega) ?_
                  clear sl ob
                  rintro a sl ob ⟨ha, hbe⟩
                  (try dsimp only [cond_true, cond_false])
                  (conv => whnf)
                  by_cases hal : a < P.length
                  · have hpl4 := place_lt hal (show p < P.length by omega)
                    have w2 : IntKind.i64.wrap ((a : Int) * (P.length : Int)) = ((a * P.length : Nat) : Int) := by
                      rw [show (a : Int) * (P.length : Int) = ((a * P.length : Nat) : Int) by simp]; exact wrap_i64 _ (by omega) (by omega)
                    have w3 : IntKind.i64.wrap (((a * P.length : Nat) : Int) + (p : Int)) = ((a * P.length + p : Nat) : Int) := by rw [wrap_i64 _ (by omega) (by omega)]; simp
                    have hkk := hs.kk (a * P.length + p) (by omega)
                    have e5 : (List.map rI (rd kept (a * P.length + p))).length = (rd kept (a * P.length + p)).length := by simp
                    generalize hpp : a * P.length + p = pp at hpl4 w3 hkk e5
                    cases e6 : rd opn pp with
                    | true =>
                      rw [liveOk_cut (p := p) (by omega) (by simp only [cutOk, decide_eq_false c2, Bool.false_or, allBelow_no (f := fun a => !(rd opn (a * P.length + p)) && decide ((rd kept (a * P.length + p)).length = 0)) hal (by simp [hpp, e6]), Bool.and_false])]
                      repeat' ((with_reducible (first | refine sW.eq (w2) ?_|refine sW.eq (w3) ?_|refine st17 ?_|refine fG.split (fun _ => ?_) (fun _ => ?_)|refine fG.bool (fun _ => ?_) (fun _ => ?_))) <;> (try (conv => whnf)))
                    | false =>
                      by_cases c5 : (rd kept pp).length = 0
                      · repeat' ((with_reducible (first | refine sW.eq (w2) ?_|refine sW.eq (w3) ?_|refine st17 ?_|refine fG.split (fun _ => ?_) (fun _ => ?_)|refine fG.bool (fun _ => ?_) (fun _ => ?_))) <;> (try (conv => whnf)))
                        refine ⟨⟨a + 1, fitOk, ?_, ?_⟩⟩
                        · exact ⟨by show a + 1 ≤ _; omega, fun q hq => by rcases Nat.lt_succ_iff_lt_or_eq.1 hq with h | h; exact hbe q h; rw [h, hpp]; simp [e6, c5]⟩
                        · show P.length - (a + 1) < P.length - a; omega
                      · rw [liveOk_cut (p := p) (by omega) (by simp only [cutOk, decide_eq_false c2, Bool.false_or, allBelow_no (f := fun a => !(rd opn (a * P.length + p)) && decide ((rd kept (a * P.length + p)).length = 0)) hal (by simp [hpp, c5]), Bool.and_false])]
                        repeat' ((with_reducible (first | refine sW.eq (w2) ?_|refine sW.eq (w3) ?_|refine st17 ?_|refine fG.split (fun _ => ?_) (fun _ => ?_)|refine fG.bool (fun _ => ?_) (fun _ => ?_))) <;> (try (conv => whnf)))
                  · repeat' ((with_reducible (first | refine st17 ?_|refine fG.split (fun _ => ?_) (fun _ => ?_)|refine fG.bool (fun _ => ?_) (fun _ => ?_))) <;> (try (conv => whnf)))
                    refine ⟨⟨⟨p + 1, drawnB (List.take (p + 1) cut)⟩, fitOk, ?_, ?_⟩⟩
                    · refine ⟨by show p + 1 ≤ _; omega, rfl, fun q hq => ?_⟩
                      rcases Nat.lt_succ_iff_lt_or_eq.1 hq with h | h
                      · exact hpr q h
                      · rw [h]
                        simp only [cutOk, inB, decide_eq_true c1, decide_eq_false c2, Bool.false_or, Bool.true_and]
                        exact allBelow_yes fun b hb => hbe b (by omega)
                    · show cut.length - (p + 1) < cut.length - p; omega
            · rw [decide_eq_false c1] at q2
              rw [e4] at c1
              rw [liveOk_cut (p := p) (by omega) (by simp [cutOk, inB, c1])]
              repeat' ((with_reducible (first | refine sCall.of (q2 _) ?_|refine st17 ?_|refine fG.split (fun _ => ?_) (fun _ => ?_)|refine fG.bool (fun _ => ?_) (fun _ => ?_))) <;> (try (conv => whnf)))
          · have ePr := allBelow_yes (f := cutOk H cut opn kept P.length) (n := P.length) fun q hq => hpr q (by omega)
            rw [List.take_of_length_le (by omega)] at hs'
            have q3 := fun k => ok_impl_marked k P S W H hb
            rw [show liveOk P S W H on cut opn kept = (decide (on = s) && (on || !marksB W)) by simp only [liveOk, e, hL, ePr, hs', Bool.true_and]]
            cases on
            all_goals cases s
            all_goals cases em : marksB W
            all_goals
              simp only [em] at q3
              repeat' ((with_reducible (first | refine sCall.of (q3 _) ?_|refine st17 ?_|refine fG.split (fun _ => ?_) (fun _ => ?_)|refine fG.bool (fun _ => ?_) (fun _ => ?_))) <;> (try (conv => whnf)))
            all_goals rfl
        · rw [liveOk_lens (by simp [shotLens, d3])]
          (refine fnI [ResultVar.tmp 2] Tryz.func18 ?_; conv => whnf)
          repeat' ((with_reducible (first | refine sCall.of (q1 _) ?_|refine sW.eq (w1) ?_|refine st17 ?_|refine fG.split (fun _ => ?_) (fun _ => ?_)|refine fG.bool (fun _ => ?_) (fun _ => ?_))) <;> (try (conv => whnf)))
          all_goals first
            | rfl
            | (exfalso; omega)
      · rw [liveOk_lens (by simp [shotLens, d2])]
        (refine fnI [ResultVar.tmp 2] Tryz.func18 ?_; conv => whnf)
        repeat' ((with_reducible (first | refine sCall.of (q1 _) ?_|refine sW.eq (w1) ?_|refine st17 ?_|refine fG.split (fun _ => ?_) (fun _ => ?_)|refine fG.bool (fun _ => ?_) (fun _ => ?_))) <;> (try (conv => whnf)))
        all_goals first
          | rfl
          | (exfalso; omega)
    · rw [liveOk_lens (by simp [shotLens, d1])]
      (refine fnI [ResultVar.tmp 2] Tryz.func18 ?_; conv => whnf)
      repeat' ((with_reducible (first | refine sCall.of (q1 _) ?_|refine sW.eq (w1) ?_|refine st17 ?_|refine fG.split (fun _ => ?_) (fun _ => ?_)|refine fG.bool (fun _ => ?_) (fun _ => ?_))) <;> (try (conv => whnf)))
      all_goals first
        | rfl
        | (exfalso; omega)

set_option maxHeartbeats 8000000 in
set_option maxRecDepth 10000 in
theorem ok_spec_LiveOk (k : Nat) (P : List (List Ins)) (S : List State) (W : List (List Item)) (H : List (List Event)) (on : Bool) (cut : List Int) (opn : List Bool) (kept : List (List Int)) (hb : SysB 10000000000 P S W H) (hs : ShotB 10000000000 cut opn kept) :
    callE PR C (k + 8) 16 [aLive 0 P S W H on cut opn kept] [tInsSS P, tStateS S, tItemSS W, tEventSS H, tI cut, tBool opn, tIntSS kept] = some ⟨bl (liveOk P S W H on cut opn kept), [], [none, none, none, none, none, none, none]⟩ := by
  have b1 := hb.p
  have s1 := hs.c
  have s2 := hs.o
  have s3 := hs.k
  have q1 := fun k => ok_spec_SysOk k P S W H hb
  cases e : sysOk P S W H with
  | false =>
    simp only [e] at q1
    rw [show liveOk P S W H on cut opn kept = false by simp [liveOk, e]]
    (refine fnI [ResultVar.tmp 2] Tryz.func16 ?_; conv => whnf)
    repeat' ((with_reducible (first | refine sCall.of (q1 _) ?_|refine st17 ?_|refine fG.split (fun _ => ?_) (fun _ => ?_)|refine fG.bool (fun _ => ?_) (fun _ => ?_)|refine gDn 8 ?_)) <;> (try (conv => whnf)))
  | true =>
    simp only [e] at q1
    obtain ⟨hI, hP, hS, h200⟩ := sysOk_facts e
    have hN := hI.n
    have hHl := hI.h
    have hnn : P.length * P.length ≤ 4 * 4 := Nat.mul_le_mul (by omega) (by omega)
    have w1 : IntKind.i64.wrap ((P.length : Int) * (P.length : Int)) = ((P.length * P.length : Nat) : Int) := by
      rw [show (P.length : Int) * (P.length : Int) = ((P.length * P.length : Nat) : Int) by simp]; exact wrap_i64 _ (by omega) (by omega)
    by_cases d1 : cut.length = P.length
    · by_cases d2 : opn.length = P.length * P.length
      · by_cases d3 : kept.length = P.length * P.length
        · have hL : shotLens P.length cut opn kept = true := by simp [shotLens, d1, d2, d3]
          (refine fnI [ResultVar.tmp 2] Tryz.func16 ?_; conv => whnf)
          repeat' ((with_reducible (first | refine sCall.of (q1 _) ?_|refine sW.eq (w1) ?_|refine st17 ?_|refine fG.split (fun _ => ?_) (fun _ => ?_)|refine fG.bool (fun _ => ?_) (fun _ => ?_)|refine gDn 8 ?_)) <;> (try (conv => whnf)))
          refine loop_rule (ι := LV) (fun z => [(1, .pt 1 1 0 [] 0 0), (3, i64 P.length), (4, bl z.s), (5, i64 (z.j : Nat))])
            (fun _ => [(1000000, ⟨0, 0, false, tInsSS P⟩), (1000001, ⟨0, 0, false, tStateS S⟩), (1000002, ⟨0, 0, false, tItemSS W⟩), (1000003, ⟨0, 0, false, tEventSS H⟩), (1000004, ⟨0, 0, false, tI cut⟩), (1000005, ⟨0, 0, false, tBool opn⟩), (1000006, ⟨0, 0, false, tIntSS kept⟩), (1, ⟨1, 0, false, bLive P S W H on cut opn kept⟩)])
            (fun z => cut.length - z.j) (fun z => z.j ≤ cut.length ∧ z.s = drawnB (cut.take z.j) ∧ ∀ q, q < z.j → cutOk H cut opn kept P.length q = true) ⟨0, false⟩ fitOk ⟨Nat.zero_le _, by simp [drawnB], fun q h => absurd h (Nat.not_lt_zero q)⟩ (by simp [C]; omega) ?_
          rintro ⟨p, s⟩ sl ob ⟨hj, hs', hpr⟩
          dsimp only at hj hs' hpr
          (try dsimp only [cond_true, cond_false])
          (conv => whnf)
          by_cases hpl : p < cut.length
          · have e4 : (List.map rEvent (rd H p)).length = (rd H p).length := by simp
            have h2 := h200 p (by omega)
            have q2 := fun k => ok_spec_l1In k (rd cut p) (-1) ((List.map rEvent (rd H p)).length : Int)
            have hdt := drawn_take hpl
            rw [← hs'] at hdt
            by_cases c1 : -1 ≤ rd cut p ∧ rd cut p ≤ ((List.map rEvent (rd H p)).length : Int)
            · rw [decide_eq_true c1] at q2
              rw [e4] at c1
              by_cases c2 : 0 ≤ rd cut p
              · have hc : cutOk H cut opn kept P.length p = true := by simp [cutOk, inB, c1, c2]
                have hpr2 : ∀ q, q < p + 1 → cutOk H cut opn kept P.length q = true := fun q hq => by rcases Nat.lt_succ_iff_lt_or_eq.1 hq with h | h; exact hpr q h; rw [h]; exact hc
                cases s
                all_goals
                  repeat' ((with_reducible (first | refine sCall.of (q2 _) ?_|refine st17 ?_|refine fG.split (fun _ => ?_) (fun _ => ?_)|refine fG.bool (fun _ => ?_) (fun _ => ?_)|refine gDn 8 ?_)) <;> (try (conv => whnf)))
                  refine loop_rule (ι := Nat) (fun a => [(1, .pt 1 1 0 [] 0 0), (3, i64 P.length), (4, bl (drawnB (List.take (p + 1) cut))), (5, i64 (p : Nat)), (6, i64 (a : Nat))])
                    (fun _ => [(1000000, ⟨0, 0, false, tInsSS P⟩), (1000001, ⟨0, 0, false, tStateS S⟩), (1000002, ⟨0, 0, false, tItemSS W⟩), (1000003, ⟨0, 0, false, tEventSS H⟩), (1000004, ⟨0, 0, false, tI cut⟩), (1000005, ⟨0, 0, false, tBool opn⟩), (1000006, ⟨0, 0, false, tIntSS kept⟩), (1, ⟨1, 0, false, bLive P S W H on cut opn kept⟩)])
                    (fun a => P.length - a) (fun a => a ≤ P.length) 0 (by rw [hdt]; exact fitOk) (Nat.zero_le _) (by simp [C]; omega) ?_
                  clear sl ob
                  rintro a sl ob ha
                  (try dsimp only [cond_true, cond_false])
                  (conv => whnf)
                  by_cases hal : a < P.length
                  all_goals
                    repeat' ((with_reducible (first | refine st17 ?_|refine fG.split (fun _ => ?_) (fun _ => ?_)|refine fG.bool (fun _ => ?_) (fun _ => ?_)|refine gDn 8 ?_)) <;> (try (conv => whnf)))
                    refine ⟨⟨⟨p + 1, drawnB (List.take (p + 1) cut)⟩, fitOk, ?_, ?_⟩⟩
                    · exact ⟨by show p + 1 ≤ _; omega, rfl, hpr2⟩
                    · show cut.length - (p + 1) < cut.length - p; omega
              · cases s
                all_goals
                  repeat' ((with_reducible (first | refine sCall.of (q2 _) ?_|refine st17 ?_|refine fG.split (fun _ => ?_) (fun _ => ?_)|refine fG.bool (fun _ => ?_) (fun _ => ?_)|refine gDn 8 ?_)) <;> (try (conv => whnf)))
                  refine loop_rule (ι := Nat) (fun a => [(1, .pt 1 1 0 [] 0 0), (3, i64 P.length), (4, bl (drawnB (List.take (p + 1) cut))), (5, i64 (p : Nat)), (6, i64 (a : Nat))])
                    (fun _ => [(1000000, ⟨0, 0, false, tInsSS P⟩), (1000001, ⟨0, 0, false, tStateS S⟩), (1000002, ⟨0, 0, false, tItemSS W⟩), (1000003, ⟨0, 0, false, tEventSS H⟩), (1000004, ⟨0, 0, false, tI cut⟩), (1000005, ⟨0, 0, false, tBool opn⟩), (1000006, ⟨0, 0, false, tIntSS kept⟩), (1, ⟨1, 0, false, bLive P S W H on cut opn kept⟩)])
                    (fun a => P.length - a) (fun a => a ≤ P.length ∧ ∀ b, b < a → (!(rd opn (b * P.length + p)) && decide ((rd kept (b * P.length + p)).length = 0)) = true) 0 (by rw [hdt]; exact fitOk) ⟨Nat.zero_le _, fun q h => absurd h (Nat.not_lt_zero q)⟩ (by simp [C]; omega) ?_
                  clear sl ob
                  rintro a sl ob ⟨ha, hbe⟩
                  (try dsimp only [cond_true, cond_false])
                  (conv => whnf)
                  by_cases hal : a < P.length
                  · have hpl4 := place_lt hal (show p < P.length by omega)
                    have w2 : IntKind.i64.wrap ((a : Int) * (P.length : Int)) = ((a * P.length : Nat) : Int) := by
                      rw [show (a : Int) * (P.length : Int) = ((a * P.length : Nat) : Int) by simp]; exact wrap_i64 _ (by omega) (by omega)
                    have w3 : IntKind.i64.wrap (((a * P.length : Nat) : Int) + (p : Int)) = ((a * P.length + p : Nat) : Int) := by rw [wrap_i64 _ (by omega) (by omega)]; simp
                    have hkk := hs.kk (a * P.length + p) (by omega)
                    have e5 : (List.map rI (rd kept (a * P.length + p))).length = (rd kept (a * P.length + p)).length := by simp
                    generalize hpp : a * P.length + p = pp at hpl4 w3 hkk e5
                    cases e6 : rd opn pp with
                    | true =>
                      rw [liveOk_cut (p := p) (by omega) (by simp only [cutOk, decide_eq_false c2, Bool.false_or, allBelow_no (f := fun a => !(rd opn (a * P.length + p)) && decide ((rd kept (a * P.length + p)).length = 0)) hal (by simp [hpp, e6]), Bool.and_false])]
                      repeat' ((with_reducible (first | refine sW.eq (w2) ?_|refine sW.eq (w3) ?_|refine st17 ?_|refine fG.split (fun _ => ?_) (fun _ => ?_)|refine fG.bool (fun _ => ?_) (fun _ => ?_)|refine gDn 8 ?_)) <;> (try (conv => whnf)))
                    | false =>
                      by_cases c5 : (rd kept pp).length = 0
                      · repeat' ((with_reducible (first | refine sW.eq (w2) ?_|refine sW.eq (w3) ?_|refine st17 ?_|refine fG.split (fun _ => ?_) (fun _ => ?_)|refine fG.bool (fun _ => ?_) (fun _ => ?_)|refine gDn 8 ?_)) <;> (try (conv => whnf)))
                        refine ⟨⟨a + 1, fitOk, ?_, ?_⟩⟩
                        · exact ⟨by show a + 1 ≤ _; omega, fun q hq => by rcases Nat.lt_succ_iff_lt_or_eq.1 hq with h | h; exact hbe q h; rw [h, hpp]; simp [e6, c5]⟩
                        · show P.length - (a + 1) < P.length - a; omega
                      · rw [liveOk_cut (p := p) (by omega) (by simp only [cutOk, decide_eq_false c2, Bool.false_or, allBelow_no (f := fun a => !(rd opn (a * P.length + p)) && decide ((rd kept (a * P.length + p)).length = 0)) hal (by simp [hpp, c5]), Bool.and_false])]
                        repeat' ((with_reducible (first | refine sW.eq (w2) ?_|refine sW.eq (w3) ?_|refine st17 ?_|refine fG.split (fun _ => ?_) (fun _ => ?_)|refine fG.bool (fun _ => ?_) (fun _ => ?_)|refine gDn 8 ?_)) <;> (try (conv => whnf)))
                  · repeat' ((with_reducible (first | refine st17 ?_|refine fG.split (fun _ => ?_) (fun _ => ?_)|refine fG.bool (fun _ => ?_) (fun _ => ?_)|refine gDn 8 ?_)) <;> (try (conv => whnf)))
                    refine ⟨⟨⟨p + 1, drawnB (List.take (p + 1) cut)⟩, fitOk, ?_, ?_⟩⟩
                    · refine ⟨by show p + 1 ≤ _; omega, rfl, fun q hq => ?_⟩
                      rcases Nat.lt_succ_iff_lt_or_eq.1 hq with h | h
                      · exact hpr q h
                      · rw [h]
                        simp only [cutOk, inB, decide_eq_true c1, decide_eq_false c2, Bool.false_or, Bool.true_and]
                        exact allBelow_yes fun b hb => hbe b (by omega)
                    · show cut.length - (p + 1) < cut.length - p; omega
            · rw [decide_eq_false c1] at q2
              rw [e4] at c1
              rw [liveOk_cut (p := p) (by omega) (by simp [cutOk, inB, c1])]
              repeat' ((with_reducible (first | refine sCall.of (q2 _) ?_|refine st17 ?_|refine fG.split (fun _ => ?_) (fun _ => ?_)|refine fG.bool (fun _ => ?_) (fun _ => ?_)|refine gDn 8 ?_)) <;> (try (conv => whnf)))
          · have ePr := allBelow_yes (f := cutOk H cut opn kept P.length) (n := P.length) fun q hq => hpr q (by omega)
            rw [List.take_of_length_le (by omega)] at hs'
            have q3 := fun k => ok_spec_l11Marks k P S W H hb
            rw [show liveOk P S W H on cut opn kept = (decide (on = s) && (on || !marksB W)) by simp only [liveOk, e, hL, ePr, hs', Bool.true_and]]
            cases on
            all_goals cases s
            all_goals cases em : marksB W
            all_goals
              simp only [em] at q3
              repeat' ((with_reducible (first | refine sCall.of (q3 _) ?_|refine st17 ?_|refine fG.split (fun _ => ?_) (fun _ => ?_)|refine fG.bool (fun _ => ?_) (fun _ => ?_)|refine gDn 8 ?_)) <;> (try (conv => whnf)))
            all_goals rfl
        · rw [liveOk_lens (by simp [shotLens, d3])]
          (refine fnI [ResultVar.tmp 2] Tryz.func16 ?_; conv => whnf)
          repeat' ((with_reducible (first | refine sCall.of (q1 _) ?_|refine sW.eq (w1) ?_|refine st17 ?_|refine fG.split (fun _ => ?_) (fun _ => ?_)|refine fG.bool (fun _ => ?_) (fun _ => ?_)|refine gDn 8 ?_)) <;> (try (conv => whnf)))
          all_goals first
            | rfl
            | (exfalso; omega)
      · rw [liveOk_lens (by simp [shotLens, d2])]
        (refine fnI [ResultVar.tmp 2] Tryz.func16 ?_; conv => whnf)
        repeat' ((with_reducible (first | refine sCall.of (q1 _) ?_|refine sW.eq (w1) ?_|refine st17 ?_|refine fG.split (fun _ => ?_) (fun _ => ?_)|refine fG.bool (fun _ => ?_) (fun _ => ?_)|refine gDn 8 ?_)) <;> (try (conv => whnf)))
        all_goals first
          | rfl
          | (exfalso; omega)
    · rw [liveOk_lens (by simp [shotLens, d1])]
      (refine fnI [ResultVar.tmp 2] Tryz.func16 ?_; conv => whnf)
      repeat' ((with_reducible (first | refine sCall.of (q1 _) ?_|refine sW.eq (w1) ?_|refine st17 ?_|refine fG.split (fun _ => ?_) (fun _ => ?_)|refine fG.bool (fun _ => ?_) (fun _ => ?_)|refine gDn 8 ?_)) <;> (try (conv => whnf)))
      all_goals first
        | rfl
        | (exfalso; omega)

end Go.Proofs.YtlobpiebphnkiaaGreat.Abs
namespace Go.Proofs.YtlobpiebphnkiaaGreat.Abs
open Go Go.Proofs
set_option linter.unusedVariables false
set_option linter.unusedSimpArgs false
attribute [local irreducible] callE
theorem ok_Index_int (k : Nat) (l : List Int) (v : Int) (hl : l.length ≤ 100000000000) :
    callE PR C (k + 1) 152 [.h 1000000 0 0 [] 1 0 l.length, i64 v] [tI l] = some ⟨i64 (idxP (fun x => decide (v = x)) l), [], [none]⟩ := by
  (refine fnI [ResultVar.tmp 4] Tryz.func152 ?_; conv => whnf)
  repeat' ((with_reducible (first | refine st17 ?_|refine fG.split (fun _ => ?_) (fun _ => ?_)|refine fG.bool (fun _ => ?_) (fun _ => ?_))) <;> (try (conv => whnf)))
  refine loop_rule (ι := Nat) (fun i => [(0, .h 1000000 0 0 [] 1 0 l.length), (1, i64 v), (7, i64 l.length), (8, i64 (i : Nat))]) (fun i => [(1000000, ⟨0, 0, false, tI l⟩)])
    (fun i => l.length - i) (fun i => i ≤ l.length ∧ l.findIdx? (fun x => decide (v = x)) = ((l.drop i).findIdx? (fun x => decide (v = x))).map (· + i)) 0 fitOk (by simp) (by simp [C]; omega) ?_
  rintro i sl ob ⟨hi, hall⟩
  (try dsimp only [cond_true, cond_false])
  (conv => whnf)
  by_cases hil : i < l.length
  · by_cases c : v = rd l i
    · rw [findIdx_here (by omega) hall (decide_eq_true c)]
      repeat' ((with_reducible (first | refine st17 ?_|refine fG.split (fun _ => ?_) (fun _ => ?_)|refine fG.bool (fun _ => ?_) (fun _ => ?_))) <;> (try (conv => whnf)))
    · repeat' ((with_reducible (first | refine st17 ?_|refine fG.split (fun _ => ?_) (fun _ => ?_)|refine fG.bool (fun _ => ?_) (fun _ => ?_))) <;> (try (conv => whnf)))
      refine ⟨⟨i + 1, fitOk, ?_, ?_⟩⟩
      · exact ⟨by show i + 1 ≤ _; omega, findIdx_step (by omega) hall (decide_eq_false c)⟩
      · show l.length - (i + 1) < l.length - i; omega
  · rw [findIdx_none (by omega) hall]
    repeat' ((with_reducible (first | refine st17 ?_|refine fG.split (fun _ => ?_) (fun _ => ?_)|refine fG.bool (fun _ => ?_) (fun _ => ?_))) <;> (try (conv => whnf)))
theorem ok_Contains_int (k : Nat) (l : List Int) (v : Int) (hl : l.length ≤ 100000000000) :
    callE PR C (k + 2) 70 [.h 1000000 0 0 [] 1 0 l.length, i64 v] [tI l] = some ⟨bl (l.any fun x => decide (v = x)), [], [none]⟩ := by
  rw [← idxP_any]
  (refine fnI [ResultVar.tmp 4] Tryz.func70 ?_; conv => whnf)
  repeat' ((with_reducible (first | refine sCall.of (ok_Index_int _ _ _ hl) ?_|refine st17 ?_|refine fG.split (fun _ => ?_) (fun _ => ?_)|refine fG.bool (fun _ => ?_) (fun _ => ?_))) <;> (try (conv => whnf)))
theorem ok_Index_bool (k : Nat) (l : List Bool) (hl : l.length ≤ 100000000000) :
    callE PR C (k + 1) 153 [.h 1000000 0 0 [] 1 0 l.length, bl true] [tBool l] = some ⟨i64 (idxP (fun x => x) l), [], [none]⟩ := by
  (refine fnI [ResultVar.tmp 4] Tryz.func153 ?_; conv => whnf)
  repeat' ((with_reducible (first | refine st17 ?_|refine fG.split (fun _ => ?_) (fun _ => ?_)|refine fG.bool (fun _ => ?_) (fun _ => ?_))) <;> (try (conv => whnf)))
  refine loop_rule (ι := Nat) (fun i => [(0, .h 1000000 0 0 [] 1 0 l.length), (1, bl true), (7, i64 l.length), (8, i64 (i : Nat))]) (fun i => [(1000000, ⟨0, 0, false, tBool l⟩)])
    (fun i => l.length - i) (fun i => i ≤ l.length ∧ l.findIdx? (fun x => x) = ((l.drop i).findIdx? (fun x => x)).map (· + i)) 0 fitOk (by simp) (by simp [C]; omega) ?_
  rintro i sl ob ⟨hi, hall⟩
  (try dsimp only [cond_true, cond_false])
  (conv => whnf)
  by_cases hil : i < l.length
  · cases c : rd l i
    · repeat' ((with_reducible (first | refine st17 ?_|refine fG.split (fun _ => ?_) (fun _ => ?_)|refine fG.bool (fun _ => ?_) (fun _ => ?_))) <;> (try (conv => whnf)))
      all_goals first
        | (exfalso; simp_all; done)
        | (refine ⟨⟨i + 1, fitOk, ?_, ?_⟩⟩
           · exact ⟨by show i + 1 ≤ _; omega, findIdx_step (by omega) hall c⟩
           · show l.length - (i + 1) < l.length - i; omega)
    · rw [findIdx_here (by omega) hall c]
      repeat' ((with_reducible (first | refine st17 ?_|refine fG.split (fun _ => ?_) (fun _ => ?_)|refine fG.bool (fun _ => ?_) (fun _ => ?_))) <;> (try (conv => whnf)))
      all_goals (exfalso; simp_all; done)
  · rw [findIdx_none (by omega) hall]
    repeat' ((with_reducible (first | refine st17 ?_|refine fG.split (fun _ => ?_) (fun _ => ?_)|refine fG.bool (fun _ => ?_) (fun _ => ?_))) <;> (try (conv => whnf)))
theorem ok_Contains_bool (k : Nat) (l : List Bool) (hl : l.length ≤ 100000000000) :
    callE PR C (k + 2) 71 [.h 1000000 0 0 [] 1 0 l.length, bl true] [tBool l] = some ⟨bl (l.any fun x => x), [], [none]⟩ := by
  rw [← idxP_any]
  (refine fnI [ResultVar.tmp 4] Tryz.func71 ?_; conv => whnf)
  repeat' ((with_reducible (first | refine sCall.of (ok_Index_bool _ _ hl) ?_|refine st17 ?_|refine fG.split (fun _ => ?_) (fun _ => ?_)|refine fG.bool (fun _ => ?_) (fun _ => ?_))) <;> (try (conv => whnf)))
def shotDone (P : List (List Ins)) (S : List State) (W : List (List Item)) (H : List (List Event)) (on : Bool) (cut : List Int) (opn : List Bool) (kept : List (List Int)) : Bool :=
  liveOk P S W H on cut opn kept && (on && (!(cut.any fun x => decide (-1 = x)) && !(opn.any fun x => x)))
theorem liveOk_facts {P : List (List Ins)} {S : List State} {W : List (List Item)} {H : List (List Event)} {on : Bool} {cut : List Int} {opn : List Bool} {kept : List (List Int)} (h : liveOk P S W H on cut opn kept = true) :
    sysOk P S W H = true ∧ cut.length = P.length ∧ opn.length = P.length * P.length ∧ kept.length = P.length * P.length ∧ (∀ p, p < cut.length → -1 ≤ rd cut p ∧ rd cut p ≤ ((rd H p).length : Int)) ∧
      (∀ p, p < P.length → ∀ a, a < P.length → rd cut p < 0 → rd opn (a * P.length + p) = false ∧ (rd kept (a * P.length + p)).length = 0) ∧ on = drawnB cut ∧ (on = false → marksB W = false) := by
  simp only [liveOk, shotLens, Bool.and_eq_true, decide_eq_true_eq, allBelow_eq] at h
  obtain ⟨h1, ⟨h2, h3, h4⟩, h5, h6, h7⟩ := h
  refine ⟨h1, h2, h3, h4, fun p hp => ?_, fun p hp a ha hc => ?_, h6, fun h => ?_⟩
  · have h8 := h5 p (by omega)
    simp only [cutOk, inB, Bool.and_eq_true, decide_eq_true_eq] at h8
    exact h8.1
  · have h8 := h5 p hp
    simp only [cutOk, Bool.and_eq_true, Bool.or_eq_true, decide_eq_true_eq, allBelow_eq] at h8
    rcases h8.2 with h9 | h9
    · omega
    · have h10 := h9 a ha
      exact ⟨by simpa using h10.1, h10.2⟩
  · rw [h] at h7
    simpa using h7
theorem ok_impl_ShotDone (k : Nat) (P : List (List Ins)) (S : List State) (W : List (List Item)) (H : List (List Event)) (on : Bool) (cut : List Int) (opn : List Bool) (kept : List (List Int)) (hb : SysB 10000000000 P S W H) (hs : ShotB 10000000000 cut opn kept) :
    callE PR C (k + 13) 21 [aLive 0 P S W H on cut opn kept] [tInsSS P, tStateS S, tItemSS W, tEventSS H, tI cut, tBool opn, tIntSS kept] = some ⟨bl (shotDone P S W H on cut opn kept), [], [none, none, none, none, none, none, none]⟩ := by
  have s1 := hs.c
  have s2 := hs.o
  have q1 := fun k => ok_impl_LiveOk k P S W H on cut opn kept hb hs
  have q2 := fun k => ok_Contains_int k cut (-1) (by omega)
  have q3 := fun k => ok_Contains_bool k opn (by omega)
  unfold shotDone
  cases e1 : liveOk P S W H on cut opn kept
  all_goals cases on
  all_goals cases e2 : cut.any fun x => decide (-1 = x)
  all_goals cases e3 : opn.any fun x => x
  all_goals
    simp only [e1, e2, e3] at q1 q2 q3
    (refine fnI [ResultVar.tmp 2] Tryz.func21 ?_; conv => whnf)
    repeat' ((with_reducible (first | refine sCall.of (q1 _) ?_|refine sCall.of (q2 _) ?_|refine sCall.of (q3 _) ?_|refine st17 ?_|refine fG.split (fun _ => ?_) (fun _ => ?_)|refine fG.bool (fun _ => ?_) (fun _ => ?_))) <;> (try (conv => whnf)))
  all_goals rfl
theorem ok_spec_ShotDone (k : Nat) (P : List (List Ins)) (S : List State) (W : List (List Item)) (H : List (List Event)) (on : Bool) (cut : List Int) (opn : List Bool) (kept : List (List Int)) (hb : SysB 10000000000 P S W H) (hs : ShotB 10000000000 cut opn kept) :
    callE PR C (k + 9) 20 [aLive 0 P S W H on cut opn kept] [tInsSS P, tStateS S, tItemSS W, tEventSS H, tI cut, tBool opn, tIntSS kept] = some ⟨bl (shotDone P S W H on cut opn kept), [], [none, none, none, none, none, none, none]⟩ := by
  have s1 := hs.c
  have s2 := hs.o
  have q1 := fun k => ok_spec_LiveOk k P S W H on cut opn kept hb hs
  unfold shotDone
  cases e1 : liveOk P S W H on cut opn kept
  · simp only [e1] at q1
    (refine fnI [ResultVar.tmp 2] Tryz.func20 ?_; conv => whnf)
    repeat' ((with_reducible (first | refine sCall.of (q1 _) ?_|refine st17 ?_|refine fG.split (fun _ => ?_) (fun _ => ?_)|refine fG.bool (fun _ => ?_) (fun _ => ?_))) <;> (try (conv => whnf)))
    all_goals rfl
  · obtain ⟨f1, f2, f3, f4, f5, f6, f7, f8⟩ := liveOk_facts e1
    simp only [e1] at q1
    have hon : on = true ∨ on = false := by cases on <;> simp
    rcases hon with hon | hon
    · subst hon
      rw [Bool.true_and, Bool.true_and]
      (refine fnI [ResultVar.tmp 2] Tryz.func20 ?_; conv => whnf)
      repeat' ((with_reducible (first | refine sCall.of (q1 _) ?_|refine st17 ?_|refine fG.split (fun _ => ?_) (fun _ => ?_)|refine fG.bool (fun _ => ?_) (fun _ => ?_))) <;> (try (conv => whnf)))
      refine loop_rule (ι := Nat) (fun j => [(1, .pt 1 1 0 [] 0 0), (3, i64 (j : Nat))])
        (fun _ => [(1000000, ⟨0, 0, false, tInsSS P⟩), (1000001, ⟨0, 0, false, tStateS S⟩), (1000002, ⟨0, 0, false, tItemSS W⟩), (1000003, ⟨0, 0, false, tEventSS H⟩), (1000004, ⟨0, 0, false, tI cut⟩), (1000005, ⟨0, 0, false, tBool opn⟩), (1000006, ⟨0, 0, false, tIntSS kept⟩), (1, ⟨1, 0, false, bLive P S W H true cut opn kept⟩)])
        (fun j => opn.length - j) (fun j => j ≤ opn.length ∧ ∀ q, q < j → rd opn q = false) 0 fitOk ⟨Nat.zero_le _, fun q h => absurd h (Nat.not_lt_zero q)⟩ (by simp [C]; omega) ?_
      rintro j sl ob ⟨hj, hno⟩
      (try dsimp only [cond_true, cond_false])
      (conv => whnf)
      by_cases hjl : j < opn.length
      · cases c : rd opn j
        · repeat' ((with_reducible (first | refine st17 ?_|refine fG.split (fun _ => ?_) (fun _ => ?_)|refine fG.bool (fun _ => ?_) (fun _ => ?_))) <;> (try (conv => whnf)))
          all_goals first
            | (exfalso; simp_all; done)
            | (refine ⟨⟨j + 1, fitOk, ?_, ?_⟩⟩
               · exact ⟨by show j + 1 ≤ _; omega, fun q hq => by rcases Nat.lt_succ_iff_lt_or_eq.1 hq with h | h; exact hno q h; rw [h]; exact c⟩
               · show opn.length - (j + 1) < opn.length - j; omega)
        · rw [any_yes (f := fun x => x) hjl c, Bool.not_true, Bool.and_false]
          repeat' ((with_reducible (first | refine st17 ?_|refine fG.split (fun _ => ?_) (fun _ => ?_)|refine fG.bool (fun _ => ?_) (fun _ => ?_))) <;> (try (conv => whnf)))
          all_goals (exfalso; simp_all; done)
      · rw [any_no (f := fun x => x) fun i hi => hno i (by omega), Bool.not_false, Bool.and_true]
        repeat' ((with_reducible (first | refine st17 ?_|refine fG.split (fun _ => ?_) (fun _ => ?_)|refine fG.bool (fun _ => ?_) (fun _ => ?_))) <;> (try (conv => whnf)))
        refine loop_rule (ι := Nat) (fun j => [(1, .pt 1 1 0 [] 0 0), (4, i64 (j : Nat))])
          (fun _ => [(1000000, ⟨0, 0, false, tInsSS P⟩), (1000001, ⟨0, 0, false, tStateS S⟩), (1000002, ⟨0, 0, false, tItemSS W⟩), (1000003, ⟨0, 0, false, tEventSS H⟩), (1000004, ⟨0, 0, false, tI cut⟩), (1000005, ⟨0, 0, false, tBool opn⟩), (1000006, ⟨0, 0, false, tIntSS kept⟩), (1, ⟨1, 0, false, bLive P S W H true cut opn kept⟩)])
          (fun j => cut.length - j) (fun j => j ≤ cut.length ∧ ∀ q, q < j → decide (-1 = rd cut q) = false) 0 fitOk ⟨Nat.zero_le _, fun q h => absurd h (Nat.not_lt_zero q)⟩ (by simp [C]; omega) ?_
        clear sl ob
        rintro i sl ob ⟨hi, hni⟩
        (try dsimp only [cond_true, cond_false])
        (conv => whnf)
        by_cases hil : i < cut.length
        · have hc := f5 i hil
          by_cases c : rd cut i < 0
          · rw [any_yes (f := fun x => decide (-1 = x)) hil (decide_eq_true (by omega)), Bool.not_true]
            repeat' ((with_reducible (first | refine st17 ?_|refine fG.split (fun _ => ?_) (fun _ => ?_)|refine fG.bool (fun _ => ?_) (fun _ => ?_))) <;> (try (conv => whnf)))
          · repeat' ((with_reducible (first | refine st17 ?_|refine fG.split (fun _ => ?_) (fun _ => ?_)|refine fG.bool (fun _ => ?_) (fun _ => ?_))) <;> (try (conv => whnf)))
            refine ⟨⟨i + 1, fitOk, ?_, ?_⟩⟩
            · exact ⟨by show i + 1 ≤ _; omega, fun q hq => by rcases Nat.lt_succ_iff_lt_or_eq.1 hq with h | h; exact hni q h; rw [h]; exact decide_eq_false (by omega)⟩
            · show cut.length - (i + 1) < cut.length - i; omega
        · rw [any_no (f := fun x => decide (-1 = x)) fun q hq => hni q (by omega), Bool.not_false]
          repeat' ((with_reducible (first | refine st17 ?_|refine fG.split (fun _ => ?_) (fun _ => ?_)|refine fG.bool (fun _ => ?_) (fun _ => ?_))) <;> (try (conv => whnf)))
    · subst hon
      (refine fnI [ResultVar.tmp 2] Tryz.func20 ?_; conv => whnf)
      repeat' ((with_reducible (first | refine sCall.of (q1 _) ?_|refine st17 ?_|refine fG.split (fun _ => ?_) (fun _ => ?_)|refine fG.bool (fun _ => ?_) (fun _ => ?_))) <;> (try (conv => whnf)))
      all_goals rfl

end Go.Proofs.YtlobpiebphnkiaaGreat.Abs
