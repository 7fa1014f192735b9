/- Part 5 of the words by which the law is followed: an interpreter over data trees, proved of the machine, and what functions of this program come to by it. No condition. -/
import Derived.Test.YtipfcgbhaalcdaaGreatPB4
namespace Go.Proofs.YtipfcgbhaalcdaaGreat.Abs
open Go Go.Proofs
set_option linter.unusedVariables false
set_option linter.unusedSimpArgs false
attribute [local irreducible] callE
def isEv (k q : Int) (e : Event) : Bool := decide (e.kind = k) && decide (e.peer = q)
def vals (es : List Event) (k q : Int) : List Int := (es.filter (isEv k q)).map (·.v)
def cnt (es : List Event) (k q : Int) : Nat := (vals es k q).length
theorem cnt_take (es : List Event) (k q : Int) {a b : Nat} (h : a ≤ b) : cnt (es.take a) k q ≤ cnt (es.take b) k q := by
  have e : es.take b = es.take a ++ (es.take b).drop a := by
    conv => lhs; rw [← List.take_append_drop a (es.take b)]
    rw [List.take_take, Nat.min_eq_left h]
  simp only [cnt, vals, List.length_map]
  rw [e, List.filter_append, List.length_append]
  omega
structure Who where
  p : Int
  i : Int
deriving DecidableEq
instance : Inhabited Who := ⟨⟨0, 0⟩⟩
def canCome (H : List (List Event)) (f : List Int) (p : Nat) : Bool :=
  decide (rd f p ≠ ((rd H p).length : Int)) && !(decide ((rd (rd H p) (rd f p).toNat).kind = 3) && decide ((cnt ((rd H (rd (rd H p) (rd f p).toNat).peer.toNat).take (rd f (rd (rd H p) (rd f p).toNat).peer.toNat).toNat) 2 p : Int) ≤ (cnt ((rd H p).take (rd f p).toNat) 3 (rd (rd H p) (rd f p).toNat).peer : Int)))
def goOn (f : List Int) (p : Nat) : List Int := f.set p (rd f p + 1)
def firstP (H : List (List Event)) (f : List Int) : Option Nat := (List.range H.length).find? (canCome H f)
def greedy (H : List (List Event)) : Nat → List Int → List Who
  | 0, _ => []
  | n + 1, f => match firstP H f with
    | none => []
    | some p => ⟨p, rd f p⟩ :: greedy H n (goOn f p)
def allEv (H : List (List Event)) : Nat := (H.map List.length).sum
def rowOf (H : List (List Event)) : List Who := greedy H (allEv H) (List.replicate H.length 0)
inductive Reach (H : List (List Event)) : List Int → Nat → Prop where
  | zero : Reach H (List.replicate H.length 0) 0
  | step {f n p} (h : Reach H f n) (hp : p < H.length) (hc : canCome H f p = true) : Reach H (goOn f p) (n + 1)
theorem rd_goOn {f : List Int} {p q : Nat} (hp : p < f.length) : rd (goOn f p) q = if q = p then rd f p + 1 else rd f q := by
  simp only [goOn, rd, List.getD_eq_getElem?_getD, List.getElem?_set]
  by_cases h : p = q
  · subst h; simp [hp]
  · rw [if_neg h, if_neg (fun e => h e.symm)]
theorem rd_zero {n q : Nat} : rd (List.replicate n (0 : Int)) q = 0 := by
  simp only [rd, List.getD_eq_getElem?_getD, List.getElem?_replicate]
  split <;> rfl
structure FOk (H : List (List Event)) (f : List Int) : Prop where
  len : f.length = H.length
  rng : ∀ q, q < H.length → 0 ≤ rd f q ∧ rd f q ≤ ((rd H q).length : Int)
theorem fok_zero (H : List (List Event)) : FOk H (List.replicate H.length 0) := ⟨by simp, fun q _ => by rw [rd_zero]; omega⟩
theorem can_lt {H : List (List Event)} {f : List Int} {p : Nat} (hf : FOk H f) (hp : p < H.length) (h : canCome H f p = true) : rd f p < ((rd H p).length : Int) := by
  simp only [canCome, Bool.and_eq_true, decide_eq_true_eq] at h
  have := hf.rng p hp
  omega
theorem fok_goOn {H : List (List Event)} {f : List Int} {p : Nat} (hf : FOk H f) (hp : p < H.length) (h : canCome H f p = true) : FOk H (goOn f p) := by
  have h1 := can_lt hf hp h
  refine ⟨by simp [goOn, hf.len], fun q hq => ?_⟩
  rw [rd_goOn (by rw [hf.len]; exact hp)]
  have h2 := hf.rng q hq
  split
  · rename_i e; subst e; omega
  · exact h2
theorem Reach.fok {H : List (List Event)} {f : List Int} {n : Nat} (h : Reach H f n) : FOk H f := by
  induction h with
  | zero => exact fok_zero H
  | step h hp hc ih => exact fok_goOn ih hp hc
def PeersIn (H : List (List Event)) : Prop := ∀ p, p < H.length → ∀ i, i < (rd H p).length → (rd (rd H p) i).kind = 3 → 0 ≤ (rd (rd H p) i).peer ∧ (rd (rd H p) i).peer < (H.length : Int)
theorem can_mono {H : List (List Event)} {f g : List Int} {p : Nat} (hf : FOk H f) (hg : FOk H g) (hH : PeersIn H) (hp : p < H.length) (he : rd g p = rd f p) (hle : ∀ q, q < H.length → rd f q ≤ rd g q) (h : canCome H f p = true) : canCome H g p = true := by
  have hlt := can_lt hf hp h
  have h0 := (hf.rng p hp).1
  unfold canCome at h ⊢
  rw [he]
  simp only [Bool.and_eq_true, Bool.not_eq_true', Bool.and_eq_false_iff, decide_eq_true_eq, decide_eq_false_iff_not] at h ⊢
  refine ⟨h.1, ?_⟩
  rcases h.2 with h2 | h2
  · exact .inl h2
  · by_cases hk : (rd (rd H p) (rd f p).toNat).kind = 3
    · right
      have hpe := hH p hp (rd f p).toNat (by omega) hk
      generalize (rd (rd H p) (rd f p).toNat).peer = q at hpe h2 ⊢
      have h3 := hle q.toNat (by omega)
      have := cnt_take (rd H q.toNat) 2 p (a := (rd f q.toNat).toNat) (b := (rd g q.toNat).toNat) (by omega)
      omega
    · exact .inl hk
def Stuck (H : List (List Event)) (f : List Int) : Prop := ∀ p, p < H.length → canCome H f p = false
theorem Reach.le {H : List (List Event)} {f g : List Int} {n : Nat} (h : Reach H f n) (hH : PeersIn H) (hg : FOk H g) (hs : Stuck H g) : ∀ q, q < H.length → rd f q ≤ rd g q := by
  induction h with
  | zero => intro q hq; rw [rd_zero]; exact (hg.rng q hq).1
  | @step f n p h hp hc ih =>
    have hf := h.fok
    intro q hq
    rw [rd_goOn (by rw [hf.len]; exact hp)]
    split
    · rename_i e; subst e
      have h1 := ih q hq
      by_cases he : rd g q = rd f q
      · have := can_mono hf hg hH hq he ih hc
        rw [hs q hq] at this
        cases this
      · omega
    · exact ih q hq
theorem rd_ext {f g : List Int} (hl : f.length = g.length) (h : ∀ q, q < f.length → rd f q = rd g q) : f = g := by
  apply List.ext_getElem hl
  intro i h1 h2
  have := h i h1
  simpa [rd, h1, h2] using this
theorem sum_set : ∀ (f : List Int) (p : Nat), p < f.length → (f.set p (rd f p + 1)).sum = f.sum + 1
  | a :: f, 0, _ => by simp [rd]; omega
  | a :: f, p + 1, h => by
    have := sum_set f p (by simpa using h)
    simp only [List.set_cons_succ, List.sum_cons]
    rw [show rd (a :: f) (p + 1) = rd f p from rfl, this]
    omega
theorem Reach.sum {H : List (List Event)} {f : List Int} {n : Nat} (h : Reach H f n) : f.sum = (n : Int) := by
  induction h with
  | zero => simp
  | step h hp hc ih =>
    rw [goOn, sum_set _ _ (by rw [h.fok.len]; exact hp), ih]
    omega
theorem Reach.same {H : List (List Event)} {f g : List Int} {n m : Nat} (hf : Reach H f n) (hg : Reach H g m) (hH : PeersIn H) (sf : Stuck H f) (sg : Stuck H g) : f = g ∧ n = m := by
  have h1 := hf.le hH hg.fok sg
  have h2 := hg.le hH hf.fok sf
  have e : f = g := rd_ext (by rw [hf.fok.len, hg.fok.len]) fun q hq => by
    rw [hf.fok.len] at hq
    have := h1 q hq
    have := h2 q hq
    omega
  refine ⟨e, ?_⟩
  have := hf.sum
  have := hg.sum
  rw [e] at *
  omega
theorem firstP_none {H : List (List Event)} {f : List Int} (h : firstP H f = none) : Stuck H f := by
  intro p hp
  have := List.find?_eq_none.1 h p (List.mem_range.2 hp)
  simpa using this
theorem firstP_some {H : List (List Event)} {f : List Int} {p : Nat} (hp : p < H.length) (hc : canCome H f p = true) (h : ∀ q, q < p → canCome H f q = false) : firstP H f = some p := by
  unfold firstP
  rw [List.find?_range_eq_some]
  refine ⟨hc, List.mem_range.2 hp, fun q hq => ?_⟩
  rw [h q hq]; rfl
theorem firstP_stuck {H : List (List Event)} {f : List Int} (h : Stuck H f) : firstP H f = none := by
  unfold firstP
  rw [List.find?_eq_none]
  intro p hp
  rw [h p (List.mem_range.1 hp)]
  decide
theorem sum_le : ∀ (H : List (List Event)) (f : List Int), f.length = H.length → (∀ q, q < H.length → rd f q ≤ ((rd H q).length : Int)) → f.sum ≤ (allEv H : Int) ∧ (f.sum = (allEv H : Int) → ∀ q, q < H.length → rd f q = ((rd H q).length : Int))
  | [], [], _, _ => ⟨by simp [allEv], fun _ q hq => by simp at hq⟩
  | h :: H, a :: f, hl, hr => by
    obtain ⟨h1, h2⟩ := sum_le H f (by simpa using hl) fun q hq => hr (q + 1) (by simp; omega)
    have h0 := hr 0 (by simp)
    have e0 : rd (a :: f) 0 = a := rfl
    have e1 : rd (h :: H) 0 = h := rfl
    rw [e0, e1] at h0
    have es : (allEv (h :: H) : Int) = h.length + allEv H := by simp [allEv]
    rw [es, List.sum_cons]
    refine ⟨by omega, fun e q hq => ?_⟩
    cases q with
    | zero => rw [e0, e1]; omega
    | succ q => exact h2 (by omega) q (by simpa using hq)
theorem Reach.le_all {H : List (List Event)} {f : List Int} {n : Nat} (h : Reach H f n) : n ≤ allEv H := by
  have h1 := (sum_le H f h.fok.len fun q hq => (h.fok.rng q hq).2).1
  have := h.sum
  omega
theorem Reach.full {H : List (List Event)} {f : List Int} {n : Nat} (h : Reach H f n) (hn : n = allEv H) : Stuck H f := by
  have h1 := (sum_le H f h.fok.len fun q hq => (h.fok.rng q hq).2).2 (by rw [h.sum, hn])
  intro p hp
  simp [canCome, h1 p hp]
theorem greedy_reach {H : List (List Event)} : ∀ (m : Nat) {f : List Int} {n : Nat}, Reach H f n → n + m = allEv H → ∃ g k, Reach H g k ∧ Stuck H g ∧ (greedy H m f).length + n = k
  | 0, f, n, h, hm => ⟨f, n, h, h.full (by omega), by simp [greedy]⟩
  | m + 1, f, n, h, hm => by
    cases hp : firstP H f with
    | none => exact ⟨f, n, h, firstP_none hp, by simp [greedy, hp]⟩
    | some p =>
      have h1 := List.find?_range_eq_some.1 hp
      obtain ⟨g, k, h2, h3, h4⟩ := greedy_reach m (h.step (List.mem_range.1 h1.2.1) h1.1) (by omega)
      refine ⟨g, k, h2, h3, ?_⟩
      rw [← h4]
      simp only [greedy, hp, List.length_cons]
      omega
theorem row_len {H : List (List Event)} (hH : PeersIn H) {f : List Int} {n : Nat} (h : Reach H f n) (hs : Stuck H f) : (rowOf H).length = n := by
  obtain ⟨g, k, h1, h2, h3⟩ := greedy_reach (H := H) (allEv H) .zero (by omega)
  have := (h.same h1 hH hs h2).2
  rw [rowOf]
  omega
def inRow (H : List (List Event)) : Bool := decide ((rowOf H).length = allEv H)

structure Item where
  mark : Bool
  v : Int
deriving DecidableEq
instance : Inhabited Item := ⟨⟨false, 0⟩⟩
structure Sys where
  progs : List (List Ins)
  states : List State
  ways : List (List Item)
  hist : List (List Event)
deriving DecidableEq
instance : Inhabited Sys := ⟨⟨[], [], [], []⟩⟩
def rItem (x : Item) : List T := [.v (.bool x.mark), .v (.int .i64 x.v)]
def rInsL (l : List Ins) : List T := [.sl 5 (l.map rIns)]
def rItemL (l : List Item) : List T := [.sl 2 (l.map rItem)]
def rEventL (l : List Event) : List T := [.sl 3 (l.map rEvent)]
abbrev tItem (l : List Item) : Cont := .tree 0 (.sl 2 (l.map rItem))
abbrev tItem9 (l : List Item) : Cont := .tree 9 (.sl 2 (l.map rItem))
abbrev tInsSS (l : List (List Ins)) : Cont := .tree 0 (.sl 1 (l.map rInsL))
abbrev tStateS (l : List State) : Cont := .tree 0 (.sl 4 (l.map rState))
abbrev tItemSS (l : List (List Item)) : Cont := .tree 0 (.sl 1 (l.map rItemL))
abbrev tEventSS (l : List (List Event)) : Cont := .tree 0 (.sl 1 (l.map rEventL))
abbrev tInsSS9 (l : List (List Ins)) : Cont := .tree 9 (.sl 1 (l.map rInsL))
abbrev tStateS9 (l : List State) : Cont := .tree 9 (.sl 4 (l.map rState))
abbrev tItemSS9 (l : List (List Item)) : Cont := .tree 9 (.sl 1 (l.map rItemL))
abbrev tEventSS9 (l : List (List Event)) : Cont := .tree 9 (.sl 1 (l.map rEventL))
abbrev aSys (j : Nat) (P : List (List Ins)) (S : List State) (W : List (List Item)) (H : List (List Event)) : AV :=
  .ag [.h (1000000 + j) 0 0 [] 1 0 P.length, .h (1000001 + j) 0 0 [] 4 0 S.length, .h (1000002 + j) 0 0 [] 1 0 W.length, .h (1000003 + j) 0 0 [] 1 0 H.length]
abbrev nSys (j : Nat) (P : List (List Ins)) (S : List State) (W : List (List Item)) (H : List (List Event)) : AV :=
  .ag [.h (2000000 + j) 1 0 [] 1 0 P.length, .h (2000001 + j) 1 0 [] 4 0 S.length, .h (2000002 + j) 1 0 [] 1 0 W.length, .h (2000003 + j) 1 0 [] 1 0 H.length]
def numbersOf (w : List Item) : List Int := (w.filter (fun x => !x.mark)).map (·.v)
def itemOk (x : Item) : Bool := numOk x.v && !(x.mark && !decide (x.v = 0))
def wayOk (w : List Item) : Bool := decide (w.length ≤ 12) && w.all itemOk
def peerOk (n : Int) (e : Event) : Bool := !((decide (e.kind = 2) || decide (e.kind = 3)) && !inB e.peer 0 (n - 1))
def peersOk (es : List Event) (n : Int) : Bool := es.all (peerOk n)
def stoodAs (l : List Ins) (es : List Event) (s : State) : Bool := (replayAll l es).isSome && decide (stOf (replayAll l es) = s)
def procOk (P : List (List Ins)) (S : List State) (H : List (List Event)) (p : Nat) : Bool := progOk (rd P p) P.length && (peersOk (rd H p) P.length && stoodAs (rd P p) (rd H p) (rd S p))
def fits (n : Nat) (W : List (List Item)) (H : List (List Event)) (a b : Nat) : Bool := decide (vals (rd H b) 3 a ++ numbersOf (rd W (a * n + b)) = vals (rd H a) 2 b)
def allBelow (n : Nat) (f : Nat → Bool) : Bool := (List.range n).all f
theorem allBelow_yes {n : Nat} {f : Nat → Bool} (h : ∀ i, i < n → f i = true) : allBelow n f = true := by
  simp only [allBelow, List.all_eq_true, List.mem_range]; exact h
theorem allBelow_no {n i : Nat} {f : Nat → Bool} (h : i < n) (e : f i = false) : allBelow n f = false := by
  simp only [allBelow, List.all_eq_false, List.mem_range]; exact ⟨i, h, by rw [e]; decide⟩
theorem allBelow_eq {n : Nat} {f : Nat → Bool} : allBelow n f = true ↔ ∀ i, i < n → f i = true := by simp [allBelow]
def sizesOk (P : List (List Ins)) (S : List State) (W : List (List Item)) (H : List (List Event)) : Bool :=
  inB P.length 1 4 && (decide (S.length = P.length) && (decide (H.length = P.length) && decide (W.length = P.length * P.length)))
def sysOk (P : List (List Ins)) (S : List State) (W : List (List Item)) (H : List (List Event)) : Bool :=
  sizesOk P S W H && (W.all wayOk && (allBelow P.length (procOk P S H) && (allBelow P.length (fun a => allBelow P.length (fun b => fits P.length W H a b)) && inRow H)))
structure EvOk (e : Event) : Prop where
  kind : 1 ≤ e.kind ∧ e.kind ≤ 4
  peer : 0 ≤ e.peer ∧ e.peer ≤ 3
  other : ¬ (e.kind = 2 ∨ e.kind = 3) → e.peer = 0
theorem comes_evOk {l : List Ins} {s : State} {e : Event} (hs : SOk l.length s) (hi : IOk l.length (rd l s.at_.toNat)) (hc : comes e (next l s) = true) : EvOk e := by
  by_cases h6 : (rd l s.at_.toNat).op = 6
  · have hn : next l s = ⟨2, (rd l s.at_.toNat).n, rd s.regs (rd l s.at_.toNat).a.toNat⟩ := by simp [next, h6]
    have := hi.peer h6
    rw [hn, comes_other (by simp)] at hc
    simp at hc
    exact ⟨by omega, by omega, by omega⟩
  · by_cases h7 : (rd l s.at_.toNat).op = 7
    · have hn : next l s = ⟨3, (rd l s.at_.toNat).n, 0⟩ := by simp [next, h7]
      have := hi.take h7
      rw [hn, comes_take] at hc
      exact ⟨by omega, by omega, by omega⟩
    · by_cases h8 : (rd l s.at_.toNat).op = 8
      · have hn : next l s = ⟨4, 0, rd s.regs (rd l s.at_.toNat).a.toNat⟩ := by simp [next, h8]
        rw [hn, comes_other (by simp)] at hc
        simp at hc
        exact ⟨by omega, by omega, by omega⟩
      · have hn : next l s = ⟨1, 0, 0⟩ := by simp [next, h6, h7, h8]
        rw [hn, comes_other (by simp)] at hc
        simp at hc
        exact ⟨by omega, by omega, by omega⟩
theorem replay_evOk {l : List Ins} (hi : ∀ i, i < l.length → IOk l.length (rd l i)) : ∀ (es : List Event) {s s' : State}, SOk l.length s → replay l s es = some s' → ∀ e ∈ es, EvOk e
  | [], _, _, _, _ => by simp
  | e :: es, s, s', hs, h => by
    rw [replay] at h
    split at h
    · rename_i hc
      have h0 := hs.at0
      have h1 := hs.at1
      have hx := hi s.at_.toNat (by omega)
      intro x hx'
      rcases List.mem_cons.1 hx' with rfl | hm
      · exact comes_evOk hs hx hc.2
      · exact replay_evOk hi es (did_ok hs hx hc.2) h x hm
    · cases h
theorem stood_evOk {l : List Ins} {es : List Event} {s : State} (h : stoodAs l es s = true) : (∀ e ∈ es, EvOk e) ∧ SOk l.length s ∧ progOk l 4 = true ∧ es.length ≤ 200 ∧ replay l newState es = some s := by
  simp only [stoodAs, Bool.and_eq_true, decide_eq_true_eq] at h
  obtain ⟨h1, h2⟩ := h
  have h3 := replay_take h1 es.length
  rw [List.take_length] at h3
  have h4 := replayAll_some h1
  rw [h2] at h3
  exact ⟨replay_evOk (fun i hi => progOk_iok h4.1 hi) es (newState_ok (progOk_len h4.1).1) h3.1, h3.2, h4.1, h4.2, h3.1⟩
theorem peers_same {es : List Event} {n : Int} (hn : 1 ≤ n) (h : ∀ e ∈ es, EvOk e) : peersOk es n = es.all (fun e => decide (e.peer < n)) := by
  rw [Bool.eq_iff_iff]
  simp only [peersOk, List.all_eq_true]
  refine ⟨fun h1 e he => ?_, fun h1 e he => ?_⟩
  · have h2 := h1 e he
    have h3 := h e he
    have := h3.kind
    have := h3.peer
    have := h3.other
    simp [peerOk, inB] at h2 ⊢
    omega
  · have h2 := h1 e he
    have h3 := h e he
    have := h3.kind
    have := h3.peer
    have := h3.other
    simp [peerOk, inB] at h2 ⊢
    omega
def l4way (w : List Item) (sent : List Int) (tk : Nat) : Bool := w.all itemOk && (decide (w.length ≤ 12) && (decide ((sent.length : Int) - (tk : Int) = ((numbersOf w).length : Int)) && decide (sent.drop tk = numbersOf w)))
theorem way_same (w : List Item) (took sent : List Int) : (l4way w sent took.length && decide (sent.take took.length = took)) = (wayOk w && decide (took ++ numbersOf w = sent)) := by
  rw [Bool.eq_iff_iff]
  simp only [l4way, wayOk, Bool.and_eq_true, decide_eq_true_eq]
  constructor
  · rintro ⟨⟨h1, h2, h3, h4⟩, h5⟩
    refine ⟨⟨h2, h1⟩, ?_⟩
    rw [← h4]
    conv => lhs; arg 1; rw [← h5]
    exact List.take_append_drop _ _
  · rintro ⟨⟨h2, h1⟩, rfl⟩
    exact ⟨⟨h1, h2, by simp; omega, by simp⟩, by simp⟩
def pairOk (n : Nat) (W : List (List Item)) (H : List (List Event)) (a b : Nat) : Bool :=
  l4way (rd W (a * n + b)) (vals (rd H a) 2 b) (vals (rd H b) 3 a).length && decide ((vals (rd H a) 2 b).take (vals (rd H b) 3 a).length = vals (rd H b) 3 a)
def procOk' (P : List (List Ins)) (S : List State) (H : List (List Event)) (p : Nat) : Bool := progOk (rd P p) P.length && (stoodAs (rd P p) (rd H p) (rd S p) && (rd H p).all (fun e => decide (e.peer < (P.length : Int))))
theorem place_lt {n a b : Nat} (ha : a < n) (hb : b < n) : a * n + b < n * n := by
  have : (a + 1) * n ≤ n * n := Nat.mul_le_mul_right n ha
  rw [Nat.add_mul] at this
  omega
theorem ways_all {W : List (List Item)} {n : Nat} (h : W.length = n * n) : W.all wayOk = allBelow n fun a => allBelow n fun b => wayOk (rd W (a * n + b)) := by
  rw [Bool.eq_iff_iff]
  simp only [allBelow_eq, List.all_eq_true]
  constructor
  · intro h1 a ha b hb
    exact h1 _ (rd_mem (by rw [h]; exact place_lt ha hb))
  · intro h1 x hx
    obtain ⟨i, hi, rfl⟩ := List.mem_iff_getElem.1 hx
    have hn : 0 < n := by
      rcases Nat.eq_zero_or_pos n with e | e
      · subst e; omega
      · exact e
    have h2 := h1 (i / n) (Nat.div_lt_of_lt_mul (by omega)) (i % n) (Nat.mod_lt _ hn)
    rw [Nat.mul_comm, Nat.div_add_mod] at h2
    simpa [rd, hi] using h2
theorem proc_same {P : List (List Ins)} {S : List State} {H : List (List Event)} {p : Nat} (hn : 1 ≤ P.length) : procOk' P S H p = procOk P S H p := by
  unfold procOk procOk'
  cases hs : stoodAs (rd P p) (rd H p) (rd S p) with
  | false => simp
  | true => rw [peers_same (by omega) (stood_evOk hs).1]; simp
theorem pairs_same {W : List (List Item)} {H : List (List Event)} {n : Nat} (h : W.length = n * n) :
    (allBelow n fun a => allBelow n fun b => pairOk n W H a b) = (W.all wayOk && allBelow n fun a => allBelow n fun b => fits n W H a b) := by
  rw [ways_all h, Bool.eq_iff_iff]
  simp only [Bool.and_eq_true, allBelow_eq]
  constructor
  · intro h1
    refine ⟨fun a ha b hb => ?_, fun a ha b hb => ?_⟩
    · have h2 := h1 a ha b hb
      rw [pairOk, way_same, Bool.and_eq_true] at h2
      exact h2.1
    · have h2 := h1 a ha b hb
      rw [pairOk, way_same, Bool.and_eq_true] at h2
      exact h2.2
  · rintro ⟨h1, h2⟩ a ha b hb
    rw [pairOk, way_same, Bool.and_eq_true]
    exact ⟨h1 a ha b hb, h2 a ha b hb⟩
theorem sysOk_spec (P : List (List Ins)) (S : List State) (W : List (List Item)) (H : List (List Event)) :
    (sizesOk P S W H && (allBelow P.length (procOk' P S H) && ((allBelow P.length fun a => allBelow P.length fun b => pairOk P.length W H a b) && inRow H))) = sysOk P S W H := by
  unfold sysOk
  cases h : sizesOk P S W H with
  | false => simp
  | true =>
    have hs := h
    simp only [sizesOk, inB, Bool.and_eq_true, decide_eq_true_eq] at hs
    have e : procOk' P S H = procOk P S H := funext fun p => proc_same (by omega)
    rw [e, pairs_same hs.2.2.2]
    simp only [Bool.true_and]
    cases W.all wayOk <;> cases allBelow P.length (procOk P S H) <;> simp

theorem vals_snoc (es : List Event) (x y : Int) {j : Nat} (hj : j < es.length) : vals (es.take (j + 1)) x y = if isEv x y (rd es j) = true then vals (es.take j) x y ++ [(rd es j).v] else vals (es.take j) x y := by
  rw [take_rd hj]
  simp only [vals, List.filter_append, List.map_append]
  split
  · rename_i h; simp [h]
  · rename_i h; simp [h]
theorem vals_le (es : List Event) (x y : Int) : (vals es x y).length ≤ es.length := by
  simp only [vals, List.length_map]; exact List.length_filter_le _ _
theorem numbers_snoc (w : List Item) {j : Nat} (hj : j < w.length) : numbersOf (w.take (j + 1)) = if (rd w j).mark = false then numbersOf (w.take j) ++ [(rd w j).v] else numbersOf (w.take j) := by
  rw [take_rd hj]
  simp only [numbersOf, List.filter_append, List.map_append]
  split
  · rename_i h; simp [h]
  · rename_i h; simp at h; simp [h]
theorem numbers_le (w : List Item) : (numbersOf w).length ≤ w.length := by
  simp only [numbersOf, List.length_map]; exact List.length_filter_le _ _
theorem ok_impl_isOf (k : Nat) (e : Event) (x y : Int) : callE PR C (k + 1) 273 [aEvent e, i64 x, i64 y] [] = some ⟨bl (isEv x y e), [], []⟩ := by
  (refine fnI [ResultVar.tmp 6] Tryz.func273 ?_; conv => whnf)
  repeat' ((with_reducible (first | refine st8 ?_|refine fG.split (fun _ => ?_) (fun _ => ?_)|refine fG.bool (fun _ => ?_) (fun _ => ?_))) <;> (try (conv => whnf)))
  all_goals simp [isEv, *]
structure VI where
  j : Nat
  l : List Int
  o : Nat
  b : Nat
theorem ok_impl_Values (k : Nat) (es : List Event) (x y : Int) (he : es.length ≤ 100000000000) : callE PR C (k + 2) 199 [hEvent 0 es, i64 x, i64 y] [tEvent es] = some ⟨.h 2000000 1 0 [] 1 0 (vals es x y).length, [tI9 (vals es x y)], [none]⟩ := by
  (refine fnI [ResultVar.tmp 6] Tryz.func199 ?_; conv => whnf)
  repeat' ((with_reducible (first | refine st8 ?_|refine fG.split (fun _ => ?_) (fun _ => ?_)|refine fG.bool (fun _ => ?_) (fun _ => ?_))) <;> (try (conv => whnf)))
  refine loop_rule (ι := VI) (fun z => [(1, i64 x), (2, i64 y), (7, .h z.o z.b 0 [] 1 0 z.l.length), (11, hEvent 0 es), (12, i64 es.length), (13, i64 (z.j : Nat))])
    (fun z => [(1000000, ⟨0, 0, false, tEvent es⟩), (z.o, ⟨z.b, 0, false, tI9 z.l⟩)])
    (fun z => es.length - z.j) (fun z => z.j ≤ es.length ∧ z.l = vals (es.take z.j) x y ∧ (z.o = 10 ∨ z.o = 25)) ⟨0, [], 10, _⟩ fitOk ⟨Nat.zero_le _, rfl, .inl rfl⟩ (by simp [C]; omega) ?_
  rintro ⟨j, out, o, b⟩ sl ob ⟨hj, hl, ho⟩
  dsimp only at hj hl ho
  have hle := vals_le (es.take j) x y
  rw [← hl, List.length_take] at hle
  rcases ho with rfl | rfl
  all_goals (try dsimp only [cond_true, cond_false])
  all_goals (conv => whnf)
  all_goals repeat' ((with_reducible (first | refine sCall.of (ok_impl_isOf _ _ _ _) ?_|refine st8 ?_|refine fG.split (fun _ => ?_) (fun _ => ?_)|refine fG.bool (fun _ => ?_) (fun _ => ?_))) <;> (try (conv => whnf)))
  case' inl.refine_1.refine_1 h hx | inr.refine_1.refine_1 h hx =>
    refine ⟨⟨⟨j + 1, out ++ [(rd es j).v], 25, _⟩, fitOk, ?_, ?_⟩⟩
    · exact ⟨by show j + 1 ≤ _; omega, by show _ = _; rw [vals_snoc es x y (by omega), if_pos hx, hl], .inr rfl⟩
    · show es.length - (j + 1) < es.length - j; omega
  case' inl.refine_1.refine_2 h hx =>
    refine ⟨⟨⟨j + 1, out, 10, _⟩, fitOk, ?_, ?_⟩⟩
    · exact ⟨by show j + 1 ≤ _; omega, by show _ = _; rw [vals_snoc es x y (by omega), if_neg (by rw [hx]; decide), hl], .inl rfl⟩
    · show es.length - (j + 1) < es.length - j; omega
  case' inr.refine_1.refine_2 h hx =>
    refine ⟨⟨⟨j + 1, out, 25, _⟩, fitOk, ?_, ?_⟩⟩
    · exact ⟨by show j + 1 ≤ _; omega, by show _ = _; rw [vals_snoc es x y (by omega), if_neg (by rw [hx]; decide), hl], .inr rfl⟩
    · show es.length - (j + 1) < es.length - j; omega
  case' inl.refine_2 h | inr.refine_2 h =>
    rw [List.take_of_length_le (by omega)] at hl
    subst hl
  all_goals rfl
theorem ok_spec_Values (k : Nat) (es : List Event) (x y : Int) (he : es.length ≤ 100000000000) : callE PR C (k + 1) 177 [hEvent 0 es, i64 x, i64 y] [tEvent es] = some ⟨.h 2000000 1 0 [] 1 0 (vals es x y).length, [tI9 (vals es x y)], [none]⟩ := by
  (refine fnI [ResultVar.tmp 6] Tryz.func177 ?_; conv => whnf)
  repeat' ((with_reducible (first | refine st8 ?_|refine fG.split (fun _ => ?_) (fun _ => ?_)|refine fG.bool (fun _ => ?_) (fun _ => ?_))) <;> (try (conv => whnf)))
  refine loop_rule (ι := VI) (fun z => [(0, hEvent 0 es), (1, i64 x), (2, i64 y), (7, .h z.o z.b 0 [] 1 0 z.l.length), (8, i64 (z.j : Nat))])
    (fun z => [(1000000, ⟨0, 0, false, tEvent es⟩), (z.o, ⟨z.b, 0, false, tI9 z.l⟩)])
    (fun z => es.length - z.j) (fun z => z.j ≤ es.length ∧ z.l = vals (es.take z.j) x y ∧ (z.o = 9 ∨ z.o = 39)) ⟨0, [], 9, _⟩ fitOk ⟨Nat.zero_le _, rfl, .inl rfl⟩ (by simp [C]; omega) ?_
  rintro ⟨j, out, o, b⟩ sl ob ⟨hj, hl, ho⟩
  dsimp only at hj hl ho
  have hle := vals_le (es.take j) x y
  rw [← hl, List.length_take] at hle
  by_cases hjl : j < es.length
  · cases hx : isEv x y (rd es j) with
    | true =>
      have hx' := hx
      simp only [isEv, Bool.and_eq_true, decide_eq_true_eq] at hx'
      obtain ⟨hx1, hx2⟩ := hx'
      rcases ho with rfl | rfl
      all_goals (try dsimp only [cond_true, cond_false])
      all_goals (conv => whnf)
      all_goals repeat' ((with_reducible (first | refine st8 ?_|refine fG.split (fun _ => ?_) (fun _ => ?_)|refine fG.bool (fun _ => ?_) (fun _ => ?_))) <;> (try (conv => whnf)))
      all_goals
        refine ⟨⟨⟨j + 1, out ++ [(rd es j).v], 39, _⟩, fitOk, ?_, ?_⟩⟩
        · exact ⟨by show j + 1 ≤ _; omega, by show _ = _; rw [vals_snoc es x y (by omega), if_pos hx, hl], .inr rfl⟩
        · show es.length - (j + 1) < es.length - j; omega
    | false =>
      have hx' : ¬ ((rd es j).kind = x ∧ (rd es j).peer = y) := by rintro ⟨h1, h2⟩; simp [isEv, h1, h2] at hx
      rcases ho with rfl | rfl
      all_goals (try dsimp only [cond_true, cond_false])
      all_goals (conv => whnf)
      all_goals repeat' ((with_reducible (first | refine st8 ?_|refine fG.split (fun _ => ?_) (fun _ => ?_)|refine fG.bool (fun _ => ?_) (fun _ => ?_))) <;> (try (conv => whnf)))
      all_goals first
        | (exfalso; omega)
        | (refine ⟨⟨⟨j + 1, out, 9, _⟩, fitOk, ?_, ?_⟩⟩
           · exact ⟨by show j + 1 ≤ _; omega, by show _ = _; rw [vals_snoc es x y (by omega), if_neg (by rw [hx]; decide), hl], .inl rfl⟩
           · show es.length - (j + 1) < es.length - j; omega)
        | (refine ⟨⟨⟨j + 1, out, 39, _⟩, fitOk, ?_, ?_⟩⟩
           · exact ⟨by show j + 1 ≤ _; omega, by show _ = _; rw [vals_snoc es x y (by omega), if_neg (by rw [hx]; decide), hl], .inr rfl⟩
           · show es.length - (j + 1) < es.length - j; omega)
  · rw [List.take_of_length_le (by omega)] at hl
    subst hl
    rcases ho with rfl | rfl
    all_goals (try dsimp only [cond_true, cond_false])
    all_goals (conv => whnf)
    all_goals repeat' ((with_reducible (first | refine st8 ?_|refine fG.split (fun _ => ?_) (fun _ => ?_)|refine fG.bool (fun _ => ?_) (fun _ => ?_))) <;> (try (conv => whnf)))
theorem ok_impl_Count (k : Nat) (es : List Event) (x y : Int) (he : es.length ≤ 100000000000) : callE PR C (k + 3) 201 [hEvent 0 es, i64 x, i64 y] [tEvent es] = some ⟨i64 (cnt es x y : Nat), [], [none]⟩ := by
  (refine fnI [ResultVar.tmp 6] Tryz.func201 ?_; conv => whnf)
  repeat' ((with_reducible (first | refine sCall.of (ok_impl_Values _ _ _ _ he) ?_|refine st8 ?_|refine fG.split (fun _ => ?_) (fun _ => ?_)|refine fG.bool (fun _ => ?_) (fun _ => ?_))) <;> (try (conv => whnf)))
  rfl
theorem ok_spec_Count (k : Nat) (es : List Event) (x y : Int) (he : es.length ≤ 100000000000) : callE PR C (k + 2) 188 [hEvent 0 es, i64 x, i64 y] [tEvent es] = some ⟨i64 (cnt es x y : Nat), [], [none]⟩ := by
  (refine fnI [ResultVar.tmp 6] Tryz.func188 ?_; conv => whnf)
  repeat' ((with_reducible (first | refine sCall.of (ok_spec_Values _ _ _ _ he) ?_|refine st8 ?_|refine fG.split (fun _ => ?_) (fun _ => ?_)|refine fG.bool (fun _ => ?_) (fun _ => ?_))) <;> (try (conv => whnf)))
  rfl
theorem ok_impl_Numbers (k : Nat) (w : List Item) (hw : w.length ≤ 100000000000) : callE PR C (k + 1) 109 [.h 1000000 0 0 [] 2 0 w.length] [tItem w] = some ⟨.h 2000000 1 0 [] 1 0 (numbersOf w).length, [tI9 (numbersOf w)], [none]⟩ := by
  (refine fnI [ResultVar.tmp 2] Tryz.func109 ?_; conv => whnf)
  repeat' ((with_reducible (first | refine st8 ?_|refine fG.split (fun _ => ?_) (fun _ => ?_)|refine fG.bool (fun _ => ?_) (fun _ => ?_))) <;> (try (conv => whnf)))
  refine loop_rule (ι := VI) (fun z => [(3, .h z.o z.b 0 [] 1 0 z.l.length), (7, .h 1000000 0 0 [] 2 0 w.length), (8, i64 w.length), (9, i64 (z.j : Nat))])
    (fun z => [(1000000, ⟨0, 0, false, tItem w⟩), (z.o, ⟨z.b, 0, false, tI9 z.l⟩)])
    (fun z => w.length - z.j) (fun z => z.j ≤ w.length ∧ z.l = numbersOf (w.take z.j) ∧ (z.o = 6 ∨ z.o = 20)) ⟨0, [], 6, _⟩ fitOk ⟨Nat.zero_le _, rfl, .inl rfl⟩ (by simp [C]; omega) ?_
  rintro ⟨j, out, o, b⟩ sl ob ⟨hj, hl, ho⟩
  dsimp only at hj hl ho
  have hle := numbers_le (w.take j)
  rw [← hl, List.length_take] at hle
  rcases ho with rfl | rfl
  all_goals (try dsimp only [cond_true, cond_false])
  all_goals (conv => whnf)
  all_goals repeat' ((with_reducible (first | refine st8 ?_|refine fG.split (fun _ => ?_) (fun _ => ?_)|refine fG.bool (fun _ => ?_) (fun _ => ?_))) <;> (try (conv => whnf)))
  case' inl.refine_2 h | inr.refine_2 h =>
    rw [List.take_of_length_le (by omega)] at hl
    subst hl
  all_goals first
    | rfl
    | (rename_i hx
       refine ⟨⟨⟨j + 1, out ++ [(rd w j).v], 20, _⟩, fitOk, ?_, ?_⟩⟩
       · exact ⟨by show j + 1 ≤ _; omega, by show _ = _; rw [numbers_snoc w (by omega), if_pos hx, hl], .inr rfl⟩
       · show w.length - (j + 1) < w.length - j; omega)
    | (rename_i hx
       refine ⟨⟨⟨j + 1, out, 6, _⟩, fitOk, ?_, ?_⟩⟩
       · exact ⟨by show j + 1 ≤ _; omega, by show _ = _; rw [numbers_snoc w (by omega), if_neg (by rw [hx]; decide), hl], .inl rfl⟩
       · show w.length - (j + 1) < w.length - j; omega)
    | (rename_i hx
       refine ⟨⟨⟨j + 1, out, 20, _⟩, fitOk, ?_, ?_⟩⟩
       · exact ⟨by show j + 1 ≤ _; omega, by show _ = _; rw [numbers_snoc w (by omega), if_neg (by rw [hx]; decide), hl], .inr rfl⟩
       · show w.length - (j + 1) < w.length - j; omega)
    | skip
theorem ok_spec_Numbers (k : Nat) (w : List Item) (hw : w.length ≤ 100000000000) : callE PR C (k + 1) 173 [.h 1000000 0 0 [] 2 0 w.length] [tItem w] = some ⟨.h 2000000 1 0 [] 1 0 (numbersOf w).length, [tI9 (numbersOf w)], [none]⟩ := by
  (refine fnI [ResultVar.tmp 2] Tryz.func173 ?_; conv => whnf)
  repeat' ((with_reducible (first | refine st8 ?_|refine fG.split (fun _ => ?_) (fun _ => ?_)|refine fG.bool (fun _ => ?_) (fun _ => ?_))) <;> (try (conv => whnf)))
  refine loop_rule (ι := VI) (fun z => [(0, .h 1000000 0 0 [] 2 0 w.length), (3, .h z.o z.b 0 [] 1 0 z.l.length), (4, i64 (z.j : Nat))])
    (fun z => [(1000000, ⟨0, 0, false, tItem w⟩), (z.o, ⟨z.b, 0, false, tI9 z.l⟩)])
    (fun z => w.length - z.j) (fun z => z.j ≤ w.length ∧ z.l = numbersOf (w.take z.j) ∧ (z.o = 5 ∨ z.o = 25)) ⟨0, [], 5, _⟩ fitOk ⟨Nat.zero_le _, rfl, .inl rfl⟩ (by simp [C]; omega) ?_
  rintro ⟨j, out, o, b⟩ sl ob ⟨hj, hl, ho⟩
  dsimp only at hj hl ho
  have hle := numbers_le (w.take j)
  rw [← hl, List.length_take] at hle
  rcases ho with rfl | rfl
  all_goals (try dsimp only [cond_true, cond_false])
  all_goals (conv => whnf)
  all_goals repeat' ((with_reducible (first | refine st8 ?_|refine fG.split (fun _ => ?_) (fun _ => ?_)|refine fG.bool (fun _ => ?_) (fun _ => ?_))) <;> (try (conv => whnf)))
  case' inl.refine_2 h | inr.refine_2 h =>
    rw [List.take_of_length_le (by omega)] at hl
    subst hl
  all_goals first
    | rfl
    | (rename_i hx
       refine ⟨⟨⟨j + 1, out ++ [(rd w j).v], 25, _⟩, fitOk, ?_, ?_⟩⟩
       · exact ⟨by show j + 1 ≤ _; omega, by show _ = _; rw [numbers_snoc w (by omega), if_pos hx, hl], .inr rfl⟩
       · show w.length - (j + 1) < w.length - j; omega)
    | (rename_i hx
       refine ⟨⟨⟨j + 1, out, 5, _⟩, fitOk, ?_, ?_⟩⟩
       · exact ⟨by show j + 1 ≤ _; omega, by show _ = _; rw [numbers_snoc w (by omega), if_neg (by rw [hx]; decide), hl], .inl rfl⟩
       · show w.length - (j + 1) < w.length - j; omega)
    | (rename_i hx
       refine ⟨⟨⟨j + 1, out, 25, _⟩, fitOk, ?_, ?_⟩⟩
       · exact ⟨by show j + 1 ≤ _; omega, by show _ = _; rw [numbers_snoc w (by omega), if_neg (by rw [hx]; decide), hl], .inr rfl⟩
       · show w.length - (j + 1) < w.length - j; omega)
    | skip

theorem any_not_all {α : Type} (p : α → Bool) (l : List α) : (l.any fun x => !p x) = !(l.all p) := by rw [List.all_eq_not_any_not]; simp
theorem ok_impl_wayOk1 (k : Nat) (x : Item) : callE PR C (k + 3) 193 [.ag [bl x.mark, i64 x.v]] [] = some ⟨bl (!itemOk x), [], []⟩ := by
  (refine fnI [ResultVar.tmp 2] Tryz.func193 ?_; conv => whnf)
  repeat' ((with_reducible (first | refine sCall.of (ok_impl_numOk _ _) ?_|refine st8 ?_|refine fG.split (fun _ => ?_) (fun _ => ?_)|refine fG.bool (fun _ => ?_) (fun _ => ?_))) <;> (try (conv => whnf)))
  all_goals simp [itemOk, *]
theorem ok_IndexFunc_Item (k : Nat) (w : List Item) (hw : w.length ≤ 100000000000) :
    callE PR C (k + 4) 265 [.h 1000000 0 0 [] 2 0 w.length, .fn 193 []] [tItem w] = some ⟨i64 (idxP (fun x => !itemOk x) w), [], [none]⟩ := by
  (refine fnI [ResultVar.tmp 4] Tryz.func265 ?_; conv => whnf)
  refine loop_rule (ι := Nat) (fun i => [(0, .h 1000000 0 0 [] 2 0 w.length), (1, .fn 193 []), (7, i64 w.length), (8, i64 (i : Nat))]) (fun i => [(1000000, ⟨0, 0, false, tItem w⟩)])
    (fun i => w.length - i) (fun i => i ≤ w.length ∧ w.findIdx? (fun x => !itemOk x) = ((w.drop i).findIdx? (fun x => !itemOk x)).map (· + i)) 0 fitOk (by simp) (by simp [C]; omega) ?_
  rintro i sl ob ⟨hi, hall⟩
  (conv => whnf)
  repeat' ((with_reducible (first | refine sCall.of (ok_impl_wayOk1 _ _) ?_|refine st8 ?_|refine fG.split (fun _ => ?_) (fun _ => ?_)|refine fG.bool (fun _ => ?_) (fun _ => ?_))) <;> (try (conv => whnf)))
  case refine_1.refine_1 h hx =>
    refine ⟨⟨i + 1, fitOk, ?_, ?_⟩⟩
    · exact ⟨by show i + 1 ≤ _; omega, findIdx_step (by omega) hall (by simp [hx])⟩
    · show w.length - (i + 1) < w.length - i; omega
  case refine_1.refine_2 h hx => rw [findIdx_here (by omega) hall (by simp [hx])]
  case refine_2 h => rw [findIdx_none (by omega) hall]
theorem ok_ContainsFunc_Item (k : Nat) (w : List Item) (hw : w.length ≤ 100000000000) :
    callE PR C (k + 5) 192 [.h 1000000 0 0 [] 2 0 w.length, .fn 193 []] [tItem w] = some ⟨bl (!(w.all itemOk)), [], [none]⟩ := by
  rw [← any_not_all, ← idxP_any]
  (refine fnI [ResultVar.tmp 4] Tryz.func192 ?_; conv => whnf)
  repeat' ((with_reducible (first | refine sCall.of (ok_IndexFunc_Item _ _ hw) ?_|refine st8 ?_|refine fG.split (fun _ => ?_) (fun _ => ?_)|refine fG.bool (fun _ => ?_) (fun _ => ?_))) <;> (try (conv => whnf)))
theorem ok_impl_wayOk (k : Nat) (w : List Item) (hw : w.length ≤ 100000000000) : callE PR C (k + 6) 90 [.h 1000000 0 0 [] 2 0 w.length] [tItem w] = some ⟨bl (wayOk w), [], [none]⟩ := by
  (refine fnI [ResultVar.tmp 2] Tryz.func90 ?_; conv => whnf)
  repeat' ((with_reducible (first | refine sCall.of (ok_ContainsFunc_Item _ _ hw) ?_|refine st8 ?_|refine fG.split (fun _ => ?_) (fun _ => ?_)|refine fG.bool (fun _ => ?_) (fun _ => ?_))) <;> (try (conv => whnf)))
  case refine_1 h => have h' : w.length ≤ 12 := by omega
                     simp [wayOk, h']
  case refine_2 h => have h' : ¬ w.length ≤ 12 := by omega
                     simp [wayOk, h']
theorem ok_impl_SysOk1 (k : Nat) (w : List Item) (hw : w.length ≤ 100000000000) : callE PR C (k + 7) 89 [.h 1000000 0 0 [] 2 0 w.length] [tItem w] = some ⟨bl (!wayOk w), [], [none]⟩ := by
  (refine fnI [ResultVar.tmp 2] Tryz.func89 ?_; conv => whnf)
  repeat' ((with_reducible (first | refine sCall.of (ok_impl_wayOk _ _ hw) ?_|refine st8 ?_|refine fG.split (fun _ => ?_) (fun _ => ?_)|refine fG.bool (fun _ => ?_) (fun _ => ?_))) <;> (try (conv => whnf)))
theorem ok_IndexFunc_Way (k : Nat) (W : List (List Item)) (hW : W.length ≤ 100000000000) (hx : ∀ j : Nat, j < W.length → (rd W j).length ≤ 100000000000) :
    callE PR C (k + 8) 191 [.h 1000000 0 0 [] 1 0 W.length, .fn 89 []] [tItemSS W] = some ⟨i64 (idxP (fun x => !wayOk x) W), [], [none]⟩ := by
  (refine fnI [ResultVar.tmp 4] Tryz.func191 ?_; conv => whnf)
  refine loop_rule (ι := Nat) (fun i => [(0, .h 1000000 0 0 [] 1 0 W.length), (1, .fn 89 []), (7, i64 W.length), (8, i64 (i : Nat))]) (fun i => [(1000000, ⟨0, 0, false, tItemSS W⟩)])
    (fun i => W.length - i) (fun i => i ≤ W.length ∧ W.findIdx? (fun x => !wayOk x) = ((W.drop i).findIdx? (fun x => !wayOk x)).map (· + i)) 0 fitOk (by simp) (by simp [C]; omega) ?_
  rintro i sl ob ⟨hi, hall⟩
  (conv => whnf)
  by_cases hil : i < W.length
  · have hxi := hx i hil
    repeat' ((with_reducible (first | refine sCall.of (ok_impl_SysOk1 _ _ hxi) ?_|refine st8 ?_|refine fG.split (fun _ => ?_) (fun _ => ?_)|refine fG.bool (fun _ => ?_) (fun _ => ?_))) <;> (try (conv => whnf)))
    case refine_1 h1 =>
      refine ⟨⟨i + 1, fitOk, ?_, ?_⟩⟩
      · exact ⟨by show i + 1 ≤ _; omega, findIdx_step (by omega) hall (by simp [h1])⟩
      · show W.length - (i + 1) < W.length - i; omega
    case refine_2 h1 => rw [findIdx_here (by omega) hall (by simp [h1])]
  · rw [findIdx_none (by omega) hall]
    repeat' ((with_reducible (first | refine st8 ?_|refine fG.split (fun _ => ?_) (fun _ => ?_)|refine fG.bool (fun _ => ?_) (fun _ => ?_))) <;> (try (conv => whnf)))
theorem ok_ContainsFunc_Way (k : Nat) (W : List (List Item)) (hW : W.length ≤ 100000000000) (hx : ∀ j : Nat, j < W.length → (rd W j).length ≤ 100000000000) :
    callE PR C (k + 9) 88 [.h 1000000 0 0 [] 1 0 W.length, .fn 89 []] [tItemSS W] = some ⟨bl (!(W.all wayOk)), [], [none]⟩ := by
  rw [← any_not_all, ← idxP_any]
  (refine fnI [ResultVar.tmp 4] Tryz.func88 ?_; conv => whnf)
  repeat' ((with_reducible (first | refine sCall.of (ok_IndexFunc_Way _ _ hW hx) ?_|refine st8 ?_|refine fG.split (fun _ => ?_) (fun _ => ?_)|refine fG.bool (fun _ => ?_) (fun _ => ?_))) <;> (try (conv => whnf)))
theorem ok_impl_peersOk1 (k : Nat) (e : Event) (n : Int) (h0 : 0 ≤ n) (h1 : n ≤ 100000000000) : callE PR C (k + 2) 270 [aEvent e, .pt 1000000 0 0 [] 0 0] [.box [i64 n]] = some ⟨bl (!peerOk n e), [], [some (.box [i64 n])]⟩ := by
  (refine fnI [ResultVar.tmp 3] Tryz.func270 ?_; conv => whnf)
  repeat' ((with_reducible (first | refine sCall.of (ok_impl_in _ _ _ _) ?_|refine st8 ?_|refine fG.split (fun _ => ?_) (fun _ => ?_)|refine fG.bool (fun _ => ?_) (fun _ => ?_))) <;> (try (conv => whnf)))
  all_goals simp [peerOk, inB, *]
theorem ok_IndexFunc_Event (k : Nat) (es : List Event) (n : Int) (he : es.length ≤ 100000000000) (h0 : 0 ≤ n) (h1 : n ≤ 100000000000) :
    callE PR C (k + 3) 302 [hEvent 0 es, .fn 270 [.pt 1000001 0 0 [] 0 0]] [tEvent es, .box [i64 n]] = some ⟨i64 (idxP (fun x => !peerOk n x) es), [], [none, some (.box [i64 n])]⟩ := by
  (refine fnI [ResultVar.tmp 4] Tryz.func302 ?_; conv => whnf)
  refine loop_rule (ι := Nat × Bool) (fun i => [(0, hEvent 0 es), (1, .fn 270 [.pt 1000001 0 0 [] 0 0]), (7, i64 es.length), (8, i64 (i.1 : Nat))]) (fun i => [(1000000, ⟨0, 0, false, tEvent es⟩), (1000001, ⟨0, 0, i.2, .box [i64 n]⟩)])
    (fun i => es.length - i.1) (fun i => i.1 ≤ es.length ∧ es.findIdx? (fun x => !peerOk n x) = ((es.drop i.1).findIdx? (fun x => !peerOk n x)).map (· + i.1)) (0, false) fitOk (by simp) (by simp [C]; omega) ?_
  rintro ⟨i, d⟩ sl ob ⟨hi, hall⟩
  dsimp only at hi hall
  (conv => whnf)
  repeat' ((with_reducible (first | refine sCall.of (ok_impl_peersOk1 _ _ _ h0 h1) ?_|refine st8 ?_|refine fG.split (fun _ => ?_) (fun _ => ?_)|refine fG.bool (fun _ => ?_) (fun _ => ?_))) <;> (try (conv => whnf)))
  case refine_1.refine_1 h hx =>
    refine ⟨⟨(i + 1, _), fitOk, ?_, ?_⟩⟩
    · exact ⟨by dsimp only at *; omega, findIdx_step (by dsimp only at *; omega) hall (by simp [hx])⟩
    · dsimp only at *; omega
  case refine_1.refine_2 h hx => rw [findIdx_here (by dsimp only at *; omega) hall (by simp [hx])]
  case refine_2 h => rw [findIdx_none (by dsimp only at *; omega) hall]
theorem ok_ContainsFunc_Event (k : Nat) (es : List Event) (n : Int) (he : es.length ≤ 100000000000) (h0 : 0 ≤ n) (h1 : n ≤ 100000000000) :
    callE PR C (k + 4) 269 [hEvent 0 es, .fn 270 [.pt 1000001 0 0 [] 0 0]] [tEvent es, .box [i64 n]] = some ⟨bl (!(es.all (peerOk n))), [], [none, some (.box [i64 n])]⟩ := by
  rw [← any_not_all, ← idxP_any]
  (refine fnI [ResultVar.tmp 4] Tryz.func269 ?_; conv => whnf)
  repeat' ((with_reducible (first | refine sCall.of (ok_IndexFunc_Event _ _ _ he h0 h1) ?_|refine st8 ?_|refine fG.split (fun _ => ?_) (fun _ => ?_)|refine fG.bool (fun _ => ?_) (fun _ => ?_))) <;> (try (conv => whnf)))
theorem ok_impl_peersOk (k : Nat) (es : List Event) (n : Int) (he : es.length ≤ 100000000000) (h0 : 0 ≤ n) (h1 : n ≤ 100000000000) : callE PR C (k + 5) 196 [hEvent 0 es, i64 n] [tEvent es] = some ⟨bl (peersOk es n), [], [none]⟩ := by
  (refine fnI [ResultVar.tmp 4] Tryz.func196 ?_; conv => whnf)
  repeat' ((with_reducible (first | refine sCall.of (ok_ContainsFunc_Event _ _ _ he h0 h1) ?_|refine st8 ?_|refine fG.split (fun _ => ?_) (fun _ => ?_)|refine fG.bool (fun _ => ?_) (fun _ => ?_))) <;> (try (conv => whnf)))
  all_goals simp [peersOk]

end Go.Proofs.YtipfcgbhaalcdaaGreat.Abs
namespace Go.Proofs.YtipfcgbhaalcdaaGreat.Abs
open Go Go.Proofs
set_option linter.unusedVariables false
set_option linter.unusedSimpArgs false
attribute [local irreducible] callE
theorem set_rItem (l : List Item) (n : Nat) (a : Bool) (b : Int) : (l.map rItem).set n [.v (.bool a), .v (.int .i64 b)] = (l.set n ⟨a, b⟩).map rItem := by simp [rItem, List.map_set]
theorem rep_rItem (n : Nat) (a : Bool) (b : Int) : List.replicate n [T.v (.bool a), .v (.int .i64 b)] = (List.replicate n (⟨a, b⟩ : Item)).map rItem := by simp [rItem]
theorem set_rInsL (l : List (List Ins)) (n : Nat) (x : List Ins) : (l.map rInsL).set n [.sl 5 (x.map rIns)] = (l.set n x).map rInsL := by simp [rInsL, List.map_set]
theorem rep_rInsL (n : Nat) : List.replicate n [T.sl 5 []] = (List.replicate n (default : List Ins)).map rInsL := by simp [rInsL, default, instInhabitedList]
theorem full_rInsL (x : List Ins) : (rInsL x).all (fun t => T.full 8 t) = true := by
  simp only [rInsL, List.all_cons, List.all_nil, Bool.and_true]
  exact full_map (fun _ => rfl) x
theorem set_rItemL (l : List (List Item)) (n : Nat) (x : List Item) : (l.map rItemL).set n [.sl 2 (x.map rItem)] = (l.set n x).map rItemL := by simp [rItemL, List.map_set]
theorem rep_rItemL (n : Nat) : List.replicate n [T.sl 2 []] = (List.replicate n (default : List Item)).map rItemL := by simp [rItemL, default, instInhabitedList]
theorem full_rItemL (x : List Item) : (rItemL x).all (fun t => T.full 8 t) = true := by
  simp only [rItemL, List.all_cons, List.all_nil, Bool.and_true]
  exact full_map (fun _ => rfl) x
theorem set_rEventL (l : List (List Event)) (n : Nat) (x : List Event) : (l.map rEventL).set n [.sl 3 (x.map rEvent)] = (l.set n x).map rEventL := by simp [rEventL, List.map_set]
theorem rep_rEventL (n : Nat) : List.replicate n [T.sl 3 []] = (List.replicate n (default : List Event)).map rEventL := by simp [rEventL, default, instInhabitedList]
theorem full_rEventL (x : List Event) : (rEventL x).all (fun t => T.full 8 t) = true := by
  simp only [rEventL, List.all_cons, List.all_nil, Bool.and_true]
  exact full_map (fun _ => rfl) x
def wSt (x : State) : Nat := x.regs.length + x.out.length
theorem set_rState (l : List State) (n : Nat) (a c : Int) (r o : List Int) : (l.map rState).set n [.v (.int .i64 a), .sl 1 (r.map rI), .sl 1 (o.map rI), .v (.int .i64 c)] = (l.set n ⟨a, r, o, c⟩).map rState := by simp [rState, List.map_set]
theorem rep_rState (n : Nat) : List.replicate n [T.v (.int .i64 0), .sl 1 [], .sl 1 [], .v (.int .i64 0)] = (List.replicate n (default : State)).map rState := by simp [rState, default, instInhabitedState]
theorem full_rState (x : State) : (rState x).all (fun t => T.full 8 t) = true := by
  simp only [rState, List.all_cons, List.all_nil, Bool.and_true, T.full, Bool.true_and]
  exact Bool.and_eq_true_iff.2 ⟨full_map (n := 7) (s := 1) (fun _ => rfl) x.regs, full_map (n := 7) (s := 1) (fun _ => rfl) x.out⟩
theorem gI12 {p A : Prop} (h : A) (e : p := by first | with_reducible assumption | omega | (simp only [Nat.zero_add, Nat.add_zero, Nat.sub_zero, Int.toNat_natCast, Int.toNat_zero, Int.toNat_one, List.length_map, List.length_nil, Int.reduceToNat, Nat.reduceAdd, Nat.reduceSub, Int.sub_zero, Int.reduceAdd, Int.reduceSub, Nat.sub_self, Int.toNat_natCast_add_one, marks_len, bs_len, List.length_append, List.length_cons, List.length_set, List.length_replicate, List.length_range]; first | done | omega)) : sI p A := sI.mk e h
theorem gNum12 {r r' : Nat} {F : Nat → Prop} (h : F r') (e : r = r' := by first | (simp only [Nat.zero_add, Nat.add_zero, Nat.sub_zero, Int.toNat_natCast, Int.toNat_zero, Int.toNat_one, List.length_map, List.length_nil, Int.reduceToNat, Nat.reduceAdd, Nat.reduceSub, Int.sub_zero, Int.reduceAdd, Int.reduceSub, Nat.sub_self, Int.toNat_natCast_add_one, marks_len, bs_len]; rfl) | rfl) : sN r F := sN.eq e h
theorem gRow12 {r r' : List (List T)} {F : List (List T) → Prop} (h : F r') (e : r = r' := by first | (simp only [Nat.add_zero, Nat.zero_add, Nat.reduceAdd, List.drop_zero, List.take_succ_cons, List.take_nil, List.drop_succ_cons, List.drop_nil, List.take_zero, List.nil_append, List.append_nil, List.map_nil, drop_suf, take_pre, drop_map, List.take_length, take_len_set, take_len_app, List.set_set, List.length_map, set_rState, rep_rState, set_rInsL, rep_rInsL, set_rItemL, rep_rItemL, set_rEventL, rep_rEventL, set_rItem, rep_rItem, rep_rKept, marks_take, set_rKept, set_rIns, rep_rIns, set_rEvent, rep_rEvent, snoc_rKept, snoc_rEvent, snoc_rIns, bytesT_bs, snoc_rI, snoc_rB, snoc_rBool, set_rI, set_rBool, rep_rI, rep_rBool, map_app]; rfl) | rfl) : sR r F := sR.eq e h
structure SysB (B : Nat) (P : List (List Ins)) (S : List State) (W : List (List Item)) (H : List (List Event)) : Prop where
  p : P.length ≤ B
  pp : ∀ j : Nat, j < P.length → (rd P j).length ≤ B
  s : S.length ≤ B
  ss : ∀ j : Nat, j < S.length → (rd S j).regs.length ≤ B ∧ (rd S j).out.length ≤ B
  w : W.length ≤ B
  ww : ∀ j : Nat, j < W.length → (rd W j).length ≤ B
  h : H.length ≤ B
  hh : ∀ j : Nat, j < H.length → (rd H j).length ≤ B
def sysSz (P : List (List Ins)) (S : List State) (W : List (List Item)) (H : List (List Event)) : Nat := (P.length + wts List.length P) + ((S.length + wts wSt S) + ((W.length + wts List.length W) + (H.length + wts List.length H)))
theorem SysB.mono {B B' : Nat} {P : List (List Ins)} {S : List State} {W : List (List Item)} {H : List (List Event)} (h : SysB B P S W H) (hb : B ≤ B') : SysB B' P S W H :=
  ⟨by have := h.p; omega, fun j hj => by have := h.pp j hj; omega, by have := h.s; omega, fun j hj => by have := h.ss j hj; omega, by have := h.w; omega, fun j hj => by have := h.ww j hj; omega, by have := h.h; omega, fun j hj => by have := h.hh j hj; omega⟩
end Go.Proofs.YtipfcgbhaalcdaaGreat.Abs
namespace Go.Proofs.YtipfcgbhaalcdaaGreat.Abs
open Go Go.Proofs
set_option linter.unusedVariables false
set_option linter.unusedSimpArgs false
attribute [local irreducible] callE
def rIntL (l : List Int) : List T := [.sl 1 (l.map rI)]
theorem full_rIntL (x : List Int) : (rIntL x).all (fun t => T.full 8 t) = true := by
  simp only [rIntL, List.all_cons, List.all_nil, Bool.and_true]
  exact full_map (n := 7) (s := 1) (fun _ => rfl) x
theorem gRf4 {b : Bool} {A : Prop} (h : A) (e : b = true := by first | exact Nat.beq_refl _ | exact wide_map (fun _ => rfl) _ | exact full_map (fun _ => rfl) _ | exact full_map (fun x => full_rKept x) _ | exact full_map (fun x => full_rInsL x) _ | exact full_map (fun x => full_rItemL x) _ | exact full_map (fun x => full_rEventL x) _ | exact full_map (fun x => full_rState x) _ | exact full_map (fun x => full_rIntL x) _ | rfl | (simp only [full_map, wide_map]; done)) : fB b A := fB.of e h
theorem st12 {P Q : Prop} (h : Q) (e : Q → P := by with_reducible first | exact fun h => gP h | exact fun h => gN h | exact fun h => fG.not h | exact fun h => gY h | exact fun h => gF h | exact fun h => fG.yes (flat_map (fun _ => rfl) _) h | exact fun h => gS64 h | exact fun h => gU8 h | exact fun h => gI12 h | exact fun h => fE.of rfl h | exact fun h => gNum12 h | exact fun h => gSet h | exact fun h => gRd h | exact fun h => gLk h | exact fun h => gRow12 h | exact fun h => gRf4 h) : P := e h
theorem ok_Grow_int (k : Nat) (n : Int) (h0 : 0 ≤ n) (h1 : n ≤ 100000000000) : callE PR C (k + 1) 274 [.nl 1, i64 n] [] = some ⟨.h 2000000 1 0 [] 1 0 0, [tI9 []], []⟩ := by
  (refine fnI [ResultVar.tmp 4] Tryz.func274 ?_; conv => whnf)
  repeat' ((with_reducible (first | refine st12 ?_|refine fG.split (fun _ => ?_) (fun _ => ?_)|refine fG.bool (fun _ => ?_) (fun _ => ?_))) <;> (try (conv => whnf)))
  all_goals rfl
theorem flatten_wts (l : List (List Int)) : l.flatten.length = wts List.length l := by
  induction l with
  | nil => rfl
  | cons a l ih => simp only [List.flatten_cons, List.length_append, wts, ih]
theorem ok_Concat_int (k : Nat) (l : List (List Int)) (hl : l.length ≤ 100000000000) (hb : wts List.length l ≤ 100000000000) :
    callE PR C (k + 2) 200 [.h 1000000 0 0 [] 1 0 l.length] [.tree 0 (.sl 1 (l.map rIntL))] = some ⟨.h 2000000 1 0 [] 1 0 l.flatten.length, [tI9 l.flatten], [none]⟩ := by
  (refine fnI [ResultVar.tmp 2] Tryz.func200 ?_; conv => whnf)
  refine loop_rule (ι := TH) (fun z => [(0, .h 1000000 0 0 [] 1 0 l.length), (3, i64 z.m), (9, .h 1000000 0 0 [] 1 0 l.length), (10, i64 l.length), (11, i64 (z.j : Nat))])
    (fun z => [(1000000, ⟨0, 0, false, .tree 0 (.sl 1 (l.map rIntL))⟩)])
    (fun z => l.length - z.j) (fun z => z.j ≤ l.length ∧ z.m = (wts List.length (l.take z.j) : Nat)) ⟨0, 0⟩ fitOk ⟨Nat.zero_le _, rfl⟩ (by simp [C]; omega) ?_
  rintro ⟨j, m⟩ sl ob ⟨hj, hm⟩
  dsimp only at hj hm
  subst hm
  (try dsimp only [cond_true, cond_false])
  (conv => whnf)
  by_cases hjl : j < l.length
  · have e1 := wts_take List.length l j hjl
    have e2 := wts_le List.length l (j + 1)
    have e4 : (List.map rI (rd l j)).length = (rd l j).length := by simp
    repeat' ((with_reducible (first | refine st12 ?_|refine fG.split (fun _ => ?_) (fun _ => ?_)|refine fG.bool (fun _ => ?_) (fun _ => ?_))) <;> (try (conv => whnf)))
    refine ⟨⟨⟨j + 1, _⟩, fitOk, ?_, ?_⟩⟩
    · exact ⟨by show j + 1 ≤ _; omega, by show ((wts List.length (l.take j) : Nat) : Int) + ((List.map rI (rd l j)).length : Nat) = (wts List.length (l.take (j + 1)) : Nat); omega⟩
    · show l.length - (j + 1) < l.length - j; omega
  · have e2 := wts_le List.length l j
    have hG := fun k => ok_Grow_int k (wts List.length (l.take j) : Nat) (by omega) (by omega)
    repeat' ((with_reducible (first | refine sCall.of (hG _) ?_|refine st12 ?_|refine fG.split (fun _ => ?_) (fun _ => ?_)|refine fG.bool (fun _ => ?_) (fun _ => ?_))) <;> (try (conv => whnf)))
    refine loop_rule (ι := VI) (fun z => [(6, .h z.o z.b 0 [] 1 0 z.l.length), (25, .h 1000000 0 0 [] 1 0 l.length), (26, i64 l.length), (27, i64 (z.j : Nat))])
      (fun z => [(1000000, ⟨0, 0, false, .tree 0 (.sl 1 (l.map rIntL))⟩), (z.o, ⟨z.b, 0, false, tI9 z.l⟩)])
      (fun z => l.length - z.j) (fun z => z.j ≤ l.length ∧ z.l = (l.take z.j).flatten ∧ (z.o = 10024 ∨ z.o = 33)) ⟨0, [], 10024, _⟩ fitOk ⟨Nat.zero_le _, rfl, .inl rfl⟩ (by simp [C]; omega) ?_
    clear hjl hj e2 hG
    rintro ⟨j, out, o, b⟩ sl ob ⟨hj, hl2, ho⟩
    dsimp only at hj hl2 ho
    have hlen : out.length = wts List.length (l.take j) := by rw [hl2, flatten_wts]
    have e3 := wts_le List.length l (j + 1)
    by_cases hjl : j < l.length
    · have e1 := wts_take List.length l j hjl
      rcases ho with rfl | rfl
      all_goals (try dsimp only [cond_true, cond_false])
      all_goals (conv => whnf)
      all_goals repeat' ((with_reducible (first | refine st12 ?_|refine fG.split (fun _ => ?_) (fun _ => ?_)|refine fG.bool (fun _ => ?_) (fun _ => ?_))) <;> (try (conv => whnf)))
      all_goals
        refine ⟨⟨⟨j + 1, out ++ rd l j, 33, _⟩, fitOk, ?_, ?_⟩⟩
        · exact ⟨by show j + 1 ≤ _; omega, by show out ++ rd l j = _; rw [take_rd hjl, List.flatten_append, hl2]; simp, .inr rfl⟩
        · show l.length - (j + 1) < l.length - j; omega
    · rw [List.take_of_length_le (by omega)] at hl2
      subst hl2
      rcases ho with rfl | rfl
      all_goals (try dsimp only [cond_true, cond_false])
      all_goals (conv => whnf)
      all_goals repeat' ((with_reducible (first | refine st12 ?_|refine fG.split (fun _ => ?_) (fun _ => ?_)|refine fG.bool (fun _ => ?_) (fun _ => ?_))) <;> (try (conv => whnf)))
      all_goals rfl
theorem ok_impl_wayAt (k : Nat) (P : List (List Ins)) (S : List State) (W : List (List Item)) (H : List (List Event)) (a b : Nat) (hb : SysB 100000000000 P S W H) (ha : a < P.length) (hb2 : b < P.length) (hn : P.length ≤ 4) (hw : W.length = P.length * P.length) :
    callE PR C (k + 2) 146 [aSys 0 P S W H, i64 (a : Nat), i64 (b : Nat)] [tInsSS P, tStateS S, tItemSS W, tEventSS H] = some ⟨i64 (a * P.length + b : Nat), [], [none, none, none, none]⟩ := by
  have hpl := place_lt ha hb2
  rw [← hw] at hpl
  have hm : ((a : Int) * (P.length : Int)) = ((a * P.length : Nat) : Int) := by simp
  have hle : a * P.length ≤ 4 * 4 := Nat.mul_le_mul (by omega) hn
  have w1 : IntKind.i64.wrap ((a : Int) * (P.length : Int)) = ((a * P.length : Nat) : Int) := by rw [hm]; exact wrap_i64 _ (by omega) (by omega)
  have w2 : IntKind.i64.wrap (((a * P.length : Nat) : Int) + (b : Int)) = ((a * P.length + b : Nat) : Int) := by rw [wrap_i64 _ (by omega) (by omega)]; simp
  have q1 := fun k => ok_impl_in k (a : Int) 0 ((P.length : Int) - 1)
  have q2 := fun k => ok_impl_in k (b : Int) 0 ((P.length : Int) - 1)
  rw [decide_eq_true (by omega)] at q1 q2
  (refine fnI [ResultVar.tmp 6] Tryz.func146 ?_; conv => whnf)
  repeat' ((with_reducible (first | refine sCall.of (q1 _) ?_|refine sCall.of (q2 _) ?_|refine sW.eq (w1) ?_|refine sW.eq (w2) ?_|refine st12 ?_|refine fG.split (fun _ => ?_) (fun _ => ?_)|refine fG.bool (fun _ => ?_) (fun _ => ?_))) <;> (try (conv => whnf)))
  all_goals first
    | rfl
    | (exfalso; omega)

end Go.Proofs.YtipfcgbhaalcdaaGreat.Abs
namespace Go.Proofs.YtipfcgbhaalcdaaGreat.Abs
open Go Go.Proofs
set_option linter.unusedVariables false
set_option linter.unusedSimpArgs false
attribute [local irreducible] callE
theorem ok_impl_procOk (k : Nat) (P : List (List Ins)) (S : List State) (W : List (List Item)) (H : List (List Event)) (p : Nat) (hb : SysB 100000000000 P S W H) (hp : p < P.length) (hn : P.length ≤ 4) (hs : S.length = P.length) (hh : H.length = P.length) :
    callE PR C (k + 10) 91 [aSys 0 P S W H, i64 (p : Nat)] [tInsSS P, tStateS S, tItemSS W, tEventSS H] = some ⟨bl (procOk P S H p), [], [none, none, none, none]⟩ := by
  have b1 := hb.pp p hp
  have b2 := hb.hh p (by omega)
  have b3 := hb.ss p (by omega)
  have q1 := fun k => ok_impl_ProgOk k (rd P p) P.length b1 (by omega) (by omega)
  have q2 := fun k => ok_impl_peersOk k (rd H p) P.length b2 (by omega) (by omega)
  have q3 := fun k => ok_impl_Replay' k (rd P p) (rd H p) b1 b2
  have hst := stOf_len (rd P p) (rd H p)
  unfold procOk
  cases e1 : progOk (rd P p) P.length with
  | false =>
    simp only [e1] at q1
    (refine fnI [ResultVar.tmp 4] Tryz.func91 ?_; conv => whnf)
    repeat' ((with_reducible (first | refine sCall.of (q1 _) ?_|refine st12 ?_|refine fG.split (fun _ => ?_) (fun _ => ?_)|refine fG.bool (fun _ => ?_) (fun _ => ?_)|refine gDn 1 ?_|refine gD 3 [(1, 14), (4, 14), (6, 14), (9, 14), (10, 14)] ?_|refine gDn 4 ?_)) <;> (try (conv => whnf)))
    all_goals rfl
  | true =>
    simp only [e1] at q1
    cases e2 : peersOk (rd H p) P.length with
    | false =>
      simp only [e2] at q2
      (refine fnI [ResultVar.tmp 4] Tryz.func91 ?_; conv => whnf)
      repeat' ((with_reducible (first | refine sCall.of (q1 _) ?_|refine sCall.of (q2 _) ?_|refine st12 ?_|refine fG.split (fun _ => ?_) (fun _ => ?_)|refine fG.bool (fun _ => ?_) (fun _ => ?_)|refine gDn 1 ?_|refine gD 3 [(1, 14), (4, 14), (6, 14), (9, 14), (10, 14)] ?_|refine gDn 4 ?_)) <;> (try (conv => whnf)))
      all_goals rfl
    | true =>
      simp only [e2] at q2
      unfold stoodAs
      cases e3 : (replayAll (rd P p) (rd H p)).isSome with
      | false =>
        simp only [e3] at q3
        (refine fnI [ResultVar.tmp 4] Tryz.func91 ?_; conv => whnf)
        repeat' ((with_reducible (first | refine sCall.of (q1 _) ?_|refine sCall.of (q2 _) ?_|refine sCall.of (q3 _) ?_|refine st12 ?_|refine fG.split (fun _ => ?_) (fun _ => ?_)|refine fG.bool (fun _ => ?_) (fun _ => ?_)|refine gDn 1 ?_|refine gD 3 [(1, 14), (4, 14), (6, 14), (9, 14), (10, 14)] ?_|refine gDn 4 ?_)) <;> (try (conv => whnf)))
        all_goals rfl
      | true =>
        simp only [e3] at q3
        generalize stOf (replayAll (rd P p) (rd H p)) = st at q3 hst ⊢
        have q4 := fun k => ok_impl_sameState k st.at_ st.regs st.out st.code (rd S p).at_ (rd S p).regs (rd S p).out (rd S p).code (by omega) (by omega) b3.1 b3.2
        rw [show sameS st.at_ st.regs st.out st.code (rd S p).at_ (rd S p).regs (rd S p).out (rd S p).code = decide (st = rd S p) from rfl] at q4
        (refine fnI [ResultVar.tmp 4] Tryz.func91 ?_; conv => whnf)
        repeat' ((with_reducible (first | refine sCall.of (q1 _) ?_|refine sCall.of (q2 _) ?_|refine sCall.of (q3 _) ?_|refine sCall.of (q4 _) ?_|refine st12 ?_|refine fG.split (fun _ => ?_) (fun _ => ?_)|refine fG.bool (fun _ => ?_) (fun _ => ?_)|refine gDn 1 ?_|refine gD 3 [(1, 14), (4, 14), (6, 14), (9, 14), (10, 14)] ?_|refine gDn 4 ?_)) <;> (try (conv => whnf)))
        all_goals simp
theorem ok_impl_fits (k : Nat) (P : List (List Ins)) (S : List State) (W : List (List Item)) (H : List (List Event)) (a b : Nat) (hb : SysB 10000000000 P S W H) (ha : a < P.length) (hb2 : b < P.length) (hn : P.length ≤ 4) (hh : H.length = P.length) (hw : W.length = P.length * P.length) :
    callE PR C (k + 3) 92 [aSys 0 P S W H, i64 (a : Nat), i64 (b : Nat)] [tInsSS P, tStateS S, tItemSS W, tEventSS H] = some ⟨bl (fits P.length W H a b), [], [none, none, none, none]⟩ := by
  have hpl := place_lt ha hb2
  rw [← hw] at hpl
  have b1 := hb.hh a (by omega)
  have b2 := hb.hh b (by omega)
  have b3 := hb.ww _ hpl
  have q1 := fun k => ok_impl_Values k (rd H b) 3 a (by omega)
  have q2 := fun k => ok_impl_wayAt k P S W H a b (hb.mono (by decide)) ha hb2 hn hw
  have q3 := fun k => ok_impl_Numbers k (rd W (a * P.length + b)) (by omega)
  have q4 := fun k => ok_impl_Values k (rd H a) 2 b (by omega)
  have l1 := vals_le (rd H b) 3 a
  have l2 := numbers_le (rd W (a * P.length + b))
  have l3 := vals_le (rd H a) 2 b
  have q5 := fun k => ok_Concat_int k [vals (rd H b) 3 a, numbersOf (rd W (a * P.length + b))] (by simp) (by simp only [wts]; omega)
  have q6 := fun k => ok_Equal_int k (vals (rd H b) 3 a ++ numbersOf (rd W (a * P.length + b))) (vals (rd H a) 2 b) (by simp only [List.length_append]; omega) (by omega)
  simp only [List.map_cons, List.map_nil, rIntL, List.length_cons, List.length_nil, List.flatten_cons, List.flatten_nil, List.append_nil] at q5
  (refine fnI [ResultVar.tmp 6] Tryz.func92 ?_; conv => whnf)
  repeat' ((with_reducible (first | refine sCall.of (q1 _) ?_|refine sCall.of (q2 _) ?_|refine sCall.of (q3 _) ?_|refine sCall.of (q5 _) ?_|refine sCall.of (q4 _) ?_|refine sCall.of (q6 _) ?_|refine st12 ?_|refine fG.split (fun _ => ?_) (fun _ => ?_)|refine fG.bool (fun _ => ?_) (fun _ => ?_)|refine gD 2 [(2, 6), (6, 13), (9, 13), (10, 13), (11, 13), (6, 16), (9, 16), (10, 16), (11, 16)] ?_)) <;> (try (conv => whnf)))
  all_goals rfl
theorem allEv_wts (H : List (List Event)) : allEv H = wts List.length H := by
  induction H with
  | nil => rfl
  | cons a H ih => simp only [allEv, List.map_cons, List.sum_cons, wts] at ih ⊢; rw [ih]
theorem allEv_take {H : List (List Event)} {j : Nat} (hj : j < H.length) : allEv (H.take (j + 1)) = allEv (H.take j) + (rd H j).length := by
  rw [take_rd hj]; simp [allEv]
theorem allEv_le (H : List (List Event)) (j : Nat) : allEv (H.take j) ≤ allEv H := by
  conv => rhs; rw [← List.take_append_drop j H]
  simp only [allEv, List.map_append, List.sum_append]
  omega
theorem ok_impl_allEvents (k : Nat) (H : List (List Event)) (hl : H.length ≤ 100000000000) (ht : allEv H ≤ 1000000000000) : callE PR C (k + 1) 94 [.h 1000000 0 0 [] 1 0 H.length] [tEventSS H] = some ⟨i64 (allEv H : Nat), [], [none]⟩ := by
  (refine fnI [ResultVar.tmp 2] Tryz.func94 ?_; conv => whnf)
  refine loop_rule (ι := TH) (fun z => [(3, i64 z.m), (6, .h 1000000 0 0 [] 1 0 H.length), (7, i64 H.length), (8, i64 (z.j : Nat))])
    (fun z => [(1000000, ⟨0, 0, false, tEventSS H⟩)])
    (fun z => H.length - z.j) (fun z => z.j ≤ H.length ∧ z.m = (allEv (H.take z.j) : Nat)) ⟨0, 0⟩ fitOk ⟨Nat.zero_le _, rfl⟩ (by simp [C]; omega) ?_
  rintro ⟨j, m⟩ sl ob ⟨hj, hm⟩
  dsimp only at hj hm
  subst hm
  (try dsimp only [cond_true, cond_false])
  (conv => whnf)
  by_cases hjl : j < H.length
  · have e1 := allEv_take hjl
    have e2 := allEv_le H (j + 1)
    have e4 : (List.map rEvent (rd H j)).length = (rd H j).length := by simp
    repeat' ((with_reducible (first | refine st12 ?_|refine fG.split (fun _ => ?_) (fun _ => ?_)|refine fG.bool (fun _ => ?_) (fun _ => ?_))) <;> (try (conv => whnf)))
    refine ⟨⟨⟨j + 1, _⟩, fitOk, ?_, ?_⟩⟩
    · exact ⟨by show j + 1 ≤ _; omega, by show ((allEv (H.take j) : Nat) : Int) + ((List.map rEvent (rd H j)).length : Nat) = (allEv (H.take (j + 1)) : Nat); omega⟩
    · show H.length - (j + 1) < H.length - j; omega
  · rw [List.take_of_length_le (by omega)]
    repeat' ((with_reducible (first | refine st12 ?_|refine fG.split (fun _ => ?_) (fun _ => ?_)|refine fG.bool (fun _ => ?_) (fun _ => ?_))) <;> (try (conv => whnf)))
def rWho (x : Who) : List T := [.v (.int .i64 x.p), .v (.int .i64 x.i)]
theorem snoc_rWho (l : List Who) (a b : Int) : l.map rWho ++ [[.v (.int .i64 a), .v (.int .i64 b)]] = (l ++ [(⟨a, b⟩ : Who)]).map rWho := by simp [rWho]
theorem gI13 {p A : Prop} (h : A) (e : p := by first | with_reducible assumption | omega | (simp only [Nat.zero_add, Nat.add_zero, Nat.sub_zero, Int.toNat_natCast, Int.toNat_zero, Int.toNat_one, List.length_map, List.length_nil, Int.reduceToNat, Nat.reduceAdd, Nat.reduceSub, Int.sub_zero, Int.reduceAdd, Int.reduceSub, Nat.sub_self, Int.toNat_natCast_add_one, marks_len, bs_len, List.length_append, List.length_cons, List.length_set, List.length_replicate, List.length_range]; first | done | omega)) : sI p A := sI.mk e h
theorem gNum13 {r r' : Nat} {F : Nat → Prop} (h : F r') (e : r = r' := by first | (simp only [Nat.zero_add, Nat.add_zero, Nat.sub_zero, Int.toNat_natCast, Int.toNat_zero, Int.toNat_one, List.length_map, List.length_nil, Int.reduceToNat, Nat.reduceAdd, Nat.reduceSub, Int.sub_zero, Int.reduceAdd, Int.reduceSub, Nat.sub_self, Int.toNat_natCast_add_one, marks_len, bs_len]; rfl) | rfl) : sN r F := sN.eq e h
theorem gRow13 {r r' : List (List T)} {F : List (List T) → Prop} (h : F r') (e : r = r' := by first | (simp only [Nat.add_zero, Nat.zero_add, Nat.reduceAdd, List.drop_zero, List.take_succ_cons, List.take_nil, List.drop_succ_cons, List.drop_nil, List.take_zero, List.nil_append, List.append_nil, List.map_nil, drop_suf, take_pre, drop_map, List.take_length, take_len_set, take_len_app, List.set_set, List.length_map, snoc_rWho, set_rState, rep_rState, set_rInsL, rep_rInsL, set_rItemL, rep_rItemL, set_rEventL, rep_rEventL, set_rItem, rep_rItem, rep_rKept, marks_take, set_rKept, set_rIns, rep_rIns, set_rEvent, rep_rEvent, snoc_rKept, snoc_rEvent, snoc_rIns, bytesT_bs, snoc_rI, snoc_rB, snoc_rBool, set_rI, set_rBool, rep_rI, rep_rBool, map_app]; rfl) | rfl) : sR r F := sR.eq e h
theorem st13 {P Q : Prop} (h : Q) (e : Q → P := by with_reducible first | exact fun h => gP h | exact fun h => gN h | exact fun h => fG.not h | exact fun h => gY h | exact fun h => gF h | exact fun h => fG.yes (flat_map (fun _ => rfl) _) h | exact fun h => gS64 h | exact fun h => gU8 h | exact fun h => gI13 h | exact fun h => fE.of rfl h | exact fun h => gNum13 h | exact fun h => gSet h | exact fun h => gRd h | exact fun h => gLk h | exact fun h => gRow13 h | exact fun h => gRf4 h) : P := e h
abbrev tWho9 (l : List Who) : Cont := .tree 9 (.sl 2 (l.map rWho))
structure RW where
  l : List Who
  f : List Int
  p : Nat
  o : Nat
  b : Nat
  g : Nat
  d : Bool
theorem greedy_go {H : List (List Event)} {f : List Int} {p m : Nat} (hp : p < H.length) (hc : canCome H f p = true) (h : ∀ q, q < p → canCome H f q = false) : greedy H (m + 1) f = ⟨p, rd f p⟩ :: greedy H m (goOn f p) := by
  simp only [greedy, firstP_some hp hc h]
theorem greedy_stop {H : List (List Event)} {f : List Int} {m : Nat} (h : Stuck H f) : greedy H m f = [] := by
  cases m with
  | zero => rfl
  | succ m => simp only [greedy, firstP_stuck h]
theorem no_more {H : List (List Event)} {f : List Int} {p : Nat} (h : ∀ q, q < p → canCome H f q = false) (hc : canCome H f p = false) : ∀ q, q < p + 1 → canCome H f q = false := by
  intro q hq
  rcases Nat.lt_succ_iff_lt_or_eq.1 hq with h1 | h1
  · exact h q h1
  · rw [h1]; exact hc
theorem row_step {H : List (List Event)} {f : List Int} {p : Nat} {out : List Who} (hr : Reach H f out.length) (hp : p < H.length) (hc : canCome H f p = true) (hno : ∀ q, q < p → canCome H f q = false) (hrow : out ++ greedy H (allEv H - out.length) f = rowOf H) :
    Reach H (goOn f p) (out ++ [(⟨p, rd f p⟩ : Who)]).length ∧ (out ++ [(⟨p, rd f p⟩ : Who)]) ++ greedy H (allEv H - (out ++ [(⟨p, rd f p⟩ : Who)]).length) (goOn f p) = rowOf H ∧
      (allEv H - (out ++ [(⟨p, rd f p⟩ : Who)]).length) * (H.length + 1) + (H.length - 0) < (allEv H - out.length) * (H.length + 1) + (H.length - p) := by
  have h1 := hr.step hp hc
  have h2 := h1.le_all
  have e : (out ++ [(⟨p, rd f p⟩ : Who)]).length = out.length + 1 := by simp
  rw [e]
  obtain ⟨m, hm⟩ : ∃ m, allEv H - out.length = m + 1 := ⟨allEv H - out.length - 1, by omega⟩
  have hm2 : allEv H - (out.length + 1) = m := by omega
  rw [hm, greedy_go hp hc hno] at hrow
  rw [hm, hm2]
  refine ⟨h1, by rw [← hrow]; simp, ?_⟩
  rw [Nat.add_mul]
  omega
set_option maxHeartbeats 4000000 in
theorem ok_impl_rowOf (k : Nat) (H : List (List Event)) (hl : H.length ≤ 1000) (hh : ∀ j : Nat, j < H.length → (rd H j).length ≤ 1000) (hP : PeersIn H) :
    callE PR C (k + 4) 93 [.h 1000000 0 0 [] 1 0 H.length] [tEventSS H] = some ⟨.h 2000000 1 0 [] 2 0 (rowOf H).length, [tWho9 (rowOf H)], [none]⟩ := by
  have htot : allEv H ≤ 1000 * 1000 := by
    have := wts_bound List.length 1000 H hh
    rw [allEv_wts]
    exact Nat.le_trans this (Nat.mul_le_mul_left _ hl)
  (refine fnI [ResultVar.tmp 2] Tryz.func93 ?_; conv => whnf)
  repeat' ((with_reducible (first | refine st13 ?_|refine fG.split (fun _ => ?_) (fun _ => ?_)|refine fG.bool (fun _ => ?_) (fun _ => ?_)|refine gDn 6 ?_|refine gD 7 [(3, 10), (7, 10), (9, 10)] ?_|refine gD 8 [(15, 18), (15, 20), (15, 23), (15, 25)] ?_)) <;> (try (conv => whnf)))
  refine loop_rule (ι := RW) (fun z => [(0, .h 1000000 0 0 [] 1 0 H.length), (3, .h z.o z.b 0 [] 2 0 z.l.length), (4, .h 10 1 0 [] 1 0 H.length), (5, i64 (z.p : Nat))])
    (fun z => [(1000000, ⟨0, 0, false, tEventSS H⟩), (z.o, ⟨z.b, 0, false, tWho9 z.l⟩), (10, ⟨1, z.g, z.d, tI9 z.f⟩)])
    (fun z => (allEv H - z.l.length) * (H.length + 1) + (H.length - z.p))
    (fun z => Reach H z.f z.l.length ∧ z.p ≤ H.length ∧ (∀ q, q < z.p → canCome H z.f q = false) ∧ z.l ++ greedy H (allEv H - z.l.length) z.f = rowOf H ∧ (z.o = 7 ∨ z.o = 76))
    ⟨[], List.replicate H.length 0, 0, 7, _, _, _⟩ fitOk ⟨.zero, Nat.zero_le _, fun q h => absurd h (Nat.not_lt_zero q), by simp [rowOf], .inl rfl⟩ (by
      have : allEv H * (H.length + 1) ≤ 1000000 * 1001 := Nat.mul_le_mul (by omega) (by omega)
      simp [C]; omega) ?_
  rintro ⟨out, f, p, o, b, g, d⟩ sl ob ⟨hr, hp, hno, hrow, ho⟩
  dsimp only at hr hp hno hrow ho
  have hf := hr.fok
  have hfl := hf.len
  have hle := hr.le_all
  (try dsimp only [cond_true, cond_false])
  (conv => whnf)
  by_cases hpl : p < H.length
  · have hfp := hf.rng p hpl
    have hhp := hh p hpl
    have e4 : (List.map rEvent (rd H p)).length = (rd H p).length := by simp
    by_cases c1 : rd f p = ((rd H p).length : Int)
    · have hcan : canCome H f p = false := by simp [canCome, c1]
      rcases ho with rfl | rfl
      all_goals repeat' ((with_reducible (first | refine st13 ?_|refine fG.split (fun _ => ?_) (fun _ => ?_)|refine fG.bool (fun _ => ?_) (fun _ => ?_)|refine gDn 6 ?_|refine gD 7 [(3, 10), (7, 10), (9, 10)] ?_|refine gD 8 [(15, 18), (15, 20), (15, 23), (15, 25)] ?_)) <;> (try (conv => whnf)))
      all_goals first
        | (refine ⟨⟨⟨out, f, p + 1, 7, _, _, _⟩, fitOk, ?_, ?_⟩⟩
           · exact ⟨hr, by show p + 1 ≤ _; omega, no_more hno hcan, hrow, .inl rfl⟩
           · show (allEv H - out.length) * (H.length + 1) + (H.length - (p + 1)) < (allEv H - out.length) * (H.length + 1) + (H.length - p); omega)
        | (refine ⟨⟨⟨out, f, p + 1, 76, _, _, _⟩, fitOk, ?_, ?_⟩⟩
           · exact ⟨hr, by show p + 1 ≤ _; omega, no_more hno hcan, hrow, .inr rfl⟩
           · show (allEv H - out.length) * (H.length + 1) + (H.length - (p + 1)) < (allEv H - out.length) * (H.length + 1) + (H.length - p); omega)
    · by_cases c2 : (rd (rd H p) (rd f p).toNat).kind = 3
      · have hq := hP p hpl (rd f p).toNat (by omega) c2
        have hfq := hf.rng (rd (rd H p) (rd f p).toNat).peer.toNat (by omega)
        have hhq := hh (rd (rd H p) (rd f p).toNat).peer.toNat (by omega)
        have e5 : (List.map rEvent (rd H (rd (rd H p) (rd f p).toNat).peer.toNat)).length = (rd H (rd (rd H p) (rd f p).toNat).peer.toNat).length := by simp
        have qa := fun k => ok_impl_Count k ((rd H p).take (rd f p).toNat) 3 (rd (rd H p) (rd f p).toNat).peer (by simp; omega)
        have qb := fun k => ok_impl_Count k ((rd H (rd (rd H p) (rd f p).toNat).peer.toNat).take (rd f (rd (rd H p) (rd f p).toNat).peer.toNat).toNat) 2 p (by simp; omega)
        by_cases c3 : (cnt ((rd H (rd (rd H p) (rd f p).toNat).peer.toNat).take (rd f (rd (rd H p) (rd f p).toNat).peer.toNat).toNat) 2 p : Int) ≤ (cnt ((rd H p).take (rd f p).toNat) 3 (rd (rd H p) (rd f p).toNat).peer : Int)
        · have hcan : canCome H f p = false := by simp [canCome, c2]; intro _; omega
          rcases ho with rfl | rfl
          all_goals repeat' ((with_reducible (first | refine sCall.of (qa _) ?_|refine sCall.of (qb _) ?_|refine st13 ?_|refine fG.split (fun _ => ?_) (fun _ => ?_)|refine fG.bool (fun _ => ?_) (fun _ => ?_)|refine gDn 6 ?_|refine gD 7 [(3, 10), (7, 10), (9, 10)] ?_|refine gD 8 [(15, 18), (15, 20), (15, 23), (15, 25)] ?_)) <;> (try (conv => whnf)))
          all_goals first
            | (refine ⟨⟨⟨out, f, p + 1, 7, _, _, _⟩, fitOk, ?_, ?_⟩⟩
               · exact ⟨hr, by show p + 1 ≤ _; omega, no_more hno hcan, hrow, .inl rfl⟩
               · show (allEv H - out.length) * (H.length + 1) + (H.length - (p + 1)) < (allEv H - out.length) * (H.length + 1) + (H.length - p); omega)
            | (refine ⟨⟨⟨out, f, p + 1, 76, _, _, _⟩, fitOk, ?_, ?_⟩⟩
               · exact ⟨hr, by show p + 1 ≤ _; omega, no_more hno hcan, hrow, .inr rfl⟩
               · show (allEv H - out.length) * (H.length + 1) + (H.length - (p + 1)) < (allEv H - out.length) * (H.length + 1) + (H.length - p); omega)
        · have hcan : canCome H f p = true := by simp [canCome, c1, c2]; omega
          obtain ⟨h1, h2, h3⟩ := row_step hr hpl hcan hno hrow
          rcases ho with rfl | rfl
          all_goals repeat' ((with_reducible (first | refine sCall.of (qa _) ?_|refine sCall.of (qb _) ?_|refine st13 ?_|refine fG.split (fun _ => ?_) (fun _ => ?_)|refine fG.bool (fun _ => ?_) (fun _ => ?_)|refine gDn 6 ?_|refine gD 7 [(3, 10), (7, 10), (9, 10)] ?_|refine gD 8 [(15, 18), (15, 20), (15, 23), (15, 25)] ?_)) <;> (try (conv => whnf)))
          all_goals
            refine ⟨⟨⟨out ++ [⟨p, rd f p⟩], goOn f p, 0, 76, _, _, _⟩, fitOk, ?_, ?_⟩⟩
            · exact ⟨h1, Nat.zero_le _, fun q h => absurd h (Nat.not_lt_zero q), h2, .inr rfl⟩
            · exact h3
      · have hcan : canCome H f p = true := by simp [canCome, c1, c2]
        obtain ⟨h1, h2, h3⟩ := row_step hr hpl hcan hno hrow
        rcases ho with rfl | rfl
        all_goals repeat' ((with_reducible (first | refine st13 ?_|refine fG.split (fun _ => ?_) (fun _ => ?_)|refine fG.bool (fun _ => ?_) (fun _ => ?_)|refine gDn 6 ?_|refine gD 7 [(3, 10), (7, 10), (9, 10)] ?_|refine gD 8 [(15, 18), (15, 20), (15, 23), (15, 25)] ?_)) <;> (try (conv => whnf)))
        all_goals
          refine ⟨⟨⟨out ++ [⟨p, rd f p⟩], goOn f p, 0, 76, _, _, _⟩, fitOk, ?_, ?_⟩⟩
          · exact ⟨h1, Nat.zero_le _, fun q h => absurd h (Nat.not_lt_zero q), h2, .inr rfl⟩
          · exact h3
  · have hst : Stuck H f := fun q hq => hno q (by omega)
    rw [greedy_stop hst, List.append_nil] at hrow
    subst hrow
    rcases ho with rfl | rfl
    all_goals repeat' ((with_reducible (first | refine st13 ?_|refine fG.split (fun _ => ?_) (fun _ => ?_)|refine fG.bool (fun _ => ?_) (fun _ => ?_)|refine gDn 6 ?_|refine gD 7 [(3, 10), (7, 10), (9, 10)] ?_|refine gD 8 [(15, 18), (15, 20), (15, 23), (15, 25)] ?_)) <;> (try (conv => whnf)))
    all_goals rfl

end Go.Proofs.YtipfcgbhaalcdaaGreat.Abs
namespace Go.Proofs.YtipfcgbhaalcdaaGreat.Abs
open Go Go.Proofs
set_option linter.unusedVariables false
set_option linter.unusedSimpArgs false
attribute [local irreducible] callE
theorem peersIn_of {P : List (List Ins)} {S : List State} {H : List (List Event)} (hn : 1 ≤ P.length ∧ P.length ≤ 4) (hh : H.length = P.length) (h : ∀ p, p < P.length → procOk P S H p = true) : PeersIn H ∧ ∀ p, p < H.length → (rd H p).length ≤ 200 := by
  refine ⟨fun p hp i hi hk => ?_, fun p hp => ?_⟩
  · have h1 := h p (by omega)
    simp only [procOk, Bool.and_eq_true] at h1
    have h2 := h1.2.1
    simp only [peersOk, List.all_eq_true] at h2
    have h3 := h2 _ (rd_mem hi)
    simp [peerOk, inB, hk] at h3
    omega
  · have h1 := h p (by omega)
    simp only [procOk, Bool.and_eq_true] at h1
    exact (stood_evOk h1.2.2).2.2.2.1
theorem sysOk_sizes {P : List (List Ins)} {S : List State} {W : List (List Item)} {H : List (List Event)} (h : sizesOk P S W H = false) : sysOk P S W H = false := by simp [sysOk, h]
structure SysIs (P : List (List Ins)) (S : List State) (W : List (List Item)) (H : List (List Event)) : Prop where
  n : 1 ≤ P.length ∧ P.length ≤ 4
  s : S.length = P.length
  h : H.length = P.length
  w : W.length = P.length * P.length
theorem SysIs.sizes {P : List (List Ins)} {S : List State} {W : List (List Item)} {H : List (List Event)} (h : SysIs P S W H) : sizesOk P S W H = true := by
  have := h.n
  simp only [sizesOk, inB, Bool.and_eq_true, decide_eq_true_eq]
  exact ⟨by omega, h.s, h.h, h.w⟩
abbrev bSys (P : List (List Ins)) (S : List State) (W : List (List Item)) (H : List (List Event)) : Cont := .box [.h 1000000 0 0 [] 1 0 P.length, .h 1000001 0 0 [] 4 0 S.length, .h 1000002 0 0 [] 1 0 W.length, .h 1000003 0 0 [] 1 0 H.length]
set_option maxHeartbeats 8000000 in
theorem ok_impl_SysOk (k : Nat) (P : List (List Ins)) (S : List State) (W : List (List Item)) (H : List (List Event)) (hb : SysB 10000000000 P S W H) :
    callE PR C (k + 11) 20 [aSys 0 P S W H] [tInsSS P, tStateS S, tItemSS W, tEventSS H] = some ⟨bl (sysOk P S W H), [], [none, none, none, none]⟩ := by
  have b1 := hb.p
  have b2 := hb.s
  have b3 := hb.w
  have b4 := hb.h
  have q0 := fun k => ok_impl_in k (P.length : Int) 1 4
  by_cases d1 : 1 ≤ (P.length : Int) ∧ (P.length : Int) ≤ 4
  · rw [decide_eq_true d1] at q0
    have hnn : P.length * P.length ≤ 4 * 4 := Nat.mul_le_mul (by omega) (by omega)
    have w1 : IntKind.i64.wrap ((P.length : Int) * (P.length : Int)) = ((P.length * P.length : Nat) : Int) := by
      rw [show (P.length : Int) * (P.length : Int) = ((P.length * P.length : Nat) : Int) by simp]; exact wrap_i64 _ (by omega) (by omega)
    by_cases d2 : S.length = P.length
    · by_cases d3 : H.length = P.length
      · by_cases d4 : W.length = P.length * P.length
        · have hI : SysIs P S W H := ⟨by omega, d2, d3, d4⟩
          have qW := fun k => ok_ContainsFunc_Way k W (by omega) (fun j hj => by have := hb.ww j hj; omega)
          cases eW : W.all wayOk with
          | false =>
            simp only [eW] at qW
            rw [show sysOk P S W H = false by simp [sysOk, eW]]
            (refine fnI [ResultVar.tmp 2] Tryz.func20 ?_; conv => whnf)
            repeat' ((with_reducible (first | refine sCall.of (q0 _) ?_|refine sW.eq (w1) ?_|refine sCall.of (qW _) ?_|refine st13 ?_|refine fG.split (fun _ => ?_) (fun _ => ?_)|refine fG.bool (fun _ => ?_) (fun _ => ?_)|refine gD 20 [(2, 5)] ?_)) <;> (try (conv => whnf)))
          | true =>
            simp only [eW] at qW
            (refine fnI [ResultVar.tmp 2] Tryz.func20 ?_; conv => whnf)
            repeat' ((with_reducible (first | refine sCall.of (q0 _) ?_|refine sW.eq (w1) ?_|refine sCall.of (qW _) ?_|refine st13 ?_|refine fG.split (fun _ => ?_) (fun _ => ?_)|refine fG.bool (fun _ => ?_) (fun _ => ?_)|refine gD 20 [(2, 5)] ?_)) <;> (try (conv => whnf)))
            refine loop_rule (ι := Nat) (fun j => [(1, .pt 1 1 0 [] 0 0), (3, i64 P.length), (41, i64 P.length), (42, i64 (j : Nat))])
              (fun _ => [(1000000, ⟨0, 0, false, tInsSS P⟩), (1000001, ⟨0, 0, false, tStateS S⟩), (1000002, ⟨0, 0, false, tItemSS W⟩), (1000003, ⟨0, 0, false, tEventSS H⟩), (1, ⟨1, 0, false, bSys P S W H⟩)])
              (fun j => P.length - j) (fun j => j ≤ P.length ∧ ∀ q, q < j → procOk P S H q = true) 0 fitOk ⟨Nat.zero_le _, fun q h => absurd h (Nat.not_lt_zero q)⟩ (by simp [C]; omega) ?_
            rintro j sl ob ⟨hj, hpr⟩
            (try dsimp only [cond_true, cond_false])
            (conv => whnf)
            by_cases hjl : j < P.length
            · have q1 := fun k => ok_impl_procOk k P S W H j (hb.mono (by decide)) hjl (by omega) d2 d3
              cases e : procOk P S H j with
              | false =>
                simp only [e] at q1
                rw [show sysOk P S W H = false by simp [sysOk, allBelow_no hjl e]]
                repeat' ((with_reducible (first | refine sCall.of (q1 _) ?_|refine st13 ?_|refine fG.split (fun _ => ?_) (fun _ => ?_)|refine fG.bool (fun _ => ?_) (fun _ => ?_)|refine gD 20 [(2, 5)] ?_)) <;> (try (conv => whnf)))
              | true =>
                simp only [e] at q1
                repeat' ((with_reducible (first | refine sCall.of (q1 _) ?_|refine st13 ?_|refine fG.split (fun _ => ?_) (fun _ => ?_)|refine fG.bool (fun _ => ?_) (fun _ => ?_)|refine gD 20 [(2, 5)] ?_)) <;> (try (conv => whnf)))
                refine ⟨⟨j + 1, fitOk, ?_, ?_⟩⟩
                · exact ⟨by show j + 1 ≤ _; omega, fun q hq => by rcases Nat.lt_succ_iff_lt_or_eq.1 hq with h | h; exact hpr q h; rw [h]; exact e⟩
                · show P.length - (j + 1) < P.length - j; omega
            · have hpr' : ∀ p, p < P.length → procOk P S H p = true := fun p hp => hpr p (by omega)
              obtain ⟨hPI, h200⟩ := peersIn_of hI.n d3 hpr'
              have ePr := allBelow_yes hpr'
              clear hpr
              repeat' ((with_reducible (first | refine st13 ?_|refine fG.split (fun _ => ?_) (fun _ => ?_)|refine fG.bool (fun _ => ?_) (fun _ => ?_)|refine gD 20 [(2, 5)] ?_)) <;> (try (conv => whnf)))
              refine loop_rule (ι := Nat) (fun j => [(1, .pt 1 1 0 [] 0 0), (3, i64 P.length), (50, i64 P.length), (51, i64 (j : Nat))])
                (fun _ => [(1000000, ⟨0, 0, false, tInsSS P⟩), (1000001, ⟨0, 0, false, tStateS S⟩), (1000002, ⟨0, 0, false, tItemSS W⟩), (1000003, ⟨0, 0, false, tEventSS H⟩), (1, ⟨1, 0, false, bSys P S W H⟩)])
                (fun j => P.length - j) (fun j => j ≤ P.length ∧ ∀ a, a < j → allBelow P.length (fun b => fits P.length W H a b) = true) 0 fitOk ⟨Nat.zero_le _, fun q h => absurd h (Nat.not_lt_zero q)⟩ (by simp [C]; omega) ?_
              clear sl ob
              rintro a sl ob ⟨ha, hfa⟩
              (try dsimp only [cond_true, cond_false])
              (conv => whnf)
              by_cases hal : a < P.length
              · repeat' ((with_reducible (first | refine st13 ?_|refine fG.split (fun _ => ?_) (fun _ => ?_)|refine fG.bool (fun _ => ?_) (fun _ => ?_)|refine gD 20 [(2, 5)] ?_)) <;> (try (conv => whnf)))
                refine loop_rule (ι := Nat) (fun j => [(1, .pt 1 1 0 [] 0 0), (3, i64 P.length), (5, i64 (a : Nat)), (50, i64 P.length), (51, i64 (a : Nat)), (54, i64 P.length), (55, i64 (j : Nat))])
                  (fun _ => [(1000000, ⟨0, 0, false, tInsSS P⟩), (1000001, ⟨0, 0, false, tStateS S⟩), (1000002, ⟨0, 0, false, tItemSS W⟩), (1000003, ⟨0, 0, false, tEventSS H⟩), (1, ⟨1, 0, false, bSys P S W H⟩)])
                  (fun j => P.length - j) (fun j => j ≤ P.length ∧ ∀ b, b < j → fits P.length W H a b = true) 0 fitOk ⟨Nat.zero_le _, fun q h => absurd h (Nat.not_lt_zero q)⟩ (by simp [C]; omega) ?_
                clear sl ob
                rintro b sl ob ⟨hb', hfb⟩
                (try dsimp only [cond_true, cond_false])
                (conv => whnf)
                by_cases hbl : b < P.length
                · have q2 := fun k => ok_impl_fits k P S W H a b hb hal hbl (by omega) d3 d4
                  cases e : fits P.length W H a b with
                  | false =>
                    simp only [e] at q2
                    rw [show sysOk P S W H = false by simp [sysOk, allBelow_no (f := fun a => allBelow P.length fun b => fits P.length W H a b) hal (allBelow_no hbl e)]]
                    repeat' ((with_reducible (first | refine sCall.of (q2 _) ?_|refine st13 ?_|refine fG.split (fun _ => ?_) (fun _ => ?_)|refine fG.bool (fun _ => ?_) (fun _ => ?_)|refine gD 20 [(2, 5)] ?_)) <;> (try (conv => whnf)))
                  | true =>
                    simp only [e] at q2
                    repeat' ((with_reducible (first | refine sCall.of (q2 _) ?_|refine st13 ?_|refine fG.split (fun _ => ?_) (fun _ => ?_)|refine fG.bool (fun _ => ?_) (fun _ => ?_)|refine gD 20 [(2, 5)] ?_)) <;> (try (conv => whnf)))
                    refine ⟨⟨b + 1, fitOk, ?_, ?_⟩⟩
                    · exact ⟨by show b + 1 ≤ _; omega, fun q hq => by rcases Nat.lt_succ_iff_lt_or_eq.1 hq with h | h; exact hfb q h; rw [h]; exact e⟩
                    · show P.length - (b + 1) < P.length - b; omega
                · repeat' ((with_reducible (first | refine st13 ?_|refine fG.split (fun _ => ?_) (fun _ => ?_)|refine fG.bool (fun _ => ?_) (fun _ => ?_)|refine gD 20 [(2, 5)] ?_)) <;> (try (conv => whnf)))
                  refine ⟨⟨a + 1, fitOk, ?_, ?_⟩⟩
                  · exact ⟨by show a + 1 ≤ _; omega, fun q hq => by rcases Nat.lt_succ_iff_lt_or_eq.1 hq with h | h; exact hfa q h; rw [h]; exact allBelow_yes fun b hb => hfb b (by omega)⟩
                  · show P.length - (a + 1) < P.length - a; omega
              · have eF : allBelow P.length (fun a => allBelow P.length fun b => fits P.length W H a b) = true := allBelow_yes fun a h => hfa a (by omega)
                have q3 := fun k => ok_impl_rowOf k H (by omega) (fun j hj => by have := h200 j hj; omega) hPI
                have hall : allEv H ≤ 1000000000000 := by
                  have h1 := wts_bound List.length 200 H h200
                  rw [← allEv_wts] at h1
                  omega
                have q4 := fun k => ok_impl_allEvents k H (by omega) hall
                rw [show sysOk P S W H = inRow H by simp [sysOk, hI.sizes, eW, ePr, eF]]
                repeat' ((with_reducible (first | refine sCall.of (q3 _) ?_|refine sCall.of (q4 _) ?_|refine st13 ?_|refine fG.split (fun _ => ?_) (fun _ => ?_)|refine fG.bool (fun _ => ?_) (fun _ => ?_)|refine gD 20 [(2, 5)] ?_)) <;> (try (conv => whnf)))
                simp [inRow]
                omega
        · rw [sysOk_sizes (by simp [sizesOk, d4])]
          (refine fnI [ResultVar.tmp 2] Tryz.func20 ?_; conv => whnf)
          repeat' ((with_reducible (first | refine sCall.of (q0 _) ?_|refine sW.eq (w1) ?_|refine st13 ?_|refine fG.split (fun _ => ?_) (fun _ => ?_)|refine fG.bool (fun _ => ?_) (fun _ => ?_)|refine gD 20 [(2, 5)] ?_)) <;> (try (conv => whnf)))
          all_goals first
            | rfl
            | (exfalso; omega)
      · rw [sysOk_sizes (by simp [sizesOk, d3])]
        (refine fnI [ResultVar.tmp 2] Tryz.func20 ?_; conv => whnf)
        repeat' ((with_reducible (first | refine sCall.of (q0 _) ?_|refine sW.eq (w1) ?_|refine st13 ?_|refine fG.split (fun _ => ?_) (fun _ => ?_)|refine fG.bool (fun _ => ?_) (fun _ => ?_)|refine gD 20 [(2, 5)] ?_)) <;> (try (conv => whnf)))
        all_goals first
          | rfl
          | (exfalso; omega)
    · rw [sysOk_sizes (by simp [sizesOk, d2])]
      (refine fnI [ResultVar.tmp 2] Tryz.func20 ?_; conv => whnf)
      repeat' ((with_reducible (first | refine sCall.of (q0 _) ?_|refine sW.eq (w1) ?_|refine st13 ?_|refine fG.split (fun _ => ?_) (fun _ => ?_)|refine fG.bool (fun _ => ?_) (fun _ => ?_)|refine gD 20 [(2, 5)] ?_)) <;> (try (conv => whnf)))
      all_goals first
        | rfl
        | (exfalso; omega)
  · rw [decide_eq_false d1] at q0
    rw [sysOk_sizes (by simp [sizesOk, inB, d1])]
    (refine fnI [ResultVar.tmp 2] Tryz.func20 ?_; conv => whnf)
    repeat' ((with_reducible (first | refine sCall.of (q0 _) ?_|refine st13 ?_|refine fG.split (fun _ => ?_) (fun _ => ?_)|refine fG.bool (fun _ => ?_) (fun _ => ?_)|refine gD 20 [(2, 5)] ?_)) <;> (try (conv => whnf)))

end Go.Proofs.YtipfcgbhaalcdaaGreat.Abs
namespace Go.Proofs.YtipfcgbhaalcdaaGreat.Abs
open Go Go.Proofs
set_option linter.unusedVariables false
set_option linter.unusedSimpArgs false
attribute [local irreducible] callE
theorem ok_spec_l4Way (k : Nat) (w : List Item) (sent : List Int) (tk : Nat) (hw : w.length ≤ 10000000000) (hs : sent.length ≤ 10000000000) (ht : tk ≤ 10000000000) :
    callE PR C (k + 3) 178 [.h 1000000 0 0 [] 2 0 w.length, .h 1000001 0 0 [] 1 0 sent.length, i64 (tk : Nat)] [tItem w, tI sent] = some ⟨bl (l4way w sent tk), [], [none, none]⟩ := by
  have hnl := numbers_le w
  (refine fnI [ResultVar.tmp 6] Tryz.func178 ?_; conv => whnf)
  refine loop_rule (ι := Nat) (fun j => [(0, .h 1000000 0 0 [] 2 0 w.length), (1, .h 1000001 0 0 [] 1 0 sent.length), (2, i64 (tk : Nat)), (7, i64 (j : Nat))])
    (fun _ => [(1000000, ⟨0, 0, false, tItem w⟩), (1000001, ⟨0, 0, false, tI sent⟩)])
    (fun j => w.length - j) (fun j => j ≤ w.length ∧ ∀ i, i < j → itemOk (rd w i) = true) 0 fitOk ⟨Nat.zero_le _, fun q h => absurd h (Nat.not_lt_zero q)⟩ (by simp [C]; omega) ?_
  rintro j sl ob ⟨hj, hok⟩
  (try dsimp only [cond_true, cond_false])
  (conv => whnf)
  by_cases hjl : j < w.length
  · have q1 : ∀ k, callE PR C (k + 2) 263 [i64 (rd w j).v] [] = some ⟨bl (numOk (rd w j).v), [], []⟩ := fun k => ok_spec_l1Num k (rd w j).v
    cases e : itemOk (rd w j) with
    | false =>
      rw [show l4way w sent tk = false by
        have : w.all itemOk = false := by rw [List.all_eq_false]; exact ⟨_, rd_mem hjl, by rw [e]; decide⟩
        simp [l4way, this]]
      cases en : numOk (rd w j).v with
      | false =>
        rw [en] at q1
        repeat' ((with_reducible (first | refine sCall.of (q1 _) ?_|refine st13 ?_|refine fG.split (fun _ => ?_) (fun _ => ?_)|refine fG.bool (fun _ => ?_) (fun _ => ?_)|refine gDn 12 ?_)) <;> (try (conv => whnf)))
      | true =>
        rw [en] at q1
        cases em : (rd w j).mark with
        | false => simp [itemOk, en, em] at e
        | true =>
          have hv : ¬ (rd w j).v = 0 := by intro h; unfold itemOk at e; rw [en, em] at e; simp [h] at e
          repeat' ((with_reducible (first | refine sCall.of (q1 _) ?_|refine st13 ?_|refine fG.split (fun _ => ?_) (fun _ => ?_)|refine fG.bool (fun _ => ?_) (fun _ => ?_)|refine gDn 12 ?_)) <;> (try (conv => whnf)))
          all_goals first
            | (exfalso; simp [em] at *; done)
            | skip
    | true =>
      have en : numOk (rd w j).v = true := by simp only [itemOk, Bool.and_eq_true] at e; exact e.1
      rw [en] at q1
      have e' := e
      simp only [itemOk, en, Bool.true_and, Bool.not_eq_true', Bool.and_eq_false_iff, Bool.not_eq_false', decide_eq_true_eq] at e'
      repeat' ((with_reducible (first | refine sCall.of (q1 _) ?_|refine st13 ?_|refine fG.split (fun _ => ?_) (fun _ => ?_)|refine fG.bool (fun _ => ?_) (fun _ => ?_)|refine gDn 12 ?_)) <;> (try (conv => whnf)))
      all_goals first
        | (exfalso; rcases e' with h | h <;> simp_all; done)
        | (refine ⟨⟨j + 1, fitOk, ?_, ?_⟩⟩
           · exact ⟨by show j + 1 ≤ _; omega, fun q hq => by rcases Nat.lt_succ_iff_lt_or_eq.1 hq with h | h; exact hok q h; rw [h]; exact e⟩
           · show w.length - (j + 1) < w.length - j; omega)
  · have eA : w.all itemOk = true := by
      rw [List.all_eq_true]
      intro x hx
      obtain ⟨i, hi, rfl⟩ := List.mem_iff_getElem.1 hx
      have := hok i (by omega)
      simpa [rd, hi] using this
    have q2 := fun k => ok_spec_Numbers k w (by omega)
    by_cases d1 : w.length ≤ 12
    · by_cases d2 : (sent.length : Int) - (tk : Int) = ((numbersOf w).length : Int)
      · rw [show l4way w sent tk = decide (sent.drop tk = numbersOf w) by simp [l4way, eA, d1, d2]]
        repeat' ((with_reducible (first | refine sCall.of (q2 _) ?_|refine st13 ?_|refine fG.split (fun _ => ?_) (fun _ => ?_)|refine fG.bool (fun _ => ?_) (fun _ => ?_)|refine gDn 12 ?_)) <;> (try (conv => whnf)))
        refine loop_rule (ι := VI) (fun z => [(1, .h 1000001 0 0 [] 1 0 sent.length), (2, i64 (tk : Nat)), (8, .h 10039 z.b 0 [] 1 0 (numbersOf w).length), (9, i64 (z.j : Nat))])
          (fun z => [(1000000, ⟨0, 0, false, tItem w⟩), (1000001, ⟨0, 0, false, tI sent⟩), (10039, ⟨z.b, 0, false, tI9 (numbersOf w)⟩)])
          (fun z => (numbersOf w).length - z.j) (fun z => z.j ≤ (numbersOf w).length ∧ ∀ i, i < z.j → rd (numbersOf w) i = rd sent (tk + i)) ⟨0, [], 0, _⟩ fitOk ⟨Nat.zero_le _, fun q h => absurd h (Nat.not_lt_zero q)⟩ (by simp [C]; omega) ?_
        clear hok hj hjl sl ob j
        rintro ⟨j, _, _, bb⟩ sl ob ⟨hj, hok⟩
        dsimp only at hj hok
        (try dsimp only [cond_true, cond_false])
        (conv => whnf)
        by_cases hjl : j < (numbersOf w).length
        · have et : ((tk : Int) + (j : Int)).toNat = tk + j := by omega
          by_cases e : rd (numbersOf w) j = rd sent (tk + j)
          · have e' : rd (numbersOf w) j = rd sent ((tk : Int) + (j : Int)).toNat := by rw [et]; exact e
            repeat' ((with_reducible (first | refine st13 ?_|refine fG.split (fun _ => ?_) (fun _ => ?_)|refine fG.bool (fun _ => ?_) (fun _ => ?_)|refine gDn 12 ?_)) <;> (try (conv => whnf)))
            refine ⟨⟨⟨j + 1, [], 0, _⟩, fitOk, ?_, ?_⟩⟩
            · exact ⟨by show j + 1 ≤ _; omega, fun q hq => by rcases Nat.lt_succ_iff_lt_or_eq.1 hq with h | h; exact hok q h; rw [h]; exact e⟩
            · show (numbersOf w).length - (j + 1) < (numbersOf w).length - j; omega
          · have e' : ¬ rd (numbersOf w) j = rd sent ((tk : Int) + (j : Int)).toNat := by rw [et]; exact e
            rw [decide_eq_false (p := sent.drop tk = numbersOf w) (fun h => e (by rw [← h]; simp [rd]))]
            repeat' ((with_reducible (first | refine st13 ?_|refine fG.split (fun _ => ?_) (fun _ => ?_)|refine fG.bool (fun _ => ?_) (fun _ => ?_)|refine gDn 12 ?_)) <;> (try (conv => whnf)))
        · rw [decide_eq_true (p := sent.drop tk = numbersOf w) (rd_ext (by simp; omega) fun q hq => by
            have := hok q (by simp at hq; omega)
            rw [this]; simp [rd])]
          repeat' ((with_reducible (first | refine st13 ?_|refine fG.split (fun _ => ?_) (fun _ => ?_)|refine fG.bool (fun _ => ?_) (fun _ => ?_)|refine gDn 12 ?_)) <;> (try (conv => whnf)))
      · rw [show l4way w sent tk = false by simp [l4way, d2]]
        repeat' ((with_reducible (first | refine sCall.of (q2 _) ?_|refine st13 ?_|refine fG.split (fun _ => ?_) (fun _ => ?_)|refine fG.bool (fun _ => ?_) (fun _ => ?_)|refine gDn 12 ?_)) <;> (try (conv => whnf)))
    · rw [show l4way w sent tk = false by simp [l4way, d1]]
      repeat' ((with_reducible (first | refine sCall.of (q2 _) ?_|refine st13 ?_|refine fG.split (fun _ => ?_) (fun _ => ?_)|refine fG.bool (fun _ => ?_) (fun _ => ?_)|refine gDn 12 ?_)) <;> (try (conv => whnf)))

structure LO where
  f : List Int
  n : Nat
  p : Nat
  m : Bool
  x : Int
  g : Nat
  d : Bool
set_option maxHeartbeats 4000000 in
theorem ok_spec_l4Order (k : Nat) (P : List (List Ins)) (S : List State) (W : List (List Item)) (H : List (List Event)) (hl : H.length ≤ 1000) (hh : ∀ j : Nat, j < H.length → (rd H j).length ≤ 1000) (hP : PeersIn H) :
    callE PR C (k + 3) 179 [aSys 0 P S W H] [tInsSS P, tStateS S, tItemSS W, tEventSS H] = some ⟨bl (inRow H), [], [none, none, none, none]⟩ := by
  have htot : allEv H ≤ 1000 * 1000 := by
    have := wts_bound List.length 1000 H hh
    rw [allEv_wts]
    exact Nat.le_trans this (Nat.mul_le_mul_left _ hl)
  (refine fnI [ResultVar.tmp 2] Tryz.func179 ?_; conv => whnf)
  repeat' ((with_reducible (first | refine st13 ?_|refine fG.split (fun _ => ?_) (fun _ => ?_)|refine fG.bool (fun _ => ?_) (fun _ => ?_)|refine gDn 14 ?_|refine gD 15 [(1, 11), (4, 11), (8, 11), (10, 11)] ?_|refine gD 16 [(16, 18), (16, 20), (16, 22), (16, 25), (16, 27)] ?_)) <;> (try (conv => whnf)))
  refine loop_rule (ι := TH) (fun z => [(1, .pt 1 1 0 [] 0 0), (3, i64 H.length), (4, .h 14 1 0 [] 1 0 H.length), (5, bl true), (6, i64 z.m), (7, i64 (z.j : Nat))])
    (fun _ => [(1000000, ⟨0, 0, false, tInsSS P⟩), (1000001, ⟨0, 0, false, tStateS S⟩), (1000002, ⟨0, 0, false, tItemSS W⟩), (1000003, ⟨0, 0, false, tEventSS H⟩), (1, ⟨1, 0, false, bSys P S W H⟩), (14, ⟨1, 0, false, tI9 (List.replicate H.length 0)⟩)])
    (fun z => H.length - z.j) (fun z => z.j ≤ H.length ∧ z.m = (allEv (H.take z.j) : Nat)) ⟨0, 0⟩ fitOk ⟨Nat.zero_le _, rfl⟩ (by simp [C]; omega) ?_
  rintro ⟨j, m⟩ sl ob ⟨hj, hm⟩
  dsimp only at hj hm
  subst hm
  (try dsimp only [cond_true, cond_false])
  (conv => whnf)
  by_cases hjl : j < H.length
  · have e1 := allEv_take hjl
    have e2 := allEv_le H (j + 1)
    have e4 : (List.map rEvent (rd H j)).length = (rd H j).length := by simp
    repeat' ((with_reducible (first | refine st13 ?_|refine fG.split (fun _ => ?_) (fun _ => ?_)|refine fG.bool (fun _ => ?_) (fun _ => ?_)|refine gDn 14 ?_|refine gD 15 [(1, 11), (4, 11), (8, 11), (10, 11)] ?_|refine gD 16 [(16, 18), (16, 20), (16, 22), (16, 25), (16, 27)] ?_)) <;> (try (conv => whnf)))
    refine ⟨⟨⟨j + 1, _⟩, fitOk, ?_, ?_⟩⟩
    · exact ⟨by show j + 1 ≤ _; omega, by show ((allEv (H.take j) : Nat) : Int) + ((List.map rEvent (rd H j)).length : Nat) = (allEv (H.take (j + 1)) : Nat); omega⟩
    · show H.length - (j + 1) < H.length - j; omega
  · rw [List.take_of_length_le (by omega)]
    repeat' ((with_reducible (first | refine st13 ?_|refine fG.split (fun _ => ?_) (fun _ => ?_)|refine fG.bool (fun _ => ?_) (fun _ => ?_)|refine gDn 14 ?_|refine gD 15 [(1, 11), (4, 11), (8, 11), (10, 11)] ?_|refine gD 16 [(16, 18), (16, 20), (16, 22), (16, 25), (16, 27)] ?_)) <;> (try (conv => whnf)))
    refine loop_rule (ι := LO) (fun z => [(1, .pt 1 1 0 [] 0 0), (3, i64 H.length), (4, .h 14 1 0 [] 1 0 H.length), (5, bl z.m), (6, i64 z.x)])
      (fun z => [(1000000, ⟨0, 0, false, tInsSS P⟩), (1000001, ⟨0, 0, false, tStateS S⟩), (1000002, ⟨0, 0, false, tItemSS W⟩), (1000003, ⟨0, 0, false, tEventSS H⟩), (1, ⟨1, 0, false, bSys P S W H⟩), (14, ⟨1, z.g, z.d, tI9 z.f⟩)])
      (fun z => 2 * (allEv H - z.n) + (bif z.m then 1 else 0)) (fun z => Reach H z.f z.n ∧ z.x = (allEv H : Int) - z.n ∧ (z.m = false → Stuck H z.f))
      ⟨List.replicate H.length 0, 0, 0, true, _, _, _⟩ fitOk ⟨.zero, by simp, fun h => by cases h⟩ (by simp [C]; omega) ?_
    clear hj hjl sl ob
    rintro ⟨f0, n0, _, m0, x0, g0, d0⟩ sl ob ⟨hr0, hx0, hs0⟩
    dsimp only at hr0 hx0 hs0
    have hle0 := hr0.le_all
    cases m0 with
    | false =>
      have hrl := row_len hP hr0 (hs0 rfl)
      (try dsimp only [cond_true, cond_false])
      (conv => whnf)
      repeat' ((with_reducible (first | refine st13 ?_|refine fG.split (fun _ => ?_) (fun _ => ?_)|refine fG.bool (fun _ => ?_) (fun _ => ?_)|refine gDn 14 ?_|refine gD 15 [(1, 11), (4, 11), (8, 11), (10, 11)] ?_|refine gD 16 [(16, 18), (16, 20), (16, 22), (16, 25), (16, 27)] ?_)) <;> (try (conv => whnf)))
      simp only [inRow, hrl, hx0]
      congr 3
      rw [decide_eq_decide]
      omega
    | true =>
      clear hs0
      (try dsimp only [cond_true, cond_false])
      (conv => whnf)
      repeat' ((with_reducible (first | refine st13 ?_|refine fG.split (fun _ => ?_) (fun _ => ?_)|refine fG.bool (fun _ => ?_) (fun _ => ?_)|refine gDn 14 ?_|refine gD 15 [(1, 11), (4, 11), (8, 11), (10, 11)] ?_|refine gD 16 [(16, 18), (16, 20), (16, 22), (16, 25), (16, 27)] ?_)) <;> (try (conv => whnf)))
      refine loop_rule (ι := LO) (fun z => [(1, .pt 1 1 0 [] 0 0), (3, i64 H.length), (4, .h 14 1 0 [] 1 0 H.length), (5, bl z.m), (6, i64 z.x), (8, i64 (z.p : Nat))])
        (fun z => [(1000000, ⟨0, 0, false, tInsSS P⟩), (1000001, ⟨0, 0, false, tStateS S⟩), (1000002, ⟨0, 0, false, tItemSS W⟩), (1000003, ⟨0, 0, false, tEventSS H⟩), (1, ⟨1, 0, false, bSys P S W H⟩), (14, ⟨1, z.g, z.d, tI9 z.f⟩)])
        (fun z => H.length - z.p) (fun z => z.p ≤ H.length ∧ Reach H z.f z.n ∧ z.x = (allEv H : Int) - z.n ∧ n0 ≤ z.n ∧ (z.m = true → n0 < z.n) ∧ (z.m = false → ∀ q, q < z.p → canCome H z.f q = false))
        ⟨f0, n0, 0, false, x0, _, _⟩ fitOk ⟨Nat.zero_le _, hr0, hx0, Nat.le_refl _, (fun h => by cases h), fun _ q h => absurd h (Nat.not_lt_zero q)⟩ (by simp [C]; omega) ?_
      clear hr0 hx0 sl ob
      rintro ⟨f, n, p, m, x, g, d⟩ sl ob ⟨hp, hr, hx, hn0, hmt, hmf⟩
      dsimp only at hp hr hx hn0 hmt hmf
      have hf := hr.fok
      have hfl := hf.len
      have hle := hr.le_all
      (try dsimp only [cond_true, cond_false])
      (conv => whnf)
      by_cases hpl : p < H.length
      · have hfp := hf.rng p hpl
        have hhp := hh p hpl
        have e4 : (List.map rEvent (rd H p)).length = (rd H p).length := by simp
        by_cases c1 : rd f p = ((rd H p).length : Int)
        · have hcan : canCome H f p = false := by simp [canCome, c1]
          repeat' ((with_reducible (first | refine st13 ?_|refine fG.split (fun _ => ?_) (fun _ => ?_)|refine fG.bool (fun _ => ?_) (fun _ => ?_)|refine gDn 14 ?_|refine gD 15 [(1, 11), (4, 11), (8, 11), (10, 11)] ?_|refine gD 16 [(16, 18), (16, 20), (16, 22), (16, 25), (16, 27)] ?_)) <;> (try (conv => whnf)))
          refine ⟨⟨⟨f, n, p + 1, m, x, _, _⟩, fitOk, ?_, ?_⟩⟩
          · exact ⟨by show p + 1 ≤ _; omega, hr, hx, hn0, hmt, fun h => no_more (hmf h) hcan⟩
          · show H.length - (p + 1) < H.length - p; omega
        · by_cases c2 : (rd (rd H p) (rd f p).toNat).kind = 3
          · have hq := hP p hpl (rd f p).toNat (by omega) c2
            have hfq := hf.rng (rd (rd H p) (rd f p).toNat).peer.toNat (by omega)
            have hhq := hh (rd (rd H p) (rd f p).toNat).peer.toNat (by omega)
            have e5 : (List.map rEvent (rd H (rd (rd H p) (rd f p).toNat).peer.toNat)).length = (rd H (rd (rd H p) (rd f p).toNat).peer.toNat).length := by simp
            have qa := fun k => ok_spec_Count k ((rd H p).take (rd f p).toNat) 3 (rd (rd H p) (rd f p).toNat).peer (by simp; omega)
            have qb := fun k => ok_spec_Count k ((rd H (rd (rd H p) (rd f p).toNat).peer.toNat).take (rd f (rd (rd H p) (rd f p).toNat).peer.toNat).toNat) 2 p (by simp; omega)
            by_cases c3 : (cnt ((rd H (rd (rd H p) (rd f p).toNat).peer.toNat).take (rd f (rd (rd H p) (rd f p).toNat).peer.toNat).toNat) 2 p : Int) ≤ (cnt ((rd H p).take (rd f p).toNat) 3 (rd (rd H p) (rd f p).toNat).peer : Int)
            · have hcan : canCome H f p = false := by simp [canCome, c2]; intro _; omega
              repeat' ((with_reducible (first | refine sCall.of (qa _) ?_|refine sCall.of (qb _) ?_|refine st13 ?_|refine fG.split (fun _ => ?_) (fun _ => ?_)|refine fG.bool (fun _ => ?_) (fun _ => ?_)|refine gDn 14 ?_|refine gD 15 [(1, 11), (4, 11), (8, 11), (10, 11)] ?_|refine gD 16 [(16, 18), (16, 20), (16, 22), (16, 25), (16, 27)] ?_)) <;> (try (conv => whnf)))
              refine ⟨⟨⟨f, n, p + 1, m, x, _, _⟩, fitOk, ?_, ?_⟩⟩
              · exact ⟨by show p + 1 ≤ _; omega, hr, hx, hn0, hmt, fun h => no_more (hmf h) hcan⟩
              · show H.length - (p + 1) < H.length - p; omega
            · have hcan : canCome H f p = true := by simp [canCome, c1, c2]; omega
              repeat' ((with_reducible (first | refine sCall.of (qa _) ?_|refine sCall.of (qb _) ?_|refine st13 ?_|refine fG.split (fun _ => ?_) (fun _ => ?_)|refine fG.bool (fun _ => ?_) (fun _ => ?_)|refine gDn 14 ?_|refine gD 15 [(1, 11), (4, 11), (8, 11), (10, 11)] ?_|refine gD 16 [(16, 18), (16, 20), (16, 22), (16, 25), (16, 27)] ?_)) <;> (try (conv => whnf)))
              refine ⟨⟨⟨goOn f p, n + 1, p + 1, true, x - 1, _, _⟩, fitOk, ?_, ?_⟩⟩
              · exact ⟨by show p + 1 ≤ _; omega, hr.step hpl hcan, by show x - 1 = (allEv H : Int) - ((n + 1 : Nat) : Int); omega, by show n0 ≤ n + 1; omega, (fun _ => by show n0 < n + 1; omega), fun h => by cases h⟩
              · show H.length - (p + 1) < H.length - p; omega
          · have hcan : canCome H f p = true := by simp [canCome, c1, c2]
            repeat' ((with_reducible (first | refine st13 ?_|refine fG.split (fun _ => ?_) (fun _ => ?_)|refine fG.bool (fun _ => ?_) (fun _ => ?_)|refine gDn 14 ?_|refine gD 15 [(1, 11), (4, 11), (8, 11), (10, 11)] ?_|refine gD 16 [(16, 18), (16, 20), (16, 22), (16, 25), (16, 27)] ?_)) <;> (try (conv => whnf)))
            refine ⟨⟨⟨goOn f p, n + 1, p + 1, true, x - 1, _, _⟩, fitOk, ?_, ?_⟩⟩
            · exact ⟨by show p + 1 ≤ _; omega, hr.step hpl hcan, by show x - 1 = (allEv H : Int) - ((n + 1 : Nat) : Int); omega, by show n0 ≤ n + 1; omega, (fun _ => by show n0 < n + 1; omega), fun h => by cases h⟩
            · show H.length - (p + 1) < H.length - p; omega
      · repeat' ((with_reducible (first | refine st13 ?_|refine fG.split (fun _ => ?_) (fun _ => ?_)|refine fG.bool (fun _ => ?_) (fun _ => ?_)|refine gDn 14 ?_|refine gD 15 [(1, 11), (4, 11), (8, 11), (10, 11)] ?_|refine gD 16 [(16, 18), (16, 20), (16, 22), (16, 25), (16, 27)] ?_)) <;> (try (conv => whnf)))
        refine ⟨⟨⟨f, n, 0, m, x, _, _⟩, fitOk, ?_, ?_⟩⟩
        · exact ⟨hr, hx, fun h q hq => hmf h q (by omega)⟩
        · show 2 * (allEv H - n) + (bif m then 1 else 0) < 2 * (allEv H - n0) + (bif true then 1 else 0)
          cases m with
          | true => have := hmt rfl; simp only [cond_true]; omega
          | false => simp only [cond_true, cond_false]; omega

end Go.Proofs.YtipfcgbhaalcdaaGreat.Abs
namespace Go.Proofs.YtipfcgbhaalcdaaGreat.Abs
open Go Go.Proofs
set_option linter.unusedVariables false
set_option linter.unusedSimpArgs false
attribute [local irreducible] callE
theorem rd_at {α : Type} [Inhabited α] {l : List α} {i : Nat} (h : i < l.length) : rd l i = l[i] := by simp [rd, h]
structure SP where
  j : Nat
  b1 : Nat
  b2 : Nat
set_option maxHeartbeats 8000000 in
theorem ok_spec_SysOk (k : Nat) (P : List (List Ins)) (S : List State) (W : List (List Item)) (H : List (List Event)) (hb : SysB 10000000000 P S W H) :
    callE PR C (k + 7) 76 [aSys 0 P S W H] [tInsSS P, tStateS S, tItemSS W, tEventSS H] = some ⟨bl (sysOk P S W H), [], [none, none, none, none]⟩ := by
  have b1 := hb.p
  have b2 := hb.s
  have b3 := hb.w
  have b4 := hb.h
  have q0 := fun k => ok_spec_l1In k (P.length : Int) 1 4
  by_cases d1 : 1 ≤ (P.length : Int) ∧ (P.length : Int) ≤ 4
  · rw [decide_eq_true d1] at q0
    have hnn : P.length * P.length ≤ 4 * 4 := Nat.mul_le_mul (by omega) (by omega)
    have w1 : IntKind.i64.wrap ((P.length : Int) * (P.length : Int)) = ((P.length * P.length : Nat) : Int) := by
      rw [show (P.length : Int) * (P.length : Int) = ((P.length * P.length : Nat) : Int) by simp]; exact wrap_i64 _ (by omega) (by omega)
    by_cases d2 : S.length = P.length
    · by_cases d3 : H.length = P.length
      · by_cases d4 : W.length = P.length * P.length
        · have hI : SysIs P S W H := ⟨by omega, d2, d3, d4⟩
          have eS : sysOk P S W H = (allBelow P.length (procOk' P S H) && ((allBelow P.length fun a => allBelow P.length fun b => pairOk P.length W H a b) && inRow H)) := by
            rw [← sysOk_spec, hI.sizes, Bool.true_and]
          (refine fnI [ResultVar.tmp 2] Tryz.func76 ?_; conv => whnf)
          repeat' ((with_reducible (first | refine sCall.of (q0 _) ?_|refine sW.eq (w1) ?_|refine st13 ?_|refine fG.split (fun _ => ?_) (fun _ => ?_)|refine fG.bool (fun _ => ?_) (fun _ => ?_)|refine gD 9 [(1, 14), (4, 14), (6, 14), (9, 14), (10, 14)] ?_|refine gDn 10 ?_|refine gDn 30 ?_)) <;> (try (conv => whnf)))
          refine loop_rule (ι := Nat) (fun j => [(1, .pt 1 1 0 [] 0 0), (3, i64 P.length), (4, i64 (j : Nat))])
            (fun _ => [(1000000, ⟨0, 0, false, tInsSS P⟩), (1000001, ⟨0, 0, false, tStateS S⟩), (1000002, ⟨0, 0, false, tItemSS W⟩), (1000003, ⟨0, 0, false, tEventSS H⟩), (1, ⟨1, 0, false, bSys P S W H⟩)])
            (fun j => P.length - j) (fun j => j ≤ P.length ∧ ∀ q, q < j → procOk' P S H q = true) 0 fitOk ⟨Nat.zero_le _, fun q h => absurd h (Nat.not_lt_zero q)⟩ (by simp [C]; omega) ?_
          rintro p sl ob ⟨hj, hpr⟩
          (try dsimp only [cond_true, cond_false])
          (conv => whnf)
          by_cases hpl : p < P.length
          · have c1 := hb.pp p hpl
            have c2 := hb.hh p (by omega)
            have c3 := hb.ss p (by omega)
            have q1 := fun k => ok_spec_ProgOk k (rd P p) P.length (by omega) (by omega) (by omega)
            have q2 := fun k => ok_spec_Replay' k (rd P p) (rd H p) (by omega) (by omega)
            have hst := stOf_len (rd P p) (rd H p)
            cases e1 : progOk (rd P p) P.length with
            | false =>
              simp only [e1] at q1
              rw [eS, allBelow_no (f := procOk' P S H) hpl (by simp [procOk', e1]), Bool.false_and]
              repeat' ((with_reducible (first | refine sCall.of (q1 _) ?_|refine st13 ?_|refine fG.split (fun _ => ?_) (fun _ => ?_)|refine fG.bool (fun _ => ?_) (fun _ => ?_)|refine gD 9 [(1, 14), (4, 14), (6, 14), (9, 14), (10, 14)] ?_|refine gDn 10 ?_|refine gDn 30 ?_)) <;> (try (conv => whnf)))
            | true =>
              simp only [e1] at q1
              cases e2 : (replayAll (rd P p) (rd H p)).isSome with
              | false =>
                simp only [e2] at q2
                rw [eS, allBelow_no (f := procOk' P S H) hpl (by simp [procOk', stoodAs, e2]), Bool.false_and]
                repeat' ((with_reducible (first | refine sCall.of (q1 _) ?_|refine sCall.of (q2 _) ?_|refine st13 ?_|refine fG.split (fun _ => ?_) (fun _ => ?_)|refine fG.bool (fun _ => ?_) (fun _ => ?_)|refine gD 9 [(1, 14), (4, 14), (6, 14), (9, 14), (10, 14)] ?_|refine gDn 10 ?_|refine gDn 30 ?_)) <;> (try (conv => whnf)))
              | true =>
                simp only [e2] at q2
                generalize hstd : stOf (replayAll (rd P p) (rd H p)) = st at q2 hst
                have q3 := fun k => ok_spec_l4SameState k st.at_ st.regs st.out st.code (rd S p).at_ (rd S p).regs (rd S p).out (rd S p).code (by omega) (by omega) (by omega) (by omega)
                rw [show sameS st.at_ st.regs st.out st.code (rd S p).at_ (rd S p).regs (rd S p).out (rd S p).code = decide (st = rd S p) from rfl] at q3
                by_cases e3 : st = rd S p
                · rw [decide_eq_true e3] at q3
                  have hsd : stoodAs (rd P p) (rd H p) (rd S p) = true := by simp [stoodAs, e2, hstd, e3]
                  repeat' ((with_reducible (first | refine sCall.of (q1 _) ?_|refine sCall.of (q2 _) ?_|refine sCall.of (q3 _) ?_|refine st13 ?_|refine fG.split (fun _ => ?_) (fun _ => ?_)|refine fG.bool (fun _ => ?_) (fun _ => ?_)|refine gD 9 [(1, 14), (4, 14), (6, 14), (9, 14), (10, 14)] ?_|refine gDn 10 ?_|refine gDn 30 ?_)) <;> (try (conv => whnf)))
                  refine loop_rule (ι := Nat) (fun j => [(1, .pt 1 1 0 [] 0 0), (3, i64 P.length), (4, i64 (p : Nat)), (7, i64 (j : Nat))])
                    (fun _ => [(1000000, ⟨0, 0, false, tInsSS P⟩), (1000001, ⟨0, 0, false, tStateS S⟩), (1000002, ⟨0, 0, false, tItemSS W⟩), (1000003, ⟨0, 0, false, tEventSS H⟩), (1, ⟨1, 0, false, bSys P S W H⟩)])
                    (fun j => (rd H p).length - j) (fun j => j ≤ (rd H p).length ∧ ∀ i, i < j → (rd (rd H p) i).peer < (P.length : Int)) 0 fitOk ⟨Nat.zero_le _, fun q h => absurd h (Nat.not_lt_zero q)⟩ (by simp [C]; omega) ?_
                  clear sl ob
                  rintro i sl ob ⟨hi, hpe⟩
                  have e4 : (List.map rEvent (rd H p)).length = (rd H p).length := by simp
                  (try dsimp only [cond_true, cond_false])
                  (conv => whnf)
                  by_cases hil : i < (rd H p).length
                  · by_cases e : (rd (rd H p) i).peer < (P.length : Int)
                    · repeat' ((with_reducible (first | refine st13 ?_|refine fG.split (fun _ => ?_) (fun _ => ?_)|refine fG.bool (fun _ => ?_) (fun _ => ?_)|refine gD 9 [(1, 14), (4, 14), (6, 14), (9, 14), (10, 14)] ?_|refine gDn 10 ?_|refine gDn 30 ?_)) <;> (try (conv => whnf)))
                      refine ⟨⟨i + 1, fitOk, ?_, ?_⟩⟩
                      · exact ⟨by show i + 1 ≤ _; omega, fun q hq => by rcases Nat.lt_succ_iff_lt_or_eq.1 hq with h | h; exact hpe q h; rw [h]; exact e⟩
                      · show (rd H p).length - (i + 1) < (rd H p).length - i; omega
                    · have ef : ((rd H p).all fun e => decide (e.peer < (P.length : Int))) = false := by
                        rw [List.all_eq_false]
                        exact ⟨_, rd_mem hil, by simpa using e⟩
                      rw [eS, allBelow_no (f := procOk' P S H) hpl (by simp only [procOk', ef, Bool.and_false]), Bool.false_and]
                      repeat' ((with_reducible (first | refine st13 ?_|refine fG.split (fun _ => ?_) (fun _ => ?_)|refine fG.bool (fun _ => ?_) (fun _ => ?_)|refine gD 9 [(1, 14), (4, 14), (6, 14), (9, 14), (10, 14)] ?_|refine gDn 10 ?_|refine gDn 30 ?_)) <;> (try (conv => whnf)))
                  · have ef : ((rd H p).all fun e => decide (e.peer < (P.length : Int))) = true := by
                      rw [List.all_eq_true]
                      intro x hx
                      obtain ⟨i, hi, rfl⟩ := List.mem_iff_getElem.1 hx
                      have h5 := hpe i (by omega)
                      rw [rd_at hi] at h5
                      exact decide_eq_true h5
                    repeat' ((with_reducible (first | refine st13 ?_|refine fG.split (fun _ => ?_) (fun _ => ?_)|refine fG.bool (fun _ => ?_) (fun _ => ?_)|refine gD 9 [(1, 14), (4, 14), (6, 14), (9, 14), (10, 14)] ?_|refine gDn 10 ?_|refine gDn 30 ?_)) <;> (try (conv => whnf)))
                    refine ⟨⟨p + 1, fitOk, ?_, ?_⟩⟩
                    · exact ⟨by show p + 1 ≤ _; omega, fun q hq => by rcases Nat.lt_succ_iff_lt_or_eq.1 hq with h | h; exact hpr q h; rw [h]; simp only [procOk', e1, hsd, ef, Bool.and_self]⟩
                    · show P.length - (p + 1) < P.length - p; omega
                · rw [decide_eq_false e3] at q3
                  rw [eS, allBelow_no (f := procOk' P S H) hpl (by simp [procOk', stoodAs, hstd, e3]), Bool.false_and]
                  repeat' ((with_reducible (first | refine sCall.of (q1 _) ?_|refine sCall.of (q2 _) ?_|refine sCall.of (q3 _) ?_|refine st13 ?_|refine fG.split (fun _ => ?_) (fun _ => ?_)|refine fG.bool (fun _ => ?_) (fun _ => ?_)|refine gD 9 [(1, 14), (4, 14), (6, 14), (9, 14), (10, 14)] ?_|refine gDn 10 ?_|refine gDn 30 ?_)) <;> (try (conv => whnf)))
          · have ePr := allBelow_yes (f := procOk' P S H) (n := P.length) fun q hq => hpr q (by omega)
            have hpr' : ∀ p, p < P.length → procOk P S H p = true := fun q hq => by rw [← proc_same (by omega)]; exact hpr q (by omega)
            obtain ⟨hPI, h200⟩ := peersIn_of hI.n d3 hpr'
            rw [ePr, Bool.true_and] at eS
            repeat' ((with_reducible (first | refine st13 ?_|refine fG.split (fun _ => ?_) (fun _ => ?_)|refine fG.bool (fun _ => ?_) (fun _ => ?_)|refine gD 9 [(1, 14), (4, 14), (6, 14), (9, 14), (10, 14)] ?_|refine gDn 10 ?_|refine gDn 30 ?_)) <;> (try (conv => whnf)))
            refine loop_rule (ι := Nat) (fun j => [(1, .pt 1 1 0 [] 0 0), (3, i64 P.length), (8, i64 (j : Nat))])
              (fun _ => [(1000000, ⟨0, 0, false, tInsSS P⟩), (1000001, ⟨0, 0, false, tStateS S⟩), (1000002, ⟨0, 0, false, tItemSS W⟩), (1000003, ⟨0, 0, false, tEventSS H⟩), (1, ⟨1, 0, false, bSys P S W H⟩)])
              (fun j => P.length - j) (fun j => j ≤ P.length ∧ ∀ a, a < j → allBelow P.length (fun b => pairOk P.length W H a b) = true) 0 fitOk ⟨Nat.zero_le _, fun q h => absurd h (Nat.not_lt_zero q)⟩ (by simp [C]; omega) ?_
            clear sl ob hpl hpr hj
            rintro a sl ob ⟨ha, hfa⟩
            (try dsimp only [cond_true, cond_false])
            (conv => whnf)
            by_cases hal : a < P.length
            · repeat' ((with_reducible (first | refine st13 ?_|refine fG.split (fun _ => ?_) (fun _ => ?_)|refine fG.bool (fun _ => ?_) (fun _ => ?_)|refine gD 9 [(1, 14), (4, 14), (6, 14), (9, 14), (10, 14)] ?_|refine gDn 10 ?_|refine gDn 30 ?_)) <;> (try (conv => whnf)))
              refine loop_rule (ι := Nat) (fun j => [(1, .pt 1 1 0 [] 0 0), (3, i64 P.length), (8, i64 (a : Nat)), (9, i64 (j : Nat))])
                (fun _ => [(1000000, ⟨0, 0, false, tInsSS P⟩), (1000001, ⟨0, 0, false, tStateS S⟩), (1000002, ⟨0, 0, false, tItemSS W⟩), (1000003, ⟨0, 0, false, tEventSS H⟩), (1, ⟨1, 0, false, bSys P S W H⟩)])
                (fun j => P.length - j) (fun j => j ≤ P.length ∧ ∀ b, b < j → pairOk P.length W H a b = true) 0 fitOk ⟨Nat.zero_le _, fun q h => absurd h (Nat.not_lt_zero q)⟩ (by simp [C]; omega) ?_
              clear sl ob
              rintro b sl ob ⟨hb', hfb⟩
              (try dsimp only [cond_true, cond_false])
              (conv => whnf)
              by_cases hbl : b < P.length
              · have hpl := place_lt hal hbl
                rw [← d4] at hpl
                have c1 := h200 a (by omega)
                have c2 := h200 b (by omega)
                have c3 := hb.ww _ hpl
                have hle : a * P.length ≤ 4 * 4 := Nat.mul_le_mul (by omega) (by omega)
                have w2 : IntKind.i64.wrap ((a : Int) * (P.length : Int)) = ((a * P.length : Nat) : Int) := by
                  rw [show (a : Int) * (P.length : Int) = ((a * P.length : Nat) : Int) by simp]; exact wrap_i64 _ (by omega) (by omega)
                have w3 : IntKind.i64.wrap (((a * P.length : Nat) : Int) + (b : Int)) = ((a * P.length + b : Nat) : Int) := by rw [wrap_i64 _ (by omega) (by omega)]; simp
                have q1 := fun k => ok_spec_Values k (rd H b) 3 a (by omega)
                have q2 := fun k => ok_spec_Values k (rd H a) 2 b (by omega)
                have l1 := vals_le (rd H b) 3 a
                have l2 := vals_le (rd H a) 2 b
                have q3 := fun k => ok_spec_l4Way k (rd W (a * P.length + b)) (vals (rd H a) 2 b) (vals (rd H b) 3 a).length (by omega) (by omega) (by omega)
                cases e : l4way (rd W (a * P.length + b)) (vals (rd H a) 2 b) (vals (rd H b) 3 a).length with
                | false =>
                  simp only [e] at q3
                  rw [eS, allBelow_no (f := fun a => allBelow P.length fun b => pairOk P.length W H a b) hal (allBelow_no hbl (by simp only [pairOk, e, Bool.false_and])), Bool.false_and]
                  repeat' ((with_reducible (first | refine sCall.of (q1 _) ?_|refine sCall.of (q2 _) ?_|refine sW.eq (w2) ?_|refine sW.eq (w3) ?_|refine sCall.of (q3 _) ?_|refine st13 ?_|refine fG.split (fun _ => ?_) (fun _ => ?_)|refine fG.bool (fun _ => ?_) (fun _ => ?_)|refine gD 9 [(1, 14), (4, 14), (6, 14), (9, 14), (10, 14)] ?_|refine gDn 10 ?_|refine gDn 30 ?_)) <;> (try (conv => whnf)))
                | true =>
                  simp only [e] at q3
                  have hlen : (vals (rd H b) 3 a).length ≤ (vals (rd H a) 2 b).length := by
                    simp only [l4way, Bool.and_eq_true, decide_eq_true_eq] at e
                    omega
                  have epair : pairOk P.length W H a b = decide ((vals (rd H a) 2 b).take (vals (rd H b) 3 a).length = vals (rd H b) 3 a) := by rw [pairOk, e, Bool.true_and]
                  repeat' ((with_reducible (first | refine sCall.of (q1 _) ?_|refine sCall.of (q2 _) ?_|refine sW.eq (w2) ?_|refine sW.eq (w3) ?_|refine sCall.of (q3 _) ?_|refine st13 ?_|refine fG.split (fun _ => ?_) (fun _ => ?_)|refine fG.bool (fun _ => ?_) (fun _ => ?_)|refine gD 9 [(1, 14), (4, 14), (6, 14), (9, 14), (10, 14)] ?_|refine gDn 10 ?_|refine gDn 30 ?_)) <;> (try (conv => whnf)))
                  clear q1 q2 q3 w2 w3 e
                  generalize hT : vals (rd H b) 3 a = took at l1 hlen epair ⊢
                  generalize hS : vals (rd H a) 2 b = sent at l2 hlen epair ⊢
                  refine loop_rule (ι := SP) (fun z => [(1, .pt 1 1 0 [] 0 0), (3, i64 P.length), (8, i64 (a : Nat)), (9, i64 (b : Nat)), (10, .h 10118 z.b1 0 [] 1 0 took.length), (11, .h 10125 z.b2 0 [] 1 0 sent.length), (12, i64 (z.j : Nat))])
                    (fun z => [(1000000, ⟨0, 0, false, tInsSS P⟩), (1000001, ⟨0, 0, false, tStateS S⟩), (1000002, ⟨0, 0, false, tItemSS W⟩), (1000003, ⟨0, 0, false, tEventSS H⟩), (1, ⟨1, 0, false, bSys P S W H⟩), (10118, ⟨z.b1, 0, false, tI9 took⟩), (10125, ⟨z.b2, 0, false, tI9 sent⟩)])
                    (fun z => took.length - z.j) (fun z => z.j ≤ took.length ∧ ∀ i, i < z.j → rd took i = rd sent i) ⟨0, _, _⟩ fitOk ⟨Nat.zero_le _, fun q h => absurd h (Nat.not_lt_zero q)⟩ (by simp [C]; omega) ?_
                  clear sl ob
                  rintro ⟨i, bb1, bb2⟩ sl ob ⟨hi, hok⟩
                  dsimp only at hi hok
                  (try dsimp only [cond_true, cond_false])
                  (conv => whnf)
                  by_cases hil : i < took.length
                  · by_cases e : rd took i = rd sent i
                    · repeat' ((with_reducible (first | refine st13 ?_|refine fG.split (fun _ => ?_) (fun _ => ?_)|refine fG.bool (fun _ => ?_) (fun _ => ?_)|refine gD 9 [(1, 14), (4, 14), (6, 14), (9, 14), (10, 14)] ?_|refine gDn 10 ?_|refine gDn 30 ?_)) <;> (try (conv => whnf)))
                      refine ⟨⟨⟨i + 1, _, _⟩, fitOk, ?_, ?_⟩⟩
                      · exact ⟨by show i + 1 ≤ _; omega, fun q hq => by rcases Nat.lt_succ_iff_lt_or_eq.1 hq with h | h; exact hok q h; rw [h]; exact e⟩
                      · show took.length - (i + 1) < took.length - i; omega
                    · rw [eS, allBelow_no (f := fun a => allBelow P.length fun b => pairOk P.length W H a b) hal (allBelow_no hbl (by
                        rw [epair, decide_eq_false]
                        intro h
                        apply e
                        conv => lhs; rw [← h]
                        simp [rd, hil])), Bool.false_and]
                      repeat' ((with_reducible (first | refine st13 ?_|refine fG.split (fun _ => ?_) (fun _ => ?_)|refine fG.bool (fun _ => ?_) (fun _ => ?_)|refine gD 9 [(1, 14), (4, 14), (6, 14), (9, 14), (10, 14)] ?_|refine gDn 10 ?_|refine gDn 30 ?_)) <;> (try (conv => whnf)))
                  · repeat' ((with_reducible (first | refine st13 ?_|refine fG.split (fun _ => ?_) (fun _ => ?_)|refine fG.bool (fun _ => ?_) (fun _ => ?_)|refine gD 9 [(1, 14), (4, 14), (6, 14), (9, 14), (10, 14)] ?_|refine gDn 10 ?_|refine gDn 30 ?_)) <;> (try (conv => whnf)))
                    refine ⟨⟨b + 1, fitOk, ?_, ?_⟩⟩
                    · exact ⟨by show b + 1 ≤ _; omega, fun q hq => by
                        rcases Nat.lt_succ_iff_lt_or_eq.1 hq with h | h
                        · exact hfb q h
                        · rw [h, epair, decide_eq_true]
                          refine rd_ext (by simp; omega) fun q hq => ?_
                          have hq2 : q < took.length := by simp at hq; omega
                          rw [hok q (by omega)]
                          simp [rd, hq2]⟩
                    · show P.length - (b + 1) < P.length - b; omega
              · repeat' ((with_reducible (first | refine st13 ?_|refine fG.split (fun _ => ?_) (fun _ => ?_)|refine fG.bool (fun _ => ?_) (fun _ => ?_)|refine gD 9 [(1, 14), (4, 14), (6, 14), (9, 14), (10, 14)] ?_|refine gDn 10 ?_|refine gDn 30 ?_)) <;> (try (conv => whnf)))
                refine ⟨⟨a + 1, fitOk, ?_, ?_⟩⟩
                · exact ⟨by show a + 1 ≤ _; omega, fun q hq => by rcases Nat.lt_succ_iff_lt_or_eq.1 hq with h | h; exact hfa q h; rw [h]; exact allBelow_yes fun b hb => hfb b (by omega)⟩
                · show P.length - (a + 1) < P.length - a; omega
            · have eF : (allBelow P.length fun a => allBelow P.length fun b => pairOk P.length W H a b) = true := allBelow_yes fun a h => hfa a (by omega)
              have q3 := fun k => ok_spec_l4Order k P S W H (by omega) (fun j hj => by have := h200 j hj; omega) hPI
              rw [eS, eF, Bool.true_and]
              repeat' ((with_reducible (first | refine sCall.of (q3 _) ?_|refine st13 ?_|refine fG.split (fun _ => ?_) (fun _ => ?_)|refine fG.bool (fun _ => ?_) (fun _ => ?_)|refine gD 9 [(1, 14), (4, 14), (6, 14), (9, 14), (10, 14)] ?_|refine gDn 10 ?_|refine gDn 30 ?_)) <;> (try (conv => whnf)))
        · rw [sysOk_sizes (by simp [sizesOk, d4])]
          (refine fnI [ResultVar.tmp 2] Tryz.func76 ?_; conv => whnf)
          repeat' ((with_reducible (first | refine sCall.of (q0 _) ?_|refine sW.eq (w1) ?_|refine st13 ?_|refine fG.split (fun _ => ?_) (fun _ => ?_)|refine fG.bool (fun _ => ?_) (fun _ => ?_)|refine gD 9 [(1, 14), (4, 14), (6, 14), (9, 14), (10, 14)] ?_|refine gDn 10 ?_|refine gDn 30 ?_)) <;> (try (conv => whnf)))
          all_goals first
            | rfl
            | (exfalso; omega)
      · rw [sysOk_sizes (by simp [sizesOk, d3])]
        (refine fnI [ResultVar.tmp 2] Tryz.func76 ?_; conv => whnf)
        repeat' ((with_reducible (first | refine sCall.of (q0 _) ?_|refine sW.eq (w1) ?_|refine st13 ?_|refine fG.split (fun _ => ?_) (fun _ => ?_)|refine fG.bool (fun _ => ?_) (fun _ => ?_)|refine gD 9 [(1, 14), (4, 14), (6, 14), (9, 14), (10, 14)] ?_|refine gDn 10 ?_|refine gDn 30 ?_)) <;> (try (conv => whnf)))
        all_goals first
          | rfl
          | (exfalso; omega)
    · rw [sysOk_sizes (by simp [sizesOk, d2])]
      (refine fnI [ResultVar.tmp 2] Tryz.func76 ?_; conv => whnf)
      repeat' ((with_reducible (first | refine sCall.of (q0 _) ?_|refine sW.eq (w1) ?_|refine st13 ?_|refine fG.split (fun _ => ?_) (fun _ => ?_)|refine fG.bool (fun _ => ?_) (fun _ => ?_)|refine gD 9 [(1, 14), (4, 14), (6, 14), (9, 14), (10, 14)] ?_|refine gDn 10 ?_|refine gDn 30 ?_)) <;> (try (conv => whnf)))
      all_goals first
        | rfl
        | (exfalso; omega)
  · rw [decide_eq_false d1] at q0
    rw [sysOk_sizes (by simp [sizesOk, inB, d1])]
    (refine fnI [ResultVar.tmp 2] Tryz.func76 ?_; conv => whnf)
    repeat' ((with_reducible (first | refine sCall.of (q0 _) ?_|refine st13 ?_|refine fG.split (fun _ => ?_) (fun _ => ?_)|refine fG.bool (fun _ => ?_) (fun _ => ?_)|refine gD 9 [(1, 14), (4, 14), (6, 14), (9, 14), (10, 14)] ?_|refine gDn 10 ?_|refine gDn 30 ?_)) <;> (try (conv => whnf)))

end Go.Proofs.YtipfcgbhaalcdaaGreat.Abs
namespace Go.Proofs.YtipfcgbhaalcdaaGreat.Abs
open Go Go.Proofs
set_option linter.unusedVariables false
set_option linter.unusedSimpArgs false
attribute [local irreducible] callE
def nthGo (x y : Int) : List Event → Nat → Int → Int
  | [], _, _ => -1
  | e :: es, i, n => if isEv x y e = true then (if n = 0 then (i : Int) else nthGo x y es (i + 1) (n - 1)) else nthGo x y es (i + 1) n
def nth (es : List Event) (x y n : Int) : Int := nthGo x y es 0 n
theorem cnt_cons (e : Event) (es : List Event) (x y : Int) : cnt (e :: es) x y = (if isEv x y e = true then 1 else 0) + cnt es x y := by
  simp only [cnt, vals, List.filter_cons]
  split <;> simp <;> omega
theorem nthGo_lt (x y : Int) : ∀ (es : List Event) (i c m : Nat), ((i : Int) ≤ nthGo x y es i c ∧ nthGo x y es i c < (i + m : Nat)) ↔ c < cnt (es.take m) x y
  | [], i, c, m => by simp [nthGo, cnt, vals]; omega
  | e :: es, i, c, 0 => by
    simp only [List.take_zero, cnt, vals, List.filter_nil, List.map_nil, List.length_nil]
    constructor
    · rintro ⟨h1, h2⟩; omega
    · intro h; omega
  | e :: es, i, c, m + 1 => by
    rw [List.take_succ_cons, cnt_cons]
    unfold nthGo
    by_cases he : isEv x y e = true
    · rw [if_pos he, if_pos he]
      cases c with
      | zero => simp; omega
      | succ c =>
        have h := nthGo_lt x y es (i + 1) c m
        rw [if_neg (by omega), show (((c + 1 : Nat) : Int) - 1) = (c : Int) by omega]
        have hge : nthGo x y es (i + 1) c = -1 ∨ ((i + 1 : Nat) : Int) ≤ nthGo x y es (i + 1) c := nthGo_ge x y es (i + 1) c
        constructor
        · rintro ⟨h1, h2⟩
          have := h.1 ⟨by omega, by omega⟩
          omega
        · intro h1
          have := h.2 (by omega)
          omega
    · rw [if_neg he, if_neg he]
      have h := nthGo_lt x y es (i + 1) c m
      have hge : nthGo x y es (i + 1) c = -1 ∨ ((i + 1 : Nat) : Int) ≤ nthGo x y es (i + 1) c := nthGo_ge x y es (i + 1) c
      constructor
      · rintro ⟨h1, h2⟩
        have := h.1 ⟨by omega, by omega⟩
        omega
      · intro h1
        have := h.2 (by omega)
        omega
where
  nthGo_ge (x y : Int) : ∀ (es : List Event) (i : Nat) (c : Int), nthGo x y es i c = -1 ∨ (i : Int) ≤ nthGo x y es i c
    | [], i, c => .inl rfl
    | e :: es, i, c => by
      unfold nthGo
      split
      · split
        · right; omega
        · rcases nthGo_ge x y es (i + 1) (c - 1) with h | h
          · exact .inl h
          · right; omega
      · rcases nthGo_ge x y es (i + 1) c with h | h
        · exact .inl h
        · right; omega
theorem nth_lt (es : List Event) (x y : Int) (c m : Nat) : (0 ≤ nth es x y c ∧ nth es x y c < (m : Int)) ↔ c < cnt (es.take m) x y := by
  have := nthGo_lt x y es 0 c m
  simpa [nth] using this
def senderOf (H : List (List Event)) (p i : Nat) : Int := if (rd (rd H p) i).kind = 3 then nth (rd H (rd (rd H p) i).peer.toNat) 2 p (cnt ((rd H p).take i) 3 (rd (rd H p) i).peer) else -1
def Sends (H : List (List Event)) : Prop := ∀ p q, p < H.length → q < H.length → cnt (rd H p) 3 q ≤ cnt (rd H q) 2 p
structure NT where
  j : Nat
  m : Int
theorem sysOk_facts {P : List (List Ins)} {S : List State} {W : List (List Item)} {H : List (List Event)} (h : sysOk P S W H = true) : SysIs P S W H ∧ PeersIn H ∧ Sends H ∧ ∀ p, p < H.length → (rd H p).length ≤ 200 := by
  simp only [sysOk, sizesOk, inB, Bool.and_eq_true, decide_eq_true_eq, allBelow_eq] at h
  obtain ⟨⟨a1, a2, a3, a4⟩, _, b2, b3, _⟩ := h
  have hI : SysIs P S W H := ⟨by omega, a2, a3, a4⟩
  obtain ⟨h1, h2⟩ := peersIn_of hI.n a3 b2
  refine ⟨hI, h1, fun p q hp hq => ?_, h2⟩
  have h3 := b3 q (by omega) p (by omega)
  simp only [fits, decide_eq_true_eq] at h3
  have h4 := congrArg List.length h3
  simp only [List.length_append] at h4
  simp only [cnt]
  omega
abbrev tWho (l : List Who) : Cont := .tree 0 (.sl 2 (l.map rWho))

theorem set_rWho (l : List Who) (n : Nat) (a b : Int) : (l.map rWho).set n [.v (.int .i64 a), .v (.int .i64 b)] = (l.set n ⟨a, b⟩).map rWho := by simp [rWho, List.map_set]
theorem rep_rWho (n : Nat) (a b : Int) : List.replicate n [T.v (.int .i64 a), .v (.int .i64 b)] = (List.replicate n (⟨a, b⟩ : Who)).map rWho := by simp [rWho]
def rowIs (P : List (List Ins)) (S : List State) (W : List (List Item)) (H : List (List Event)) : List Who := if sysOk P S W H = true then rowOf H else []
end Go.Proofs.YtipfcgbhaalcdaaGreat.Abs
namespace Go.Proofs.YtipfcgbhaalcdaaGreat.Abs
open Go Go.Proofs
set_option linter.unusedVariables false
set_option linter.unusedSimpArgs false
attribute [local irreducible] callE
theorem sW.eq {k : IntKind} {n r : Int} {F : Int → Prop} (e : k.wrap n = r) (h : F r) : sW k n F := ⟨by rw [e]; exact h⟩

theorem cnt_take_le (es : List Event) (x y : Int) (m : Nat) : cnt (es.take m) x y ≤ cnt es x y := by
  have h := cnt_take es x y (a := m) (b := max m es.length) (Nat.le_max_left _ _)
  rwa [List.take_of_length_le (l := es) (Nat.le_max_right _ _)] at h
theorem nth_nonneg (es : List Event) (x y : Int) (c : Nat) : 0 ≤ nth es x y c ↔ c < cnt es x y := by
  constructor
  · intro h
    have h1 := (nth_lt es x y c ((nth es x y c).toNat + 1)).1 ⟨h, by omega⟩
    have := cnt_take_le es x y ((nth es x y c).toNat + 1)
    omega
  · intro h
    exact ((nth_lt es x y c es.length).2 (by rw [List.take_length]; exact h)).1
theorem nth_len {es : List Event} {x y : Int} {c : Nat} (h : 0 ≤ nth es x y c) : nth es x y c < (es.length : Int) :=
  ((nth_lt es x y c es.length).2 (by rw [List.take_length]; exact (nth_nonneg es x y c).1 h)).2
def sentC (H : List (List Event)) (c : List Int) (a b : Nat) : Nat := cnt ((rd H a).take (rd c a).toNat) 2 b
def tookC (H : List (List Event)) (c : List Int) (a b : Nat) : Nat := cnt ((rd H b).take (rd c b).toNat) 3 a
def lacks (H : List (List Event)) (c : List Int) (a b : Nat) : Int := nth ((rd H b).take (rd c b).toNat) 3 a (sentC H c a b)
def wholeB (H : List (List Event)) (c : List Int) : Bool := allBelow H.length fun a => allBelow H.length fun b => decide (lacks H c a b < 0)
theorem lacks_iff (H : List (List Event)) (c : List Int) (a b : Nat) : 0 ≤ lacks H c a b ↔ sentC H c a b < tookC H c a b := nth_nonneg _ _ _ _
theorem wholeB_eq {H : List (List Event)} {c : List Int} : wholeB H c = true ↔ ∀ a b, a < H.length → b < H.length → tookC H c a b ≤ sentC H c a b := by
  simp only [wholeB, allBelow_eq, decide_eq_true_eq]
  constructor
  · intro h a b ha hb
    have h1 := h a ha b hb
    have := lacks_iff H c a b
    omega
  · intro h a ha b hb
    have h1 := h a b ha hb
    have := lacks_iff H c a b
    omega
theorem rd_set {d : List Int} {b q : Nat} (x : Int) (hb : b < d.length) : rd (d.set b x) q = if q = b then x else rd d q := by
  simp only [rd, List.getD_eq_getElem?_getD, List.getElem?_set]
  by_cases h : b = q
  · subst h; simp [hb]
  · rw [if_neg h, if_neg (fun e => h e.symm)]
theorem sum_put : ∀ (f : List Int) (p : Nat) (x : Int), p < f.length → (f.set p x).sum = f.sum - rd f p + x
  | a :: f, 0, x, _ => by simp [rd]; omega
  | a :: f, p + 1, x, h => by
    have := sum_put f p x (by simpa using h)
    simp only [List.set_cons_succ, List.sum_cons]
    rw [show rd (a :: f) (p + 1) = rd f p from rfl, this]
    omega
theorem lacks_lt {H : List (List Event)} {d : List Int} {a b : Nat} (hf : FOk H d) (hb : b < H.length) (hi : 0 ≤ lacks H d a b) : lacks H d a b < rd d b := by
  have h1 := nth_len hi
  have h2 := hf.rng b hb
  simp only [List.length_take] at h1
  unfold lacks
  omega
inductive Closes (H : List (List Event)) (c : List Int) : List Int → Prop where
  | refl : Closes H c c
  | step {d : List Int} {a b : Nat} (h : Closes H c d) (ha : a < H.length) (hb : b < H.length) (hi : 0 ≤ lacks H d a b) : Closes H c (d.set b (lacks H d a b))
theorem Closes.fok {H : List (List Event)} {c d : List Int} (h : Closes H c d) (hc : FOk H c) : FOk H d := by
  induction h with
  | refl => exact hc
  | @step d a b h ha hb hi ih =>
    have h1 := lacks_lt ih hb hi
    refine ⟨by simp [ih.len], fun q hq => ?_⟩
    rw [rd_set _ (by rw [ih.len]; exact hb)]
    have h2 := ih.rng q hq
    split
    · rename_i e; subst e; omega
    · exact h2
theorem Closes.under {H : List (List Event)} {c d : List Int} (h : Closes H c d) (hc : FOk H c) : ∀ q, q < H.length → rd d q ≤ rd c q := by
  induction h with
  | refl => intro q _; exact Int.le_refl _
  | @step d a b h ha hb hi ih =>
    intro q hq
    have hf := h.fok hc
    have h1 := lacks_lt hf hb hi
    rw [rd_set _ (by rw [hf.len]; exact hb)]
    have h2 := ih q hq
    split
    · rename_i e; subst e; omega
    · exact h2
open Classical in
noncomputable def closeOf (H : List (List Event)) (c : List Int) : List Int := if h : ∃ d, Closes H c d ∧ wholeB H d = true then h.choose else c
def cutH (H : List (List Event)) (c : List Int) : List (List Event) := (List.range H.length).map fun p => (rd H p).take (rd c p).toNat
theorem comes_num {l : List Ins} {s : State} {e : Event} (hs : SOk l.length s) (hi : IOk l.length (rd l s.at_.toNat)) (hc : comes e (next l s) = true) (hk : e.kind = 2) : -1000000000 ≤ e.v ∧ e.v ≤ 1000000000 := by
  by_cases h6 : (rd l s.at_.toNat).op = 6
  · have hn : next l s = ⟨2, (rd l s.at_.toNat).n, rd s.regs (rd l s.at_.toNat).a.toNat⟩ := by simp [next, h6]
    have ha := hi.a
    have := hs.nums (rd l s.at_.toNat).a.toNat (by omega)
    rw [hn, comes_other (by simp)] at hc
    simp at hc
    rw [hc.2.2]
    exact this
  · exfalso
    by_cases h7 : (rd l s.at_.toNat).op = 7
    · have hn : next l s = ⟨3, (rd l s.at_.toNat).n, 0⟩ := by simp [next, h7]
      rw [hn, comes_take] at hc
      omega
    · by_cases h8 : (rd l s.at_.toNat).op = 8
      · have hn : next l s = ⟨4, 0, rd s.regs (rd l s.at_.toNat).a.toNat⟩ := by simp [next, h8]
        rw [hn, comes_other (by simp)] at hc
        simp at hc
        omega
      · have hn : next l s = ⟨1, 0, 0⟩ := by simp [next, h6, h7, h8]
        rw [hn, comes_other (by simp)] at hc
        simp at hc
        omega
def stsOf (P : List (List Ins)) (H : List (List Event)) : List State := (List.range P.length).map fun p => stOf (replayAll (rd P p) (rd H p))
def leftOf (H : List (List Event)) (a b : Nat) : List Int := (vals (rd H a) 2 b).drop (vals (rd H b) 3 a).length
def wayOf (l : List Int) : List Item := l.map fun v => ⟨false, v⟩
def waysOf (H : List (List Event)) (n : Nat) : List (List Item) := (List.range (n * n)).map fun i => wayOf (leftOf H (i / n) (i % n))
def waysFit (H : List (List Event)) (n : Nat) : Bool := allBelow n fun a => allBelow n fun b => decide ((leftOf H a b).length ≤ 12)
theorem place_div {n a b : Nat} (hb : b < n) : (a * n + b) / n = a ∧ (a * n + b) % n = b := by
  rw [Nat.add_comm, Nat.add_mul_div_right _ _ (by omega), Nat.add_mul_mod_self_right, Nat.div_eq_of_lt hb, Nat.mod_eq_of_lt hb]
  omega
theorem wholeB_yes {H : List (List Event)} {c : List Int} (h : ∀ a, a < H.length → ∀ b, b < H.length → ¬ 0 ≤ lacks H c a b) : wholeB H c = true :=
  allBelow_yes fun a ha => allBelow_yes fun b hb => decide_eq_true (by have := h a ha b hb; omega)
def lensOf (H : List (List Event)) : List Int := H.map fun h => (h.length : Int)
def Prog (H : List (List Event)) (d d' : List Int) (a b : Nat) : Prop := d'.sum < d.sum ∨ (d' = d ∧ (∀ x, x < a → ∀ y, y < H.length → ¬ 0 ≤ lacks H d x y) ∧ ∀ y, y < b → ¬ 0 ≤ lacks H d a y)
theorem Prog.zero (H : List (List Event)) (d : List Int) : Prog H d d 0 0 := .inr ⟨rfl, fun x h => absurd h (Nat.not_lt_zero x), fun x h => absurd h (Nat.not_lt_zero x)⟩
theorem Prog.yes {H : List (List Event)} {d d' : List Int} {a b : Nat} (h : Prog H d d' a b) (hf : FOk H d') (hb : b < H.length) (hi : 0 ≤ lacks H d' a b) : Prog H d (d'.set b (lacks H d' a b)) a (b + 1) := by
  have h1 := lacks_lt hf hb hi
  have h2 := sum_put d' b (lacks H d' a b) (by rw [hf.len]; exact hb)
  left
  rcases h with h | ⟨rfl, _⟩ <;> omega
theorem Prog.row {H : List (List Event)} {d d' : List Int} {a b : Nat} (h : Prog H d d' a b) (hb : H.length ≤ b) : Prog H d d' (a + 1) 0 := by
  rcases h with h | ⟨rfl, h1, h2⟩
  · exact .inl h
  · refine .inr ⟨rfl, fun x hx y hy => ?_, fun x h => absurd h (Nat.not_lt_zero x)⟩
    rcases Nat.lt_succ_iff_lt_or_eq.1 hx with h | h
    · exact h1 x h y hy
    · rw [h]; exact h2 y (by omega)
theorem Prog.end {H : List (List Event)} {d d' : List Int} {a b : Nat} (h : Prog H d d' a b) (ha : H.length ≤ a) (hw : wholeB H d = false) : d'.sum < d.sum := by
  rcases h with h | ⟨rfl, h1, h2⟩
  · exact h
  · rw [wholeB_yes fun x hx y hy => h1 x (by omega) y hy] at hw; cases hw
structure CL where
  n : Nat
  d : List Int
  g : Nat
  dd : Bool
structure CL2 where
  a : Nat
  d : List Int
  g : Nat
  dd : Bool
end Go.Proofs.YtipfcgbhaalcdaaGreat.Abs
namespace Go.Proofs.YtipfcgbhaalcdaaGreat.Abs
open Go Go.Proofs
set_option linter.unusedVariables false
set_option linter.unusedSimpArgs false
attribute [local irreducible] callE
theorem snoc_rInsL (l : List (List Ins)) (x : List Ins) : l.map rInsL ++ [[.sl 5 (x.map rIns)]] = (l ++ [x]).map rInsL := by simp [rInsL]
theorem snoc_rItemL (l : List (List Item)) (x : List Item) : l.map rItemL ++ [[.sl 2 (x.map rItem)]] = (l ++ [x]).map rItemL := by simp [rItemL]
theorem snoc_rEventL (l : List (List Event)) (x : List Event) : l.map rEventL ++ [[.sl 3 (x.map rEvent)]] = (l ++ [x]).map rEventL := by simp [rEventL]
theorem snoc_rState (l : List State) (a c : Int) (r o : List Int) : l.map rState ++ [[.v (.int .i64 a), .sl 1 (r.map rI), .sl 1 (o.map rI), .v (.int .i64 c)]] = (l ++ [(⟨a, r, o, c⟩ : State)]).map rState := by simp [rState]
theorem gI15 {p A : Prop} (h : A) (e : p := by first | with_reducible assumption | omega | (simp only [Nat.zero_add, Nat.add_zero, Nat.sub_zero, Int.toNat_natCast, Int.toNat_zero, Int.toNat_one, List.length_map, List.length_nil, Int.reduceToNat, Nat.reduceAdd, Nat.reduceSub, Int.sub_zero, Int.reduceAdd, Int.reduceSub, Nat.sub_self, Int.toNat_natCast_add_one, marks_len, bs_len, List.length_append, List.length_cons, List.length_set, List.length_replicate, List.length_range]; first | done | omega)) : sI p A := sI.mk e h
theorem gNum15 {r r' : Nat} {F : Nat → Prop} (h : F r') (e : r = r' := by first | (simp only [Nat.zero_add, Nat.add_zero, Nat.sub_zero, Int.toNat_natCast, Int.toNat_zero, Int.toNat_one, List.length_map, List.length_nil, Int.reduceToNat, Nat.reduceAdd, Nat.reduceSub, Int.sub_zero, Int.reduceAdd, Int.reduceSub, Nat.sub_self, Int.toNat_natCast_add_one, marks_len, bs_len]; rfl) | rfl) : sN r F := sN.eq e h
theorem gRow15 {r r' : List (List T)} {F : List (List T) → Prop} (h : F r') (e : r = r' := by first | (simp only [Nat.add_zero, Nat.zero_add, Nat.reduceAdd, List.drop_zero, List.take_succ_cons, List.take_nil, List.drop_succ_cons, List.drop_nil, List.take_zero, List.nil_append, List.append_nil, List.map_nil, drop_suf, take_pre, drop_map, List.take_length, take_len_set, take_len_app, List.set_set, List.length_map, snoc_rInsL, snoc_rItemL, snoc_rEventL, snoc_rState, set_rWho, rep_rWho, snoc_rWho, set_rState, rep_rState, set_rInsL, rep_rInsL, set_rItemL, rep_rItemL, set_rEventL, rep_rEventL, set_rItem, rep_rItem, rep_rKept, marks_take, set_rKept, set_rIns, rep_rIns, set_rEvent, rep_rEvent, snoc_rKept, snoc_rEvent, snoc_rIns, bytesT_bs, snoc_rI, snoc_rB, snoc_rBool, set_rI, set_rBool, rep_rI, rep_rBool, map_app]; rfl) | rfl) : sR r F := sR.eq e h
theorem st15 {P Q : Prop} (h : Q) (e : Q → P := by with_reducible first | exact fun h => gP h | exact fun h => gN h | exact fun h => fG.not h | exact fun h => gY h | exact fun h => gF h | exact fun h => fG.yes (flat_map (fun _ => rfl) _) h | exact fun h => gS64 h | exact fun h => gU8 h | exact fun h => gI15 h | exact fun h => fE.of rfl h | exact fun h => gNum15 h | exact fun h => gSet h | exact fun h => gRd h | exact fun h => gLk h | exact fun h => gRow15 h | exact fun h => gRf4 h) : P := e h
theorem ok_Clone_Ins (k : Nat) (l : List Ins) (hl : l.length ≤ 100000000000) : callE PR C (k + 1) 180 [.h 1000000 0 0 [] 5 0 l.length] [tIns l] = some ⟨.h 2000000 1 0 [] 5 0 l.length, [tIns9 l], [none]⟩ := by
  have := callE_prim (k := k) (f := 180) rfl (cloneP_run (sz := 5) (bytes := 40) (wide_map (f := rIns) (fun _ => rfl) l) (flat_map (fun _ => rfl) l) (full_map (fun _ => rfl) l) (by simp; omega))
  simpa using this
theorem ok_Clone_Item (k : Nat) (l : List Item) (hl : l.length ≤ 100000000000) : callE PR C (k + 1) 147 [.h 1000000 0 0 [] 2 0 l.length] [tItem l] = some ⟨.h 2000000 1 0 [] 2 0 l.length, [tItem9 l], [none]⟩ := by
  have := callE_prim (k := k) (f := 147) rfl (cloneP_run (sz := 2) (bytes := 16) (wide_map (f := rItem) (fun _ => rfl) l) (flat_map (fun _ => rfl) l) (full_map (fun _ => rfl) l) (by simp; omega))
  simpa using this
theorem ok_Clone_Event (k : Nat) (l : List Event) (hl : l.length ≤ 100000000000) : callE PR C (k + 1) 182 [.h 1000000 0 0 [] 3 0 l.length] [tEvent l] = some ⟨.h 2000000 1 0 [] 3 0 l.length, [tEvent9 l], [none]⟩ := by
  have := callE_prim (k := k) (f := 182) rfl (cloneP_run (sz := 3) (bytes := 24) (wide_map (f := rEvent) (fun _ => rfl) l) (flat_map (fun _ => rfl) l) (full_map (fun _ => rfl) l) (by simp; omega))
  simpa using this
structure CS (α : Type) where
  j : Nat
  l : List α
  v : AV
  b : Nat
  g : Nat
  d : Bool
  c : Cont
  dd : Bool
def Grown {α : Type} (o sz : Nat) (t : List α → Cont) (X : List α) (z : CS α) : Prop := z.l = X.take z.j ∧ ((z.j = 0 ∧ z.v = .nl sz ∧ z.b = 0 ∧ z.g = 0 ∧ z.d = false ∧ z.c = .dead) ∨ (0 < z.j ∧ z.v = .h o z.b 0 [] sz 0 z.l.length ∧ z.c = t z.l))
theorem grown_nil {α : Type} {o sz : Nat} {t : List α → Cont} {X : List α} {dd : Bool} : Grown o sz t X ⟨0, [], .nl sz, 0, 0, false, .dead, dd⟩ := ⟨rfl, .inl ⟨rfl, rfl, rfl, rfl, rfl, rfl⟩⟩
theorem grown_one {α : Type} [Inhabited α] {o sz b g : Nat} {d dd : Bool} {t : List α → Cont} {X : List α} (h : 0 < X.length) : Grown o sz t X ⟨0 + 1, [rd X 0], .h o b 0 [] sz 0 1, b, g, d, t [rd X 0], dd⟩ := ⟨by show _ = X.take (0 + 1); rw [take_rd h]; rfl, .inr ⟨Nat.one_pos, rfl, rfl⟩⟩
theorem grown_more {α : Type} [Inhabited α] {o sz b g j : Nat} {l : List α} {d dd : Bool} {t : List α → Cont} {X : List α} (h : j < X.length) (hl : l = X.take j) : Grown o sz t X ⟨j + 1, l ++ [rd X j], .h o b 0 [] sz 0 (l ++ [rd X j]).length, b, g, d, t (l ++ [rd X j]), dd⟩ := ⟨by show _ = X.take (j + 1); rw [take_rd h, hl], .inr ⟨Nat.succ_pos j, rfl, rfl⟩⟩
structure SysN (P : List (List Ins)) (S : List State) (W : List (List Item)) (H : List (List Event)) : Prop where
  p : 0 < P.length
  s : 0 < S.length
  w : 0 < W.length
  h : 0 < H.length
theorem SysIs.some {P : List (List Ins)} {S : List State} {W : List (List Item)} {H : List (List Event)} (h : SysIs P S W H) : SysN P S W H := by
  have h1 := h.n
  have h2 := h.s
  have h3 := h.h
  have h4 := h.w
  exact ⟨by omega, by omega, by rw [h4]; exact Nat.mul_pos (by omega) (by omega), by omega⟩
set_option maxHeartbeats 4000000 in
theorem ok_impl_cloneSys (k : Nat) (P : List (List Ins)) (S : List State) (W : List (List Item)) (H : List (List Event)) (hb : SysB 100000000000 P S W H) (hn : SysN P S W H) :
    callE PR C (k + 3) 79 [aSys 0 P S W H] [tInsSS P, tStateS S, tItemSS W, tEventSS H] = some ⟨nSys 0 P S W H, [tInsSS9 P, tStateS9 S, tItemSS9 W, tEventSS9 H], [none, none, none, none]⟩ := by
  have n0 := hn.p
  have n1 := hn.s
  have n2 := hn.w
  have n3 := hn.h
  have m0 := hb.p
  have m1 := hb.s
  have m2 := hb.w
  have m3 := hb.h
  (refine fnI [ResultVar.cell 2 29] Tryz.func79 ?_; conv => whnf)
  repeat' ((with_reducible (first | refine st15 ?_|refine fG.split (fun _ => ?_) (fun _ => ?_)|refine fG.bool (fun _ => ?_) (fun _ => ?_)|refine gD 5 [(1, 3), (1, 4)] ?_|refine gD 10 [(1, 3), (1, 4)] ?_|refine gD 15 [(1, 3), (1, 4)] ?_|refine gD 20 [(1, 3), (1, 4)] ?_)) <;> (try (conv => whnf)))
  refine loop_rule (ι := CS (List Ins)) (fun z => [(1, .pt 1 1 0 [] 0 0), (2, .pt 2 1 0 [] 0 0), (3, .pt 3 1 0 [] 0 0), (14, .h 1000000 0 0 [] 1 0 P.length), (15, i64 P.length), (16, i64 (z.j : Nat))])
    (fun z => [(1000000, ⟨0, 0, false, tInsSS P⟩), (1000001, ⟨0, 0, false, tStateS S⟩), (1000002, ⟨0, 0, false, tItemSS W⟩), (1000003, ⟨0, 0, false, tEventSS H⟩), (1, ⟨1, 0, false, .box [.h 1000000 0 0 [] 1 0 P.length, .h 1000001 0 0 [] 4 0 S.length, .h 1000002 0 0 [] 1 0 W.length, .h 1000003 0 0 [] 1 0 H.length]⟩), (2, ⟨1, 0, false, .box [.nl 1, .nl 4, .nl 1, .nl 1]⟩), (3, ⟨1, 0, z.dd, .box [z.v, .nl 4, .nl 1, .nl 1]⟩), (25, ⟨z.b, z.g, z.d, z.c⟩), (40, ⟨0, 0, false, .dead⟩), (55, ⟨0, 0, false, .dead⟩), (70, ⟨0, 0, false, .dead⟩)])
    (fun z => P.length - z.j) (fun z => z.j ≤ P.length ∧ Grown 25 1 tInsSS9 P z) ⟨0, [], .nl 1, 0, 0, false, .dead, _⟩ fitOk ⟨Nat.zero_le _, grown_nil⟩ (by simp [C]; omega) ?_
  rintro ⟨j, l, v, b0, g0, d0, c, dd⟩ sl ob ⟨hj, hl, hg⟩
  dsimp only at hj hl hg
  by_cases hjl : j < P.length
  · have hx := hb.pp j hjl
    have q := fun k => ok_Clone_Ins k (rd P j) (by omega)
    rcases hg with ⟨e1, e2, e3, e4, e5, e6⟩ | ⟨h0, e2, e3⟩
    all_goals dsimp only at *
    · subst e1 e2 e3 e4 e5 e6 hl
      (try dsimp only [cond_true, cond_false])
      (conv => whnf)
      repeat' ((with_reducible (first | refine sCall.of (q _) ?_|refine st15 ?_|refine fG.split (fun _ => ?_) (fun _ => ?_)|refine fG.bool (fun _ => ?_) (fun _ => ?_)|refine gD 5 [(1, 3), (1, 4)] ?_|refine gD 10 [(1, 3), (1, 4)] ?_|refine gD 15 [(1, 3), (1, 4)] ?_|refine gD 20 [(1, 3), (1, 4)] ?_)) <;> (try (conv => whnf)))
      refine ⟨⟨⟨0 + 1, [rd P 0], _, _, _, _, _, _⟩, fitOk, ?_, ?_⟩⟩
      · exact ⟨by show 0 + 1 ≤ _; omega, grown_one hjl⟩
      · show P.length - (0 + 1) < P.length - 0; omega
    · subst e2 e3
      have hle : l.length = j := by rw [hl]; simp; omega
      (try dsimp only [cond_true, cond_false])
      (conv => whnf)
      repeat' ((with_reducible (first | refine sCall.of (q _) ?_|refine st15 ?_|refine fG.split (fun _ => ?_) (fun _ => ?_)|refine fG.bool (fun _ => ?_) (fun _ => ?_)|refine gD 5 [(1, 3), (1, 4)] ?_|refine gD 10 [(1, 3), (1, 4)] ?_|refine gD 15 [(1, 3), (1, 4)] ?_|refine gD 20 [(1, 3), (1, 4)] ?_)) <;> (try (conv => whnf)))
      refine ⟨⟨⟨j + 1, l ++ [rd P j], _, _, _, _, _, _⟩, fitOk, ?_, ?_⟩⟩
      · exact ⟨by show j + 1 ≤ _; omega, grown_more hjl hl⟩
      · show P.length - (j + 1) < P.length - j; omega
  rcases hg with ⟨e1, e2, e3, e4, e5, e6⟩ | ⟨h0, e2, e3⟩
  all_goals dsimp only at *
  · exfalso; omega
  rw [List.take_of_length_le (by omega)] at hl
  rw [hl] at e2 e3
  subst e2 e3
  (try dsimp only [cond_true, cond_false])
  (conv => whnf)
  repeat' ((with_reducible (first | refine st15 ?_|refine fG.split (fun _ => ?_) (fun _ => ?_)|refine fG.bool (fun _ => ?_) (fun _ => ?_)|refine gD 5 [(1, 3), (1, 4)] ?_|refine gD 10 [(1, 3), (1, 4)] ?_|refine gD 15 [(1, 3), (1, 4)] ?_|refine gD 20 [(1, 3), (1, 4)] ?_)) <;> (try (conv => whnf)))
  refine loop_rule (ι := CS State) (fun z => [(1, .pt 1 1 0 [] 0 0), (2, .pt 2 1 0 [] 0 0), (3, .pt 3 1 0 [] 0 0), (29, .h 1000001 0 0 [] 4 0 S.length), (30, i64 S.length), (31, i64 (z.j : Nat))])
    (fun z => [(1000000, ⟨0, 0, false, tInsSS P⟩), (1000001, ⟨0, 0, false, tStateS S⟩), (1000002, ⟨0, 0, false, tItemSS W⟩), (1000003, ⟨0, 0, false, tEventSS H⟩), (1, ⟨1, 0, false, .box [.h 1000000 0 0 [] 1 0 P.length, .h 1000001 0 0 [] 4 0 S.length, .h 1000002 0 0 [] 1 0 W.length, .h 1000003 0 0 [] 1 0 H.length]⟩), (2, ⟨1, 0, false, .box [.nl 1, .nl 4, .nl 1, .nl 1]⟩), (3, ⟨1, 0, z.dd, .box [.h 25 b0 0 [] 1 0 P.length, z.v, .nl 1, .nl 1]⟩), (25, ⟨b0, g0, d0, tInsSS9 P⟩), (40, ⟨z.b, z.g, z.d, z.c⟩), (55, ⟨0, 0, false, .dead⟩), (70, ⟨0, 0, false, .dead⟩)])
    (fun z => S.length - z.j) (fun z => z.j ≤ S.length ∧ Grown 40 4 tStateS9 S z) ⟨0, [], .nl 4, 0, 0, false, .dead, _⟩ fitOk ⟨Nat.zero_le _, grown_nil⟩ (by simp [C]; omega) ?_
  clear sl ob
  rintro ⟨j, l, v, b1, g1, d1, c, dd⟩ sl ob ⟨hj, hl, hg⟩
  dsimp only at hj hl hg
  by_cases hjl : j < S.length
  · have hx := hb.ss j hjl
    have q := fun k => ok_impl_cloneState k (rd S j).at_ (rd S j).regs (rd S j).out (rd S j).code hx.1 hx.2
    rcases hg with ⟨e1, e2, e3, e4, e5, e6⟩ | ⟨h0, e2, e3⟩
    all_goals dsimp only at *
    · subst e1 e2 e3 e4 e5 e6 hl
      (try dsimp only [cond_true, cond_false])
      (conv => whnf)
      repeat' ((with_reducible (first | refine sCall.of (q _) ?_|refine st15 ?_|refine fG.split (fun _ => ?_) (fun _ => ?_)|refine fG.bool (fun _ => ?_) (fun _ => ?_)|refine gD 5 [(1, 3), (1, 4)] ?_|refine gD 10 [(1, 3), (1, 4)] ?_|refine gD 15 [(1, 3), (1, 4)] ?_|refine gD 20 [(1, 3), (1, 4)] ?_)) <;> (try (conv => whnf)))
      refine ⟨⟨⟨0 + 1, [rd S 0], _, _, _, _, _, _⟩, fitOk, ?_, ?_⟩⟩
      · exact ⟨by show 0 + 1 ≤ _; omega, grown_one hjl⟩
      · show S.length - (0 + 1) < S.length - 0; omega
    · subst e2 e3
      have hle : l.length = j := by rw [hl]; simp; omega
      (try dsimp only [cond_true, cond_false])
      (conv => whnf)
      repeat' ((with_reducible (first | refine sCall.of (q _) ?_|refine st15 ?_|refine fG.split (fun _ => ?_) (fun _ => ?_)|refine fG.bool (fun _ => ?_) (fun _ => ?_)|refine gD 5 [(1, 3), (1, 4)] ?_|refine gD 10 [(1, 3), (1, 4)] ?_|refine gD 15 [(1, 3), (1, 4)] ?_|refine gD 20 [(1, 3), (1, 4)] ?_)) <;> (try (conv => whnf)))
      refine ⟨⟨⟨j + 1, l ++ [rd S j], _, _, _, _, _, _⟩, fitOk, ?_, ?_⟩⟩
      · exact ⟨by show j + 1 ≤ _; omega, grown_more hjl hl⟩
      · show S.length - (j + 1) < S.length - j; omega
  rcases hg with ⟨e1, e2, e3, e4, e5, e6⟩ | ⟨h0, e2, e3⟩
  all_goals dsimp only at *
  · exfalso; omega
  rw [List.take_of_length_le (by omega)] at hl
  rw [hl] at e2 e3
  subst e2 e3
  (try dsimp only [cond_true, cond_false])
  (conv => whnf)
  repeat' ((with_reducible (first | refine st15 ?_|refine fG.split (fun _ => ?_) (fun _ => ?_)|refine fG.bool (fun _ => ?_) (fun _ => ?_)|refine gD 5 [(1, 3), (1, 4)] ?_|refine gD 10 [(1, 3), (1, 4)] ?_|refine gD 15 [(1, 3), (1, 4)] ?_|refine gD 20 [(1, 3), (1, 4)] ?_)) <;> (try (conv => whnf)))
  refine loop_rule (ι := CS (List Item)) (fun z => [(1, .pt 1 1 0 [] 0 0), (2, .pt 2 1 0 [] 0 0), (3, .pt 3 1 0 [] 0 0), (44, .h 1000002 0 0 [] 1 0 W.length), (45, i64 W.length), (46, i64 (z.j : Nat))])
    (fun z => [(1000000, ⟨0, 0, false, tInsSS P⟩), (1000001, ⟨0, 0, false, tStateS S⟩), (1000002, ⟨0, 0, false, tItemSS W⟩), (1000003, ⟨0, 0, false, tEventSS H⟩), (1, ⟨1, 0, false, .box [.h 1000000 0 0 [] 1 0 P.length, .h 1000001 0 0 [] 4 0 S.length, .h 1000002 0 0 [] 1 0 W.length, .h 1000003 0 0 [] 1 0 H.length]⟩), (2, ⟨1, 0, false, .box [.nl 1, .nl 4, .nl 1, .nl 1]⟩), (3, ⟨1, 0, z.dd, .box [.h 25 b0 0 [] 1 0 P.length, .h 40 b1 0 [] 4 0 S.length, z.v, .nl 1]⟩), (25, ⟨b0, g0, d0, tInsSS9 P⟩), (40, ⟨b1, g1, d1, tStateS9 S⟩), (55, ⟨z.b, z.g, z.d, z.c⟩), (70, ⟨0, 0, false, .dead⟩)])
    (fun z => W.length - z.j) (fun z => z.j ≤ W.length ∧ Grown 55 1 tItemSS9 W z) ⟨0, [], .nl 1, 0, 0, false, .dead, _⟩ fitOk ⟨Nat.zero_le _, grown_nil⟩ (by simp [C]; omega) ?_
  clear sl ob
  rintro ⟨j, l, v, b2, g2, d2, c, dd⟩ sl ob ⟨hj, hl, hg⟩
  dsimp only at hj hl hg
  by_cases hjl : j < W.length
  · have hx := hb.ww j hjl
    have q := fun k => ok_Clone_Item k (rd W j) (by omega)
    rcases hg with ⟨e1, e2, e3, e4, e5, e6⟩ | ⟨h0, e2, e3⟩
    all_goals dsimp only at *
    · subst e1 e2 e3 e4 e5 e6 hl
      (try dsimp only [cond_true, cond_false])
      (conv => whnf)
      repeat' ((with_reducible (first | refine sCall.of (q _) ?_|refine st15 ?_|refine fG.split (fun _ => ?_) (fun _ => ?_)|refine fG.bool (fun _ => ?_) (fun _ => ?_)|refine gD 5 [(1, 3), (1, 4)] ?_|refine gD 10 [(1, 3), (1, 4)] ?_|refine gD 15 [(1, 3), (1, 4)] ?_|refine gD 20 [(1, 3), (1, 4)] ?_)) <;> (try (conv => whnf)))
      refine ⟨⟨⟨0 + 1, [rd W 0], _, _, _, _, _, _⟩, fitOk, ?_, ?_⟩⟩
      · exact ⟨by show 0 + 1 ≤ _; omega, grown_one hjl⟩
      · show W.length - (0 + 1) < W.length - 0; omega
    · subst e2 e3
      have hle : l.length = j := by rw [hl]; simp; omega
      (try dsimp only [cond_true, cond_false])
      (conv => whnf)
      repeat' ((with_reducible (first | refine sCall.of (q _) ?_|refine st15 ?_|refine fG.split (fun _ => ?_) (fun _ => ?_)|refine fG.bool (fun _ => ?_) (fun _ => ?_)|refine gD 5 [(1, 3), (1, 4)] ?_|refine gD 10 [(1, 3), (1, 4)] ?_|refine gD 15 [(1, 3), (1, 4)] ?_|refine gD 20 [(1, 3), (1, 4)] ?_)) <;> (try (conv => whnf)))
      refine ⟨⟨⟨j + 1, l ++ [rd W j], _, _, _, _, _, _⟩, fitOk, ?_, ?_⟩⟩
      · exact ⟨by show j + 1 ≤ _; omega, grown_more hjl hl⟩
      · show W.length - (j + 1) < W.length - j; omega
  rcases hg with ⟨e1, e2, e3, e4, e5, e6⟩ | ⟨h0, e2, e3⟩
  all_goals dsimp only at *
  · exfalso; omega
  rw [List.take_of_length_le (by omega)] at hl
  rw [hl] at e2 e3
  subst e2 e3
  (try dsimp only [cond_true, cond_false])
  (conv => whnf)
  repeat' ((with_reducible (first | refine st15 ?_|refine fG.split (fun _ => ?_) (fun _ => ?_)|refine fG.bool (fun _ => ?_) (fun _ => ?_)|refine gD 5 [(1, 3), (1, 4)] ?_|refine gD 10 [(1, 3), (1, 4)] ?_|refine gD 15 [(1, 3), (1, 4)] ?_|refine gD 20 [(1, 3), (1, 4)] ?_)) <;> (try (conv => whnf)))
  refine loop_rule (ι := CS (List Event)) (fun z => [(2, .pt 2 1 0 [] 0 0), (3, .pt 3 1 0 [] 0 0), (59, .h 1000003 0 0 [] 1 0 H.length), (60, i64 H.length), (61, i64 (z.j : Nat))])
    (fun z => [(1000000, ⟨0, 0, false, tInsSS P⟩), (1000001, ⟨0, 0, false, tStateS S⟩), (1000002, ⟨0, 0, false, tItemSS W⟩), (1000003, ⟨0, 0, false, tEventSS H⟩), (2, ⟨1, 0, false, .box [.nl 1, .nl 4, .nl 1, .nl 1]⟩), (3, ⟨1, 0, z.dd, .box [.h 25 b0 0 [] 1 0 P.length, .h 40 b1 0 [] 4 0 S.length, .h 55 b2 0 [] 1 0 W.length, z.v]⟩), (25, ⟨b0, g0, d0, tInsSS9 P⟩), (40, ⟨b1, g1, d1, tStateS9 S⟩), (55, ⟨b2, g2, d2, tItemSS9 W⟩), (70, ⟨z.b, z.g, z.d, z.c⟩)])
    (fun z => H.length - z.j) (fun z => z.j ≤ H.length ∧ Grown 70 1 tEventSS9 H z) ⟨0, [], .nl 1, 0, 0, false, .dead, _⟩ fitOk ⟨Nat.zero_le _, grown_nil⟩ (by simp [C]; omega) ?_
  clear sl ob
  rintro ⟨j, l, v, b3, g3, d3, c, dd⟩ sl ob ⟨hj, hl, hg⟩
  dsimp only at hj hl hg
  by_cases hjl : j < H.length
  · have hx := hb.hh j hjl
    have q := fun k => ok_Clone_Event k (rd H j) (by omega)
    rcases hg with ⟨e1, e2, e3, e4, e5, e6⟩ | ⟨h0, e2, e3⟩
    all_goals dsimp only at *
    · subst e1 e2 e3 e4 e5 e6 hl
      (try dsimp only [cond_true, cond_false])
      (conv => whnf)
      repeat' ((with_reducible (first | refine sCall.of (q _) ?_|refine st15 ?_|refine fG.split (fun _ => ?_) (fun _ => ?_)|refine fG.bool (fun _ => ?_) (fun _ => ?_)|refine gD 5 [(1, 3), (1, 4)] ?_|refine gD 10 [(1, 3), (1, 4)] ?_|refine gD 15 [(1, 3), (1, 4)] ?_|refine gD 20 [(1, 3), (1, 4)] ?_)) <;> (try (conv => whnf)))
      refine ⟨⟨⟨0 + 1, [rd H 0], _, _, _, _, _, _⟩, fitOk, ?_, ?_⟩⟩
      · exact ⟨by show 0 + 1 ≤ _; omega, grown_one hjl⟩
      · show H.length - (0 + 1) < H.length - 0; omega
    · subst e2 e3
      have hle : l.length = j := by rw [hl]; simp; omega
      (try dsimp only [cond_true, cond_false])
      (conv => whnf)
      repeat' ((with_reducible (first | refine sCall.of (q _) ?_|refine st15 ?_|refine fG.split (fun _ => ?_) (fun _ => ?_)|refine fG.bool (fun _ => ?_) (fun _ => ?_)|refine gD 5 [(1, 3), (1, 4)] ?_|refine gD 10 [(1, 3), (1, 4)] ?_|refine gD 15 [(1, 3), (1, 4)] ?_|refine gD 20 [(1, 3), (1, 4)] ?_)) <;> (try (conv => whnf)))
      refine ⟨⟨⟨j + 1, l ++ [rd H j], _, _, _, _, _, _⟩, fitOk, ?_, ?_⟩⟩
      · exact ⟨by show j + 1 ≤ _; omega, grown_more hjl hl⟩
      · show H.length - (j + 1) < H.length - j; omega
  rcases hg with ⟨e1, e2, e3, e4, e5, e6⟩ | ⟨h0, e2, e3⟩
  all_goals dsimp only at *
  · exfalso; omega
  rw [List.take_of_length_le (by omega)] at hl
  rw [hl] at e2 e3
  subst e2 e3
  (try dsimp only [cond_true, cond_false])
  (conv => whnf)
  repeat' ((with_reducible (first | refine st15 ?_|refine fG.split (fun _ => ?_) (fun _ => ?_)|refine fG.bool (fun _ => ?_) (fun _ => ?_)|refine gD 5 [(1, 3), (1, 4)] ?_|refine gD 10 [(1, 3), (1, 4)] ?_|refine gD 15 [(1, 3), (1, 4)] ?_|refine gD 20 [(1, 3), (1, 4)] ?_)) <;> (try (conv => whnf)))
structure CL4Ins where
  j : Nat
  l : List (List Ins)
  o : Nat
  b : Nat
theorem ok_spec_l4Ins (k : Nat) (l : List (List Ins)) (hl : l.length ≤ 100000000000) (hx : ∀ j : Nat, j < l.length → (rd l j).length ≤ 100000000000) :
    callE PR C (k + 1) 185 [.h 1000000 0 0 [] 1 0 l.length] [tInsSS l] = some ⟨.h 2000000 1 0 [] 1 0 l.length, [tInsSS9 l], [none]⟩ := by
  (refine fnI [ResultVar.tmp 2] Tryz.func185 ?_; conv => whnf)
  repeat' ((with_reducible (first | refine st15 ?_|refine fG.split (fun _ => ?_) (fun _ => ?_)|refine fG.bool (fun _ => ?_) (fun _ => ?_))) <;> (try (conv => whnf)))
  refine loop_rule (ι := CL4Ins) (fun z => [(0, .h 1000000 0 0 [] 1 0 l.length), (3, .h z.o z.b 0 [] 1 0 z.l.length), (4, i64 (z.j : Nat))])
    (fun z => [(1000000, ⟨0, 0, false, tInsSS l⟩), (z.o, ⟨z.b, 0, false, tInsSS9 z.l⟩)])
    (fun z => l.length - z.j) (fun z => z.j ≤ l.length ∧ z.l = l.take z.j ∧ (z.o = 5 ∨ z.o = 20)) ⟨0, [], 5, _⟩ fitOk ⟨Nat.zero_le _, rfl, .inl rfl⟩ (by simp [C]; omega) ?_
  rintro ⟨j, out, o, b⟩ sl ob ⟨hj, hout, ho⟩
  dsimp only at hj hout ho
  have hle : out.length ≤ l.length := by rw [hout]; simp; omega
  by_cases hjl : j < l.length
  · have hxj := hx j hjl
    rcases ho with rfl | rfl
    all_goals (try dsimp only [cond_true, cond_false])
    all_goals (conv => whnf)
    all_goals repeat' ((with_reducible (first | refine st15 ?_|refine fG.split (fun _ => ?_) (fun _ => ?_)|refine fG.bool (fun _ => ?_) (fun _ => ?_))) <;> (try (conv => whnf)))
    all_goals
      refine ⟨⟨⟨j + 1, out ++ [rd l j], 20, _⟩, fitOk, ?_, ?_⟩⟩
      · exact ⟨by show j + 1 ≤ _; omega, by show out ++ [rd l j] = _; rw [take_rd hjl, hout], .inr rfl⟩
      · show l.length - (j + 1) < l.length - j; omega
  · rw [List.take_of_length_le (by omega)] at hout
    subst hout
    rcases ho with rfl | rfl
    all_goals (try dsimp only [cond_true, cond_false])
    all_goals (conv => whnf)
    all_goals repeat' ((with_reducible (first | refine st15 ?_|refine fG.split (fun _ => ?_) (fun _ => ?_)|refine fG.bool (fun _ => ?_) (fun _ => ?_))) <;> (try (conv => whnf)))
    all_goals rfl
structure CL4Event where
  j : Nat
  l : List (List Event)
  o : Nat
  b : Nat
theorem ok_spec_l4Events (k : Nat) (l : List (List Event)) (hl : l.length ≤ 100000000000) (hx : ∀ j : Nat, j < l.length → (rd l j).length ≤ 100000000000) :
    callE PR C (k + 1) 186 [.h 1000000 0 0 [] 1 0 l.length] [tEventSS l] = some ⟨.h 2000000 1 0 [] 1 0 l.length, [tEventSS9 l], [none]⟩ := by
  (refine fnI [ResultVar.tmp 2] Tryz.func186 ?_; conv => whnf)
  repeat' ((with_reducible (first | refine st15 ?_|refine fG.split (fun _ => ?_) (fun _ => ?_)|refine fG.bool (fun _ => ?_) (fun _ => ?_))) <;> (try (conv => whnf)))
  refine loop_rule (ι := CL4Event) (fun z => [(0, .h 1000000 0 0 [] 1 0 l.length), (3, .h z.o z.b 0 [] 1 0 z.l.length), (4, i64 (z.j : Nat))])
    (fun z => [(1000000, ⟨0, 0, false, tEventSS l⟩), (z.o, ⟨z.b, 0, false, tEventSS9 z.l⟩)])
    (fun z => l.length - z.j) (fun z => z.j ≤ l.length ∧ z.l = l.take z.j ∧ (z.o = 5 ∨ z.o = 20)) ⟨0, [], 5, _⟩ fitOk ⟨Nat.zero_le _, rfl, .inl rfl⟩ (by simp [C]; omega) ?_
  rintro ⟨j, out, o, b⟩ sl ob ⟨hj, hout, ho⟩
  dsimp only at hj hout ho
  have hle : out.length ≤ l.length := by rw [hout]; simp; omega
  by_cases hjl : j < l.length
  · have hxj := hx j hjl
    rcases ho with rfl | rfl
    all_goals (try dsimp only [cond_true, cond_false])
    all_goals (conv => whnf)
    all_goals repeat' ((with_reducible (first | refine st15 ?_|refine fG.split (fun _ => ?_) (fun _ => ?_)|refine fG.bool (fun _ => ?_) (fun _ => ?_))) <;> (try (conv => whnf)))
    all_goals
      refine ⟨⟨⟨j + 1, out ++ [rd l j], 20, _⟩, fitOk, ?_, ?_⟩⟩
      · exact ⟨by show j + 1 ≤ _; omega, by show out ++ [rd l j] = _; rw [take_rd hjl, hout], .inr rfl⟩
      · show l.length - (j + 1) < l.length - j; omega
  · rw [List.take_of_length_le (by omega)] at hout
    subst hout
    rcases ho with rfl | rfl
    all_goals (try dsimp only [cond_true, cond_false])
    all_goals (conv => whnf)
    all_goals repeat' ((with_reducible (first | refine st15 ?_|refine fG.split (fun _ => ?_) (fun _ => ?_)|refine fG.bool (fun _ => ?_) (fun _ => ?_))) <;> (try (conv => whnf)))
    all_goals rfl
set_option maxHeartbeats 4000000 in
theorem ok_spec_l4Copy (k : Nat) (P : List (List Ins)) (S : List State) (W : List (List Item)) (H : List (List Event)) (hb : SysB 100000000000 P S W H) (hn : SysN P S W H) :
    callE PR C (k + 2) 83 [aSys 0 P S W H] [tInsSS P, tStateS S, tItemSS W, tEventSS H] = some ⟨nSys 0 P S W H, [tInsSS9 P, tStateS9 S, tItemSS9 W, tEventSS9 H], [none, none, none, none]⟩ := by
  have n1 := hn.s
  have n2 := hn.w
  have m0 := hb.p
  have m1 := hb.s
  have m2 := hb.w
  have m3 := hb.h
  have q1 := fun k => ok_spec_l4Ins k P m0 hb.pp
  have q2 := fun k => ok_spec_l4Events k H m3 hb.hh
  (refine fnI [ResultVar.cell 2 29] Tryz.func83 ?_; conv => whnf)
  repeat' ((with_reducible (first | refine sCall.of (q1 _) ?_|refine sCall.of (q2 _) ?_|refine st15 ?_|refine fG.split (fun _ => ?_) (fun _ => ?_)|refine fG.bool (fun _ => ?_) (fun _ => ?_)|refine gD 1 [(2, 4), (1, 7), (2, 7), (4, 7), (5, 7)] ?_|refine gD 5 [(1, 7), (1, 8)] ?_|refine gD 9 [(1, 2), (2, 4), (2, 7), (1, 8), (1, 9)] ?_)) <;> (try (conv => whnf)))
  refine loop_rule (ι := CS State) (fun z => [(1, .pt 1 1 0 [] 0 0), (2, .pt 2 1 0 [] 0 0), (3, .pt 3 1 0 [] 0 0), (4, i64 (z.j : Nat))])
    (fun z => [(1000000, ⟨0, 0, false, tInsSS P⟩), (1000001, ⟨0, 0, false, tStateS S⟩), (1000002, ⟨0, 0, false, tItemSS W⟩), (1000003, ⟨0, 0, false, tEventSS H⟩), (1, ⟨1, 0, false, .box [.h 1000000 0 0 [] 1 0 P.length, .h 1000001 0 0 [] 4 0 S.length, .h 1000002 0 0 [] 1 0 W.length, .h 1000003 0 0 [] 1 0 H.length]⟩), (2, ⟨1, 0, false, .box [.nl 1, .nl 4, .nl 1, .nl 1]⟩), (3, ⟨1, 0, z.dd, .box [.h 10008 1 0 [] 1 0 P.length, z.v, .nl 1, .h 10011 1 0 [] 1 0 H.length]⟩), (10008, ⟨1, 0, false, tInsSS9 P⟩), (10011, ⟨1, 0, false, tEventSS9 H⟩), (29, ⟨z.b, z.g, z.d, z.c⟩), (48, ⟨0, 0, false, .dead⟩)])
    (fun z => S.length - z.j) (fun z => z.j ≤ S.length ∧ Grown 29 4 tStateS9 S z) ⟨0, [], .nl 4, 0, 0, false, .dead, _⟩ fitOk ⟨Nat.zero_le _, grown_nil⟩ (by simp [C]; omega) ?_
  rintro ⟨j, l, v, b0, g0, d0, c, dd⟩ sl ob ⟨hj, hl, hg⟩
  dsimp only at hj hl hg
  by_cases hjl : j < S.length
  · have hx := hb.ss j hjl
    have q := fun k => ok_spec_l2Copy k (rd S j).at_ (rd S j).regs (rd S j).out (rd S j).code hx.1 hx.2
    rcases hg with ⟨e1, e2, e3, e4, e5, e6⟩ | ⟨h0, e2, e3⟩
    all_goals dsimp only at *
    · subst e1 e2 e3 e4 e5 e6 hl
      (try dsimp only [cond_true, cond_false])
      (conv => whnf)
      repeat' ((with_reducible (first | refine sCall.of (q _) ?_|refine st15 ?_|refine fG.split (fun _ => ?_) (fun _ => ?_)|refine fG.bool (fun _ => ?_) (fun _ => ?_)|refine gD 1 [(2, 4), (1, 7), (2, 7), (4, 7), (5, 7)] ?_|refine gD 5 [(1, 7), (1, 8)] ?_|refine gD 9 [(1, 2), (2, 4), (2, 7), (1, 8), (1, 9)] ?_)) <;> (try (conv => whnf)))
      refine ⟨⟨⟨0 + 1, [rd S 0], _, _, _, _, _, _⟩, fitOk, ?_, ?_⟩⟩
      · exact ⟨by show 0 + 1 ≤ _; omega, grown_one hjl⟩
      · show S.length - (0 + 1) < S.length - 0; omega
    · subst e2 e3
      have hle : l.length = j := by rw [hl]; simp; omega
      (try dsimp only [cond_true, cond_false])
      (conv => whnf)
      repeat' ((with_reducible (first | refine sCall.of (q _) ?_|refine st15 ?_|refine fG.split (fun _ => ?_) (fun _ => ?_)|refine fG.bool (fun _ => ?_) (fun _ => ?_)|refine gD 1 [(2, 4), (1, 7), (2, 7), (4, 7), (5, 7)] ?_|refine gD 5 [(1, 7), (1, 8)] ?_|refine gD 9 [(1, 2), (2, 4), (2, 7), (1, 8), (1, 9)] ?_)) <;> (try (conv => whnf)))
      refine ⟨⟨⟨j + 1, l ++ [rd S j], _, _, _, _, _, _⟩, fitOk, ?_, ?_⟩⟩
      · exact ⟨by show j + 1 ≤ _; omega, grown_more hjl hl⟩
      · show S.length - (j + 1) < S.length - j; omega
  rcases hg with ⟨e1, e2, e3, e4, e5, e6⟩ | ⟨h0, e2, e3⟩
  all_goals dsimp only at *
  · exfalso; omega
  rw [List.take_of_length_le (by omega)] at hl
  rw [hl] at e2 e3
  subst e2 e3
  (try dsimp only [cond_true, cond_false])
  (conv => whnf)
  repeat' ((with_reducible (first | refine st15 ?_|refine fG.split (fun _ => ?_) (fun _ => ?_)|refine fG.bool (fun _ => ?_) (fun _ => ?_)|refine gD 1 [(2, 4), (1, 7), (2, 7), (4, 7), (5, 7)] ?_|refine gD 5 [(1, 7), (1, 8)] ?_|refine gD 9 [(1, 2), (2, 4), (2, 7), (1, 8), (1, 9)] ?_)) <;> (try (conv => whnf)))
  refine loop_rule (ι := CS (List Item)) (fun z => [(1, .pt 1 1 0 [] 0 0), (2, .pt 2 1 0 [] 0 0), (3, .pt 3 1 0 [] 0 0), (5, i64 (z.j : Nat))])
    (fun z => [(1000000, ⟨0, 0, false, tInsSS P⟩), (1000001, ⟨0, 0, false, tStateS S⟩), (1000002, ⟨0, 0, false, tItemSS W⟩), (1000003, ⟨0, 0, false, tEventSS H⟩), (1, ⟨1, 0, false, .box [.h 1000000 0 0 [] 1 0 P.length, .h 1000001 0 0 [] 4 0 S.length, .h 1000002 0 0 [] 1 0 W.length, .h 1000003 0 0 [] 1 0 H.length]⟩), (2, ⟨1, 0, false, .box [.nl 1, .nl 4, .nl 1, .nl 1]⟩), (3, ⟨1, 0, z.dd, .box [.h 10008 1 0 [] 1 0 P.length, .h 29 b0 0 [] 4 0 S.length, z.v, .h 10011 1 0 [] 1 0 H.length]⟩), (10008, ⟨1, 0, false, tInsSS9 P⟩), (10011, ⟨1, 0, false, tEventSS9 H⟩), (29, ⟨b0, g0, d0, tStateS9 S⟩), (48, ⟨z.b, z.g, z.d, z.c⟩)])
    (fun z => W.length - z.j) (fun z => z.j ≤ W.length ∧ Grown 48 1 tItemSS9 W z) ⟨0, [], .nl 1, 0, 0, false, .dead, _⟩ fitOk ⟨Nat.zero_le _, grown_nil⟩ (by simp [C]; omega) ?_
  clear sl ob
  rintro ⟨j, l, v, b1, g1, d1, c, dd⟩ sl ob ⟨hj, hl, hg⟩
  dsimp only at hj hl hg
  by_cases hjl : j < W.length
  · have hx := hb.ww j hjl
    rcases hg with ⟨e1, e2, e3, e4, e5, e6⟩ | ⟨h0, e2, e3⟩
    all_goals dsimp only at *
    · subst e1 e2 e3 e4 e5 e6 hl
      (try dsimp only [cond_true, cond_false])
      (conv => whnf)
      repeat' ((with_reducible (first | refine st15 ?_|refine fG.split (fun _ => ?_) (fun _ => ?_)|refine fG.bool (fun _ => ?_) (fun _ => ?_)|refine gD 1 [(2, 4), (1, 7), (2, 7), (4, 7), (5, 7)] ?_|refine gD 5 [(1, 7), (1, 8)] ?_|refine gD 9 [(1, 2), (2, 4), (2, 7), (1, 8), (1, 9)] ?_)) <;> (try (conv => whnf)))
      refine ⟨⟨⟨0 + 1, [rd W 0], _, _, _, _, _, _⟩, fitOk, ?_, ?_⟩⟩
      · exact ⟨by show 0 + 1 ≤ _; omega, grown_one hjl⟩
      · show W.length - (0 + 1) < W.length - 0; omega
    · subst e2 e3
      have hle : l.length = j := by rw [hl]; simp; omega
      (try dsimp only [cond_true, cond_false])
      (conv => whnf)
      repeat' ((with_reducible (first | refine st15 ?_|refine fG.split (fun _ => ?_) (fun _ => ?_)|refine fG.bool (fun _ => ?_) (fun _ => ?_)|refine gD 1 [(2, 4), (1, 7), (2, 7), (4, 7), (5, 7)] ?_|refine gD 5 [(1, 7), (1, 8)] ?_|refine gD 9 [(1, 2), (2, 4), (2, 7), (1, 8), (1, 9)] ?_)) <;> (try (conv => whnf)))
      refine ⟨⟨⟨j + 1, l ++ [rd W j], _, _, _, _, _, _⟩, fitOk, ?_, ?_⟩⟩
      · exact ⟨by show j + 1 ≤ _; omega, grown_more hjl hl⟩
      · show W.length - (j + 1) < W.length - j; omega
  rcases hg with ⟨e1, e2, e3, e4, e5, e6⟩ | ⟨h0, e2, e3⟩
  all_goals dsimp only at *
  · exfalso; omega
  rw [List.take_of_length_le (by omega)] at hl
  rw [hl] at e2 e3
  subst e2 e3
  (try dsimp only [cond_true, cond_false])
  (conv => whnf)
  repeat' ((with_reducible (first | refine st15 ?_|refine fG.split (fun _ => ?_) (fun _ => ?_)|refine fG.bool (fun _ => ?_) (fun _ => ?_)|refine gD 1 [(2, 4), (1, 7), (2, 7), (4, 7), (5, 7)] ?_|refine gD 5 [(1, 7), (1, 8)] ?_|refine gD 9 [(1, 2), (2, 4), (2, 7), (1, 8), (1, 9)] ?_)) <;> (try (conv => whnf)))

end Go.Proofs.YtipfcgbhaalcdaaGreat.Abs
namespace Go.Proofs.YtipfcgbhaalcdaaGreat.Abs
open Go Go.Proofs
set_option linter.unusedVariables false
set_option linter.unusedSimpArgs false
attribute [local irreducible] callE
theorem gHole {α : Type} {l : List α} {n : Nat} {x : α} {F : α → Prop} (h : F x) (e : n < l.length := by first | omega | (simp only [List.length_map]; omega)) : fO (l.set n x)[n]? F := fO.of (by simp [e]) h
theorem snoc_rItem (l : List Item) (b : Bool) (x : Int) : l.map rItem ++ [[.v (.bool b), .v (.int .i64 x)]] = (l ++ [(⟨b, x⟩ : Item)]).map rItem := by simp [rItem]
theorem gI16 {p A : Prop} (h : A) (e : p := by first | with_reducible assumption | omega | (simp only [Nat.zero_add, Nat.add_zero, Nat.sub_zero, Int.toNat_natCast, Int.toNat_zero, Int.toNat_one, List.length_map, List.length_nil, Int.reduceToNat, Nat.reduceAdd, Nat.reduceSub, Int.sub_zero, Int.reduceAdd, Int.reduceSub, Nat.sub_self, Int.toNat_natCast_add_one, marks_len, bs_len, List.length_append, List.length_cons, List.length_set, List.length_replicate, List.length_range]; first | done | omega)) : sI p A := sI.mk e h
theorem gNum16 {r r' : Nat} {F : Nat → Prop} (h : F r') (e : r = r' := by first | (simp only [Nat.zero_add, Nat.add_zero, Nat.sub_zero, Int.toNat_natCast, Int.toNat_zero, Int.toNat_one, List.length_map, List.length_nil, Int.reduceToNat, Nat.reduceAdd, Nat.reduceSub, Int.sub_zero, Int.reduceAdd, Int.reduceSub, Nat.sub_self, Int.toNat_natCast_add_one, marks_len, bs_len]; rfl) | rfl) : sN r F := sN.eq e h
theorem gRow16 {r r' : List (List T)} {F : List (List T) → Prop} (h : F r') (e : r = r' := by first | (simp only [Nat.add_zero, Nat.zero_add, Nat.reduceAdd, List.drop_zero, List.take_succ_cons, List.take_nil, List.drop_succ_cons, List.drop_nil, List.take_zero, List.nil_append, List.append_nil, List.map_nil, drop_suf, take_pre, drop_map, List.take_length, take_len_set, take_len_app, List.set_set, List.length_map, snoc_rItem, snoc_rInsL, snoc_rItemL, snoc_rEventL, snoc_rState, set_rWho, rep_rWho, snoc_rWho, set_rState, rep_rState, set_rInsL, rep_rInsL, set_rItemL, rep_rItemL, set_rEventL, rep_rEventL, set_rItem, rep_rItem, rep_rKept, marks_take, set_rKept, set_rIns, rep_rIns, set_rEvent, rep_rEvent, snoc_rKept, snoc_rEvent, snoc_rIns, bytesT_bs, snoc_rI, snoc_rB, snoc_rBool, set_rI, set_rBool, rep_rI, rep_rBool, map_app]; rfl) | rfl) : sR r F := sR.eq e h
theorem st16 {P Q : Prop} (h : Q) (e : Q → P := by with_reducible first | exact fun h => gP h | exact fun h => gN h | exact fun h => fG.not h | exact fun h => gY h | exact fun h => gF h | exact fun h => fG.yes (flat_map (fun _ => rfl) _) h | exact fun h => gS64 h | exact fun h => gU8 h | exact fun h => gI16 h | exact fun h => fE.of rfl h | exact fun h => gNum16 h | exact fun h => gSet h | exact fun h => gRd h | exact fun h => gLk h | exact fun h => gRow16 h | exact fun h => gRf4 h) : P := e h
def procsOk (P : List (List Ins)) (H : List (List Event)) : Bool := allBelow P.length fun p => (replayAll (rd P p) (rd H p)).isSome && peersOk (rd H p) P.length
def ofOk (P : List (List Ins)) (H : List (List Event)) : Bool := procsOk P H && sysOk P (stsOf P H) (waysOf H P.length) H
structure SB where
  j : Nat
  lp : List (List Ins)
  ls : List State
  lh : List (List Event)
  v0 : AV
  v1 : AV
  v3 : AV
  b0 : Nat
  b1 : Nat
  b3 : Nat
  c0 : Cont
  c1 : Cont
  c3 : Cont
  dd : Bool
def SB.ok (P : List (List Ins)) (H : List (List Event)) (n0 n1 n3 : Nat) (z : SB) : Prop :=
  (z.lp = P.take z.j ∧ z.ls = (stsOf P H).take z.j ∧ z.lh = H.take z.j) ∧
  ((z.j = 0 ∧ (z.v0 = .nl 1 ∧ z.v1 = .nl 4 ∧ z.v3 = .nl 1) ∧ (z.b0 = 0 ∧ z.b1 = 0 ∧ z.b3 = 0) ∧ (z.c0 = .dead ∧ z.c1 = .dead ∧ z.c3 = .dead)) ∨
   (0 < z.j ∧ (z.v0 = .h n0 z.b0 0 [] 1 0 z.lp.length ∧ z.v1 = .h n1 z.b1 0 [] 4 0 z.ls.length ∧ z.v3 = .h n3 z.b3 0 [] 1 0 z.lh.length) ∧ (z.c0 = tInsSS9 z.lp ∧ z.c1 = tStateS9 z.ls ∧ z.c3 = tEventSS9 z.lh)))
structure WB where
  a : Nat
  w : List (List Item)
  g : Nat
  d : Bool
structure WI where
  j : Nat
  w : List (List Item)
  g : Nat
  d : Bool
  bb : Nat
end Go.Proofs.YtipfcgbhaalcdaaGreat.Abs
namespace Go.Proofs.YtipfcgbhaalcdaaGreat.Abs
open Go Go.Proofs
set_option linter.unusedVariables false
set_option linter.unusedSimpArgs false
attribute [local irreducible] callE
def zeroRes (b : List (Option Cont)) : Res := ⟨.tu [nSys 0 [] [] [] [], bl false], [tInsSS9 [], tStateS9 [], tItemSS9 [], tEventSS9 []], b⟩
def atRes (P : List (List Ins)) (H : List (List Event)) (b : List (Option Cont)) : Res := ⟨.tu [nSys 0 P (stsOf P H) (waysOf H P.length) H, bl true], [tInsSS9 P, tStateS9 (stsOf P H), tItemSS9 (waysOf H P.length), tEventSS9 H], b⟩
structure AT where
  j : Nat
  l : List (List Event)
  o : Nat
  b : Nat
  lv : Nat
end Go.Proofs.YtipfcgbhaalcdaaGreat.Abs
namespace Go.Proofs.YtipfcgbhaalcdaaGreat.Abs
open Go Go.Proofs
set_option linter.unusedVariables false
set_option linter.unusedSimpArgs false
attribute [local irreducible] callE
def hasCut (H : List (List Event)) (p i : Int) : Bool := decide (0 ≤ p ∧ p ≤ (H.length : Int) - 1) && decide (0 ≤ i ∧ i ≤ ((rd H p.toNat).length : Int))
noncomputable def backCutOf (H : List (List Event)) (p i : Int) : List Int := closeOf H ((lensOf H).set p.toNat i)
def atSys (P : List (List Ins)) (H : List (List Event)) : Sys := ⟨P, stsOf P H, waysOf H P.length, H⟩
noncomputable def backIs (P : List (List Ins)) (S : List State) (W : List (List Item)) (H : List (List Event)) (p i : Int) : Sys × Int :=
  if sysOk P S W H = true then (if hasCut H p i = true then (if waysFit (cutH H (backCutOf H p i)) P.length = true then (atSys P (cutH H (backCutOf H p i)), 0) else (⟨P, S, W, H⟩, 3)) else (⟨P, S, W, H⟩, 2)) else (⟨[], [], [], []⟩, 1)
def sysRes (X : Sys) (n : Int) (b : List (Option Cont)) : Res := ⟨.tu [nSys 0 X.progs X.states X.ways X.hist, i64 n], [tInsSS9 X.progs, tStateS9 X.states, tItemSS9 X.ways, tEventSS9 X.hist], b⟩
noncomputable def undoneIs (P : List (List Ins)) (S : List State) (W : List (List Item)) (H : List (List Event)) (p i : Int) : List Int := if (backIs P S W H p i).2 = 0 then (List.range H.length).map fun q => ((rd H q).length : Int) - ((rd (backIs P S W H p i).1.hist q).length : Int) else []
def lastOf (H : List (List Event)) (p : Int) : Int := if 0 ≤ p ∧ p ≤ (H.length : Int) - 1 then ((rd H p.toNat).length : Int) - 1 else -1
end Go.Proofs.YtipfcgbhaalcdaaGreat.Abs
namespace Go.Proofs.YtipfcgbhaalcdaaGreat.Abs
open Go Go.Proofs
set_option linter.unusedVariables false
set_option linter.unusedSimpArgs false
attribute [local irreducible] callE
def mItem (m : Int) (x : Item) : Item := ⟨decide (m.tmod 3 = 0), m + 1⟩
def wItem (x : Item) : Nat := 2
def mWho (m : Int) (x : Who) : Who := ⟨m, m + 1⟩
def wWho (x : Who) : Nat := 2
def mInsL (m : Int) (x : List Ins) : List Ins := marks mIns wIns m x
def wInsL (x : List Ins) : Nat := 5 * x.length
def mItemL (m : Int) (x : List Item) : List Item := marks mItem wItem m x
def wItemL (x : List Item) : Nat := 2 * x.length
def mEventL (m : Int) (x : List Event) : List Event := marks mEvent wEvent m x
def wEventL (x : List Event) : Nat := 3 * x.length
def mState (m : Int) (x : State) : State := ⟨m, marksI (m + 1) x.regs, marksI (m + 1 + x.regs.length) x.out, m + 1 + x.regs.length + x.out.length⟩
def wState (x : State) : Nat := 2 + x.regs.length + x.out.length
def sysW (P : List (List Ins)) (S : List State) (W : List (List Item)) (H : List (List Event)) : Nat := wts wInsL P + (wts wState S + (wts wItemL W + wts wEventL H))
def mkP (m : Int) (P : List (List Ins)) : List (List Ins) := marks mInsL wInsL m P
def mkS (m : Int) (P : List (List Ins)) (S : List State) : List State := marks mState wState (m + wts wInsL P) S
def mkW (m : Int) (P : List (List Ins)) (S : List State) (W : List (List Item)) : List (List Item) := marks mItemL wItemL (m + wts wInsL P + wts wState S) W
def mkH (m : Int) (P : List (List Ins)) (S : List State) (W : List (List Item)) (H : List (List Event)) : List (List Event) := marks mEventL wEventL (m + wts wInsL P + wts wState S + wts wItemL W) H
end Go.Proofs.YtipfcgbhaalcdaaGreat.Abs
namespace Go.Proofs.YtipfcgbhaalcdaaGreat.Abs
open Go Go.Proofs
set_option linter.unusedVariables false
set_option linter.unusedSimpArgs false
attribute [local irreducible] callE
structure SysG (X : Sys) : Prop where
  b : SysB 1048576 X.progs X.states X.ways X.hist
  w : sysW X.progs X.states X.ways X.hist ≤ 500000000
theorem sysG_of {X : Sys} (hB : SysB 1048576 X.progs X.states X.ways X.hist) (n1 : X.progs.length ≤ 4) (n2 : X.states.length ≤ 4) (n3 : X.ways.length ≤ 16) (n4 : X.hist.length ≤ 4) : SysG X := by
  refine ⟨hB, ?_⟩
  have h1 := wts_bound wInsL 5242880 X.progs fun j hj => by have := hB.pp j hj; unfold wInsL; omega
  have h2 := wts_bound wState 2097154 X.states fun j hj => by have := hB.ss j hj; unfold wState; omega
  have h3 := wts_bound wItemL 2097152 X.ways fun j hj => by have := hB.ww j hj; unfold wItemL; omega
  have h4 := wts_bound wEventL 3145728 X.hist fun j hj => by have := hB.hh j hj; unfold wEventL; omega
  unfold sysW
  omega
end Go.Proofs.YtipfcgbhaalcdaaGreat.Abs
namespace Go.Proofs.YtipfcgbhaalcdaaGreat.Abs
open Go Go.Proofs
set_option linter.unusedVariables false
set_option linter.unusedSimpArgs false
attribute [local irreducible] callE
def askedOf (x : Ins) (peer : Int) : Int := if x.n = 9 then peer else x.n
def srcIs (n : Nat) (W : List (List Item)) (p : Nat) (q : Int) : Int × Int :=
  if 0 ≤ q ∧ q ≤ (n : Int) - 1 then (if (rd W (q.toNat * n + p)).length = 0 then (0, 3) else if (rd (rd W (q.toNat * n + p)) 0).mark = true then (0, 5) else (q, 0)) else (0, 2)
def wantsOf (P : List (List Ins)) (S : List State) (p : Nat) : Event := next (rd P p) (rd S p)
def insAt (P : List (List Ins)) (S : List State) (p : Nat) : Ins := rd (rd P p) (rd S p).at_.toNat
def comingIs (P : List (List Ins)) (S : List State) (W : List (List Item)) (H : List (List Event)) (p peer : Int) : Event × Int :=
  if 0 ≤ p ∧ p ≤ (P.length : Int) - 1 then
    (if (rd S p.toNat).code = 0 then
      (if (200 : Int) ≤ ((rd H p.toNat).length : Int) then (⟨0, 0, 0⟩, 4) else
        if (wantsOf P S p.toNat).kind = 2 then (if (12 : Int) ≤ ((rd W (p.toNat * P.length + (wantsOf P S p.toNat).peer.toNat)).length : Int) then (⟨0, 0, 0⟩, 4) else (wantsOf P S p.toNat, 0))
        else if (wantsOf P S p.toNat).kind = 3 then
          (if (srcIs P.length W p.toNat (askedOf (insAt P S p.toNat) peer)).2 = 0 then (⟨3, askedOf (insAt P S p.toNat) peer, (rd (rd W ((askedOf (insAt P S p.toNat) peer).toNat * P.length + p.toNat)) 0).v⟩, 0) else (⟨0, 0, 0⟩, (srcIs P.length W p.toNat (askedOf (insAt P S p.toNat) peer)).2))
        else (wantsOf P S p.toNat, 0))
    else (⟨0, 0, 0⟩, 6))
  else (⟨0, 0, 0⟩, 2)
def stepW (n : Nat) (W : List (List Item)) (p : Nat) (e : Event) : List (List Item) :=
  if e.kind = 2 then W.set (p * n + e.peer.toNat) (rd W (p * n + e.peer.toNat) ++ [⟨false, e.v⟩]) else if e.kind = 3 then W.set (e.peer.toNat * n + p) ((rd W (e.peer.toNat * n + p)).drop 1) else W
def stepS (P : List (List Ins)) (S : List State) (W : List (List Item)) (H : List (List Event)) (p : Nat) (e : Event) : Sys :=
  ⟨P, S.set p (did (rd P p) (rd S p) e), stepW P.length W p e, H.set p (rd H p ++ [e])⟩
def stepIs (P : List (List Ins)) (S : List State) (W : List (List Item)) (H : List (List Event)) (p peer : Int) : Sys × Int :=
  if (comingIs P S W H p peer).2 = 0 then (stepS P S W H p.toNat (comingIs P S W H p peer).1, 0) else (⟨P, S, W, H⟩, (comingIs P S W H p peer).2)
structure ComesAt (P : List (List Ins)) (S : List State) (W : List (List Item)) (H : List (List Event)) (p : Nat) (e : Event) : Prop where
  lt : p < P.length
  code : (rd S p).code = 0
  few : (rd H p).length < 200
  comes : comes e (next (rd P p) (rd S p)) = true
  send : e.kind = 2 → (0 ≤ e.peer ∧ e.peer.toNat < P.length) ∧ (rd W (p * P.length + e.peer.toNat)).length < 12
  take : e.kind = 3 → (0 ≤ e.peer ∧ e.peer.toNat < P.length) ∧ 0 < (rd W (e.peer.toNat * P.length + p)).length ∧ (rd (rd W (e.peer.toNat * P.length + p)) 0).mark = false ∧ e.v = (rd (rd W (e.peer.toNat * P.length + p)) 0).v
theorem next_kind {l : List Ins} {s : State} : (next l s).kind = 2 ∧ (rd l s.at_.toNat).op = 6 ∧ (next l s).peer = (rd l s.at_.toNat).n ∨ (next l s).kind = 3 ∧ (rd l s.at_.toNat).op = 7 ∧ next l s = ⟨3, (rd l s.at_.toNat).n, 0⟩ ∨ (next l s).kind ≠ 2 ∧ (next l s).kind ≠ 3 := by
  unfold next
  by_cases h6 : (rd l s.at_.toNat).op = 6
  · left; simp [h6]
  · by_cases h7 : (rd l s.at_.toNat).op = 7
    · right; left; simp [h7]
    · right; right
      by_cases h8 : (rd l s.at_.toNat).op = 8 <;> simp [h6, h7, h8]
theorem insOk_peer {x : Ins} {m n : Int} (h : insOk x m n = true) (h6 : x.op = 6) : 0 ≤ x.n ∧ x.n ≤ n - 1 := by
  simp only [insOk, h6, inB, Bool.and_eq_true, decide_eq_true_eq] at h
  simp at h
  omega
theorem comes_self {w : Event} (h : w.kind ≠ 3) : comes w w = true := by rw [comes_other h]; simp
theorem coming_comes {P : List (List Ins)} {S : List State} {W : List (List Item)} {H : List (List Event)} {p peer : Int} (hs : sysOk P S W H = true) (h : (comingIs P S W H p peer).2 = 0) : 0 ≤ p ∧ ComesAt P S W H p.toNat (comingIs P S W H p peer).1 := by
  simp only [sysOk, sizesOk, inB, Bool.and_eq_true, decide_eq_true_eq, allBelow_eq, List.all_eq_true] at hs
  obtain ⟨⟨a1, a2, a3, a4⟩, b1, b2, b3, b4⟩ := hs
  unfold comingIs at h ⊢
  by_cases c1 : 0 ≤ p ∧ p ≤ (P.length : Int) - 1
  · rw [if_pos c1] at h ⊢
    refine ⟨c1.1, ?_⟩
    have hp : p.toNat < P.length := by omega
    have hpr := b2 p.toNat hp
    simp only [procOk, Bool.and_eq_true] at hpr
    obtain ⟨e1, e2, e3, e4, e5⟩ := stood_evOk hpr.2.2
    have hat0 := e2.at0
    have hat1 := e2.at1
    have hio := progOk_iok e3 (i := (rd S p.toNat).at_.toNat) (by omega)
    by_cases c2 : (rd S p.toNat).code = 0
    · rw [if_pos c2] at h ⊢
      by_cases c3 : (200 : Int) ≤ ((rd H p.toNat).length : Int)
      · rw [if_pos c3] at h; exact absurd h (by show ¬ (4 : Int) = 0; decide)
      · rw [if_neg c3] at h ⊢
        by_cases c4 : (wantsOf P S p.toNat).kind = 2
        · rw [if_pos c4] at h ⊢
          by_cases c5 : (12 : Int) ≤ ((rd W (p.toNat * P.length + (wantsOf P S p.toNat).peer.toNat)).length : Int)
          · rw [if_pos c5] at h; exact absurd h (by show ¬ (4 : Int) = 0; decide)
          · rw [if_neg c5] at h ⊢
            have hk := @next_kind (rd P p.toNat) (rd S p.toNat)
            have hpe : 0 ≤ (wantsOf P S p.toNat).peer ∧ (wantsOf P S p.toNat).peer ≤ (P.length : Int) - 1 := by
              rcases hk with hk | hk | hk
              · have h6 := hk.2.1
                have hx : insOk (rd (rd P p.toNat) (rd S p.toNat).at_.toNat) (rd P p.toNat).length P.length = true := by
                  have h1 := hpr.1
                  simp only [progOk, Bool.and_eq_true, List.all_eq_true] at h1
                  exact h1.2 _ (rd_mem (by omega))
                show 0 ≤ (next _ _).peer ∧ (next _ _).peer ≤ _
                rw [hk.2.2]
                exact insOk_peer hx h6
              · exact absurd hk.1 (by show ¬ (wantsOf P S p.toNat).kind = 3; omega)
              · exact absurd c4 hk.1
            exact ⟨hp, c2, by omega, comes_self (by show (wantsOf P S p.toNat).kind ≠ 3; omega), fun _ => ⟨⟨hpe.1, by show (wantsOf P S p.toNat).peer.toNat < _; omega⟩, by show (rd W (p.toNat * P.length + (wantsOf P S p.toNat).peer.toNat)).length < 12; omega⟩, fun h3 => absurd h3 (by show ¬ (wantsOf P S p.toNat).kind = 3; omega)⟩
        · rw [if_neg c4] at h ⊢
          by_cases c6 : (wantsOf P S p.toNat).kind = 3
          · rw [if_pos c6] at h ⊢
            generalize hq : askedOf (insAt P S p.toNat) peer = q at h ⊢
            by_cases c7 : (srcIs P.length W p.toNat q).2 = 0
            · rw [if_pos c7] at h ⊢
              unfold srcIs at c7
              by_cases d1 : 0 ≤ q ∧ q ≤ (P.length : Int) - 1
              · rw [if_pos d1] at c7
                by_cases d2 : (rd W (q.toNat * P.length + p.toNat)).length = 0
                · rw [if_pos d2] at c7; exact absurd c7 (by show ¬ (3 : Int) = 0; decide)
                · rw [if_neg d2] at c7
                  by_cases d3 : (rd (rd W (q.toNat * P.length + p.toNat)) 0).mark = true
                  · rw [if_pos d3] at c7; exact absurd c7 (by show ¬ (5 : Int) = 0; decide)
                  · have hpl := place_lt (n := P.length) (a := q.toNat) (b := p.toNat) (by omega) hp
                    have hw := b1 (rd W (q.toNat * P.length + p.toNat)) (rd_mem (by omega))
                    simp only [wayOk, Bool.and_eq_true, List.all_eq_true] at hw
                    have hit := hw.2 (rd (rd W (q.toNat * P.length + p.toNat)) 0) (rd_mem (by omega))
                    simp only [itemOk, numOk, Bool.and_eq_true, decide_eq_true_eq] at hit
                    have hk := @next_kind (rd P p.toNat) (rd S p.toNat)
                    have h7 : (rd (rd P p.toNat) (rd S p.toNat).at_.toNat).op = 7 ∧ next (rd P p.toNat) (rd S p.toNat) = ⟨3, (rd (rd P p.toNat) (rd S p.toNat).at_.toNat).n, 0⟩ := by
                      rcases hk with hk | hk | hk
                      · exact absurd hk.1 c4
                      · exact hk.2
                      · exact absurd c6 hk.2
                    have htk := hio.take h7.1
                    refine ⟨hp, c2, by omega, ?_, fun h3 => absurd h3 (by show ¬ (3 : Int) = 2; decide), fun _ => ⟨⟨d1.1, by show q.toNat < _; omega⟩, by show 0 < (rd W (q.toNat * P.length + p.toNat)).length; omega, by simpa using d3, rfl⟩⟩
                    rw [h7.2, comes_take]
                    refine ⟨rfl, hit.1, ?_⟩
                    show q = _ ∧ _ ∨ _ ∧ 0 ≤ q ∧ q ≤ 3
                    rw [← hq]
                    unfold askedOf insAt
                    by_cases h9 : (rd (rd P p.toNat) (rd S p.toNat).at_.toNat).n = 9
                    · right
                      rw [if_pos h9]
                      refine ⟨h9, ?_⟩
                      have : q = peer := by rw [← hq, askedOf, insAt, if_pos h9]
                      omega
                    · left
                      rw [if_neg h9]
                      exact ⟨rfl, h9⟩
              · rw [if_neg d1] at c7; exact absurd c7 (by show ¬ (2 : Int) = 0; decide)
            · rw [if_neg c7] at h; exact absurd h c7
          · rw [if_neg c6] at h ⊢
            exact ⟨hp, c2, by omega, comes_self c6, fun h3 => absurd h3 c4, fun h3 => absurd h3 c6⟩
    · rw [if_neg c2] at h; exact absurd h (by show ¬ (6 : Int) = 0; decide)
  · rw [if_neg c1] at h; exact absurd h (by show ¬ (2 : Int) = 0; decide)
theorem rd_put {α : Type} [Inhabited α] {l : List α} {b q : Nat} (x : α) (hb : b < l.length) : rd (l.set b x) q = if q = b then x else rd l q := by
  simp only [rd, List.getD_eq_getElem?_getD, List.getElem?_set]
  by_cases h : b = q
  · subst h; simp [hb]
  · rw [if_neg h, if_neg (fun e => h e.symm)]
theorem vals_end (es : List Event) (e : Event) (x y : Int) : vals (es ++ [e]) x y = vals es x y ++ (if isEv x y e = true then [e.v] else []) := by
  simp only [vals, List.filter_append, List.map_append]
  by_cases h : isEv x y e = true
  · rw [if_pos h]; simp [h]
  · rw [if_neg h]; simp [h]
theorem numbers_end (w : List Item) (v : Int) : numbersOf (w ++ [⟨false, v⟩]) = numbersOf w ++ [v] := by simp [numbersOf]
theorem numbers_drop {w : List Item} (h : 0 < w.length) (hm : (rd w 0).mark = false) : numbersOf w = (rd w 0).v :: numbersOf (w.drop 1) := by
  cases w with
  | nil => simp at h
  | cons x w =>
    have e : rd (x :: w) 0 = x := rfl
    rw [e] at hm ⊢
    simp [numbersOf, hm]
theorem reach_more {H : List (List Event)} {p : Nat} {e : Event} (hP : PeersIn H) (hp : p < H.length) {f : List Int} {n : Nat} (h : Reach H f n) : Reach (H.set p (rd H p ++ [e])) f n := by
  have hr : ∀ q, rd (H.set p (rd H p ++ [e])) q = if q = p then rd H p ++ [e] else rd H q := fun q => rd_put _ hp
  have hpre : ∀ q (k : Nat), k ≤ (rd H q).length → (rd (H.set p (rd H p ++ [e])) q).take k = (rd H q).take k := fun q k hk => by
    rw [hr]
    split
    · rename_i hq; subst hq; rw [List.take_append_of_le_length hk]
    · rfl
  have hel : ∀ q (k : Nat), k < (rd H q).length → rd (rd (H.set p (rd H p ++ [e])) q) k = rd (rd H q) k := fun q k hk => by
    rw [hr]
    split
    · rename_i hq; subst hq; simp only [rd, List.getD_eq_getElem?_getD] at hk ⊢; rw [List.getElem?_append_left hk]
    · rfl
  induction h with
  | zero =>
    have := @Reach.zero (H.set p (rd H p ++ [e]))
    rwa [List.length_set] at this
  | @step f n q h hq hc ih =>
    have hf := h.fok
    have hlt := can_lt hf hq hc
    have h0 := (hf.rng q hq).1
    refine ih.step (by rw [List.length_set]; exact hq) ?_
    unfold canCome at hc ⊢
    rw [hel q _ (by omega), hpre q _ (by omega)]
    simp only [Bool.and_eq_true, Bool.not_eq_true', Bool.and_eq_false_iff, decide_eq_true_eq, decide_eq_false_iff_not] at hc ⊢
    refine ⟨?_, ?_⟩
    · rw [hr]
      split
      · rename_i hq'; subst hq'; simp; omega
      · exact hc.1
    · rcases hc.2 with h1 | h1
      · exact .inl h1
      · by_cases hk : (rd (rd H q) (rd f q).toNat).kind = 3
        · right
          have hpe := hP q hq (rd f q).toNat (by omega) hk
          have hfr := hf.rng (rd (rd H q) (rd f q).toNat).peer.toNat (by omega)
          rw [hpre _ _ (by omega)]
          exact h1
        · exact .inl hk
theorem allEv_set : ∀ {H : List (List Event)} {p : Nat} {e : Event}, p < H.length → allEv (H.set p (rd H p ++ [e])) = allEv H + 1
  | h :: H, 0, e, _ => by simp [allEv, rd]; omega
  | h :: H, p + 1, e, hp => by
    have := allEv_set (H := H) (p := p) (e := e) (by simpa using hp)
    simp only [allEv, List.set_cons_succ, List.map_cons, List.sum_cons] at this ⊢
    rw [show rd (h :: H) (p + 1) = rd H p from rfl, this]
    omega

theorem step_fits {P : List (List Ins)} {S : List State} {W : List (List Item)} {H : List (List Event)} {p : Nat} {e : Event} (hh : H.length = P.length) (hwl : W.length = P.length * P.length) (hc : ComesAt P S W H p e) {a b : Nat} (ha : a < P.length) (hb : b < P.length) (h : fits P.length W H a b = true) : fits P.length (stepW P.length W p e) (H.set p (rd H p ++ [e])) a b = true := by
  have hp := hc.lt
  have hr : ∀ q, rd (H.set p (rd H p ++ [e])) q = if q = p then rd H p ++ [e] else rd H q := fun q => rd_put _ (by omega)
  have hv : ∀ q (x y : Int), vals (rd (H.set p (rd H p ++ [e])) q) x y = vals (rd H q) x y ++ (if q = p ∧ isEv x y e = true then [e.v] else []) := fun q x y => by
    rw [hr]
    by_cases hq : q = p
    · subst hq
      rw [if_pos rfl, vals_end]
      by_cases hi : isEv x y e = true
      · rw [if_pos hi, if_pos ⟨rfl, hi⟩]
      · rw [if_neg hi, if_neg (fun h => hi h.2)]
    · rw [if_neg hq, if_neg (fun h => hq h.1), List.append_nil]
  simp only [fits, decide_eq_true_eq] at h ⊢
  rw [hv, hv]
  unfold stepW
  by_cases k2 : e.kind = 2
  · have hs := hc.send k2
    rw [if_pos k2, if_neg (show ¬ (b = p ∧ isEv 3 a e = true) by simp [isEv, k2]), List.append_nil]
    have hpl := place_lt hp hs.1.2
    rw [rd_put _ (by omega)]
    by_cases hab : a = p ∧ b = e.peer.toNat
    · obtain ⟨rfl, rfl⟩ := hab
      rw [if_pos rfl, if_pos ⟨rfl, by simp [isEv, k2]; omega⟩, numbers_end, ← List.append_assoc, h]
    · have hne : ¬ a * P.length + b = p * P.length + e.peer.toNat := fun he => by
        have h1 := place_div (n := P.length) (a := a) hb
        have h2 := place_div (n := P.length) (a := p) hs.1.2
        rw [he] at h1
        exact hab ⟨by rw [← h1.1, h2.1], by rw [← h1.2, h2.2]⟩
      rw [if_neg hne, if_neg (fun h3 => hab ⟨h3.1, by have := h3.2; simp [isEv, k2] at this; omega⟩), List.append_nil, h]
  · rw [if_neg k2, if_neg (show ¬ (a = p ∧ isEv 2 b e = true) by simp [isEv, k2]), List.append_nil]
    by_cases k3 : e.kind = 3
    · have ht := hc.take k3
      rw [if_pos k3]
      have hpl := place_lt ht.1.2 hp
      rw [rd_put _ (by omega)]
      by_cases hab : a = e.peer.toNat ∧ b = p
      · obtain ⟨rfl, rfl⟩ := hab
        rw [if_pos rfl, if_pos ⟨rfl, by simp [isEv, k3]; omega⟩, ht.2.2.2, ← h, numbers_drop ht.2.1 ht.2.2.1]
        simp
      · have hne : ¬ a * P.length + b = e.peer.toNat * P.length + p := fun he => by
          have h1 := place_div (n := P.length) (a := a) hb
          have h2 := place_div (n := P.length) (a := e.peer.toNat) hp
          rw [he] at h1
          exact hab ⟨by rw [← h1.1, h2.1], by rw [← h1.2, h2.2]⟩
        rw [if_neg hne, if_neg (fun h3 => hab ⟨by have := h3.2; simp [isEv, k3] at this; omega, h3.1⟩), List.append_nil, h]
    · rw [if_neg k3, if_neg (show ¬ (b = p ∧ isEv 3 a e = true) by simp [isEv, k3]), List.append_nil, h]
theorem step_row {P : List (List Ins)} {S : List State} {W : List (List Item)} {H : List (List Event)} {p : Nat} {e : Event} (hs : sysOk P S W H = true) (hc : ComesAt P S W H p e) : inRow (H.set p (rd H p ++ [e])) = true := by
  obtain ⟨hI, hP, hS, h200⟩ := sysOk_facts hs
  simp only [sysOk, Bool.and_eq_true, allBelow_eq] at hs
  obtain ⟨_, _, _, b3, b4⟩ := hs
  have hHl := hI.h
  have hp := hc.lt
  have hpH : p < H.length := by omega
  simp only [inRow, decide_eq_true_eq] at b4 ⊢
  obtain ⟨g, k, h1, h2, h3⟩ := greedy_reach (H := H) (allEv H) .zero (by omega)
  have e1 : k = allEv H := by unfold rowOf at b4; omega
  have hg := (sum_le H g h1.fok.len fun q hq => (h1.fok.rng q hq).2).2 (by rw [h1.sum, e1])
  have hr : ∀ q, rd (H.set p (rd H p ++ [e])) q = if q = p then rd H p ++ [e] else rd H q := fun q => rd_put _ hpH
  have h4 := reach_more (e := e) hP hpH h1
  have hPI : PeersIn (H.set p (rd H p ++ [e])) := by
    intro q hq i hi hk
    rw [List.length_set] at hq ⊢
    rw [hr] at hi hk ⊢
    split at hi
    · rename_i hqp; subst hqp
      rw [if_pos rfl] at hk ⊢
      rw [List.length_append, List.length_singleton] at hi
      by_cases hil : i < (rd H q).length
      · have e0 : rd (rd H q ++ [e]) i = rd (rd H q) i := by simp only [rd, List.getD_eq_getElem?_getD] at hil ⊢; rw [List.getElem?_append_left hil]
        rw [e0] at hk ⊢
        exact hP q hq i hil hk
      · have e0 : rd (rd H q ++ [e]) i = e := by
          have : i = (rd H q).length := by omega
          rw [this]; simp [rd]
        rw [e0] at hk ⊢
        have := (hc.take hk).1
        omega
    · rename_i hqp
      rw [if_neg hqp] at hk ⊢
      exact hP q hq i hi hk
  have hcan : canCome (H.set p (rd H p ++ [e])) g p = true := by
    unfold canCome
    have hgp := hg p hpH
    rw [hr, if_pos rfl, hgp]
    have e0 : rd (rd H p ++ [e]) (((rd H p).length : Int).toNat) = e := by simp [rd]
    rw [e0]
    simp only [Bool.and_eq_true, Bool.not_eq_true', Bool.and_eq_false_iff, decide_eq_true_eq, decide_eq_false_iff_not]
    refine ⟨by rw [List.length_append, List.length_singleton]; omega, ?_⟩
    by_cases k3 : e.kind = 3
    · right
      have ht := hc.take k3
      have hz : e.peer.toNat < H.length := by omega
      have hgz := hg _ hz
      have e5 : (rd (H.set p (rd H p ++ [e])) e.peer.toNat).take (rd g e.peer.toNat).toNat = rd H e.peer.toNat := by
        rw [hr, hgz]
        split
        · rename_i hq; rw [hq]; simp
        · simp
      have e6 : (rd H p ++ [e]).take (((rd H p).length : Int).toNat) = rd H p := by simp
      rw [e5, e6]
      have hf := b3 e.peer.toNat (by omega) p hp
      simp only [fits, decide_eq_true_eq] at hf
      have h5 := congrArg List.length hf
      rw [List.length_append, numbers_drop ht.2.1 ht.2.2.1, List.length_cons] at h5
      rw [show ((e.peer.toNat : Nat) : Int) = e.peer by omega] at h5
      simp only [cnt]
      omega
    · exact .inl k3
  have h6 := h4.step (by rw [List.length_set]; exact hpH) hcan
  have ha := allEv_set (e := e) hpH
  rw [ha]
  have hfull := h6.full (by omega)
  rw [row_len hPI h6 hfull, e1]
theorem replay_more {l : List Ins} {es : List Event} {s : State} {e : Event} (h : stoodAs l es s = true) (hc : s.code = 0) (hn : es.length < 200) (hk : comes e (next l s) = true) : stoodAs l (es ++ [e]) (did l s e) = true := by
  obtain ⟨_, _, h3, h4, h5⟩ := stood_evOk h
  have e1 : replayAll l (es ++ [e]) = some (did l s e) := by
    unfold replayAll
    rw [if_pos ⟨h3, by rw [List.length_append, List.length_singleton]; omega⟩, replay_append, h5]
    show replay l s [e] = _
    rw [replay, if_pos ⟨hc, hk⟩, replay]
  simp only [stoodAs, e1, Option.isSome_some, Bool.true_and, decide_eq_true_eq]
  rfl
theorem step_sysOk {P : List (List Ins)} {S : List State} {W : List (List Item)} {H : List (List Event)} {p : Nat} {e : Event} (hs : sysOk P S W H = true) (hc : ComesAt P S W H p e) :
    sysOk P (S.set p (did (rd P p) (rd S p) e)) (stepW P.length W p e) (H.set p (rd H p ++ [e])) = true := by
  have hrow := step_row hs hc
  simp only [sysOk, sizesOk, inB, Bool.and_eq_true, decide_eq_true_eq, allBelow_eq, List.all_eq_true] at hs ⊢
  obtain ⟨⟨a1, a2, a3, a4⟩, b1, b2, b3, b4⟩ := hs
  have hp := hc.lt
  have hpr := b2 p hp
  simp only [procOk, Bool.and_eq_true] at hpr
  obtain ⟨e1, e2, e3, e4, e5⟩ := stood_evOk hpr.2.2
  have hat0 := e2.at0
  have hat1 := e2.at1
  have hio := progOk_iok e3 (i := (rd S p).at_.toNat) (by omega)
  have hev := comes_evOk e2 hio hc.comes
  have hwl : (stepW P.length W p e).length = W.length := by
    unfold stepW
    split
    · rw [List.length_set]
    · split
      · rw [List.length_set]
      · rfl
  refine ⟨⟨a1, by rw [List.length_set]; exact a2, by rw [List.length_set]; exact a3, by rw [hwl]; exact a4⟩, ?_, ?_, fun a ha b hb => step_fits a3 a4 hc ha hb (b3 a ha b hb), hrow⟩
  · intro w hw
    unfold stepW at hw
    split at hw
    · rename_i k2
      have hsd := hc.send k2
      have hpl := place_lt hp hsd.1.2
      rcases List.mem_or_eq_of_mem_set hw with h | h
      · exact b1 w h
      · have h1 := b1 _ (rd_mem (l := W) (n := p * P.length + e.peer.toNat) (by omega))
        have hnum := comes_num e2 hio hc.comes k2
        rw [h]
        simp only [wayOk, Bool.and_eq_true, decide_eq_true_eq, List.all_append] at h1 ⊢
        refine ⟨by rw [List.length_append, List.length_singleton]; omega, h1.2, ?_⟩
        simp [itemOk, numOk, hnum]
    · split at hw
      · rename_i k3
        have ht := hc.take k3
        have hpl := place_lt ht.1.2 hp
        rcases List.mem_or_eq_of_mem_set hw with h | h
        · exact b1 w h
        · have h1 := b1 _ (rd_mem (l := W) (n := e.peer.toNat * P.length + p) (by omega))
          rw [h]
          simp only [wayOk, Bool.and_eq_true, decide_eq_true_eq, List.all_eq_true] at h1 ⊢
          exact ⟨by rw [List.length_drop]; omega, fun x hx => h1.2 x (List.mem_of_mem_drop hx)⟩
      · exact b1 w hw
  · intro q hq
    have h1 := b2 q hq
    simp only [procOk, Bool.and_eq_true] at h1 ⊢
    rw [rd_put _ (show p < H.length by omega), rd_put _ (show p < S.length by omega)]
    by_cases hqp : q = p
    · subst hqp
      rw [if_pos rfl, if_pos rfl]
      refine ⟨h1.1, ?_, replay_more h1.2.2 hc.code hc.few hc.comes⟩
      simp only [peersOk, List.all_append, Bool.and_eq_true] at h1 ⊢
      refine ⟨h1.2.1, ?_⟩
      simp only [List.all_cons, List.all_nil, Bool.and_true, peerOk, Bool.not_eq_true', Bool.and_eq_false_iff, Bool.or_eq_false_iff, decide_eq_false_iff_not, inB, Bool.not_eq_false', decide_eq_true_eq]
      by_cases k2 : e.kind = 2
      · right; have := (hc.send k2).1; omega
      · by_cases k3 : e.kind = 3
        · right; have := (hc.take k3).1; omega
        · left; exact ⟨k2, k3⟩
    · rw [if_neg hqp, if_neg hqp]
      exact h1
theorem stepIs_sysOk {P : List (List Ins)} {S : List State} {W : List (List Item)} {H : List (List Event)} {p peer : Int} (hs : sysOk P S W H = true) : sysOk (stepIs P S W H p peer).1.progs (stepIs P S W H p peer).1.states (stepIs P S W H p peer).1.ways (stepIs P S W H p peer).1.hist = true := by
  unfold stepIs
  split
  · rename_i h
    exact step_sysOk hs (coming_comes hs h).2
  · exact hs

theorem ok_impl_wayAt_no (k : Nat) (P : List (List Ins)) (S : List State) (W : List (List Item)) (H : List (List Event)) (a b : Int) (hp : P.length ≤ 100000000000) (h : ¬ (0 ≤ a ∧ a ≤ (P.length : Int) - 1)) :
    callE PR C (k + 2) 146 [aSys 0 P S W H, i64 a, i64 b] [tInsSS P, tStateS S, tItemSS W, tEventSS H] = some ⟨i64 (-1), [], [none, none, none, none]⟩ := by
  have q1 := fun k => ok_impl_in k a 0 ((P.length : Int) - 1)
  rw [decide_eq_false h] at q1
  (refine fnI [ResultVar.tmp 6] Tryz.func146 ?_; conv => whnf)
  repeat' ((with_reducible (first | refine sCall.of (q1 _) ?_|refine st16 ?_|refine fG.split (fun _ => ?_) (fun _ => ?_)|refine fG.bool (fun _ => ?_) (fun _ => ?_))) <;> (try (conv => whnf)))
  all_goals rfl
structure ProcF (P : List (List Ins)) (S : List State) (H : List (List Event)) (p : Nat) : Prop where
  ok : SOk (rd P p).length (rd S p)
  io : IOk (rd P p).length (rd (rd P p) (rd S p).at_.toNat)
  pl : (rd P p).length ≤ 30
  peer : (next (rd P p) (rd S p)).kind = 2 → 0 ≤ (next (rd P p) (rd S p)).peer ∧ (next (rd P p) (rd S p)).peer ≤ (P.length : Int) - 1
theorem procF_of {P : List (List Ins)} {S : List State} {W : List (List Item)} {H : List (List Event)} {p : Nat} (hs : sysOk P S W H = true) (hp : p < P.length) : ProcF P S H p := by
  simp only [sysOk, Bool.and_eq_true, allBelow_eq] at hs
  have hpr := hs.2.2.1 p hp
  simp only [procOk, Bool.and_eq_true] at hpr
  obtain ⟨e1, e2, e3, e4, e5⟩ := stood_evOk hpr.2.2
  have hat0 := e2.at0
  have hat1 := e2.at1
  refine ⟨e2, progOk_iok e3 (by omega), (progOk_len e3).2, fun h => ?_⟩
  rcases @next_kind (rd P p) (rd S p) with hk | hk | hk
  · rw [hk.2.2]
    have h1 := hpr.1
    simp only [progOk, Bool.and_eq_true, List.all_eq_true] at h1
    exact insOk_peer (h1.2 _ (rd_mem (by omega))) hk.2.1
  · omega
  · exact absurd h hk.1
theorem sysOk_G {P : List (List Ins)} {S : List State} {W : List (List Item)} {H : List (List Event)} (h : sysOk P S W H = true) : SysG ⟨P, S, W, H⟩ := by
  obtain ⟨hI, hP, hS, h200⟩ := sysOk_facts h
  have hN := hI.n
  have hsl := hI.s
  have hwl := hI.w
  have hHl := hI.h
  have hnn : P.length * P.length ≤ 4 * 4 := Nat.mul_le_mul hN.2 hN.2
  have h' := h
  simp only [sysOk, Bool.and_eq_true, List.all_eq_true] at h'
  refine sysG_of ⟨by show P.length ≤ _; omega, fun j hj => ?_, by show S.length ≤ _; omega, fun j hj => ?_, by show W.length ≤ _; omega, fun j hj => ?_, by show H.length ≤ _; omega, fun j hj => ?_⟩ hN.2 (by show S.length ≤ _; omega) (by show W.length ≤ _; omega) (by show H.length ≤ _; omega)
  · have hj : j < P.length := hj
    have := (procF_of h hj).pl
    show (rd P j).length ≤ _
    omega
  · have hj : j < S.length := hj
    have h1 := (procF_of (p := j) h (by omega)).ok
    have h2 := h1.regs
    have h3 := h1.out
    show (rd S j).regs.length ≤ _ ∧ (rd S j).out.length ≤ _
    omega
  · have hj : j < W.length := hj
    have h1 := h'.2.1 _ (rd_mem hj)
    simp only [wayOk, Bool.and_eq_true, decide_eq_true_eq] at h1
    show (rd W j).length ≤ _
    omega
  · have hj : j < H.length := hj
    have := h200 j hj
    show (rd H j).length ≤ _
    omega

end Go.Proofs.YtipfcgbhaalcdaaGreat.Abs
namespace Go.Proofs.YtipfcgbhaalcdaaGreat.Abs
open Go Go.Proofs
set_option linter.unusedVariables false
set_option linter.unusedSimpArgs false
attribute [local irreducible] callE
theorem gRec {a v : AV} {F : Bool → Prop} (h : F true) (e : isRecut a v = true := by simp [isRecut]) : sBool (isRecut a v) F := sBool.eq e h
theorem dropLim {l : List Item} {t n m : Nat} (h : l.length ≤ 10000000000) (hm : m ≤ 16) : (0 + (List.map rItem (List.take t (List.drop n l))).length) * m ≤ 140737488355328 ∧ 0 + (List.map rItem (List.take t (List.drop n l))).length ≤ 140737488355328 := by
  have h1 : 0 + (List.map rItem (List.take t (List.drop n l))).length ≤ 10000000000 := by simp; omega
  have h2 := Nat.mul_le_mul h1 hm
  exact ⟨by omega, by omega⟩
theorem step_no {P : List (List Ins)} {S : List State} {W : List (List Item)} {H : List (List Event)} {p peer n : Int} {e : Event} (h : comingIs P S W H p peer = (e, n)) (hn : ¬ n = 0) : stepIs P S W H p peer = (⟨P, S, W, H⟩, n) := by
  unfold stepIs; rw [h, if_neg hn]
theorem step_yes {P : List (List Ins)} {S : List State} {W : List (List Item)} {H : List (List Event)} {p : Nat} {peer : Int} {e : Event} (h : comingIs P S W H p peer = (e, 0)) : stepIs P S W H p peer = (stepS P S W H p e, 0) := by
  unfold stepIs; rw [h, if_pos rfl]; rfl
theorem coming_peer {P : List (List Ins)} {S : List State} {W : List (List Item)} {H : List (List Event)} {p : Nat} {peer : Int} (c1 : 0 ≤ (p : Int) ∧ (p : Int) ≤ (P.length : Int) - 1) (c2 : (rd S p).code = 0) (c3 : ¬ (200 : Int) ≤ ((rd H p).length : Int)) (hk : (next (rd P p) (rd S p)).kind = 3) :
    comingIs P S W H p peer = (if (srcIs P.length W p (askedOf (insAt P S p) peer)).2 = 0 then (⟨3, askedOf (insAt P S p) peer, (rd (rd W ((askedOf (insAt P S p) peer).toNat * P.length + p)) 0).v⟩, 0) else (⟨0, 0, 0⟩, (srcIs P.length W p (askedOf (insAt P S p) peer)).2)) := by
  have hw3 : (wantsOf P S p).kind = 3 := hk
  unfold comingIs
  rw [if_pos c1, Int.toNat_natCast, if_pos c2, if_neg c3, if_neg (by omega), if_pos hw3]
theorem coming_send {P : List (List Ins)} {S : List State} {W : List (List Item)} {H : List (List Event)} {p b : Nat} {peer : Int} (c1 : 0 ≤ (p : Int) ∧ (p : Int) ≤ (P.length : Int) - 1) (c2 : (rd S p).code = 0) (c3 : ¬ (200 : Int) ≤ ((rd H p).length : Int)) (hk : (next (rd P p) (rd S p)).kind = 2) (hbq : (next (rd P p) (rd S p)).peer = (b : Int)) :
    comingIs P S W H p peer = (if (12 : Int) ≤ ((rd W (p * P.length + b)).length : Int) then (⟨0, 0, 0⟩, 4) else (next (rd P p) (rd S p), 0)) := by
  unfold comingIs
  rw [if_pos c1, Int.toNat_natCast, if_pos c2, if_neg c3, if_pos (show (wantsOf P S p).kind = 2 from hk), show (wantsOf P S p).peer = (b : Int) from hbq, Int.toNat_natCast]
  rfl
theorem coming_else {P : List (List Ins)} {S : List State} {W : List (List Item)} {H : List (List Event)} {p : Nat} {peer : Int} (c1 : 0 ≤ (p : Int) ∧ (p : Int) ≤ (P.length : Int) - 1) (c2 : (rd S p).code = 0) (c3 : ¬ (200 : Int) ≤ ((rd H p).length : Int)) (hk2 : (next (rd P p) (rd S p)).kind ≠ 2) (hk3 : (next (rd P p) (rd S p)).kind ≠ 3) :
    comingIs P S W H p peer = (next (rd P p) (rd S p), 0) := by
  unfold comingIs
  rw [if_pos c1, Int.toNat_natCast, if_pos c2, if_neg c3, if_neg (show ¬ (wantsOf P S p).kind = 2 from hk2), if_neg (show ¬ (wantsOf P S p).kind = 3 from hk3)]
  rfl
set_option maxRecDepth 20000 in
set_option maxHeartbeats 8000000 in
theorem ok_spec_l5Step (k : Nat) (P : List (List Ins)) (S : List State) (W : List (List Item)) (H : List (List Event)) (p peer : Int) (hb : SysB 10000000000 P S W H) (hs : sysOk P S W H = true) :
    callE PR C (k + 6) 153 [aSys 0 P S W H, i64 p, i64 peer] [tInsSS9 P, tStateS9 S, tItemSS9 W, tEventSS9 H] = some (sysRes (stepIs P S W H p peer).1 (stepIs P S W H p peer).2 [some .dead, some .dead, some .dead, some .dead]) := by
  obtain ⟨hI, hP, hS', h200⟩ := sysOk_facts hs
  have hN := hI.n
  have hsl := hI.s
  have hwl := hI.w
  have hHl := hI.h
  have q1 := fun k => ok_spec_l1In k p 0 ((P.length : Int) - 1)
  by_cases c1 : 0 ≤ p ∧ p ≤ (P.length : Int) - 1
  · rw [decide_eq_true c1] at q1
    obtain ⟨p, rfl⟩ : ∃ n : Nat, p = (n : Int) := ⟨p.toNat, by omega⟩
    have hp : p < P.length := by omega
    obtain ⟨f1, f2, f3, f4⟩ := procF_of hs hp
    have hh := h200 p (by omega)
    have e4 : (List.map rEvent (rd H p)).length = (rd H p).length := by simp
    have hat0 := f1.at0
    have hat1 := f1.at1
    by_cases c2 : (rd S p).code = 0
    · by_cases c3 : (200 : Int) ≤ ((rd H p).length : Int)
      · have hc : comingIs P S W H p peer = (⟨0, 0, 0⟩, 4) := by unfold comingIs; rw [if_pos c1, Int.toNat_natCast, if_pos c2, if_pos c3]
        rw [step_no hc (by decide)]
        (refine fnI [ResultVar.cell 6 29, ResultVar.tmp 7] Tryz.func153 ?_; conv => whnf)
        repeat' ((with_reducible (first | refine sCall.of (q1 _) ?_|refine st16 ?_|refine fG.split (fun _ => ?_) (fun _ => ?_)|refine fG.bool (fun _ => ?_) (fun _ => ?_)|refine gD 8 [(1, 11), (4, 11), (6, 11), (9, 11), (10, 11)] ?_|refine gD 14 [(1, 11), (4, 11), (7, 11), (1, 12)] ?_|refine gD 26 [(1, 8), (3, 8), (1, 11), (3, 11)] ?_|refine gD 27 [(1, 14)] ?_|refine gD 28 [(1, 9), (4, 9), (7, 9), (1, 10)] ?_)) <;> (try (conv => whnf)))
        all_goals rfl
      · have q2 : ∀ k, callE PR C (k + 1) 241 [hIns 0 (rd P p), aState 1 (rd S p).at_ (rd S p).regs (rd S p).out (rd S p).code] [tIns (rd P p), tI (rd S p).regs, tI (rd S p).out] = some ⟨aEvent (next (rd P p) (rd S p)), [], [none, none, none]⟩ := fun k => ok_spec_l2Next k (rd P p) (rd S p).at_ (rd S p).regs (rd S p).out (rd S p).code (by omega) f1 f2
        have q3 : ∀ e : Event, comes e (next (rd P p) (rd S p)) = true → ∀ k, callE PR C (k + 4) 242 [hIns 0 (rd P p), aState 1 (rd S p).at_ (rd S p).regs (rd S p).out (rd S p).code, aEvent e] [tIns (rd P p), tI (rd S p).regs, tI (rd S p).out] = some ⟨.tu [nSt 0 (did (rd P p) (rd S p) e), bl true], [tI9 (did (rd P p) (rd S p) e).regs, tI9 (did (rd P p) (rd S p) e).out], [none, none, none]⟩ := fun e he k => by
          rw [ok_spec_l2Do k (rd P p) (rd S p).at_ (rd S p).regs (rd S p).out (rd S p).code e (by omega) f1 f2]
          exact congrArg some (doRes_true (l := rd P p) (a := (rd S p).at_) (r := (rd S p).regs) (o := (rd S p).out) (c := (rd S p).code) he)
        rcases @next_kind (rd P p) (rd S p) with hk | hk | hk
        · have hpe := f4 hk.1
          obtain ⟨b, hbq⟩ : ∃ b : Nat, (next (rd P p) (rd S p)).peer = (b : Int) := ⟨_, (Int.toNat_of_nonneg hpe.1).symm⟩
          have hbl : b < P.length := by omega
          have hpl := place_lt hp hbl
          have hk2 := hk.1
          have hc := coming_send (W := W) (peer := peer) c1 c2 c3 hk2 hbq
          have q4 := q3 _ (comes_self (w := next (rd P p) (rd S p)) (by omega))
          have hwok : (rd W (p * P.length + b)).length ≤ 12 := by
            simp only [sysOk, Bool.and_eq_true, List.all_eq_true] at hs
            have h1 := hs.2.1 _ (rd_mem (l := W) (n := p * P.length + b) (by omega))
            simp only [wayOk, Bool.and_eq_true, decide_eq_true_eq] at h1
            exact h1.1
          have wm : IntKind.i64.wrap ((p : Int) * (P.length : Int)) = ((p * P.length : Nat) : Int) := by
            have := Nat.mul_le_mul (show p ≤ 4 by omega) hN.2
            rw [show (p : Int) * (P.length : Int) = ((p * P.length : Nat) : Int) by simp]; exact wrap_i64 _ (by omega) (by omega)
          have wa : IntKind.i64.wrap (((p * P.length : Nat) : Int) + (next (rd P p) (rd S p)).peer) = ((p * P.length + b : Nat) : Int) := by
            have := Nat.mul_le_mul (show p ≤ 4 by omega) hN.2
            rw [hbq, wrap_i64 _ (by omega) (by omega)]; simp
          by_cases c5 : (12 : Int) ≤ ((rd W (p * P.length + b)).length : Int)
          · rw [if_pos c5] at hc
            rw [step_no hc (by decide)]
            clear hc hk f4 hpe q3 q4
            generalize next (rd P p) (rd S p) = w at *
            obtain ⟨ix, hix⟩ : ∃ ix, ix = p * P.length + b := ⟨_, rfl⟩
            rw [← hix] at hpl hwok c5 wa
            clear hix
            generalize p * P.length = pm at *
            have e5 : (List.map rItem (rd W ix)).length = (rd W ix).length := by simp
            (refine fnI [ResultVar.cell 6 29, ResultVar.tmp 7] Tryz.func153 ?_; conv => whnf)
            repeat' ((with_reducible (first | refine sCall.of (q1 _) ?_|refine sCall.of (q2 _) ?_|refine sW.eq (wm) ?_|refine sW.eq (wa) ?_|refine st16 ?_|refine fG.split (fun _ => ?_) (fun _ => ?_)|refine fG.bool (fun _ => ?_) (fun _ => ?_)|refine gD 8 [(1, 11), (4, 11), (6, 11), (9, 11), (10, 11)] ?_|refine gD 14 [(1, 11), (4, 11), (7, 11), (1, 12)] ?_|refine gD 26 [(1, 8), (3, 8), (1, 11), (3, 11)] ?_|refine gD 27 [(1, 14)] ?_|refine gD 28 [(1, 9), (4, 9), (7, 9), (1, 10)] ?_)) <;> (try (conv => whnf)))
            all_goals rfl
          · rw [if_neg c5] at hc
            rw [step_yes hc]
            have hW : stepW P.length W p (next (rd P p) (rd S p)) = W.set (p * P.length + b) (rd W (p * P.length + b) ++ [⟨false, (next (rd P p) (rd S p)).v⟩]) := by
              unfold stepW
              rw [if_pos hk2, hbq]
              rfl
            simp only [sysRes, stepS, hW, nSys, List.length_set]
            clear hW hc hk f4 hpe q3
            generalize next (rd P p) (rd S p) = w at *
            obtain ⟨ix, hix⟩ : ∃ ix, ix = p * P.length + b := ⟨_, rfl⟩
            rw [← hix] at hpl hwok c5 wa ⊢
            clear hix
            generalize p * P.length = pm at *
            have e5 : (List.map rItem (rd W ix)).length = (rd W ix).length := by simp
            (refine fnI [ResultVar.cell 6 29, ResultVar.tmp 7] Tryz.func153 ?_; conv => whnf)
            repeat' ((with_reducible (first | refine sCall.of (q1 _) ?_|refine sCall.of (q2 _) ?_|refine sCall.of (q4 _) ?_|refine sW.eq (wm) ?_|refine sW.eq (wa) ?_|refine gHole ?_|refine st16 ?_|refine fG.split (fun _ => ?_) (fun _ => ?_)|refine fG.bool (fun _ => ?_) (fun _ => ?_)|refine gD 8 [(1, 11), (4, 11), (6, 11), (9, 11), (10, 11)] ?_|refine gD 14 [(1, 11), (4, 11), (7, 11), (1, 12)] ?_|refine gD 26 [(1, 8), (3, 8), (1, 11), (3, 11)] ?_|refine gD 27 [(1, 14)] ?_|refine gD 28 [(1, 9), (4, 9), (7, 9), (1, 10)] ?_)) <;> (try (conv => whnf)))
            all_goals rfl
        · have hc := coming_peer (W := W) (peer := peer) c1 c2 c3 hk.1
          have hcs : sysOk P S W H = true := hs
          have q2 : ∀ k, callE PR C (k + 1) 241 [hIns 0 (rd P p), aState 1 (rd S p).at_ (rd S p).regs (rd S p).out (rd S p).code] [tIns (rd P p), tI (rd S p).regs, tI (rd S p).out] = some ⟨aEvent ⟨3, (insAt P S p).n, 0⟩, [], [none, none, none]⟩ := fun k => by rw [show (⟨3, (insAt P S p).n, 0⟩ : Event) = next (rd P p) (rd S p) from hk.2.2.symm]; exact q2 k
          generalize hq : askedOf (insAt P S p) peer = q at hc
          have qI := fun k => ok_spec_l1In k q 0 ((P.length : Int) - 1)
          have hq9 : (insAt P S p).n = 9 ∧ q = peer ∨ ¬ (insAt P S p).n = 9 ∧ (insAt P S p).n = q := by
            unfold askedOf at hq
            by_cases h9 : (insAt P S p).n = 9
            · rw [if_pos h9] at hq; exact .inl ⟨h9, hq.symm⟩
            · rw [if_neg h9] at hq; exact .inr ⟨h9, hq⟩
          generalize (insAt P S p).n = xn at *
          by_cases d1 : 0 ≤ q ∧ q ≤ (P.length : Int) - 1
          · rw [decide_eq_true d1] at qI
            obtain ⟨b, rfl⟩ : ∃ n : Nat, q = (n : Int) := ⟨q.toNat, by omega⟩
            have hbl : b < P.length := by omega
            have hpl := place_lt hbl hp
            have hwx := hb.ww (b * P.length + p) (by omega)
            have wm : IntKind.i64.wrap ((b : Int) * (P.length : Int)) = ((b * P.length : Nat) : Int) := by
              have := Nat.mul_le_mul (show b ≤ 4 by omega) hN.2
              rw [show (b : Int) * (P.length : Int) = ((b * P.length : Nat) : Int) by simp]; exact wrap_i64 _ (by omega) (by omega)
            have wa : IntKind.i64.wrap (((b * P.length : Nat) : Int) + (p : Int)) = ((b * P.length + p : Nat) : Int) := by
              have := Nat.mul_le_mul (show b ≤ 4 by omega) hN.2
              rw [wrap_i64 _ (by omega) (by omega)]; simp
            have hsrc : srcIs P.length W p (b : Int) = (if (rd W (b * P.length + p)).length = 0 then (0, 3) else if (rd (rd W (b * P.length + p)) 0).mark = true then (0, 5) else ((b : Int), 0)) := by
              unfold srcIs
              rw [if_pos d1]
              rfl
            rw [hsrc, Int.toNat_natCast] at hc
            by_cases d2 : (rd W (b * P.length + p)).length = 0
            · rw [if_pos d2, if_neg (by decide)] at hc
              rw [step_no hc (by decide)]
              obtain ⟨ix, hix⟩ : ∃ ix, ix = b * P.length + p := ⟨_, rfl⟩
              rw [← hix] at hpl hwx d2 wa
              clear hc hsrc hix
              generalize b * P.length = pm at *
              have e5 : (List.map rItem (rd W ix)).length = (rd W ix).length := by simp
              rcases hq9 with ⟨h9, h9'⟩ | ⟨h9, h9'⟩
              · rw [← h9'] at *
                (refine fnI [ResultVar.cell 6 29, ResultVar.tmp 7] Tryz.func153 ?_; conv => whnf)
                repeat' ((with_reducible (first | refine sCall.of (q1 _) ?_|refine sCall.of (q2 _) ?_|refine sCall.of (qI _) ?_|refine sW.eq (wm) ?_|refine sW.eq (wa) ?_|refine st16 ?_|refine fG.split (fun _ => ?_) (fun _ => ?_)|refine fG.bool (fun _ => ?_) (fun _ => ?_)|refine gD 8 [(1, 11), (4, 11), (6, 11), (9, 11), (10, 11)] ?_|refine gD 14 [(1, 11), (4, 11), (7, 11), (1, 12)] ?_|refine gD 26 [(1, 8), (3, 8), (1, 11), (3, 11)] ?_|refine gD 27 [(1, 14)] ?_|refine gD 28 [(1, 9), (4, 9), (7, 9), (1, 10)] ?_)) <;> (try (conv => whnf)))
                all_goals rfl
              · rw [h9'] at q2 h9
                (refine fnI [ResultVar.cell 6 29, ResultVar.tmp 7] Tryz.func153 ?_; conv => whnf)
                repeat' ((with_reducible (first | refine sCall.of (q1 _) ?_|refine sCall.of (q2 _) ?_|refine sCall.of (qI _) ?_|refine sW.eq (wm) ?_|refine sW.eq (wa) ?_|refine st16 ?_|refine fG.split (fun _ => ?_) (fun _ => ?_)|refine fG.bool (fun _ => ?_) (fun _ => ?_)|refine gD 8 [(1, 11), (4, 11), (6, 11), (9, 11), (10, 11)] ?_|refine gD 14 [(1, 11), (4, 11), (7, 11), (1, 12)] ?_|refine gD 26 [(1, 8), (3, 8), (1, 11), (3, 11)] ?_|refine gD 27 [(1, 14)] ?_|refine gD 28 [(1, 9), (4, 9), (7, 9), (1, 10)] ?_)) <;> (try (conv => whnf)))
                all_goals rfl
            · rw [if_neg d2] at hc
              cases d3 : (rd (rd W (b * P.length + p)) 0).mark with
              | true =>
                rw [if_pos d3, if_neg (by decide)] at hc
                rw [step_no hc (by decide)]
                obtain ⟨ix, hix⟩ : ∃ ix, ix = b * P.length + p := ⟨_, rfl⟩
                rw [← hix] at hpl hwx d2 d3 wa
                clear hc hsrc hix
                generalize b * P.length = pm at *
                have e5 : (List.map rItem (rd W ix)).length = (rd W ix).length := by simp
                rcases hq9 with ⟨h9, h9'⟩ | ⟨h9, h9'⟩
                · rw [← h9'] at *
                  (refine fnI [ResultVar.cell 6 29, ResultVar.tmp 7] Tryz.func153 ?_; conv => whnf)
                  repeat' ((with_reducible (first | refine sCall.of (q1 _) ?_|refine sCall.of (q2 _) ?_|refine sCall.of (qI _) ?_|refine sW.eq (wm) ?_|refine sW.eq (wa) ?_|refine st16 ?_|refine fG.split (fun _ => ?_) (fun _ => ?_)|refine fG.bool (fun _ => ?_) (fun _ => ?_)|refine gD 8 [(1, 11), (4, 11), (6, 11), (9, 11), (10, 11)] ?_|refine gD 14 [(1, 11), (4, 11), (7, 11), (1, 12)] ?_|refine gD 26 [(1, 8), (3, 8), (1, 11), (3, 11)] ?_|refine gD 27 [(1, 14)] ?_|refine gD 28 [(1, 9), (4, 9), (7, 9), (1, 10)] ?_)) <;> (try (conv => whnf)))
                  all_goals rfl
                · rw [h9'] at q2 h9
                  (refine fnI [ResultVar.cell 6 29, ResultVar.tmp 7] Tryz.func153 ?_; conv => whnf)
                  repeat' ((with_reducible (first | refine sCall.of (q1 _) ?_|refine sCall.of (q2 _) ?_|refine sCall.of (qI _) ?_|refine sW.eq (wm) ?_|refine sW.eq (wa) ?_|refine st16 ?_|refine fG.split (fun _ => ?_) (fun _ => ?_)|refine fG.bool (fun _ => ?_) (fun _ => ?_)|refine gD 8 [(1, 11), (4, 11), (6, 11), (9, 11), (10, 11)] ?_|refine gD 14 [(1, 11), (4, 11), (7, 11), (1, 12)] ?_|refine gD 26 [(1, 8), (3, 8), (1, 11), (3, 11)] ?_|refine gD 27 [(1, 14)] ?_|refine gD 28 [(1, 9), (4, 9), (7, 9), (1, 10)] ?_)) <;> (try (conv => whnf)))
                  all_goals rfl
              | false =>
                rw [if_neg (show ¬ (rd (rd W (b * P.length + p)) 0).mark = true by rw [d3]; decide), if_pos rfl] at hc
                have hcc := (coming_comes (peer := peer) hs (by rw [hc])).2
                rw [hc, Int.toNat_natCast] at hcc
                dsimp only at hcc
                have q4 := q3 _ hcc.comes
                rw [step_yes hc]
                have hW : stepW P.length W p ⟨3, (b : Int), (rd (rd W (b * P.length + p)) 0).v⟩ = W.set (b * P.length + p) ((rd W (b * P.length + p)).drop 1) := by
                  unfold stepW
                  rw [if_neg (show ¬ (3 : Int) = 2 by decide), if_pos rfl]
                  rfl
                simp only [sysRes, stepS, hW, nSys, List.length_set]
                obtain ⟨ix, hix⟩ : ∃ ix, ix = b * P.length + p := ⟨_, rfl⟩
                rw [← hix] at hpl hwx d2 d3 wa q4 ⊢
                clear hc hsrc hix hcc hW q3
                generalize b * P.length = pm at *
                have e5 : (List.map rItem (rd W ix)).length = (rd W ix).length := by simp
                have hdl := dropLim (t := (rd W ix).length - 1) (n := 1) (m := 15 + 1) hwx (by decide)
                have et : List.take ((rd W ix).length - 1) (List.drop 1 (rd W ix)) = List.drop 1 (rd W ix) := List.take_of_length_le (by simp)
                rcases hq9 with ⟨h9, h9'⟩ | ⟨h9, h9'⟩
                · rw [← h9'] at *
                  (refine fnI [ResultVar.cell 6 29, ResultVar.tmp 7] Tryz.func153 ?_; conv => whnf)
                  repeat' ((with_reducible (first | refine sCall.of (q1 _) ?_|refine sCall.of (q2 _) ?_|refine sCall.of (qI _) ?_|refine sCall.of (q4 _) ?_|refine sW.eq (wm) ?_|refine sW.eq (wa) ?_|refine gHole ?_|refine sI.mk hdl ?_|refine st16 ?_|refine fG.split (fun _ => ?_) (fun _ => ?_)|refine fG.bool (fun _ => ?_) (fun _ => ?_)|refine gD 8 [(1, 11), (4, 11), (6, 11), (9, 11), (10, 11)] ?_|refine gD 14 [(1, 11), (4, 11), (7, 11), (1, 12)] ?_|refine gD 26 [(1, 8), (3, 8), (1, 11), (3, 11)] ?_|refine gD 27 [(1, 14)] ?_|refine gD 28 [(1, 9), (4, 9), (7, 9), (1, 10)] ?_)) <;> (try (conv => whnf)))
                  all_goals (try rw [et])
                  all_goals rfl
                · rw [h9'] at q2 h9
                  (refine fnI [ResultVar.cell 6 29, ResultVar.tmp 7] Tryz.func153 ?_; conv => whnf)
                  repeat' ((with_reducible (first | refine sCall.of (q1 _) ?_|refine sCall.of (q2 _) ?_|refine sCall.of (qI _) ?_|refine sCall.of (q4 _) ?_|refine sW.eq (wm) ?_|refine sW.eq (wa) ?_|refine gHole ?_|refine sI.mk hdl ?_|refine st16 ?_|refine fG.split (fun _ => ?_) (fun _ => ?_)|refine fG.bool (fun _ => ?_) (fun _ => ?_)|refine gD 8 [(1, 11), (4, 11), (6, 11), (9, 11), (10, 11)] ?_|refine gD 14 [(1, 11), (4, 11), (7, 11), (1, 12)] ?_|refine gD 26 [(1, 8), (3, 8), (1, 11), (3, 11)] ?_|refine gD 27 [(1, 14)] ?_|refine gD 28 [(1, 9), (4, 9), (7, 9), (1, 10)] ?_)) <;> (try (conv => whnf)))
                  all_goals (try rw [et])
                  all_goals rfl
          · rw [decide_eq_false d1] at qI
            rw [show srcIs P.length W p q = (0, 2) by unfold srcIs; rw [if_neg d1], if_neg (by decide)] at hc
            rw [step_no hc (by decide)]
            clear hc
            rcases hq9 with ⟨h9, h9'⟩ | ⟨h9, h9'⟩
            · rw [← h9'] at *
              (refine fnI [ResultVar.cell 6 29, ResultVar.tmp 7] Tryz.func153 ?_; conv => whnf)
              repeat' ((with_reducible (first | refine sCall.of (q1 _) ?_|refine sCall.of (q2 _) ?_|refine sCall.of (qI _) ?_|refine st16 ?_|refine fG.split (fun _ => ?_) (fun _ => ?_)|refine fG.bool (fun _ => ?_) (fun _ => ?_)|refine gD 8 [(1, 11), (4, 11), (6, 11), (9, 11), (10, 11)] ?_|refine gD 14 [(1, 11), (4, 11), (7, 11), (1, 12)] ?_|refine gD 26 [(1, 8), (3, 8), (1, 11), (3, 11)] ?_|refine gD 27 [(1, 14)] ?_|refine gD 28 [(1, 9), (4, 9), (7, 9), (1, 10)] ?_)) <;> (try (conv => whnf)))
              all_goals rfl
            · rw [h9'] at q2 h9
              (refine fnI [ResultVar.cell 6 29, ResultVar.tmp 7] Tryz.func153 ?_; conv => whnf)
              repeat' ((with_reducible (first | refine sCall.of (q1 _) ?_|refine sCall.of (q2 _) ?_|refine sCall.of (qI _) ?_|refine st16 ?_|refine fG.split (fun _ => ?_) (fun _ => ?_)|refine fG.bool (fun _ => ?_) (fun _ => ?_)|refine gD 8 [(1, 11), (4, 11), (6, 11), (9, 11), (10, 11)] ?_|refine gD 14 [(1, 11), (4, 11), (7, 11), (1, 12)] ?_|refine gD 26 [(1, 8), (3, 8), (1, 11), (3, 11)] ?_|refine gD 27 [(1, 14)] ?_|refine gD 28 [(1, 9), (4, 9), (7, 9), (1, 10)] ?_)) <;> (try (conv => whnf)))
              all_goals rfl
        · have hk2 := hk.1
          have hk3 := hk.2
          have hc := coming_else (W := W) (peer := peer) c1 c2 c3 hk2 hk3
          have q4 := q3 _ (comes_self (w := next (rd P p) (rd S p)) hk3)
          rw [step_yes hc]
          have hW : stepW P.length W p (next (rd P p) (rd S p)) = W := by
            unfold stepW
            rw [if_neg hk2, if_neg hk3]
          simp only [sysRes, stepS, hW, nSys, List.length_set]
          clear hW hc hk f4 q3
          generalize next (rd P p) (rd S p) = w at *
          (refine fnI [ResultVar.cell 6 29, ResultVar.tmp 7] Tryz.func153 ?_; conv => whnf)
          repeat' ((with_reducible (first | refine sCall.of (q1 _) ?_|refine sCall.of (q2 _) ?_|refine sCall.of (q4 _) ?_|refine gHole ?_|refine st16 ?_|refine fG.split (fun _ => ?_) (fun _ => ?_)|refine fG.bool (fun _ => ?_) (fun _ => ?_)|refine gD 8 [(1, 11), (4, 11), (6, 11), (9, 11), (10, 11)] ?_|refine gD 14 [(1, 11), (4, 11), (7, 11), (1, 12)] ?_|refine gD 26 [(1, 8), (3, 8), (1, 11), (3, 11)] ?_|refine gD 27 [(1, 14)] ?_|refine gD 28 [(1, 9), (4, 9), (7, 9), (1, 10)] ?_)) <;> (try (conv => whnf)))
          all_goals rfl
    · have hc : comingIs P S W H p peer = (⟨0, 0, 0⟩, 6) := by unfold comingIs; rw [if_pos c1, Int.toNat_natCast, if_neg c2]
      rw [step_no hc (by decide)]
      (refine fnI [ResultVar.cell 6 29, ResultVar.tmp 7] Tryz.func153 ?_; conv => whnf)
      repeat' ((with_reducible (first | refine sCall.of (q1 _) ?_|refine st16 ?_|refine fG.split (fun _ => ?_) (fun _ => ?_)|refine fG.bool (fun _ => ?_) (fun _ => ?_)|refine gD 8 [(1, 11), (4, 11), (6, 11), (9, 11), (10, 11)] ?_|refine gD 14 [(1, 11), (4, 11), (7, 11), (1, 12)] ?_|refine gD 26 [(1, 8), (3, 8), (1, 11), (3, 11)] ?_|refine gD 27 [(1, 14)] ?_|refine gD 28 [(1, 9), (4, 9), (7, 9), (1, 10)] ?_)) <;> (try (conv => whnf)))
      all_goals rfl
  · rw [decide_eq_false c1] at q1
    have hc : comingIs P S W H p peer = (⟨0, 0, 0⟩, 2) := by unfold comingIs; rw [if_neg c1]
    rw [step_no hc (by decide)]
    (refine fnI [ResultVar.cell 6 29, ResultVar.tmp 7] Tryz.func153 ?_; conv => whnf)
    repeat' ((with_reducible (first | refine sCall.of (q1 _) ?_|refine st16 ?_|refine fG.split (fun _ => ?_) (fun _ => ?_)|refine fG.bool (fun _ => ?_) (fun _ => ?_)|refine gD 8 [(1, 11), (4, 11), (6, 11), (9, 11), (10, 11)] ?_|refine gD 14 [(1, 11), (4, 11), (7, 11), (1, 12)] ?_|refine gD 26 [(1, 8), (3, 8), (1, 11), (3, 11)] ?_|refine gD 27 [(1, 14)] ?_|refine gD 28 [(1, 9), (4, 9), (7, 9), (1, 10)] ?_)) <;> (try (conv => whnf)))
    all_goals rfl

end Go.Proofs.YtipfcgbhaalcdaaGreat.Abs
